/-
  worldNone_card, part 5 of 5: merged by program from the texts that it needs.
-/
import Derived.Test.YtkheephfkbpchaaGreatDoorWnD
set_option linter.unusedSimpArgs false
set_option linter.unusedVariables false
set_option linter.unnecessarySimpa false
namespace Go.Proofs.YtkheephfkbpchaaGreatDoor
open Go.RowKit
def tb : Tab := [
 (3, ⟨.it .i64, 1, 8, [.int .i64 0]⟩),
 (25, ⟨.sr [0, 1] [3, 23], 2, 16, [.int .i64 0, .int .u64 0]⟩),
 (23, ⟨.it .u64, 1, 8, [.int .u64 0]⟩),
 (27, ⟨.sl 25, 1, 24, [.slice none 0 0]⟩),
 (294, ⟨.sr [0, 2, 3, 4, 5] [25, 23, 23, 23, 4], 6, 48, [.int .i64 0, .int .u64 0, .int .u64 0, .int .u64 0, .int .u64 0, .bool false]⟩),
 (38, ⟨.sl 3, 1, 24, [.slice none 0 0]⟩),
 (288, ⟨.sr [0, 2, 3, 4, 5] [25, 23, 27, 27, 48], 6, 96, [.int .i64 0, .int .u64 0, .int .u64 0, .slice none 0 0, .slice none 0 0, .slice none 0 0]⟩),
 (59, ⟨.sr [0, 1, 3, 6, 7, 8, 9, 10] [3, 25, 47, 23, 22, 23, 48, 4], 11, 120, [.int .i64 0, .int .i64 0, .int .u64 0, .int .u64 0, .int .i64 0, .int .u64 0, .int .u64 0, .slice none 0 0, .int .u64 0, .slice none 0 0, .bool false]⟩),
 (503, ⟨.sr [0, 11] [59, 3], 12, 128, [.int .i64 0, .int .i64 0, .int .u64 0, .int .u64 0, .int .i64 0, .int .u64 0, .int .u64 0, .slice none 0 0, .int .u64 0, .slice none 0 0, .bool false, .int .i64 0]⟩),
 (5, ⟨.it .u8, 1, 1, [.int .u8 0]⟩),
 (22, ⟨.sl 5, 1, 24, [.slice none 0 0]⟩),
 (50, ⟨.sr [0, 3, 4] [47, 27, 48], 5, 72, [.int .u64 0, .int .i64 0, .int .u64 0, .slice none 0 0, .slice none 0 0]⟩),
 (62, ⟨.sr [0, 2, 3, 10, 11, 12, 13, 14, 25, 26, 27, 32, 33, 40] [25, 3, 57, 23, 23, 4, 27, 59, 60, 4, 50, 60, 57, 59], 51, 680, [.int .i64 0, .int .u64 0, .int .i64 0, .int .u64 0, .int .i64 0, .int .u64 0, .slice none 0 0, .slice none 0 0, .slice none 0 0, .slice none 0 0, .int .u64 0, .int .u64 0, .bool false, .slice none 0 0, .int .i64 0, .int .i64 0, .int .u64 0, .int .u64 0, .int .i64 0, .int .u64 0, .int .u64 0, .slice none 0 0, .int .u64 0, .slice none 0 0, .bool false, .slice none 0 0, .bool false, .int .u64 0, .int .i64 0, .int .u64 0, .slice none 0 0, .slice none 0 0, .slice none 0 0, .int .u64 0, .int .i64 0, .int .u64 0, .slice none 0 0, .slice none 0 0, .slice none 0 0, .slice none 0 0, .int .i64 0, .int .i64 0, .int .u64 0, .int .u64 0, .int .i64 0, .int .u64 0, .int .u64 0, .slice none 0 0, .int .u64 0, .slice none 0 0, .bool false]⟩),
 (48, ⟨.sl 23, 1, 24, [.slice none 0 0]⟩),
 (42, ⟨.sl 294, 1, 24, [.slice none 0 0]⟩),
 (31, ⟨.sr [0, 1, 3, 4, 5, 6] [3, 25, 3, 26, 22, 29], 10, 128, [.int .i64 0, .int .i64 0, .int .u64 0, .int .i64 0, .slice none 0 0, .slice none 0 0, .int .i64 0, .int .u64 0, .int .u64 0, .slice none 0 0]⟩),
 (44, ⟨.sr [0] [42], 1, 24, [.slice none 0 0]⟩),
 (29, ⟨.sr [0, 2, 3] [25, 23, 27], 4, 48, [.int .i64 0, .int .u64 0, .int .u64 0, .slice none 0 0]⟩),
 (52, ⟨.sr [0, 2, 3, 4, 5, 6, 7, 8, 9] [25, 23, 27, 44, 27, 45, 4, 4, 50], 14, 200, [.int .i64 0, .int .u64 0, .int .u64 0, .slice none 0 0, .slice none 0 0, .slice none 0 0, .slice none 0 0, .bool false, .bool false, .int .u64 0, .int .i64 0, .int .u64 0, .slice none 0 0, .slice none 0 0]⟩),
 (501, ⟨.sl 503, 1, 24, [.slice none 0 0]⟩),
 (491, ⟨.sr [0, 1] [23, 22], 2, 32, [.int .u64 0, .slice none 0 0]⟩),
 (410, ⟨.sr [0, 1, 2, 3] [3, 23, 23, 23], 4, 32, [.int .i64 0, .int .u64 0, .int .u64 0, .int .u64 0]⟩),
 (199, ⟨.sr [0, 51] [62, 109], 53, 728, [.int .i64 0, .int .u64 0, .int .i64 0, .int .u64 0, .int .i64 0, .int .u64 0, .slice none 0 0, .slice none 0 0, .slice none 0 0, .slice none 0 0, .int .u64 0, .int .u64 0, .bool false, .slice none 0 0, .int .i64 0, .int .i64 0, .int .u64 0, .int .u64 0, .int .i64 0, .int .u64 0, .int .u64 0, .slice none 0 0, .int .u64 0, .slice none 0 0, .bool false, .slice none 0 0, .bool false, .int .u64 0, .int .i64 0, .int .u64 0, .slice none 0 0, .slice none 0 0, .slice none 0 0, .int .u64 0, .int .i64 0, .int .u64 0, .slice none 0 0, .slice none 0 0, .slice none 0 0, .slice none 0 0, .int .i64 0, .int .i64 0, .int .u64 0, .int .u64 0, .int .i64 0, .int .u64 0, .int .u64 0, .slice none 0 0, .int .u64 0, .slice none 0 0, .bool false, .slice none 0 0, .slice none 0 0]⟩),
 (127, ⟨.sr [0, 1, 2, 3, 4, 5, 6, 7, 8, 9] [3, 3, 3, 23, 23, 23, 23, 23, 23, 22], 10, 96, [.int .i64 0, .int .i64 0, .int .i64 0, .int .u64 0, .int .u64 0, .int .u64 0, .int .u64 0, .int .u64 0, .int .u64 0, .slice none 0 0]⟩),
 (37, ⟨.pl, 1, 8, [.pointer none]⟩),
 (57, ⟨.sr [0, 5, 6] [50, 55, 48], 7, 120, [.int .u64 0, .int .i64 0, .int .u64 0, .slice none 0 0, .slice none 0 0, .slice none 0 0, .slice none 0 0]⟩),
 (309, ⟨.ar 2 3, 2, 16, [.int .i64 0, .int .i64 0]⟩),
 (69, ⟨.sr [0, 1] [66, 67], 2, 48, [.slice none 0 0, .slice none 0 0]⟩),
 (120, ⟨.sr [0, 1, 3, 4, 5, 6] [3, 25, 23, 23, 27, 50], 11, 136, [.int .i64 0, .int .i64 0, .int .u64 0, .int .u64 0, .int .u64 0, .slice none 0 0, .int .u64 0, .int .i64 0, .int .u64 0, .slice none 0 0, .slice none 0 0]⟩),
 (45, ⟨.sl 288, 1, 24, [.slice none 0 0]⟩),
 (106, ⟨.sr [0, 1, 3, 5, 6, 7, 12] [3, 25, 25, 23, 22, 50, 27], 13, 168, [.int .i64 0, .int .i64 0, .int .u64 0, .int .i64 0, .int .u64 0, .int .u64 0, .slice none 0 0, .int .u64 0, .int .i64 0, .int .u64 0, .slice none 0 0, .slice none 0 0, .slice none 0 0]⟩),
 (213, ⟨.sr [0, 1] [23, 211], 2, 32, [.int .u64 0, .slice none 0 0]⟩),
 (54, ⟨.sr [0, 1] [38, 52], 15, 224, [.slice none 0 0, .int .i64 0, .int .u64 0, .int .u64 0, .slice none 0 0, .slice none 0 0, .slice none 0 0, .slice none 0 0, .bool false, .bool false, .int .u64 0, .int .i64 0, .int .u64 0, .slice none 0 0, .slice none 0 0]⟩),
 (64, ⟨.sr [0, 2, 3, 4, 5, 6, 7, 8, 9, 24, 75, 76] [25, 38, 23, 38, 39, 40, 41, 4, 54, 62, 4, 25], 78, 1048, [.int .i64 0, .int .u64 0, .slice none 0 0, .int .u64 0, .slice none 0 0, .slice none 0 0, .pointer none, .pointer none, .bool false, .slice none 0 0, .int .i64 0, .int .u64 0, .int .u64 0, .slice none 0 0, .slice none 0 0, .slice none 0 0, .slice none 0 0, .bool false, .bool false, .int .u64 0, .int .i64 0, .int .u64 0, .slice none 0 0, .slice none 0 0, .int .i64 0, .int .u64 0, .int .i64 0, .int .u64 0, .int .i64 0, .int .u64 0, .slice none 0 0, .slice none 0 0, .slice none 0 0, .slice none 0 0, .int .u64 0, .int .u64 0, .bool false, .slice none 0 0, .int .i64 0, .int .i64 0, .int .u64 0, .int .u64 0, .int .i64 0, .int .u64 0, .int .u64 0, .slice none 0 0, .int .u64 0, .slice none 0 0, .bool false, .slice none 0 0, .bool false, .int .u64 0, .int .i64 0, .int .u64 0, .slice none 0 0, .slice none 0 0, .slice none 0 0, .int .u64 0, .int .i64 0, .int .u64 0, .slice none 0 0, .slice none 0 0, .slice none 0 0, .slice none 0 0, .int .i64 0, .int .i64 0, .int .u64 0, .int .u64 0, .int .i64 0, .int .u64 0, .int .u64 0, .slice none 0 0, .int .u64 0, .slice none 0 0, .bool false, .bool false, .int .i64 0, .int .u64 0]⟩),
 (147, ⟨.sr [0, 1, 2] [144, 138, 145], 3, 72, [.slice none 0 0, .slice none 0 0, .slice none 0 0]⟩),
 (457, ⟨.sl 491, 1, 24, [.slice none 0 0]⟩),
 (122, ⟨.pl, 1, 8, [.pointer none]⟩),
 (459, ⟨.sr [0] [457], 1, 24, [.slice none 0 0]⟩),
 (363, ⟨.pl, 1, 8, [.pointer none]⟩),
 (82, ⟨.pl, 1, 8, [.pointer none]⟩),
 (227, ⟨.pl, 1, 8, [.pointer none]⟩),
 (4, ⟨.pl, 1, 1, [.bool false]⟩),
 (47, ⟨.sr [0, 1] [23, 25], 3, 24, [.int .u64 0, .int .i64 0, .int .u64 0]⟩),
 (60, ⟨.sl 59, 1, 24, [.slice none 0 0]⟩),
 (117, ⟨.sr [0, 1] [37, 69], 3, 56, [.pointer none, .slice none 0 0, .slice none 0 0]⟩),
 (40, ⟨.pl, 1, 8, [.pointer none]⟩),
 (141, ⟨.sr [0, 1, 2] [138, 139, 38], 3, 72, [.slice none 0 0, .slice none 0 0, .slice none 0 0]⟩),
 (211, ⟨.sl 22, 1, 24, [.slice none 0 0]⟩),
 (67, ⟨.sl 106, 1, 24, [.slice none 0 0]⟩),
 (109, ⟨.sr [0, 1] [107, 67], 2, 48, [.slice none 0 0, .slice none 0 0]⟩),
 (26, ⟨.sl 410, 1, 24, [.slice none 0 0]⟩),
 (217, ⟨.sr [0, 2, 3, 5, 6, 7, 8, 9, 10, 11] [213, 215, 25, 3, 23, 23, 23, 4, 23, 23], 12, 112, [.int .u64 0, .slice none 0 0, .int .u64 0, .int .i64 0, .int .u64 0, .int .i64 0, .int .u64 0, .int .u64 0, .int .u64 0, .bool false, .int .u64 0, .int .u64 0]⟩),
 (85, ⟨.sr [0, 1, 2, 3, 4, 5, 6] [3, 3, 3, 3, 3, 23, 22], 7, 72, [.int .i64 0, .int .i64 0, .int .i64 0, .int .i64 0, .int .i64 0, .int .u64 0, .slice none 0 0]⟩),
 (94, ⟨.sr [0, 1, 2] [3, 92, 38], 3, 56, [.int .i64 0, .slice none 0 0, .slice none 0 0]⟩),
 (382, ⟨.sl 29, 1, 24, [.slice none 0 0]⟩),
 (104, ⟨.sr [0, 1] [3, 22], 2, 32, [.int .i64 0, .slice none 0 0]⟩),
 (134, ⟨.sr [0, 1] [131, 132], 2, 48, [.slice none 0 0, .slice none 0 0]⟩),
 (552, ⟨.sr [0, 14] [52, 429], 28, 408, [.int .i64 0, .int .u64 0, .int .u64 0, .slice none 0 0, .slice none 0 0, .slice none 0 0, .slice none 0 0, .bool false, .bool false, .int .u64 0, .int .i64 0, .int .u64 0, .slice none 0 0, .slice none 0 0, .slice none 0 0, .bool false, .int .i64 0, .int .u64 0, .int .u64 0, .slice none 0 0, .slice none 0 0, .slice none 0 0, .bool false, .int .u64 0, .int .i64 0, .int .u64 0, .slice none 0 0, .slice none 0 0]⟩),
 (385, ⟨.sr [0, 2, 3, 4, 5] [25, 38, 3, 382, 383], 6, 80, [.int .i64 0, .int .u64 0, .slice none 0 0, .int .i64 0, .slice none 0 0, .map none]⟩),
 (267, ⟨.sr [0, 1] [3, 31], 11, 136, [.int .i64 0, .int .i64 0, .int .i64 0, .int .u64 0, .int .i64 0, .slice none 0 0, .slice none 0 0, .int .i64 0, .int .u64 0, .int .u64 0, .slice none 0 0]⟩),
 (55, ⟨.sl 459, 1, 24, [.slice none 0 0]⟩),
 (455, ⟨.sr [0] [57], 7, 120, [.int .u64 0, .int .i64 0, .int .u64 0, .slice none 0 0, .slice none 0 0, .slice none 0 0, .slice none 0 0]⟩),
 (350, ⟨.sr [0, 2, 3] [25, 23, 22], 4, 48, [.int .i64 0, .int .u64 0, .int .u64 0, .slice none 0 0]⟩),
 (196, ⟨.pl, 1, 8, [.pointer none]⟩),
 (470, ⟨.sr [0, 1] [22, 4], 2, 32, [.slice none 0 0, .bool false]⟩),
 (206, ⟨.sr [0, 2] [25, 59], 13, 136, [.int .i64 0, .int .u64 0, .int .i64 0, .int .i64 0, .int .u64 0, .int .u64 0, .int .i64 0, .int .u64 0, .int .u64 0, .slice none 0 0, .int .u64 0, .slice none 0 0, .bool false]⟩),
 (66, ⟨.sl 104, 1, 24, [.slice none 0 0]⟩),
 (229, ⟨.pl, 1, 8, [.pointer none]⟩),
 (159, ⟨.sr [0, 3, 4, 5, 6, 7] [94, 90, 38, 157, 48, 67], 8, 160, [.int .i64 0, .slice none 0 0, .slice none 0 0, .pointer none, .slice none 0 0, .slice none 0 0, .slice none 0 0, .slice none 0 0]⟩),
 (92, ⟨.sl 309, 1, 24, [.slice none 0 0]⟩),
 (114, ⟨.pl, 1, 8, [.pointer none]⟩),
 (285, ⟨.sr [0, 15] [54, 150], 16, 248, [.slice none 0 0, .int .i64 0, .int .u64 0, .int .u64 0, .slice none 0 0, .slice none 0 0, .slice none 0 0, .slice none 0 0, .bool false, .bool false, .int .u64 0, .int .i64 0, .int .u64 0, .slice none 0 0, .slice none 0 0, .slice none 0 0]⟩),
 (144, ⟨.sl 267, 1, 24, [.slice none 0 0]⟩),
 (224, ⟨.sr [0, 1, 2, 4, 5] [23, 4, 213, 23, 23], 6, 64, [.int .u64 0, .bool false, .int .u64 0, .slice none 0 0, .int .u64 0, .int .u64 0]⟩),
 (443, ⟨.sr [0, 2] [25, 120], 13, 152, [.int .i64 0, .int .u64 0, .int .i64 0, .int .i64 0, .int .u64 0, .int .u64 0, .int .u64 0, .slice none 0 0, .int .u64 0, .int .i64 0, .int .u64 0, .slice none 0 0, .slice none 0 0]⟩),
 (138, ⟨.sl 31, 1, 24, [.slice none 0 0]⟩),
 (273, ⟨.sr [0, 1, 3] [3, 25, 27], 4, 48, [.int .i64 0, .int .i64 0, .int .u64 0, .slice none 0 0]⟩),
 (324, ⟨.sr [0] [4], 1, 1, [.bool false]⟩),
 (468, ⟨.sl 470, 1, 24, [.slice none 0 0]⟩),
 (41, ⟨.pl, 1, 8, [.pointer none]⟩),
 (567, ⟨.it .u64, 1, 8, [.int .u64 0]⟩),
 (90, ⟨.pl, 1, 8, [.pointer none]⟩),
 (189, ⟨.pl, 1, 8, [.nilFunc]⟩),
 (329, ⟨.it .u64, 1, 8, [.int .u64 0]⟩),
 (107, ⟨.sl 206, 1, 24, [.slice none 0 0]⟩),
 (215, ⟨.sr [0] [23], 1, 8, [.int .u64 0]⟩),
 (415, ⟨.sr [0] [363], 1, 8, [.pointer none]⟩),
 (131, ⟨.sl 127, 1, 24, [.slice none 0 0]⟩),
 (429, ⟨.sr [0, 1, 2, 8, 9] [298, 4, 288, 4, 50], 14, 208, [.slice none 0 0, .bool false, .int .i64 0, .int .u64 0, .int .u64 0, .slice none 0 0, .slice none 0 0, .slice none 0 0, .bool false, .int .u64 0, .int .i64 0, .int .u64 0, .slice none 0 0, .slice none 0 0]⟩),
 (279, ⟨.sr [0, 1] [3, 22], 2, 32, [.int .i64 0, .slice none 0 0]⟩),
 (508, ⟨.pl, 1, 8, [.nilFunc]⟩),
 (642, ⟨.pl, 1, 8, [.nilFunc]⟩),
 (374, ⟨.sr [0, 1] [22, 4], 2, 32, [.slice none 0 0, .bool false]⟩),
 (439, ⟨.sr [0, 6] [294, 3], 7, 56, [.int .i64 0, .int .u64 0, .int .u64 0, .int .u64 0, .int .u64 0, .bool false, .int .i64 0]⟩),
 (9, ⟨.st, 1, 16, [.string .empty]⟩),
 (33, ⟨.sr [0, 1, 2, 3, 4, 14] [3, 3, 22, 22, 31, 25], 16, 208, [.int .i64 0, .int .i64 0, .slice none 0 0, .slice none 0 0, .int .i64 0, .int .i64 0, .int .u64 0, .int .i64 0, .slice none 0 0, .slice none 0 0, .int .i64 0, .int .u64 0, .int .u64 0, .slice none 0 0, .int .i64 0, .int .u64 0]⟩),
 (167, ⟨.sr [0, 1, 2, 3, 4, 5, 6, 7, 8, 9] [160, 161, 161, 161, 162, 163, 163, 160, 164, 165], 10, 80, List.replicate 10 (.nilFunc)⟩),
 (219, ⟨.mp 3 218, 1, 8, [.map none]⟩),
 (280, ⟨.pl, 1, 8, [.pointer none]⟩),
 (322, ⟨.sr [0, 1, 2, 3] [3, 92, 319, 320], 4, 48, [.int .i64 0, .slice none 0 0, .map none, .map none]⟩),
 (222, ⟨.sr [0, 2, 3] [25, 219, 220], 4, 32, [.int .i64 0, .int .u64 0, .map none, .map none]⟩),
 (145, ⟨.sl 273, 1, 24, [.slice none 0 0]⟩),
 (371, ⟨.it .u32, 1, 4, [.int .u32 0]⟩),
 (320, ⟨.mp 309 468, 1, 8, [.map none]⟩),
 (174, ⟨.pl, 1, 8, [.pointer none]⟩),
 (183, ⟨.sr [0, 1] [27, 27], 2, 48, [.slice none 0 0, .slice none 0 0]⟩),
 (241, ⟨.sr [0, 1, 3] [3, 25, 22], 4, 48, [.int .i64 0, .int .i64 0, .int .u64 0, .slice none 0 0]⟩),
 (150, ⟨.sl 279, 1, 24, [.slice none 0 0]⟩),
 (263, ⟨.sr [0, 2] [25, 22], 3, 40, [.int .i64 0, .int .u64 0, .slice none 0 0]⟩),
 (298, ⟨.sl 443, 1, 24, [.slice none 0 0]⟩),
 (383, ⟨.mp 3 25, 1, 8, [.map none]⟩),
 (448, ⟨.sr [0] [22], 1, 24, [.slice none 0 0]⟩),
 (39, ⟨.sl 122, 1, 24, [.slice none 0 0]⟩),
 (376, ⟨.sr [0] [374], 2, 32, [.slice none 0 0, .bool false]⟩),
 (549, ⟨.pl, 1, 8, [.pointer none]⟩),
 (450, ⟨.sr [0] [448], 1, 24, [.slice none 0 0]⟩),
 (582, ⟨.mp 25 3, 1, 8, [.map none]⟩),
 (625, ⟨.pl, 1, 8, [.nilFunc]⟩),
 (65, ⟨.sl 37, 1, 24, [.slice none 0 0]⟩),
 (79, ⟨.sl 69, 1, 24, [.slice none 0 0]⟩),
 (157, ⟨.sl 174, 1, 24, [.slice none 0 0]⟩),
 (352, ⟨.sl 350, 1, 24, [.slice none 0 0]⟩),
 (510, ⟨.sl 27, 1, 24, [.slice none 0 0]⟩),
 (319, ⟨.mp 309 324, 1, 8, [.map none]⟩),
 (527, ⟨.sr [0, 1] [3, 26], 2, 32, [.int .i64 0, .slice none 0 0]⟩),
 (545, ⟨.sr [0, 1, 2] [23, 23, 215], 3, 24, [.int .u64 0, .int .u64 0, .int .u64 0]⟩),
 (1, ⟨.pl, 1, 8, [.nilFunc]⟩),
 (538, ⟨.sl 1, 1, 24, [.slice none 0 0]⟩),
 (35, ⟨.sl 33, 1, 24, [.slice none 0 0]⟩),
 (633, ⟨.sr [0, 6] [288, 3], 7, 104, [.int .i64 0, .int .u64 0, .int .u64 0, .slice none 0 0, .slice none 0 0, .slice none 0 0, .int .i64 0]⟩),
 (315, ⟨.sl 85, 1, 24, [.slice none 0 0]⟩),
 (132, ⟨.sl 241, 1, 24, [.slice none 0 0]⟩),
 (139, ⟨.sl 263, 1, 24, [.slice none 0 0]⟩),
 (585, ⟨.mp 3 26, 1, 8, [.map none]⟩),
 (176, ⟨.sr [0, 2] [25, 37], 3, 24, [.int .i64 0, .int .u64 0, .pointer none]⟩),
 (426, ⟨.pl, 1, 8, [.nilFunc]⟩),
 (640, ⟨.sl 42, 1, 24, [.slice none 0 0]⟩),
 (631, ⟨.mp 25 23, 1, 8, [.map none]⟩),
 (98, ⟨.sl 183, 1, 24, [.slice none 0 0]⟩),
 (340, ⟨.sl 38, 1, 24, [.slice none 0 0]⟩),
 (218, ⟨.pl, 1, 8, [.pointer none]⟩),
 (591, ⟨.ar 5 29, 20, 240, [.int .i64 0, .int .u64 0, .int .u64 0, .slice none 0 0, .int .i64 0, .int .u64 0, .int .u64 0, .slice none 0 0, .int .i64 0, .int .u64 0, .int .u64 0, .slice none 0 0, .int .i64 0, .int .u64 0, .int .u64 0, .slice none 0 0, .int .i64 0, .int .u64 0, .int .u64 0, .slice none 0 0]⟩),
 (249, ⟨.pl, 1, 8, [.pointer none]⟩),
 (412, ⟨.ar 4 411, 4, 32, [.nilFunc, .nilFunc, .nilFunc, .nilFunc]⟩),
 (220, ⟨.mp 3 543, 1, 8, [.map none]⟩),
 (523, ⟨.sl 527, 1, 24, [.slice none 0 0]⟩),
 (580, ⟨.ar 3 36, 3, 24, [.nilFunc, .nilFunc, .nilFunc]⟩),
 (411, ⟨.pl, 1, 8, [.nilFunc]⟩),
 (36, ⟨.pl, 1, 8, [.nilFunc]⟩),
 (165, ⟨.pl, 1, 8, [.nilFunc]⟩),
 (169, ⟨.pl, 1, 8, [.nilFunc]⟩),
 (184, ⟨.pl, 1, 8, [.nilFunc]⟩),
 (516, ⟨.ar 16 371, 16, 64, List.replicate 16 (.int .u32 0)⟩),
 (517, ⟨.ar 8 5, 8, 8, [.int .u8 0, .int .u8 0, .int .u8 0, .int .u8 0, .int .u8 0, .int .u8 0, .int .u8 0, .int .u8 0]⟩),
 (70, ⟨.it .i64, 1, 8, [.int .i64 0]⟩),
 (161, ⟨.pl, 1, 8, [.nilFunc]⟩),
 (471, ⟨.pl, 1, 8, [.nilFunc]⟩),
 (494, ⟨.pl, 1, 8, [.nilFunc]⟩),
 (588, ⟨.pl, 1, 8, [.nilFunc]⟩),
 (557, ⟨.pl, 1, 8, [.nilFunc]⟩),
 (160, ⟨.pl, 1, 8, [.nilFunc]⟩),
 (163, ⟨.pl, 1, 8, [.nilFunc]⟩),
 (230, ⟨.ar 3 229, 3, 24, [.pointer none, .pointer none, .pointer none]⟩),
 (233, ⟨.ar 6 232, 6, 48, [.pointer none, .pointer none, .pointer none, .pointer none, .pointer none, .pointer none]⟩),
 (247, ⟨.pl, 1, 8, [.nilFunc]⟩),
 (317, ⟨.ar 2 309, 4, 32, [.int .i64 0, .int .i64 0, .int .i64 0, .int .i64 0]⟩),
 (305, ⟨.pl, 1, 8, [.nilFunc]⟩),
 (380, ⟨.ar 6 23, 6, 48, [.int .u64 0, .int .u64 0, .int .u64 0, .int .u64 0, .int .u64 0, .int .u64 0]⟩),
 (558, ⟨.ar 2 27, 2, 48, [.slice none 0 0, .slice none 0 0]⟩),
 (201, ⟨.pl, 1, 8, [.nilFunc]⟩),
 (599, ⟨.pl, 1, 8, [.nilFunc]⟩),
 (232, ⟨.pl, 1, 8, [.pointer none]⟩),
 (162, ⟨.pl, 1, 8, [.nilFunc]⟩),
 (164, ⟨.pl, 1, 8, [.nilFunc]⟩),
 (123, ⟨.pl, 1, 8, [.nilFunc]⟩),
 (505, ⟨.pl, 1, 8, [.nilFunc]⟩),
 (521, ⟨.pl, 1, 8, [.nilFunc]⟩),
 (525, ⟨.pl, 1, 8, [.nilFunc]⟩),
 (314, ⟨.pl, 1, 8, [.nilFunc]⟩)]
theorem tk : tabB Tryz.prog tb = true := by kernel_rfl
theorem mo : Tryz.prog.follows .mixedOrders = true := by kernel_rfl
end Go.Proofs.YtkheephfkbpchaaGreatDoor
namespace Go.Proofs.YtkheephfkbpchaaGreatDoor
open Go.RowKit
open Go.Maps Go.WideMaps
theorem Tryz.laidOut : laidOutB Tryz.prog = true := by kernel_rfl
theorem keyRowQ : (309 : TypeId) < Tryz.prog.types.size := of_decide_eq_true (by kernel_rfl)
theorem keyWideQ : (match Tryz.prog.underlying 309 with | some (.array _ _) | some (.struct _) => true | _ => false) = true := by kernel_rfl
set_option maxRecDepth 100000 in
theorem lawQ : Keyed Tryz.prog 309 := Keyed.of_law (deep_law_laid Tryz.laidOut (m := 2) (by omega) keyRowQ (by kernel_rfl) keyWideQ)
theorem keyRowP : (25 : TypeId) < Tryz.prog.types.size := of_decide_eq_true (by kernel_rfl)
theorem keyWideP : (match Tryz.prog.underlying 25 with | some (.array _ _) | some (.struct _) => true | _ => false) = true := by kernel_rfl
set_option maxRecDepth 100000 in
theorem lawP : Keyed Tryz.prog 25 := Keyed.of_law (deep_law_laid Tryz.laidOut (m := 2) (by omega) keyRowP (by kernel_rfl) keyWideP)
theorem keysL : LawsOk Tryz.prog [3, 309, 25] := by
 intro K hK
 rcases List.mem_cons.1 hK with rfl | hK
 ·exact int_keyed (q := .i64) (by kernel_rfl)
 rcases List.mem_cons.1 hK with rfl | hK
 ·exact lawQ
 rcases List.mem_cons.1 hK with rfl | hK
 ·exact lawP
 cases hK
end Go.Proofs.YtkheephfkbpchaaGreatDoor
namespace Go.Proofs.YtkheephfkbpchaaGreatDoor
open Go.RowKit
theorem all0 : ∀ e ∈ ([] : List MemoE), e.Ok Tryz.prog := by
 intro e he
 simp only [List.mem_cons, List.not_mem_nil, or_false] at he
theorem meOk0 : me0.Ok Tryz.prog := MemoE.of tk keysL mo (memoX_ok all0 noX_ok) (fuel := 100000) (d := 60) (by kernel_rfl)
end Go.Proofs.YtkheephfkbpchaaGreatDoor
namespace Go.Proofs.YtkheephfkbpchaaGreatDoor
open Go.RowKit
theorem all1 : ∀ e ∈ ([me0] : List MemoE), e.Ok Tryz.prog := by
 intro e he
 simp only [List.mem_cons, List.not_mem_nil, or_false] at he
 subst he; exact meOk0
theorem meOk1 : me1.Ok Tryz.prog := MemoE.of tk keysL mo (memoX_ok all1 noX_ok) (fuel := 100000) (d := 60) (by kernel_rfl)
end Go.Proofs.YtkheephfkbpchaaGreatDoor
namespace Go.Proofs.YtkheephfkbpchaaGreatDoor
open Go.RowKit
theorem all2 : ∀ e ∈ ([me0, me1] : List MemoE), e.Ok Tryz.prog := by
 intro e he
 simp only [List.mem_cons, List.not_mem_nil, or_false] at he
 rcases he with rfl | rfl
 ·exact meOk0
 ·exact meOk1
theorem meOk2 : me2.Ok Tryz.prog := MemoE.of tk keysL mo (memoX_ok all2 noX_ok) (fuel := 100000) (d := 60) (by kernel_rfl)
end Go.Proofs.YtkheephfkbpchaaGreatDoor
namespace Go.Proofs.YtkheephfkbpchaaGreatDoor
open Go.RowKit
theorem all3 : ∀ e ∈ ([me0, me1, me2] : List MemoE), e.Ok Tryz.prog := by
 intro e he
 simp only [List.mem_cons, List.not_mem_nil, or_false] at he
 rcases he with rfl | rfl | rfl
 ·exact meOk0
 ·exact meOk1
 ·exact meOk2
theorem meOk3 : me3.Ok Tryz.prog := MemoE.of tk keysL mo (memoX_ok all3 noX_ok) (fuel := 100000) (d := 60) (by kernel_rfl)
end Go.Proofs.YtkheephfkbpchaaGreatDoor
namespace Go.Proofs.YtkheephfkbpchaaGreatDoor
open Go.RowKit
theorem all4 : ∀ e ∈ ([me0, me1, me2, me3] : List MemoE), e.Ok Tryz.prog := by
 intro e he
 simp only [List.mem_cons, List.not_mem_nil, or_false] at he
 rcases he with rfl | rfl | rfl | rfl
 ·exact meOk0
 ·exact meOk1
 ·exact meOk2
 ·exact meOk3
theorem meOk4 : me4.Ok Tryz.prog := MemoE.of tk keysL mo (memoX_ok all4 noX_ok) (fuel := 100000) (d := 60) (by kernel_rfl)
end Go.Proofs.YtkheephfkbpchaaGreatDoor
namespace Go.Proofs.YtkheephfkbpchaaGreatDoor
open Go.RowKit
theorem all5 : ∀ e ∈ ([me0, me1, me2, me3, me4] : List MemoE), e.Ok Tryz.prog := by
 intro e he
 simp only [List.mem_cons, List.not_mem_nil, or_false] at he
 rcases he with rfl | rfl | rfl | rfl | rfl
 ·exact meOk0
 ·exact meOk1
 ·exact meOk2
 ·exact meOk3
 ·exact meOk4
theorem meOk5 : me5.Ok Tryz.prog := MemoE.of tk keysL mo (memoX_ok all5 noX_ok) (fuel := 100000) (d := 60) (by kernel_rfl)
end Go.Proofs.YtkheephfkbpchaaGreatDoor
namespace Go.Proofs.YtkheephfkbpchaaGreatDoor
open Go.RowKit
theorem all6 : ∀ e ∈ ([me0, me1, me2, me3, me4, me5] : List MemoE), e.Ok Tryz.prog := by
 intro e he
 simp only [List.mem_cons, List.not_mem_nil, or_false] at he
 rcases he with rfl | rfl | rfl | rfl | rfl | rfl
 ·exact meOk0
 ·exact meOk1
 ·exact meOk2
 ·exact meOk3
 ·exact meOk4
 ·exact meOk5
theorem meOk6 : me6.Ok Tryz.prog := MemoE.of tk keysL mo (memoX_ok all6 noX_ok) (fuel := 100000) (d := 60) (by kernel_rfl)
end Go.Proofs.YtkheephfkbpchaaGreatDoor
namespace Go.Proofs.YtkheephfkbpchaaGreatDoor
open Go.RowKit
theorem all7 : ∀ e ∈ ([me0, me1, me2, me3, me4, me5, me6] : List MemoE), e.Ok Tryz.prog := by
 intro e he
 simp only [List.mem_cons, List.not_mem_nil, or_false] at he
 rcases he with rfl | rfl | rfl | rfl | rfl | rfl | rfl
 ·exact meOk0
 ·exact meOk1
 ·exact meOk2
 ·exact meOk3
 ·exact meOk4
 ·exact meOk5
 ·exact meOk6
theorem meOk7 : me7.Ok Tryz.prog := MemoE.of tk keysL mo (memoX_ok all7 noX_ok) (fuel := 100000) (d := 60) (by kernel_rfl)
end Go.Proofs.YtkheephfkbpchaaGreatDoor
namespace Go.Proofs.YtkheephfkbpchaaGreatDoor
open Go.RowKit
theorem all8 : ∀ e ∈ ([me0, me1, me2, me3, me4, me5, me6, me7] : List MemoE), e.Ok Tryz.prog := by
 intro e he
 simp only [List.mem_cons, List.not_mem_nil, or_false] at he
 rcases he with rfl | rfl | rfl | rfl | rfl | rfl | rfl | rfl
 ·exact meOk0
 ·exact meOk1
 ·exact meOk2
 ·exact meOk3
 ·exact meOk4
 ·exact meOk5
 ·exact meOk6
 ·exact meOk7
theorem awakeOk : Con Tryz.prog 25 [] (.v (.bool true)) := topU_ok (T := tb) (KL := [3, 309, 25]) (X := memoX [me0, me1, me2, me3, me4, me5, me6, me7] noX) (fuel := 100000) (d := 60) tk keysL mo (memoX_ok all8 noX_ok) (by kernel_rfl)
end Go.Proofs.YtkheephfkbpchaaGreatDoor
namespace Go.Proofs.YtkheephfkbpchaaGreatDoor
open Go.RowKit Go.Deep
theorem trodAll_gr {H : Type} {enc : TypeId × Value → H} {P : Program} (hl : laidOutB P = true) {W W' : World} (g : Gr W W') : ∀ {ts : List TypeId} {vs : List Value} {ds : List (DataW H)} {ps : List MemPlace}, (∀ t ∈ ts, P.readableRec t = true ∧ t < P.types.size) → DataW.TrodAll enc P W 0 (fun _ => true) true ts vs ds ps → (∀ x ∈ ps, x.block < W.heap.size) → DataW.TrodAll enc P W' 0 (fun b => decide (b < W.heap.size)) true ts vs ds ps
 | [], [], [], _, _, h, _ => h
 | [], _ :: _, _, _, _, h, _ => h.elim
 | [], [], _ :: _, _, _, h, _ => h.elim
 | _ :: _, [], _, _, _, h, _ => h.elim
 | _ :: _, _ :: _, [], _, _, h, _ => h.elim
 | t :: ts, v :: vs, d :: ds, ps, ht, h, hp => by
  obtain ⟨p, q, h1, h2, rfl⟩ := h
  refine ⟨p, q, Below.trod hl (ht t (by simp)).1 (ht t (by simp)).2 h1 g (fun x hx => hp x (by simp [hx])), trodAll_gr hl g (fun t' h' => ht t' (by simp [h'])) h2 (fun x hx => hp x (by simp [hx])), rfl⟩
theorem law_post {H : Type} {enc : TypeId × Value → H} {P : Program} {f : Func} {s : ChangeSpec} {W W' : World} {args : Array Value} {ds gs : List (DataW H)} {before : List MemPlace} {tb : TypeId} (hl : laidOutB P = true)
  (hp : f.params.toList.all (fun t => P.readableRec t && decide (t < P.types.size)) = true) (hr : f.resultTypes = #[tb]) (ht : P.underlying tb = some .bool) (hv : s.vars = [])
  (hW : DataW.Whole enc P f.params.toList s.vars false W args.toList ds gs before) (hfn : s.fn H (ds ++ gs) = { results := [.lit (.bool true)], args := ds }) (g : Gr W W') : s.post enc P f false true false false W args (.bool true) W' := by
 have hW' := hW
 have hlt := hW.lt
 obtain ⟨p, q, hA, hV, rfl, hfz, hnd⟩ := hW
 rw [hv] at hV
 match gs, hV with
 | [], hV =>
  cases hV
  refine ⟨ds, [], _, [], p, [], hW', ?_, ?_, ?_, ?_, fun h => by cases h⟩
  ·rw [hfn, hr]
   exact ⟨[], [], ⟨1, by simp [DataW.trod, ht, Value.cells]⟩, rfl, rfl⟩
  ·rw [hfn]
   refine trodAll_gr hl g (fun t h => ?_) hA (fun x hx => hlt x (by simp [hx]))
   have := List.all_eq_true.1 hp t h
   simpa using this
  ·rw [hfn, hv]; rfl
  ·exact Below.frame g _
section
variable {P : Program} {w : World} {t e : TypeId} {cs : List Value}
end
end Go.Proofs.YtkheephfkbpchaaGreatDoor
namespace Go.Proofs.YtkheephfkbpchaaGreatDoor
open Go.RowKit Go.Deep
variable {P : Program} {w : World} {t e : TypeId} {α β γ : Type}
theorem Con.holds {f : FuncId} {args : List AV} (h : Con P f args (.v (.bool true))) {ys : List Value} (hl : ys.length = args.length) (hr : ∀ (j : Nat) c y, args[j]? = some c → ys[j]? = some y → ARel (Gr w) [] c y) : Calls P f ys.toArray w fun e w' => e = .returned (.bool true) ∧ Gr w w' :=
 (h.2 w (Gr w) ys (fun _ g => g) hl hr).mono fun e w' ⟨r, he, hg, H, ⟨Ho, Hi, _, hd⟩, _⟩ => by
  cases hd with
  | v x => exact ⟨he, hg⟩
end Go.Proofs.YtkheephfkbpchaaGreatDoor
namespace Go.Proofs.YtkheephfkbpchaaGreatDoor
open Go.RowKit
def cgo (L : Nat → List Nat) : Nat → List Nat → Nat → List Nat
 | 0, _, _ => []
 | _ + 1, [], _ => []
 | n + 1, f :: todo, s => bif Nat.testBit s f then cgo L n todo s else f :: cgo L n (L f ++ todo) (s ||| 2 ^ f)
theorem closureVia_go {P : Program} {L : Nat → List Nat} (hL : ∀ f, (P.funcs[f]?).elim [] P.leadsTo = L f) : ∀ (n : Nat) (todo seen : List Nat) (s : Nat), (∀ g, seen.contains g = Nat.testBit s g) → P.closureVia n todo seen = seen.reverse ++ cgo L n todo s
 | 0, todo, seen, s, _ => by simp [Program.closureVia, cgo]
 | n + 1, [], seen, s, _ => by simp [Program.closureVia, cgo]
 | n + 1, f :: todo, seen, s, h => by
  unfold Program.closureVia cgo
  rw [h f]
  cases hc : Nat.testBit s f with
  | true => simp only [if_true, cond_true]; exact closureVia_go hL n todo seen s h
  | false =>
   simp only [Bool.false_eq_true, if_false, cond_false]
   rw [hL f, closureVia_go hL n (L f ++ todo) (f :: seen) (s ||| 2 ^ f) (fun g => by
    rw [List.contains_cons, h g, Nat.testBit_or, Nat.testBit_two_pow]
    cases hg : (g == f) with
    | true => have := beq_iff_eq.1 hg; subst this; simp
    | false =>
     have : f ≠ g := fun e => by subst e; simp at hg
     simp [this])]
   simp
theorem closure_go {P : Program} {L : Nat → List Nat} (hL : ∀ f, (P.funcs[f]?).elim [] P.leadsTo = L f) (f : Nat) : P.closure f = cgo L (1 + ((List.range P.funcs.size).map fun i => (L i).length + 1).sum) [f] 0 := by
 have e : (P.funcs.toList.map fun g => (P.leadsTo g).length + 1) = (List.range P.funcs.size).map fun i => (L i).length + 1 := by
  apply List.ext_getElem?
  intro i
  rw [List.getElem?_map, List.getElem?_map, Array.getElem?_toList]
  rcases Nat.lt_or_ge i P.funcs.size with hi | hi
  ·have := hL i
   rw [Array.getElem?_eq_getElem hi] at this ⊢
   rw [List.getElem?_range hi]
   simp only [Option.elim_some] at this
   simp [this]
  ·rw [Array.getElem?_eq_none hi, List.getElem?_eq_none (by simp; omega)]; rfl
 unfold Program.closure
 rw [e, closureVia_go hL _ _ _ 0 (fun g => by simp)]
 simp
def lq : List Nat → List Nat → Bool
 | [], [] => true
 | a :: r, b :: s => a.beq b && lq r s
 | _, _ => false
theorem lq_eq : ∀ {a b : List Nat}, lq a b = true → a = b
 | [], [], _ => rfl
 | a :: r, b :: s, h => by simp only [lq, Bool.and_eq_true] at h; rw [Nat.eq_of_beq_eq_true h.1, lq_eq h.2]
 | [], _ :: _, h => by simp [lq] at h
 | _ :: _, [], h => by simp [lq] at h
def look2 (t : List (List (List Nat))) (f : Nat) : List Nat := (t.getD (f / 32) []).getD (f % 32) []
def chunkB (P : Program) (t : List (List (List Nat))) (c : Nat) : Bool := (List.range 32).all fun i => lq ((P.funcs[32 * c + i]?).elim [] P.leadsTo) (look2 t (32 * c + i))
theorem leads_of {P : Program} {t : List (List (List Nat))} {C : Nat} (hs : Nat.ble P.funcs.size (32 * C) = true) (hc : t.length.beq C = true) (h : ∀ c, c < C → chunkB P t c = true) : ∀ f, (P.funcs[f]?).elim [] P.leadsTo = look2 t f := by
 intro f
 rcases Nat.lt_or_ge (f / 32) C with hf | hf
 ·have h1 := List.all_eq_true.1 (h _ hf) (f % 32) (by simp; omega)
  have e : 32 * (f / 32) + f % 32 = f := by omega
  rw [e] at h1
  exact lq_eq h1
 ·have h1 := Nat.le_of_ble_eq_true hs
  have h2 := Nat.eq_of_beq_eq_true hc
  rw [Array.getElem?_eq_none (by omega)]
  unfold look2
  rw [List.getD_eq_getElem?_getD, List.getD_eq_getElem?_getD, List.getElem?_eq_none (by omega : t.length ≤ f / 32)]
  rfl
end Go.Proofs.YtkheephfkbpchaaGreatDoor
namespace Go.Proofs.YtkheephfkbpchaaGreatDoor
open Go.RowKit
def leadT0 : List (List Nat) := [[], [], [1], [6, 7, 8, 9, 10, 11, 12, 13, 14, 15, 16, 17, 7], [18, 19, 20, 21, 22, 23, 24, 25], [26, 27, 28, 29], [], [31, 30, 31, 32, 31, 30, 10, 10, 16, 16, 15, 15], [33, 34, 35], [33, 36, 35], [33, 37, 39, 38], [33, 37, 38], [40, 41], [], [], [37, 42, 43, 45, 44], [37, 46, 44, 48, 47, 50, 49, 52, 51, 39, 38, 54, 53], [55], [56, 57, 9, 10, 11], [58, 59, 60, 61, 60], [62], [62], [20], [], [63], [65, 64, 18, 19, 20, 21], [23, 66, 67, 23, 68, 22, 14, 66], [23, 26], [23, 24, 69, 73, 74, 73, 74], [64, 18, 18, 27, 28, 22, 14], [75, 76, 76, 77, 79, 78, 81, 80], []]
def leadT1 : List (List Nat) := [[75, 76, 82, 83, 80], [], [84, 59, 85, 86, 87, 89, 88, 90], [37, 53], [84, 85, 91, 92], [], [93, 94, 83, 95], [], [96], [], [], [97, 98, 99, 100, 101, 102, 103], [104, 105, 106, 49, 107, 49, 108, 109, 49], [96, 103, 110, 111, 112, 113, 114, 115, 59, 116, 117, 112], [96, 118, 110, 111, 112, 118, 116, 117], [119, 49, 120, 121], [122, 123], [42, 124, 125, 44, 126, 47, 78, 51, 127, 51], [128, 129, 130, 131], [133, 132, 95], [134, 135, 136, 137, 138, 139, 140, 142, 141, 143], [93, 144, 145, 146, 147, 95], [84, 87, 148, 149, 88], [150, 151], [152, 153, 154, 155, 156, 157, 158, 159, 160, 161], [8], [], [], [], [], [], [162, 163]]
def leadT2 : List (List Nat) := [[164, 63, 162, 165, 166], [], [18], [23, 167, 23, 168, 66], [], [20, 71, 70, 71, 71, 23, 72, 20, 23, 72, 71], [169], [21], [170], [172, 171], [173, 174, 175], [177, 178, 163], [120], [42], [134, 179, 136, 143], [163, 180], [181, 182], [183], [185, 184], [], [186, 60, 89, 187, 188, 187, 186, 89], [], [189], [60, 191, 190], [], [192, 61], [193, 85], [148, 89, 88, 194, 90], [195, 196, 197, 148, 90, 188, 85, 184, 198, 199, 86, 90], [83, 200, 132], [201, 202, 203, 204, 205, 206, 205, 205, 206, 207, 208], [122, 77, 209, 47]]
def leadT3 : List (List Nat) := [[], [210], [59], [211], [212, 213], [212, 213, 213], [214, 215, 216], [217, 217], [103, 202, 203, 203, 203, 206, 218, 208, 219], [], [128, 220, 221, 222, 129, 223, 224, 225], [128, 221, 222, 225], [98, 99, 226, 100, 227, 226, 99, 228, 101, 102, 229], [128, 229, 230, 129, 223, 221, 231, 130, 232, 225], [233], [], [], [], [235, 236, 237, 237], [], [235, 236, 237, 238], [112], [], [128, 229, 230], [], [76, 239, 169, 240, 51, 241, 242, 53, 243, 83, 244, 53, 245, 53], [181], [116, 246], [229, 202, 203, 247, 208], [96, 248, 113, 59, 117], [229, 249, 250], [134, 251, 136, 143]]
def leadT4 : List (List Nat) := [[], [223], [239, 223], [232], [77, 252], [255, 139, 254, 253], [163, 256], [258, 257], [260, 259], [261], [255, 262, 263], [266, 265, 267, 264], [266, 268], [94, 263], [140, 137, 269, 270, 271], [], [], [272, 203, 205, 273, 203, 218, 274, 275, 203, 208], [145, 276], [], [277, 278], [279, 280], [151], [], [62, 20, 20, 22, 16, 281], [282, 20, 22, 15, 281], [282], [284, 283], [285, 283], [170, 286], [170, 286], [62, 287]]
def leadT5 : List (List Nat) := [[62, 20, 166], [287, 20, 22, 281], [], [], [288], [286], [287, 32, 289, 30], [162], [], [269], [286], [290, 291, 292, 293, 294, 295, 296, 297, 171, 171], [298, 299], [], [300, 300], [176], [301, 301], [302, 303, 163, 223], [303], [], [], [172, 304], [303], [], [60, 61], [], [188, 61, 305, 306, 192], [307, 89], [60, 61], [277, 308, 310, 309, 59, 311], [312], []]
def leadT6 : List (List Nat) := [[59], [277, 278, 313], [], [314, 315], [316, 314], [196, 315], [317, 318, 319, 320, 322, 323], [176, 74], [324], [325, 303, 326, 303, 326, 327, 253, 328], [], [329], [203, 205], [203, 274], [274], [273, 203, 205, 206], [59], [330, 77, 248, 246], [], [213], [], [], [], [], [], [], [274], [210], [129, 223], [128, 129, 331], [129, 223, 224], []]
def leadT7 : List (List Nat) := [[130, 333, 332, 131, 232], [221, 179], [99, 100, 216, 303, 215], [99, 226], [99, 99, 100, 100, 100], [334, 335, 336], [337, 339, 338, 337], [340, 341, 342, 340], [60], [234], [96], [], [], [59], [59], [128, 343], [134, 243, 77, 344, 143, 345, 346, 259, 143], [98, 99, 226, 347, 99, 101, 100, 99, 99, 99, 215, 102, 272], [84, 272, 348, 198, 92, 349], [98, 99, 350, 351, 352, 353, 355, 357, 102, 201], [84, 358, 60, 85, 91], [84, 279, 328, 199, 188, 92], [359, 59], [360, 361, 362, 363], [235, 237, 59], [115, 59], [330, 252, 114, 123], [364, 257], [], [181, 366, 365], [200, 343], [367]]
def leadT8 : List (List Nat) := [[60, 368, 60, 369, 60, 60, 61, 60, 61], [266, 267, 264], [], [141, 138], [370, 371, 70, 372, 373, 60, 374, 375, 70, 376, 377, 373], [60, 60, 61], [378, 202, 203, 205, 274, 203, 205, 206, 208], [], [], [], [372, 368], [], [], [], [60], [379], [303, 380, 381, 381], [274, 205], [329, 329], [203, 203], [], [382, 184, 59], [383, 309], [308], [323], [385], [386, 283], [170], [59], [], [], [62]]
def leadT9 : List (List Nat) := [[], [181], [], [388, 388], [389, 390], [391, 391, 391, 392], [], [], [], [], [], [], [], [], [], [], [393, 394, 395, 396, 397, 398, 399, 400, 401, 304, 304], [], [], [], [269], [402], [], [403, 404], [], [59], [405], [279, 280], [406], [272, 70], [], [172, 407]]
def leadT10 : List (List Nat) := [[74, 176, 174, 321], [], [], [59, 61], [], [408, 409, 410], [303], [303, 74], [380, 185, 325, 327, 253, 412], [], [], [303, 340, 413, 343], [], [], [414, 415, 327, 414, 253], [416, 415], [416, 415, 415], [59], [359, 418, 417], [129, 223, 223, 419], [341, 342, 60], [229], [], [60, 73, 74, 421, 420], [422, 136, 423, 136], [98, 99, 226, 100, 354, 354, 100, 102, 378], [370, 378, 373, 373, 424, 70, 376, 377, 373], [100, 226, 216, 380, 215], [199, 86, 194, 90, 92, 425, 426, 89], [70, 427, 70, 427, 89, 88], [226], [100]]
def leadT11 : List (List Nat) := [[100], [354], [99, 216, 215, 226, 216, 327, 215], [356], [347, 354, 100, 216, 328, 215], [], [327, 70, 253], [], [], [205, 274, 429, 428], [430, 432, 431, 218], [430, 433, 431], [], [], [], [434], [], [], [60, 374, 60, 369, 261, 379], [327, 253], [303], [], [368], [266, 265, 267], [435, 436, 424, 270, 437, 261], [438, 367, 376, 439, 379, 139, 271, 437], [440, 70, 440, 412], [60, 61], [303], [441], [328, 278], [384]]
def leadT12 : List (List Nat) := [[], [170, 59], [387], [], [], [172], [], [392], [442, 442, 442], [399], [443, 443], [389, 390], [444, 444, 444, 445], [], [399, 399, 399], [300, 300], [399, 399], [399, 399, 399, 399], [], [], [446], [434], [315], [447, 448, 449, 450, 451, 452, 453, 454, 407, 407], [], [179], [411], [], [455], [456], [457], []]
def leadT13 : List (List Nat) := [[457, 415], [458, 181], [459], [340, 413, 456], [], [], [460, 257], [266, 303, 268, 461, 265, 462, 463], [465, 464, 261, 466, 467], [], [468], [469, 88], [203], [205], [205, 203], [203], [203, 206], [203, 206], [343, 343, 470, 74], [266, 265, 471], [139, 70, 254], [], [473, 472, 474], [474, 475, 253, 343], [327, 253], [], [], [399, 399], [445], [476, 476, 476], [477, 477, 477], []]
def leadT14 : List (List Nat) := [[478, 478], [389, 390], [479, 479, 479, 480], [], [], [], [], [], [481], [303, 415], [483], [], [], [], [484, 485, 486], [], [472], [], [487], [74], [], [277, 278, 313], [], [], [], [], [378, 179, 343, 179], [], [399], [], [], [480]]
def leadT15 : List (List Nat) := [[488, 488, 488], [482, 482, 70], [], [], [489], [172, 490], [74], [491, 491, 492, 492], [], [], [493, 494, 495, 496, 497, 498, 499, 500, 490, 490], [], [501, 492, 492], [], [502, 502], [389, 390], [503, 503, 503, 504], [], [], [], [], [505, 505, 505], [], [504], [506, 506, 506], [], [], [], [], [], [], []]
def leadT16 : List (List Nat) := [[], [], [], [], [], [], [], [], [], [], [], [], [], [], [], [], [], [], [], [], [], [], [], [], [], [], [], [], [], [], [], []]
def leadT : List (List (List Nat)) := [leadT0, leadT1, leadT2, leadT3, leadT4, leadT5, leadT6, leadT7, leadT8, leadT9, leadT10, leadT11, leadT12, leadT13, leadT14, leadT15, leadT16]
theorem ck0 : chunkB Tryz.prog leadT 0 = true := by kernel_rfl
theorem ck1 : chunkB Tryz.prog leadT 1 = true := by kernel_rfl
theorem ck2 : chunkB Tryz.prog leadT 2 = true := by kernel_rfl
theorem ck3 : chunkB Tryz.prog leadT 3 = true := by kernel_rfl
theorem ck4 : chunkB Tryz.prog leadT 4 = true := by kernel_rfl
theorem ck5 : chunkB Tryz.prog leadT 5 = true := by kernel_rfl
theorem ck6 : chunkB Tryz.prog leadT 6 = true := by kernel_rfl
theorem ck7 : chunkB Tryz.prog leadT 7 = true := by kernel_rfl
theorem ck8 : chunkB Tryz.prog leadT 8 = true := by kernel_rfl
theorem ck9 : chunkB Tryz.prog leadT 9 = true := by kernel_rfl
theorem ck10 : chunkB Tryz.prog leadT 10 = true := by kernel_rfl
theorem ck11 : chunkB Tryz.prog leadT 11 = true := by kernel_rfl
theorem ck12 : chunkB Tryz.prog leadT 12 = true := by kernel_rfl
theorem ck13 : chunkB Tryz.prog leadT 13 = true := by kernel_rfl
theorem ck14 : chunkB Tryz.prog leadT 14 = true := by kernel_rfl
theorem ck15 : chunkB Tryz.prog leadT 15 = true := by kernel_rfl
theorem ck16 : chunkB Tryz.prog leadT 16 = true := by kernel_rfl
theorem leadsT : ∀ f, (Tryz.prog.funcs[f]?).elim [] Tryz.prog.leadsTo = look2 leadT f := leads_of (C := 17) (by kernel_rfl) (by kernel_rfl) fun c hc => match c, hc with
 | 0, _ => ck0
 | 1, _ => ck1
 | 2, _ => ck2
 | 3, _ => ck3
 | 4, _ => ck4
 | 5, _ => ck5
 | 6, _ => ck6
 | 7, _ => ck7
 | 8, _ => ck8
 | 9, _ => ck9
 | 10, _ => ck10
 | 11, _ => ck11
 | 12, _ => ck12
 | 13, _ => ck13
 | 14, _ => ck14
 | 15, _ => ck15
 | 16, _ => ck16
 | n + 17, h => absurd h (by omega)
def reachT : List Nat := [4, 18, 56, 152, 62, 20, 22, 16, 37, 46, 96, 118, 110, 233, 234, 111, 112, 116, 235, 236, 237, 59, 238, 117, 44, 104, 103, 217, 202, 203, 329, 206, 274, 218, 208, 219, 210, 105, 106, 128, 220, 129, 223, 221, 331, 303, 340, 341, 229, 334, 414, 457, 415, 327, 74, 173, 174, 300, 175, 176, 301, 253, 181, 172, 298, 299, 304, 393, 399, 394, 443, 395, 389, 390, 396, 444, 445, 476, 397, 398, 400, 401, 366, 365, 335, 416, 336, 342, 60, 413, 456, 481, 482, 70, 169, 269, 343, 73, 171, 290, 291, 388, 292, 293, 391, 392, 442, 294, 295, 296, 297, 421, 420, 222, 224, 130, 239, 333, 332, 131, 232, 225, 179, 49, 42, 124, 247, 360, 361, 205, 429, 428, 362, 430, 432, 431, 363, 433, 125, 248, 113, 126, 249, 115, 250, 330, 252, 114, 123, 246, 359, 47, 119, 230, 337, 339, 419, 338, 418, 459, 417, 458, 483, 120, 121, 76, 240, 134, 163, 256, 368, 369, 61, 243, 98, 99, 211, 213, 350, 226, 100, 212, 216, 215, 351, 352, 353, 354, 355, 356, 347, 380, 328, 185, 325, 408, 409, 410, 411, 412, 455, 357, 102, 214, 201, 326, 77, 344, 422, 460, 257, 266, 372, 267, 264, 136, 260, 370, 374, 261, 379, 371, 373, 375, 265, 376, 435, 471, 436, 139, 254, 200, 324, 424, 465, 464, 472, 466, 487, 491, 492, 501, 505, 467, 270, 437, 377, 438, 473, 474, 378, 440, 367, 434, 470, 439, 475, 271, 259, 141, 94, 204, 207, 273, 263, 138, 255, 262, 423, 268, 461, 462, 484, 489, 485, 490, 493, 494, 502, 495, 496, 503, 504, 506, 497, 498, 499, 500, 486, 463, 143, 345, 346, 51, 133, 132, 95, 122, 209, 241, 101, 272, 381, 441, 242, 84, 186, 188, 305, 306, 192, 89, 187, 307, 348, 199, 86, 189, 277, 382, 278, 383, 384, 309, 402, 184, 308, 310, 311, 403, 404, 446, 477, 194, 90, 193, 313, 85, 92, 195, 314, 405, 315, 279, 280, 323, 196, 316, 406, 197, 148, 198, 317, 318, 319, 407, 447, 448, 478, 449, 450, 479, 480, 488, 451, 452, 453, 454, 320, 321, 322, 425, 426, 468, 349, 427, 469, 88, 53, 93, 83, 144, 145, 275, 146, 276, 147, 244, 358, 91, 245, 78, 127, 251, 364, 107, 108, 227, 228, 109, 231, 48, 50, 52, 135, 258, 137, 140, 142, 39, 38, 54, 87, 191, 190, 312, 149, 281, 385, 170, 286, 153, 282, 386, 387, 283, 15, 43, 97, 45, 154, 155, 284, 156, 285, 157, 158, 159, 287, 160, 166, 32, 75, 177, 302, 178, 82, 80, 182, 289, 30, 79, 180, 81, 183, 161, 57, 8, 33, 34, 35, 9, 36, 10, 11, 19, 58, 21, 23, 24, 63, 162, 25, 65, 64, 164, 288, 165]
theorem closureT : Tryz.prog.closure 4 = reachT := by
 rw [closure_go leadsT]
 kernel_rfl
end Go.Proofs.YtkheephfkbpchaaGreatDoor
namespace Go.Proofs.YtkheephfkbpchaaGreatDoor
open Go.RowKit
theorem inPlaceT : Tryz.prog.inPlace 4 = ["slices.overlaps[caucus/api.Slot]"] := by
 unfold Program.inPlace
 rw [closureT]
 kernel_rfl
theorem unfollowedT : Tryz.prog.unfollowed 4 = true := by
 unfold Program.unfollowed
 rw [closureT]
 kernel_rfl
theorem recursesT : Tryz.prog.recurses 4 = true := by
 unfold Program.recurses
 rw [unfollowedT]
 rfl
theorem namedT : Tryz.prog.varsNamed 4 = ["caucus/sum.half"] := by
 unfold Program.varsNamed
 rw [closureT]
 kernel_rfl
end Go.Proofs.YtkheephfkbpchaaGreatDoor
namespace Go.Proofs.YtkheephfkbpchaaGreatDoor
open Go.RowKit
theorem factsT : joinedFacts Tryz.pinned.checked.prog 4 Tryz.f4 Rows.worldNoneSpec Rows.worldNoneRow = true := by
 show joinedFacts Tryz.prog 4 Tryz.f4 Rows.worldNoneSpec Rows.worldNoneRow = true
 unfold joinedFacts
 rw [inPlaceT, unfollowedT, recursesT, namedT]
 kernel_rfl
end Go.Proofs.YtkheephfkbpchaaGreatDoor
namespace Go.Proofs.YtkheephfkbpchaaGreatDoor
open Go.ChangeShapes Go.WideShapes Go.ChangeAt Go.RowKit
theorem Tryz.own : ownKnob Tryz.prog.godebug = none := by kernel_rfl
theorem worldNoneOk : Con Tryz.prog 4 [] (.v (.bool true)) := topU_ok (T := tb) (KL := [3, 309, 25]) (X := tellX 25 (.bool true) noX) (fuel := 100000) (d := 60) tk keysL mo (tellX_ok awakeOk noX_ok) (by kernel_rfl)
set_option maxRecDepth 100000 in
theorem worldNone_lifted (os : Os) (started : os.Started) (H : Type) (enc : TypeId × Value → H) :
  ReturnsInHanded {} Tryz.checked os 4 .any (fun w args => (Rows.worldNoneSpec.pre enc Tryz.prog Tryz.f4 [] false w args ∧ laidMetH Tryz.prog Rows.worldNoneRow.laid w) ∧ sizedMet enc Tryz.prog Tryz.f4 (OpenSpec.ofChange Rows.worldNoneSpec) false w args)
   (Rows.worldNoneSpec.post enc Tryz.prog Tryz.f4 false true false false) := by
 refine returnsInHanded_of_change_and (C := Tryz.checked) (X := fun w _ => laidMetH Tryz.prog Rows.worldNoneRow.laid w) (fun _ _ _ hh h => h.of_heap hh) Tryz.own started (by kernel_rfl) Tryz.func4
  (ChangeSpec.witness_shaped (enc := enc) (C := Tryz.checked) (os := os) (X := fun w _ => laidMetH Tryz.prog Rows.worldNoneRow.laid w) false (World.laidAll Tryz.prog os Rows.worldNoneRow.laid) #[] 8 (World.laidAll_os _ _ _) (World.shaped_of_ZipB (by kernel_rfl) (by kernel_rfl)) (by kernel_rfl) (by kernel_rfl) (by kernel_rfl)
   (by rw [MakeChecks.laidMetH_plain _ _ _ (by kernel_rfl)]; exact laidMet_laidAll _ (by kernel_rfl) (by kernel_rfl))) ?_
 intro W base args ds gs before hval0 hW _ _ _ _
 have hW' : DataW.Whole enc Tryz.prog Tryz.f4.params.toList Rows.worldNoneSpec.vars false W args.toList ds gs before := hW
 obtain ⟨p, q, hA0, hV, rfl, hfz, hnd⟩ := hW
 have hA : DataW.TrodAll enc Tryz.prog W 0 (fun _ => true) true Tryz.f4.params.toList args.toList ds p := hA0
 rw [Tryz.params4] at hA
 obtain ⟨h1, rfl, rfl⟩ := trodAll_nil hA
 obtain rfl : args = #[] := by cases args; simp_all
 obtain ⟨rfl, rfl⟩ := trodVars_none hV
 refine (Con.holds (w := W) worldNoneOk (ys := []) rfl (fun j c y e1 e2 => by simp at e1)).mono fun e W' ⟨he, hg⟩ => ?_
 subst he
 exact ⟨_, rfl, law_post Tryz.laidOut (by kernel_rfl) (by kernel_rfl) Tryz.underlying4 rfl hW' rfl hg⟩
theorem worldNone_holds : Rows.WorldNoneSaid :=
 OpenClaim.holds_of_wide 4 Tryz.f4 rfl rfl rfl rfl rfl rfl rfl ⟨rfl, rfl, rfl, rfl, rfl⟩ rfl rfl rfl rfl rfl (by kernel_rfl) Tryz.func4 factsT
  (of_decide_eq_true (by kernel_rfl)) (by unfold Func.isWrapper; first | (rw [if_pos (by decide +kernel)]; kernel_rfl) | (rw [if_neg (by decide +kernel)]; exact ⟨rfl, rfl⟩))
  (fun os started H enc _ => worldNone_lifted os started H enc)
end Go.Proofs.YtkheephfkbpchaaGreatDoor
namespace Go.Proofs.YtkheephfkbpchaaGreatDoor
open Go.ChangeShapes Go.WideShapes Go.ChangeAt Go.RowKit
theorem goes_none : Tryz.prog.funcs.any Func.goes = false := by kernel_rfl
theorem goes_no {P : Program} (h : P.funcs.any Func.goes = false) (f : FuncId) : P.goes f = false := by
 have h1 : ∀ (g : Nat) fn, P.funcs[g]? = some fn → fn.goes = false := fun g fn hg => by
  have := Array.any_eq_false.1 h g (Array.getElem?_eq_some_iff.1 hg).1
  obtain ⟨hlt, rfl⟩ := Array.getElem?_eq_some_iff.1 hg
  simpa using this
 unfold Program.goes
 rw [h, Bool.and_false, Bool.or_false, List.any_eq_false]
 intro g _
 cases hg : P.funcs[g]? with
 | none => simp
 | some fn => simp [h1 g fn hg]
theorem goesBy_of {P : Program} {c : OpenClaim} (hs : c.start = .entering) (h : P.funcs.any Func.goes = false) : false = c.goesBy P := by
 unfold OpenClaim.goesBy Program.goesAt Program.goesFrom
 rw [hs]
 cases P.funcNamed c.func with
 | none => rfl
 | some f => simp [goes_no h f]
theorem goesBy_no : false = Rows.worldNoneRow.goesBy Tryz.pinned.checked.prog := goesBy_of rfl goes_none
theorem worldNone_card : Rows.WorldNoneCardSaid :=
 Claim7.holds_tied_plain_at .later [] [.data] true (true, "79d2c3962f32077a78f1d56559559dee9b0d386692dff5dc77fb4503cf0c87cb") false worldNone_holds (fun _ h => by cases h) (by kernel_rfl) (fun _ h => by cases h) worldNone_row_tie rfl ⟨rfl, rfl⟩ (by kernel_rfl) rfl
  (fun f fn hf hfn => by
   obtain rfl : f = 4 := Option.some.inj ((show Tryz.prog.funcNamed "caucus/caucuslaw25.WorldNone" = some 4 by kernel_rfl).symm.trans hf) |>.symm
   obtain rfl : fn = Tryz.f4 := (Option.some.inj (Tryz.func4.symm.trans hfn)).symm
   exact ⟨by kernel_rfl, fun j t ht => by
    rw [Tryz.params4] at ht
    simp at ht⟩)
  goesBy_no
end Go.Proofs.YtkheephfkbpchaaGreatDoor
