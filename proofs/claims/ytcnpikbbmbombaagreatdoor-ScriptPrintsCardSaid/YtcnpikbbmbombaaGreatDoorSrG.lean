/-
  scriptPrints_card, part 7 of 7: merged by program from the texts that it needs.
-/
import Derived.Test.YtcnpikbbmbombaaGreatDoorSrF
set_option linter.unusedSimpArgs false
set_option linter.unusedVariables false
set_option linter.unnecessarySimpa false
namespace Go.Proofs.YtcnpikbbmbombaaGreatDoor
open Go.RowKit
set_option maxRecDepth 100000 in
theorem Jm :aE Tryz.prog 78 [.yl 7,.pt 0 0] [.bx 9 [.d (.v (.string ⟨([119,111,114,108,100,32,49,32,58,32,49,10,116,105,99,107,32,48,10,106,111,105,110,32,50,10,115,101,110,100,32,50,32,54,56,54,57,10]).toArray⟩))],.gw 0 aj,.bx 25 [.z 0,.d (.v (.slice none 0 0)),.d (.v (.slice none 0 0))],.bx 26 [.d (.v (.slice none 0 0))],.bx 23 [.d (.v (.slice none 0 0))],.bx 32 [.z 0],.bx 4 [.d (.v (.bool false))],.lp .ready 19 61 [(2,.pt 2 0),(3,.pt 3 0),(4,.pt 4 0),(5,.pt 5 0),(6,.pt 6 0)] (l5 Tryz.f19 0)] (.tu []) ([.bx 9 [.d (.v (.string ⟨([]).toArray⟩))],.gw 0 aj,.bx 25 [.z 1,.sl 8 (0),.sl 9 (1)],.bx 26 [.sl 10 (3)],.bx 23 [.d (.v (.slice none 0 0))],.bx 32 [.z 0],.bx 4 [.d (.v (.bool true))],.lp .ready 19 61 [(2,.pt 2 0),(3,.pt 3 0),(4,.pt 4 0),(5,.pt 5 0),(6,.pt 6 0)] (l5 Tryz.f19 0),.rw 60 2 (ah []),.rw 3 1 (ints [1]),.rw 42 7 (eW [⟨1,0,0,0,0,0,[]⟩,⟨12,2,0,0,0,0,[]⟩,⟨10,2,0,0,0,0,[104,105]⟩])]):=by
 refine aE.intro (by kernel_rfl) rfl rfl 23 rfl rfl fun D w0 K bs ac wd hK (ao:bs.m=8) r=>?_
 refine cQ (todo':=hd Tryz.f78 0) (E':=[(0,.yl 7),(1,.pt 0 0),(3,.z 1)]) (M':=[.bx 9 [.d (.v (.string ⟨([119,111,114,108,100,32,49,32,58,32,49,10,116,105,99,107,32,48,10,106,111,105,110,32,50,10,115,101,110,100,32,50,32,54,56,54,57,10]).toArray⟩))],.gw 0 aj,.bx 25 [.z 0,.d (.v (.slice none 0 0)),.d (.v (.slice none 0 0))],.bx 26 [.d (.v (.slice none 0 0))],.bx 23 [.d (.v (.slice none 0 0))],.bx 32 [.z 0],.bx 4 [.d (.v (.bool false))],.lp .ready 19 61 [(2,.pt 2 0),(3,.pt 3 0),(4,.pt 4 0),(5,.pt 5 0),(6,.pt 6 0)] (l5 Tryz.f19 0)]) tk mo hK ao [] 2000 [0,1,2,3,4,5,6,7] [0,1,3] r (by kernel_rfl) trivial fun ac wd r=>?_
 refine cQ (todo':=hd Tryz.f78 0) (E':=[(0,.yl 7),(1,.pt 0 0),(3,.z 2),(7,.d (.v (.string ⟨([119,111,114,108,100,32,49,32,58,32,49,10,116,105,99,107,32,48,10,106,111,105,110,32,50,10,115,101,110,100,32,50,32,54,56,54,57,10]).toArray⟩))),(8,.d (.v (.bool true))),(12,.d (.v (.string ⟨([119,111,114,108,100,32,49,32,58,32,49,10,116,105,99,107,32,48,10,106,111,105,110,32,50,10,115,101,110,100,32,50,32,54,56,54,57,10]).toArray⟩))),(13,.tu [.d (.v (.string ⟨([119,111,114,108,100,32,49,32,58,32,49]).toArray⟩)),.d (.v (.string ⟨([116,105,99,107,32,48,10,106,111,105,110,32,50,10,115,101,110,100,32,50,32,54,56,54,57,10]).toArray⟩)),.d (.v (.bool true))]),(11,.tu [.d (.v (.string ⟨([119,111,114,108,100,32,49,32,58,32,49]).toArray⟩)),.d (.v (.string ⟨([116,105,99,107,32,48,10,106,111,105,110,32,50,10,115,101,110,100,32,50,32,54,56,54,57,10]).toArray⟩)),.d (.v (.bool true))]),(14,.d (.v (.string ⟨([119,111,114,108,100,32,49,32,58,32,49]).toArray⟩))),(15,.d (.v (.string ⟨([116,105,99,107,32,48,10,106,111,105,110,32,50,10,115,101,110,100,32,50,32,54,56,54,57,10]).toArray⟩))),(16,.d (.v (.bool true))),(4,.d (.v (.string ⟨([119,111,114,108,100,32,49,32,58,32,49]).toArray⟩))),(5,.d (.v (.string ⟨([116,105,99,107,32,48,10,106,111,105,110,32,50,10,115,101,110,100,32,50,32,54,56,54,57,10]).toArray⟩))),(6,.d (.v (.bool true))),(17,.yl 7),(18,.z 1),(19,.d (.v (.string ⟨([119,111,114,108,100,32,49,32,58,32,49]).toArray⟩))),(20,.d (.v (.bool true))),(21,.d (.v (.bool false))),(22,.d (.v (.string ⟨([116,105,99,107,32,48,10,106,111,105,110,32,50,10,115,101,110,100,32,50,32,54,56,54,57,10]).toArray⟩))),(9,.z 1),(10,.z 2)]) (M':=[.bx 9 [.d (.v (.string ⟨([116,105,99,107,32,48,10,106,111,105,110,32,50,10,115,101,110,100,32,50,32,54,56,54,57,10]).toArray⟩))],.gw 0 aj,.bx 25 [.z 1,.sl 8 (0),.sl 9 (1)],.bx 26 [.d (.v (.slice none 0 0))],.bx 23 [.d (.v (.slice none 0 0))],.bx 32 [.z 0],.bx 4 [.d (.v (.bool true))],.lp .ready 19 61 [(2,.pt 2 0),(3,.pt 3 0),(4,.pt 4 0),(5,.pt 5 0),(6,.pt 6 0)] (l5 Tryz.f19 0),.rw 60 2 (ah []),.rw 3 1 (ints [1]),.bx 25 [.z 1,.sl 8 (0),.sl 9 (1)]]) tk mo hK ao [(1,[(1,.b true)]),(2,[(1,.z (2))]),(3,[(1,.au (.tu [.v (.string ⟨([119,111,114,108,100,32,49,32,58,32,49]).toArray⟩),.v (.string ⟨([116,105,99,107,32,48,10,106,111,105,110,32,50,10,115,101,110,100,32,50,32,54,56,54,57,10]).toArray⟩),.v (.bool true)]))]),(4,[(3,.bX 200 [(7,[(1,.b false),(4,.n 0)]),(9,[(1,.mem [] (.tu [.ag [.z 1,.sl 0 (0),.sl 1 (1)],.d (.v (.bool true))]) [.rw 60 2 (ah []),.rw 3 1 (ints [1])])])])])] 2000 [0,1,2,3,4,5,6,7,8,9,10] [0,1,3,7,8,12,13,11,14,15,16,4,5,6,17,18,19,20,21,22,9,10] r (by kernel_rfl) (U ((by first | decide | simp):(([119,111,114,108,100,32,49,32,58,32,49,10,116,105,99,107,32,48,10,106,111,105,110,32,50,10,115,101,110,100,32,50,32,54,56,54,57,10]:List UInt8) != [])=true) (U (KF) (U ((by first | decide | simp):(([119,111,114,108,100,32,49,32,58,32,49]:List UInt8)==[])=false) (U (rfl:(0:Int)=((0:Nat):Int)) (U (OJ) (U ((wi (by omega)):IntKind.i64.wrap ((1:Int)+1)=2) trivial)))))) fun ac wd r=>?_
 refine cQ (todo':=hd Tryz.f78 0) (E':=[(0,.yl 7),(1,.pt 0 0),(3,.z 3),(7,.d (.v (.string ⟨([116,105,99,107,32,48,10,106,111,105,110,32,50,10,115,101,110,100,32,50,32,54,56,54,57,10]).toArray⟩))),(8,.d (.v (.bool true))),(12,.d (.v (.string ⟨([116,105,99,107,32,48,10,106,111,105,110,32,50,10,115,101,110,100,32,50,32,54,56,54,57,10]).toArray⟩))),(13,.tu [.d (.v (.string ⟨([116,105,99,107,32,48]).toArray⟩)),.d (.v (.string ⟨([106,111,105,110,32,50,10,115,101,110,100,32,50,32,54,56,54,57,10]).toArray⟩)),.d (.v (.bool true))]),(11,.tu [.d (.v (.string ⟨([116,105,99,107,32,48]).toArray⟩)),.d (.v (.string ⟨([106,111,105,110,32,50,10,115,101,110,100,32,50,32,54,56,54,57,10]).toArray⟩)),.d (.v (.bool true))]),(14,.d (.v (.string ⟨([116,105,99,107,32,48]).toArray⟩))),(15,.d (.v (.string ⟨([106,111,105,110,32,50,10,115,101,110,100,32,50,32,54,56,54,57,10]).toArray⟩))),(16,.d (.v (.bool true))),(4,.d (.v (.string ⟨([116,105,99,107,32,48]).toArray⟩))),(5,.d (.v (.string ⟨([106,111,105,110,32,50,10,115,101,110,100,32,50,32,54,56,54,57,10]).toArray⟩))),(6,.d (.v (.bool true))),(17,.yl 7),(18,.z 2),(19,.d (.v (.string ⟨([116,105,99,107,32,48]).toArray⟩))),(20,.d (.v (.bool true))),(21,.d (.v (.bool false))),(22,.d (.v (.string ⟨([106,111,105,110,32,50,10,115,101,110,100,32,50,32,54,56,54,57,10]).toArray⟩))),(9,.z 2),(10,.z 3)]) (M':=[.bx 9 [.d (.v (.string ⟨([106,111,105,110,32,50,10,115,101,110,100,32,50,32,54,56,54,57,10]).toArray⟩))],.gw 0 aj,.bx 25 [.z 1,.sl 8 (0),.sl 9 (1)],.bx 26 [.sl 14 ((1))],.bx 23 [.d (.v (.slice none 0 0))],.bx 32 [.z 0],.bx 4 [.d (.v (.bool true))],.lp .ready 19 61 [(2,.pt 2 0),(3,.pt 3 0),(4,.pt 4 0),(5,.pt 5 0),(6,.pt 6 0)] (l5 Tryz.f19 0),.rw 60 2 (ah []),.rw 3 1 (ints [1]),.bx 25 [.z 1,.sl 8 (0),.sl 9 (1)],.dead,.bx 42 [.z 1,.z 0,.z 0,.z 0,.z 0,.d (.v (.int .u64 0)),.sl 11 (0)],.dead,.rw 42 7 ([[.z 1,.z 0,.z 0,.z 0,.z 0,.v (.int .u64 0),.em 5 1 ([])]])]) tk mo hK ao [(1,[(1,.b true)]),(2,[(1,.z (3))]),(3,[(1,.au (.tu [.v (.string ⟨([116,105,99,107,32,48]).toArray⟩),.v (.string ⟨([106,111,105,110,32,50,10,115,101,110,100,32,50,32,54,56,54,57,10]).toArray⟩),.v (.bool true)]))]),(4,[(3,.bX 200 [(7,[(1,.b false),(4,.n 0)]),(13,[(1,.mem [1] (.tu [.ag [.z 1,.z 0,.z 0,.z 0,.z 0,.d (.v (.int .u64 0)),.sl 1 (0)],.d (.v (.bool true))]) [.gw 0 aj,.rw 5 1 ([])])])])])] 2000 [0,1,2,3,4,5,6,7,8,9,10,11,12,13,14] [0,1,3,7,8,12,13,11,14,15,16,4,5,6,17,18,19,20,21,22,9,10] r (by kernel_rfl) (U ((by first | decide | simp):(([116,105,99,107,32,48,10,106,111,105,110,32,50,10,115,101,110,100,32,50,32,54,56,54,57,10]:List UInt8) != [])=true) (U (KG) (U ((by first | decide | simp):(([116,105,99,107,32,48]:List UInt8)==[])=false) (U (rfl:(0:Int)=((0:Nat):Int)) (U (OK) (U ((by first | rfl | decide):(0)=([]:List (List DV)).length) (U ((by first | rfl | decide):(1)=([[.z 1,.z 0,.z 0,.z 0,.z 0,.v (.int .u64 0),.em 5 1 ([])]]:List (List DV)).length) (U ((by decide):(2*(0+(1))+192)*72≤281474976710656) (U ((by decide):0+(1)<4611686018427387904) (U ((by simp [aD,AV.one,bf,ae]):aD ([[.z 1,.z 0,.z 0,.z 0,.z 0,.v (.int .u64 0),.em 5 1 ([])]])) (U ((wi (by omega)):IntKind.i64.wrap ((2:Int)+1)=3) trivial))))))))))) fun ac wd r=>?_
 refine cQ (todo':=hd Tryz.f78 0) (E':=[(0,.yl 7),(1,.pt 0 0),(3,.z 4),(7,.d (.v (.string ⟨([106,111,105,110,32,50,10,115,101,110,100,32,50,32,54,56,54,57,10]).toArray⟩))),(8,.d (.v (.bool true))),(12,.d (.v (.string ⟨([106,111,105,110,32,50,10,115,101,110,100,32,50,32,54,56,54,57,10]).toArray⟩))),(13,.tu [.d (.v (.string ⟨([106,111,105,110,32,50]).toArray⟩)),.d (.v (.string ⟨([115,101,110,100,32,50,32,54,56,54,57,10]).toArray⟩)),.d (.v (.bool true))]),(11,.tu [.d (.v (.string ⟨([106,111,105,110,32,50]).toArray⟩)),.d (.v (.string ⟨([115,101,110,100,32,50,32,54,56,54,57,10]).toArray⟩)),.d (.v (.bool true))]),(14,.d (.v (.string ⟨([106,111,105,110,32,50]).toArray⟩))),(15,.d (.v (.string ⟨([115,101,110,100,32,50,32,54,56,54,57,10]).toArray⟩))),(16,.d (.v (.bool true))),(4,.d (.v (.string ⟨([106,111,105,110,32,50]).toArray⟩))),(5,.d (.v (.string ⟨([115,101,110,100,32,50,32,54,56,54,57,10]).toArray⟩))),(6,.d (.v (.bool true))),(17,.yl 7),(18,.z 3),(19,.d (.v (.string ⟨([106,111,105,110,32,50]).toArray⟩))),(20,.d (.v (.bool true))),(21,.d (.v (.bool false))),(22,.d (.v (.string ⟨([115,101,110,100,32,50,32,54,56,54,57,10]).toArray⟩))),(9,.z 3),(10,.z 4)]) (M':=[.bx 9 [.d (.v (.string ⟨([115,101,110,100,32,50,32,54,56,54,57,10]).toArray⟩))],.gw 0 aj,.bx 25 [.z 1,.sl 8 (0),.sl 9 (1)],.bx 26 [.sl 14 ((1)+(1))],.bx 23 [.d (.v (.slice none 0 0))],.bx 32 [.z 0],.bx 4 [.d (.v (.bool true))],.lp .ready 19 61 [(2,.pt 2 0),(3,.pt 3 0),(4,.pt 4 0),(5,.pt 5 0),(6,.pt 6 0)] (l5 Tryz.f19 0),.rw 60 2 (ah []),.rw 3 1 (ints [1]),.bx 25 [.z 1,.sl 8 (0),.sl 9 (1)],.dead,.bx 42 [.z 1,.z 0,.z 0,.z 0,.z 0,.d (.v (.int .u64 0)),.sl 11 (0)],.dead,.rw 42 7 ([[.z 1,.z 0,.z 0,.z 0,.z 0,.v (.int .u64 0),.em 5 1 ([])]]++[[.z 12,.z 2,.z 0,.z 0,.z 0,.v (.int .u64 0),.em 5 1 ([])]]),.dead,.bx 42 [.z 12,.z 2,.z 0,.z 0,.z 0,.d (.v (.int .u64 0)),.sl 15 (0)],.dead]) tk mo hK ao [(1,[(1,.b true)]),(2,[(1,.z (4))]),(3,[(1,.au (.tu [.v (.string ⟨([106,111,105,110,32,50]).toArray⟩),.v (.string ⟨([115,101,110,100,32,50,32,54,56,54,57,10]).toArray⟩),.v (.bool true)]))]),(4,[(3,.bX 200 [(7,[(1,.b false),(4,.n 0)]),(13,[(1,.mem [1] (.tu [.ag [.z 12,.z 2,.z 0,.z 0,.z 0,.d (.v (.int .u64 0)),.sl 1 (0)],.d (.v (.bool true))]) [.gw 0 aj,.rw 5 1 ([])])])])])] 2000 [0,1,2,3,4,5,6,7,8,9,10,11,12,13,14,15,16,17] [0,1,3,7,8,12,13,11,14,15,16,4,5,6,17,18,19,20,21,22,9,10] r (by kernel_rfl) (U ((by first | decide | simp):(([106,111,105,110,32,50,10,115,101,110,100,32,50,32,54,56,54,57,10]:List UInt8) != [])=true) (U (KH) (U ((by first | decide | simp):(([106,111,105,110,32,50]:List UInt8)==[])=false) (U (rfl:(0:Int)=((0:Nat):Int)) (U (OL) (U ((by first | rfl | decide):(0)=([]:List (List DV)).length) (U ((by first | rfl | decide):((1))=([[.z 1,.z 0,.z 0,.z 0,.z 0,.v (.int .u64 0),.em 5 1 ([])]]:List (List DV)).length) (U ((by first | rfl | decide):(1)=([[.z 12,.z 2,.z 0,.z 0,.z 0,.v (.int .u64 0),.em 5 1 ([])]]:List (List DV)).length) (U ((by decide):(2*(((1))+(1))+192)*72≤281474976710656) (U ((by decide):((1))+(1)<4611686018427387904) (U ((by simp [aD,AV.one,bf,ae]):aD ([[.z 12,.z 2,.z 0,.z 0,.z 0,.v (.int .u64 0),.em 5 1 ([])]])) (U ((wi (by omega)):IntKind.i64.wrap ((3:Int)+1)=4) trivial)))))))))))) fun ac wd r=>?_
 refine cQ (todo':=hd Tryz.f78 0) (E':=[(0,.yl 7),(1,.pt 0 0),(3,.z 5),(7,.d (.v (.string ⟨([115,101,110,100,32,50,32,54,56,54,57,10]).toArray⟩))),(8,.d (.v (.bool true))),(12,.d (.v (.string ⟨([115,101,110,100,32,50,32,54,56,54,57,10]).toArray⟩))),(13,.tu [.d (.v (.string ⟨([115,101,110,100,32,50,32,54,56,54,57]).toArray⟩)),.d (.v (.string ⟨([]).toArray⟩)),.d (.v (.bool true))]),(11,.tu [.d (.v (.string ⟨([115,101,110,100,32,50,32,54,56,54,57]).toArray⟩)),.d (.v (.string ⟨([]).toArray⟩)),.d (.v (.bool true))]),(14,.d (.v (.string ⟨([115,101,110,100,32,50,32,54,56,54,57]).toArray⟩))),(15,.d (.v (.string ⟨([]).toArray⟩))),(16,.d (.v (.bool true))),(4,.d (.v (.string ⟨([115,101,110,100,32,50,32,54,56,54,57]).toArray⟩))),(5,.d (.v (.string ⟨([]).toArray⟩))),(6,.d (.v (.bool true))),(17,.yl 7),(18,.z 4),(19,.d (.v (.string ⟨([115,101,110,100,32,50,32,54,56,54,57]).toArray⟩))),(20,.d (.v (.bool true))),(21,.d (.v (.bool false))),(22,.d (.v (.string ⟨([]).toArray⟩))),(9,.z 4),(10,.z 5)]) (M':=[.bx 9 [.d (.v (.string ⟨([]).toArray⟩))],.gw 0 aj,.bx 25 [.z 1,.sl 8 (0),.sl 9 (1)],.bx 26 [.sl 14 ((1)+(1)+(1))],.bx 23 [.d (.v (.slice none 0 0))],.bx 32 [.z 0],.bx 4 [.d (.v (.bool true))],.lp .ready 19 61 [(2,.pt 2 0),(3,.pt 3 0),(4,.pt 4 0),(5,.pt 5 0),(6,.pt 6 0)] (l5 Tryz.f19 0),.rw 60 2 (ah []),.rw 3 1 (ints [1]),.bx 25 [.z 1,.sl 8 (0),.sl 9 (1)],.dead,.bx 42 [.z 1,.z 0,.z 0,.z 0,.z 0,.d (.v (.int .u64 0)),.sl 11 (0)],.dead,.rw 42 7 ([[.z 1,.z 0,.z 0,.z 0,.z 0,.v (.int .u64 0),.em 5 1 ([])]]++[[.z 12,.z 2,.z 0,.z 0,.z 0,.v (.int .u64 0),.em 5 1 ([])]]++[[.z 10,.z 2,.z 0,.z 0,.z 0,.v (.int .u64 0),.em 5 1 (ae [104,105])]]),.dead,.bx 42 [.z 12,.z 2,.z 0,.z 0,.z 0,.d (.v (.int .u64 0)),.sl 15 (0)],.dead,.dead,.bx 42 [.z 10,.z 2,.z 0,.z 0,.z 0,.d (.v (.int .u64 0)),.sl 18 (2)],.dead]) tk mo hK ao [(1,[(1,.b true)]),(2,[(1,.z (5))]),(3,[(1,.au (.tu [.v (.string ⟨([115,101,110,100,32,50,32,54,56,54,57]).toArray⟩),.v (.string ⟨([]).toArray⟩),.v (.bool true)]))]),(4,[(3,.bX 200 [(7,[(1,.b false),(4,.n 0)]),(13,[(1,.mem [1] (.tu [.ag [.z 10,.z 2,.z 0,.z 0,.z 0,.d (.v (.int .u64 0)),.sl 1 (2)],.d (.v (.bool true))]) [.gw 0 aj,.rw 5 1 (ae [104,105])])])])])] 2000 [0,1,2,3,4,5,6,7,8,9,10,11,12,13,14,15,16,17,18,19,20] [0,1,3,7,8,12,13,11,14,15,16,4,5,6,17,18,19,20,21,22,9,10] r (by kernel_rfl) (U ((by first | decide | simp):(([115,101,110,100,32,50,32,54,56,54,57,10]:List UInt8) != [])=true) (U (KI) (U ((by first | decide | simp):(([115,101,110,100,32,50,32,54,56,54,57]:List UInt8)==[])=false) (U (rfl:(0:Int)=((0:Nat):Int)) (U (OM) (U ((by first | rfl | decide):(2)=(ae [104,105]).length) (U ((by first | rfl | decide):((1)+(1))=([[.z 1,.z 0,.z 0,.z 0,.z 0,.v (.int .u64 0),.em 5 1 ([])]]++[[.z 12,.z 2,.z 0,.z 0,.z 0,.v (.int .u64 0),.em 5 1 ([])]]:List (List DV)).length) (U ((by first | rfl | decide):(1)=([[.z 10,.z 2,.z 0,.z 0,.z 0,.v (.int .u64 0),.em 5 1 (ae [104,105])]]:List (List DV)).length) (U ((by decide):(2*(((1)+(1))+(1))+192)*72≤281474976710656) (U ((by decide):((1)+(1))+(1)<4611686018427387904) (U ((by simp [aD,AV.one,bf,ae]):aD ([[.z 10,.z 2,.z 0,.z 0,.z 0,.v (.int .u64 0),.em 5 1 (ae [104,105])]])) (U ((wi (by omega)):IntKind.i64.wrap ((4:Int)+1)=5) trivial)))))))))))) fun ac wd r=>?_
 refine bq (y:=.tu []) (N':=[.bx 9 [.d (.v (.string ⟨([]).toArray⟩))],.gw 0 aj,.bx 25 [.z 1,.sl 8 (0),.sl 9 (1)],.bx 26 [.sl 10 ((1)+(1)+(1))],.bx 23 [.d (.v (.slice none 0 0))],.bx 32 [.z 0],.bx 4 [.d (.v (.bool true))],.lp .ready 19 61 [(2,.pt 2 0),(3,.pt 3 0),(4,.pt 4 0),(5,.pt 5 0),(6,.pt 6 0)] (l5 Tryz.f19 0),.rw 60 2 (ah []),.rw 3 1 (ints [1]),.rw 42 7 ([[.z 1,.z 0,.z 0,.z 0,.z 0,.v (.int .u64 0),.em 5 1 ([])]]++[[.z 12,.z 2,.z 0,.z 0,.z 0,.v (.int .u64 0),.em 5 1 ([])]]++[[.z 10,.z 2,.z 0,.z 0,.z 0,.v (.int .u64 0),.em 5 1 (ae [104,105])]])]) (rfl) (rfl) ?_
 exact bp tk mo hK rfl ao [(1,[(1,.b false)])] 2000 [0,1,2,3,4,5,6,7,8,9,14] r (by kernel_rfl) (U ((by first | decide | simp):(([]:List UInt8) != [])=false) trivial)
end Go.Proofs.YtcnpikbbmbombaaGreatDoor
namespace Go.Proofs.YtcnpikbbmbombaaGreatDoor
open Go.RowKit
theorem ju.yT {T k:Nat} {rows:List (List DV)} (h:∀ r ∈ rows,∀ c ∈ r,gv c):ju (.rw T k rows):=fun K K' β u H r=>by
 cases r with | rw hb X F hl hs hr=>exact .rw hb X F hl hs fun i r j c x h1 h2 h3=>h r (List.mem_of_getElem? h1) c (List.mem_of_getElem? h2) _ _ _ _ (hr i r j c x h1 h2 h3)
theorem HJ (T k:Nat) (l:List (Int×Int)):ju (.rw T k (ah l)):=ju.yT fun r hr c hc=>by
 obtain ⟨x,-,rfl⟩:=List.mem_map.1 hr
 simp only [List.mem_cons,List.not_mem_nil,or_false] at hc
 rcases hc with rfl | rfl<;>exact jj _
theorem Jn (T k:Nat) (l:List Int):ju (.rw T k (ints l)):=ju.yT fun r hr c hc=>by
 obtain ⟨x,-,rfl⟩:=List.mem_map.1 hr
 simp only [List.mem_cons,List.not_mem_nil,or_false] at hc
 subst hc;exact jj _
theorem HK (T k:Nat) (l:List aL):ju (.rw T k (eW l)):=ju.yT fun r hr c hc=>by
 obtain ⟨x,-,rfl⟩:=List.mem_map.1 hr
 simp only [aL.xY,List.mem_cons,List.not_mem_nil,or_false] at hc
 rcases hc with rfl | rfl | rfl | rfl | rfl | rfl | rfl<;>first | exact jj _ | exact zS _ _
set_option maxRecDepth 100000 in
theorem HL :aE Tryz.prog 19 [.d (.v (.string ⟨([119,111,114,108,100,32,49,32,58,32,49,10,116,105,99,107,32,48,10,106,111,105,110,32,50,10,115,101,110,100,32,50,32,54,56,54,57,10]).toArray⟩))] [.gw 0 aj] (mapA (·+1) (.tu [.ag [.z 1,.sl 4 0,.sl 5 1],.sl 6 3,.d (.v (.slice none 0 0)),.z 0])) (.gw 0 aj::List.map (fp (·+1)) ([.bx 25 [.z 1,.sl 4 0,.sl 5 1],.bx 26 [.sl 6 3],.bx 23 [.d (.v (.slice none 0 0))],.bx 32 [.z 0],.rw 60 2 (ah []),.rw 3 1 (ints [1]),.rw 42 7 (eW [⟨1,0,0,0,0,0,[]⟩,⟨12,2,0,0,0,0,[]⟩,⟨10,2,0,0,0,0,[104,105]⟩])])):=by
 refine aE.JP (by kernel_rfl) rfl rfl 61 rfl rfl fun w0 K ac hK r=>?_
 have r:=r.mark
 refine IF (todo':=MV Tryz.f19 0) (E2:=[(2,.pt 1 0),(3,.pt 2 0),(4,.pt 3 0),(5,.pt 4 0),(6,.pt 5 0)]) (M2:=[.gw 0 aj,.bx 25 [.z 1,.sl 6 (0),.sl 7 (1)],.bx 26 [.sl 8 (3)],.bx 23 [.d (.v (.slice none 0 0))],.bx 32 [.z 0],.bx 4 [.d (.v (.bool true))],.rw 60 2 (ah []),.rw 3 1 (ints [1]),.rw 42 7 (eW [⟨1,0,0,0,0,0,[]⟩,⟨12,2,0,0,0,0,[]⟩,⟨10,2,0,0,0,0,[104,105]⟩])]) tk mo hK rfl [(1,[(1,.z (38))]),(4,[(1,.bX 200 [])])] 15 [6,0,1,2,3,4,5] [2,3,4,5,6] (.tu []) [.bx 9 [.d (.v (.string ⟨([]).toArray⟩))],.gw 0 aj,.bx 25 [.z 1,.sl 8 (0),.sl 9 (1)],.bx 26 [.sl 10 (3)],.bx 23 [.d (.v (.slice none 0 0))],.bx 32 [.z 0],.bx 4 [.d (.v (.bool true))],.lp .ready 19 61 [(2,.pt 2 0),(3,.pt 3 0),(4,.pt 4 0),(5,.pt 5 0),(6,.pt 6 0)] (l5 Tryz.f19 0),.rw 60 2 (ah []),.rw 3 1 (ints [1]),.rw 42 7 (eW [⟨1,0,0,0,0,0,[]⟩,⟨12,2,0,0,0,0,[]⟩,⟨10,2,0,0,0,0,[104,105]⟩])] [0,1,2,3,4,5,8,9,10] [2,3,4,5,6] r (by kernel_rfl) (U Jm (U ((by decide):((([119,111,114,108,100,32,49,32,58,32,49,10,116,105,99,107,32,48,10,106,111,105,110,32,50,10,115,101,110,100,32,50,32,54,56,54,57,10]:List UInt8).length:Nat):Int)=38) trivial)) fun ac wd r=>?_
 refine Bv (E':=[(2,.pt 0 0),(3,.pt 1 0),(4,.pt 2 0),(5,.pt 3 0)]) (M':=[.bx 25 [.z 1,.sl 4 (0),.sl 5 (1)],.bx 26 [.sl 6 (3)],.bx 23 [.d (.v (.slice none 0 0))],.bx 32 [.z 0],.rw 60 2 (ah []),.rw 3 1 (ints [1]),.rw 42 7 (eW [⟨1,0,0,0,0,0,[]⟩,⟨12,2,0,0,0,0,[]⟩,⟨10,2,0,0,0,0,[104,105]⟩])]) tk mo hK rfl [] 2000 [1,2,3,4,6,7,8] [2,3,4,5] r (by kernel_rfl) (by kernel_rfl) trivial ?_ ?_
 ·intro x hx;simp only [List.mem_cons,List.not_mem_nil,or_false] at hx;rcases hx with rfl | rfl | rfl | rfl<;>exact iv.pt _ _
 ·intro x hx;simp only [List.mem_cons,List.not_mem_nil,or_false] at hx;rcases hx with rfl | rfl | rfl | rfl | rfl | rfl | rfl<;>first | exact HJ _ _ _ | exact Jn _ _ _ | exact HK _ _ _ | (refine ju.bx fun c hc=>?_;simp only [List.mem_cons,List.not_mem_nil,or_false] at hc;first | (subst hc;first | exact iv.v _ | exact iv.sl _ _) | (rcases hc with rfl | rfl | rfl<;>first | exact iv.v _ | exact iv.sl _ _))
end Go.Proofs.YtcnpikbbmbombaaGreatDoor
namespace Go.Proofs.YtcnpikbbmbombaaGreatDoor
open Go.RowKit
def jS:bN:=⟨1,[],[1]⟩
def cR:List aL:=[⟨1,0,0,0,0,0,[]⟩,⟨12,2,0,0,0,0,[]⟩,⟨10,2,0,0,0,0,[104,105]⟩]
theorem Cl:bU jS=true:=w9 ⟨by decide,fun i x h=>by simp [jS] at h,fun i k x o h=>by simp [jS] at h,fun i x h=>by
  cases i with
  | zero=>simp [jS] at h;subst h;exact ⟨by decide,by decide⟩
  | succ i=>simp [jS] at h⟩
theorem Cm:dM jS cR=[1,0,1,1,1,0,12,2,10,2,2,104,105]:=by decide
theorem DR:ch jS cR=0:=jc Cl (by decide) (by rw [Cm];decide)
theorem CR:∀ s ∈ cR,s.Rd:=by
 intro s hs
 simp only [cR,List.mem_cons,List.not_mem_nil,or_false] at hs
 rcases hs with rfl | rfl | rfl<;>exact ⟨by decide,by decide⟩
theorem Ml:aE Tryz.prog 11 [.ag [.z 1,.d (.ro 2 (ah [])),.d (.ro 1 (ints [1]))],.d (.ro 7 (steps cR))] [.gw 0 aj] (.tu [.sl 1 13,.z 0]) [.gw 0 aj,.rw 5 1 (ae [1,0,1,1,1,0,12,2,10,2,2,104,105])]:=by
 have h:=BF jS cR (by decide) (by decide) (by decide) CR (by rw [DR];rfl)
 rw [Cm] at h;exact h
theorem No:j9 jS cR=[119,111,114,108,100,32,49,32,58,32,49,10,116,105,99,107,32,48,10,106,111,105,110,32,50,10,115,101,110,100,32,50,32,54,56,54,57,10]:=by
 simp [j9,aQ,cB,bo,bZ,b7,mP,jS,cR,af,eV,aV,Go.Lib.decDigits_one,eE,cx,dr]
theorem Jo:aE Tryz.prog 17 [.ag [.z 1,.d (.ro 2 (ah [])),.d (.ro 1 (ints [1]))],.d (.ro 7 (steps cR))] [.gw 0 aj,.gw 1 bc] (.tu [.d (.v (.string ⟨([119,111,114,108,100,32,49,32,58,32,49,10,116,105,99,107,32,48,10,106,111,105,110,32,50,10,115,101,110,100,32,50,32,54,56,54,57,10]:List UInt8).toArray⟩)),.z 0]) [.gw 0 aj,.gw 1 bc]:=by
 have h:=AE jS cR (by decide) (by decide) (by decide) CR (by rw [DR];rfl)
 rw [No] at h;exact h
theorem Np:ki (List.drop 4 [1,0,1,1,1,0,12,2,10,2,2,104,105])=cR:=by
 rw [rP (by decide),show bw ((List.drop 4 ([1,0,1,1,1,0,12,2,10,2,2,104,105]:List UInt8)).take 258)=(⟨1,0,0,0,0,0,[]⟩,2) from by kernel_rfl]
 rw [rP (by decide),show bw (((List.drop 4 ([1,0,1,1,1,0,12,2,10,2,2,104,105]:List UInt8)).drop 2).take 258)=(⟨12,2,0,0,0,0,[]⟩,2) from by kernel_rfl]
 rw [rP (by decide),show bw ((((List.drop 4 ([1,0,1,1,1,0,12,2,10,2,2,104,105]:List UInt8)).drop 2).drop 2).take 258)=(⟨10,2,0,0,0,0,[104,105]⟩,5) from by kernel_rfl]
 rw [show (((List.drop 4 ([1,0,1,1,1,0,12,2,10,2,2,104,105]:List UInt8)).drop 2).drop 2).drop 5=[] from by decide,uK];rfl
theorem Mm:aE Tryz.prog 15 [.d (.ro 1 (ae [1,0,1,1,1,0,12,2,10,2,2,104,105]))] [.gw 0 aj] (.tu [.ag [.z 1,.sl 1 0,.sl 2 1],.sl 3 3,.z 0]) [.gw 0 aj,.rw 60 2 (ah []),.rw 3 1 (ints [1]),.rw 42 7 (eW cR)]:=by
 have e1:gC [1,0,1,1,1,0,12,2,10,2,2,104,105]=jS:=by decide
 have h:=Ku [1,0,1,1,1,0,12,2,10,2,2,104,105] (by decide) (by decide) (by rw [e1];exact Cl)
 rw [show gE [1,0,1,1,1,0,12,2,10,2,2,104,105]=4 from by decide,Np] at h;exact h
theorem Jp:aE Tryz.prog 19 [.d (.v (.string ⟨([119,111,114,108,100,32,49,32,58,32,49,10,116,105,99,107,32,48,10,106,111,105,110,32,50,10,115,101,110,100,32,50,32,54,56,54,57,10]:List UInt8).toArray⟩))] [.gw 0 aj] (.tu [.ag [.z 1,.sl 5 0,.sl 6 1],.sl 7 3,.d (.v (.slice none 0 0)),.z 0]) [.gw 0 aj,.bx 25 [.z 1,.sl 5 0,.sl 6 1],.bx 26 [.sl 7 3],.bx 23 [.d (.v (.slice none 0 0))],.bx 32 [.z 0],.rw 60 2 (ah []),.rw 3 1 (ints [1]),.rw 42 7 (eW cR)]:=HL
end Go.Proofs.YtcnpikbbmbombaaGreatDoor
namespace Go.Proofs.YtcnpikbbmbombaaGreatDoor
open Go.RowKit
set_option maxRecDepth 100000 in
theorem KJ :aE Tryz.prog 8 [] [.gw 0 aj,.gw 1 bc] (mapA (·+([.gw 0 aj,.gw 1 bc]:List ai).length) (.d (.v (.bool true)))) ([.gw 0 aj,.gw 1 bc]++List.map (fp (·+([.gw 0 aj,.gw 1 bc]:List ai).length)) ([])):=by
 refine aE.IG (x:=.d (.v (.bool true))) (M':=[]) rfl (by kernel_rfl) rfl rfl 90 rfl rfl fun w0 K ac hK r=>?_
 have r:=r.mark
 refine Cv (todo':=aft Tryz.f8 2) (E':=[(0,.d (.v (.bool false))),(1,.pt 3 0),(2,.sl 5 (3))]) (M':=[.gw 0 aj,.gw 1 bc,.rw 3 1 ([[.z 1]]),.bx 25 [.z 1,.d (.v (.slice none 0 0)),.sl 2 (1)],.dead,.rw 42 7 ([[.z 1,.z 0,.z 0,.z 0,.z 0,.v (.int .u64 0),.v (.slice none 0 0)],[.z 12,.z 2,.z 0,.z 0,.z 0,.v (.int .u64 0),.v (.slice none 0 0)],[.z 10,.z 2,.z 0,.z 0,.z 0,.v (.int .u64 0),.ro 1 ([[.v (.int .u8 104)],[.v (.int .u8 105)]])]])]) tk mo hK [] 6 [0,1,2,3,4,5] [0,1,2] r (by kernel_rfl) (U ((by simp):(2)=([[.v (.int .u8 104)],[.v (.int .u8 105)]]:List (List DV)).length) (U ((by simp):0<(2)) trivial)) fun ac wd r=>?_
 have r:=r.fG (E1:=[(0,.d (.v (.bool false))),(1,.pt 3 0),(2,.sl 5 (3))]) (M1:=[.gw 0 aj,.gw 1 bc,.rw 3 1 ([[.z 1]]),.bx 25 [.z 1,.d (.v (.slice none 0 0)),.sl 2 (1)],.dead,.rw 42 7 ([[.z 1,.z 0,.z 0,.z 0,.z 0,.v (.int .u64 0),.v (.slice none 0 0)],[.z 12,.z 2,.z 0,.z 0,.z 0,.v (.int .u64 0),.v (.slice none 0 0)],[.z 10,.z 2,.z 0,.z 0,.z 0,.v (.int .u64 0),.ro 1 ([[.v (.int .u8 104)],[.v (.int .u8 105)]])]])]) (M2:=[.gw 0 aj,.gw 1 bc,.rw 3 1 ([[.z 1]]),.bx 25 [.z 1,.sl 6 (0),.sl 2 (1)],.dead,.rw 42 7 ([[.z 1,.z 0,.z 0,.z 0,.z 0,.v (.int .u64 0),.v (.slice none 0 0)],[.z 12,.z 2,.z 0,.z 0,.z 0,.v (.int .u64 0),.v (.slice none 0 0)],[.z 10,.z 2,.z 0,.z 0,.z 0,.v (.int .u64 0),.ro 1 ([[.v (.int .u8 104)],[.v (.int .u8 105)]])]]),.rw 60 2 ([])]) [] [(3,1,60,2)] (by kernel_rfl) (by kernel_rfl)
 have r:=(r.less (rows':=steps cR) 5 rfl (k5.cons (c7.cons (Le.refl _) (c7.cons (Le.refl _) (c7.cons (Le.refl _) (c7.cons (Le.refl _) (c7.cons (Le.refl _) (c7.cons (Le.refl _) (c7.cons (Le.sN _) c7.nil))))))) (k5.cons (c7.cons (Le.refl _) (c7.cons (Le.refl _) (c7.cons (Le.refl _) (c7.cons (Le.refl _) (c7.cons (Le.refl _) (c7.cons (Le.refl _) (c7.cons (Le.sN _) c7.nil))))))) (k5.cons (c7.cons (Le.refl _) (c7.cons (Le.refl _) (c7.cons (Le.refl _) (c7.cons (Le.refl _) (c7.cons (Le.refl _) (c7.cons (Le.refl _) (c7.cons (Le.refl _) c7.nil))))))) k5.nil)))).cast (M':=[.gw 0 aj,.gw 1 bc,.rw 3 1 ([[.z 1]]),.bx 25 [.z 1,.sl 6 (0),.sl 2 (1)],.dead,.rw 42 7 (steps cR),.rw 60 2 ([])]) rfl rfl
 have r:=r.stay (p1:=[(3)=(steps cR:List (List DV)).length]) (p2:=[(0)=([]:List (List DV)).length,(1)=([[.z 1]]:List (List DV)).length]) (E1:=[(0,.d (.v (.bool false))),(1,.pt 3 0),(2,.d (.ro 7 (c6 (steps cR))))]) (M1:=[.gw 0 aj,.gw 1 bc,.rw 3 1 ([[.z 1]]),.bx 25 [.z 1,.sl 6 (0),.sl 2 (1)],.dead,.dead,.rw 60 2 ([])]) (M2:=[.gw 0 aj,.gw 1 bc,.dead,.bx 25 [.z 1,.d (.ro 2 (c6 ([]))),.d (.ro 1 (c6 ([[.z 1]])))],.dead,.dead,.dead]) (E2:=[(0,.d (.v (.bool false))),(1,.pt 3 0),(2,.d (.ro 7 (steps cR)))]) (M3:=[.gw 0 aj,.gw 1 bc,.dead,.bx 25 [.z 1,.d (.ro 2 (ah [])),.d (.ro 1 (ints [1]))],.dead,.dead,.dead]) [2] [(3,1),(3,2)] (by kernel_rfl) (by kernel_rfl) (U ((by first | rfl | decide):(3)=(steps cR:List (List DV)).length) trivial) (U ((by first | rfl | decide):(0)=([]:List (List DV)).length) (U ((by first | rfl | decide):(1)=([[.z 1]]:List (List DV)).length) trivial)) (by rfl) (by rfl)
 refine Cv (todo':=aft Tryz.f8 3) (E':=[(0,.d (.v (.bool false))),(1,.pt 3 0),(2,.d (.ro 7 (steps cR))),(3,.sl 7 (13)),(4,.z 0)]) (M':=[.gw 0 aj,.gw 1 bc,.dead,.bx 25 [.z 1,.d (.ro 2 (ah [])),.d (.ro 1 (ints [1]))],.dead,.dead,.dead,.rw 5 1 (ae [1,0,1,1,1,0,12,2,10,2,2,104,105])]) tk mo hK [(3,[(2,.mem [0] (.tu [.sl 1 (13),.z 0]) [.gw 0 aj,.rw 5 1 (ae [1,0,1,1,1,0,12,2,10,2,2,104,105])])])] 2 [0,1,2,3,4,5,6,7] [0,1,2,3,4] r (by kernel_rfl) (U (Ml) trivial) fun ac wd r=>?_
 have r:=r.stay (p1:=[(13)=(ae [1,0,1,1,1,0,12,2,10,2,2,104,105]).length]) (p2:=[]) (E1:=[(0,.d (.v (.bool false))),(1,.pt 3 0),(2,.d (.ro 7 (steps cR))),(3,.d (.ro 1 (c6 (ae [1,0,1,1,1,0,12,2,10,2,2,104,105])))),(4,.z 0)]) (M1:=[.gw 0 aj,.gw 1 bc,.dead,.bx 25 [.z 1,.d (.ro 2 (ah [])),.d (.ro 1 (ints [1]))],.dead,.dead,.dead,.dead]) (M2:=[.gw 0 aj,.gw 1 bc,.dead,.bx 25 [.z 1,.d (.ro 2 (ah [])),.d (.ro 1 (ints [1]))],.dead,.dead,.dead,.dead]) (E2:=[(0,.d (.v (.bool false))),(1,.pt 3 0),(2,.d (.ro 7 (steps cR))),(3,.d (.ro 1 (ae [1,0,1,1,1,0,12,2,10,2,2,104,105]))),(4,.z 0)]) (M3:=[.gw 0 aj,.gw 1 bc,.dead,.bx 25 [.z 1,.d (.ro 2 (ah [])),.d (.ro 1 (ints [1]))],.dead,.dead,.dead,.dead]) [3] [] (by kernel_rfl) (by kernel_rfl) (U ((by first | rfl | decide):(13)=(ae [1,0,1,1,1,0,12,2,10,2,2,104,105]).length) trivial) trivial (by rfl) rfl
 refine Bv (E':=[(0,.d (.v (.bool true)))]) (M':=[]) tk mo hK rfl [(4,[(2,.mem [0,1] (.tu [.d (.v (.string ⟨([119,111,114,108,100,32,49,32,58,32,49,10,116,105,99,107,32,48,10,106,111,105,110,32,50,10,115,101,110,100,32,50,32,54,56,54,57,10]).toArray⟩)),.z 0]) [.gw 0 aj,.gw 1 bc])]),(5,[(1,.mem [0] (.tu [.ag [.z 1,.sl 1 (0),.sl 2 (1)],.sl 3 (3),.z 0]) [.gw 0 aj,.rw 60 2 (ah []),.rw 3 1 (ints [1]),.rw 42 7 (eW cR)])]),(6,[(1,.mem [0] (.tu [.ag [.z 1,.sl 5 (0),.sl 6 (1)],.sl 7 (3),.d (.v (.slice none 0 0)),.z 0]) [.gw 0 aj,.bx 25 [.z 1,.sl 5 (0),.sl 6 (1)],.bx 26 [.sl 7 (3)],.bx 23 [.d (.v (.slice none 0 0))],.bx 32 [.z 0],.rw 60 2 (ah []),.rw 3 1 (ints [1]),.rw 42 7 (eW cR)])]),(7,[(4,.res (.v (.string ⟨([1,0,1,1,1,0,12,2,10,2,2,104,105]).toArray⟩))),(5,.b true),(13,.b true),(27,.call [.d (.ro 7 (steps cR)),.d (.ro 7 (steps cR))] (.v (.bool true))),(41,.call [.d (.ro 7 (steps cR)),.d (.ro 7 (steps cR))] (.v (.bool true)))])] 2000 [] [0] r (by kernel_rfl) (by kernel_rfl) (U (Jo) (U (Mm) (U (Jp) (U (rfl:ae [1,0,1,1,1,0,12,2,10,2,2,104,105]=ae ([1,0,1,1,1,0,12,2,10,2,2,104,105])) (U ((by first | decide | simp):(([1,0,1,1,1,0,12,2,10,2,2,104,105]:List UInt8)==[1,0,1,1,1,0,12,2,10,2,2,104,105])=true) (U ((by first | decide | simp):(([119,111,114,108,100,32,49,32,58,32,49,10,116,105,99,107,32,48,10,106,111,105,110,32,50,10,115,101,110,100,32,50,32,54,56,54,57,10]:List UInt8)==[119,111,114,108,100,32,49,32,58,32,49,10,116,105,99,107,32,48,10,106,111,105,110,32,50,10,115,101,110,100,32,50,32,54,56,54,57,10])=true) (U (zU cR (by decide)) (U ((jj _):gv (.v (.bool true))) (U (ft (7)) (U ((by first | rfl | decide):(3)=(eW cR:List (List DV)).length) (U ((by rfl):c6 (eW cR)=steps cR) (U (nh (.ro 7 (steps cR))) (U (zU cR (by decide)) (U ((jj _):gv (.v (.bool true))) (U (ft (7)) (U ((by first | rfl | decide):(3)=(eW cR:List (List DV)).length) (U ((by rfl):c6 (eW cR)=steps cR) (U (nh (.ro 7 (steps cR))) trivial)))))))))))))))))) ?_ ?_
 ·intro x hx;simp only [List.mem_cons,List.not_mem_nil,or_false] at hx;subst hx;exact iv.v _
 ·intro x hx;simp at hx
theorem vo:aE Tryz.prog 8 [] [.gw 0 aj,.gw 1 bc] (.d (.v (.bool true))) [.gw 0 aj,.gw 1 bc]:=KJ
end Go.Proofs.YtcnpikbbmbombaaGreatDoor
namespace Go.Proofs.YtcnpikbbmbombaaGreatDoor
open Go.RowKit
set_option maxRecDepth 100000 in
theorem HM (c:bN) (l:List aL) (cG:c.ah.length+c.homes.length≤9223372036854775807) (hl:l.length≤9223372036854775807) (hr:∀ s ∈ l,s.Rd):aE Tryz.prog 5 [.ag [.z c.az,.d (.ro 2 (ah c.ah)),.d (.ro 1 (ints c.homes))],.d (.ro 7 (steps l))] [.gw 0 aj,.gw 1 bc] (.d (.v (.bool true))) ([.gw 0 aj,.gw 1 bc]):=by
 refine aE.intro (by kernel_rfl) rfl rfl 36 rfl rfl fun D w0 K bs ac wd hK (ao:bs.m=2) r=>?_
 cases h0:(ji c l) with
 | false=>
  obtain ⟨PW,Oo⟩:=Hg ‹ji c l=false›
  have aM:=((by have k:=Bw c l cG hl hr;rw [h0] at k;exact k):al Tryz.prog 7 [.ag [.z c.az,.d (.ro 2 (ah c.ah)),.d (.ro 1 (ints c.homes))],.d (.ro 7 (steps l))] (.v (.bool false)))
  cases h1:(decide (ch c l=0)) with
  | false=>
   have bP:=of_decide_eq_false h1
   refine bq (y:=.d (.v (.bool true))) (N':=[.gw 0 aj,.gw 1 bc]) (rfl) (rfl) ?_
   exact bp tk mo hK rfl ao [(1,[(2,.au (.v (.bool false)))]),(3,[(2,.mem [0,1] (.tu [.d (.v (.string ⟨([]).toArray⟩)),.z (ch c l)]) [.gw 0 aj,.gw 1 bc])]),(4,[(2,.au (.tu [.v (.string ⟨([]).toArray⟩),.z (ch c l)]))]),(5,[(2,.b true),(6,.b true),(9,.mem [0,1] (.d (.v (.bool true))) [.gw 0 aj,.gw 1 bc])])] 2000 [0,1] r (by kernel_rfl) (U aM (U (Nn c l (by omega) (by omega) hl hr h1) (U (Mj c l (by omega) (by omega) (by omega) hr h1) (U ((by simp):((ch c l:Int)==ch c l)=true) (U ((by first | decide | simp):(([]:List UInt8)==[])=true) (U (vo) trivial))))))
  | true=>
   have bP:=of_decide_eq_true h1
   refine bq (y:=.d (.v (.bool true))) (N':=[.gw 0 aj,.gw 1 bc]) (rfl) (rfl) ?_
   exact bp tk mo hK rfl ao [(1,[(2,.au (.v (.bool false)))]),(3,[(2,.mem [0,1] (.tu [.d (.v (.string ⟨(j9 c l).toArray⟩)),.z 0]) [.gw 0 aj,.gw 1 bc])]),(4,[(2,.au (.tu [.v (.string ⟨(j9 c l).toArray⟩),.z 0]))]),(5,[(6,.b true),(9,.mem [0,1] (.d (.v (.bool true))) [.gw 0 aj,.gw 1 bc])])] 2000 [0,1] r (by kernel_rfl) (U aM (U (AE c l (by omega) (by omega) hl hr h1) (U (Gd c l (by omega) (by omega) (by omega) hr h1) (U ((by simp):((j9 c l)==(j9 c l))=true) (U (vo) trivial)))))
 | true=>
  refine bq (y:=.d (.v (.bool true))) (N':=[.gw 0 aj,.gw 1 bc]) (rfl) (rfl) ?_
  exact bp tk mo hK rfl ao [(1,[(2,.au (.v (.bool true)))]),(2,[(0,.mem [0,1] (.d (.v (.bool true))) [.gw 0 aj,.gw 1 bc])])] 2000 [0,1] r (by kernel_rfl) (U ((by have k:=Bw c l cG hl hr;rw [h0] at k;exact k):al Tryz.prog 7 [.ag [.z c.az,.d (.ro 2 (ah c.ah)),.d (.ro 1 (ints c.homes))],.d (.ro 7 (steps l))] (.v (.bool true))) (U (vo) trivial))
end Go.Proofs.YtcnpikbbmbombaaGreatDoor
namespace Go.Proofs.YtcnpikbbmbombaaGreatDoor
open Go.RowKit
open Go.Deep
variable {w:World}
def Rs (P:Program) (w:World) (fs:List Field) (off tot:Nat) {α:Type} (row:α→List DV) (ok:α→Prop):Prop:=∀ cs:List Value,cs.length=tot→(∀ f ∈ fs,TR P w f.type ((cs.drop f.offset).take (P.cellsOf f.type)))→∃ x,ok x∧jY w (row x) (cs.drop off)
theorem Rs.nil {P:Program} {tot:Nat}:Rs P w [] tot tot (fun _:Unit=>[]) fun _=>True:=fun cs hl _=>⟨(),trivial,by rw [List.drop_of_length_le (by omega)];exact ⟨rfl,by simp⟩⟩
theorem Rs.cons {P:Program} {f:Field} {fs:List Field} {off k tot:Nat} {α β:Type} {qH:α→List DV} {CS:β→List DV} {DS:α→Prop} {DT:β→Prop} (h0:f.offset=off) (hk:P.cellsOf f.type=k) (r:Rd P w f.type qH DS) (rs:Rs P w fs (off+k) tot CS DT):Rs P w (f::fs) off tot (fun x:α×β=>qH x.1++CS x.2) fun x=>DS x.1∧DT x.2:=fun cs hl hf=>by
 have a0:=hf f List.mem_cons_self
 rw [h0,hk] at a0
 obtain ⟨x,b0,c0⟩:=r _ a0
 obtain ⟨y,b1,c1⟩:=rs cs hl fun g hg=>hf g (List.mem_cons_of_mem _ hg)
 refine ⟨(x,y),⟨b0,b1⟩,?_⟩
 have:=c0.app c1
 rwa [← List.drop_drop,List.take_append_drop] at this
theorem Rd.struct {P:Program} {t tot:Nat} {fs:List Field} {α:Type} {row:α→List DV} {ok:α→Prop} (h:P.underlying t=some (.struct fs.toArray)) (ht:P.cellsOf t=tot) (rs:Rs P w fs 0 tot row ok):Rd P w t row ok:=fun cs hc=>by
 obtain ⟨hl,hf⟩:=hc.struct h
 obtain ⟨x,h1,h2⟩:=rs cs (by omega) (by simpa using hf)
 exact ⟨x,h1,by simpa using h2⟩
theorem mapM_at {α β:Type} {f:α→Option β}:∀ {l:List α} {r:List β},l.mapM f=some r→∀ (j:Nat) x,l[j]?=some x→∃ y,r[j]?=some y∧f x=some y
 | [],_,_,j,x,hx=>by simp at hx
 | z::l,r,h,j,x,hx=>by
  rw [List.mapM_cons] at h
  obtain ⟨y,h1,h2⟩:=Option.bind_eq_some_iff.1 h
  obtain ⟨ys,h3,h4⟩:=Option.bind_eq_some_iff.1 h2
  obtain rfl:y::ys=r:=Option.some.inj h4
  cases j with
  | zero=>simp at hx;subst hx;exact ⟨y,rfl,h1⟩
  | succ j=>simp at hx;obtain ⟨y',h5,h6⟩:=mapM_at h3 j x hx;exact ⟨y',by simpa using h5,h6⟩
def TZ (P:Program) (w:World) (t:TypeId) (cs:List Value) (cap:Nat):Prop:=∃ (H:Type) (enc:TypeId×Value→H) (base:Nat) (sp:Nat→Bool) (held:Bool) (fuel:Nat) (x:DataW H×List MemPlace),DataW.trod enc P w base sp held fuel t cs=some x∧∀ n ∈ x.1.weights P t,n≤cap
section
variable {P:Program} {t e:TypeId} {cs:List Value} {cap:Nat}
theorem TZ.of {H:Type} {enc:TypeId×Value→H} {base:Nat} {sp:Nat→Bool} {held:Bool} {v:Value} {d:DataW H} {ps:List MemPlace} (h:DataW.Trod enc P w base sp held t v d ps) (hw:∀ n ∈ d.weights P t,n≤cap):TZ P w t v.cells.toList cap:=by
 obtain ⟨n,h⟩:=h;exact ⟨H,enc,base,sp,held,n,_,h,hw⟩
theorem TZ.tr (h:TZ P w t cs cap):TR P w t cs:=by
 obtain ⟨H,enc,base,sp,held,fuel,x,h,-⟩:=h;exact ⟨H,enc,base,sp,held,fuel,x,h⟩
theorem TZ.struct {fs:Array Field} (ht:P.underlying t=some (.struct fs)) (h:TZ P w t cs cap):∀ f ∈ fs.toList,TZ P w f.type ((cs.drop f.offset).take (P.cellsOf f.type)) cap:=by
 obtain ⟨H,enc,base,sp,held,fuel,x,h,hw⟩:=h
 cases fuel with
 | zero=>simp [DataW.trod] at h
 | succ fuel=>
  rw [DataW.trod_step] at h;unfold DataW.trodStep at h;simp only [ht] at h
  split at h
  ·intro f hf
   obtain ⟨j,hj,rfl⟩:=List.mem_iff_getElem.1 hf
   obtain ⟨xs,h1,rfl⟩:=Option.map_eq_some_iff.1 h
   obtain ⟨y,hy,yH⟩:=mapM_at h1 j _ (List.getElem?_eq_getElem hj)
   refine ⟨H,enc,base,sp,held,fuel,y,yH,fun n hn=>hw n ?_⟩
   simp only [DataW.weights,ht]
   exact DataW.weights_mem_each (j:=j) (by rw [List.getElem?_map,List.getElem?_eq_getElem hj];rfl) (by rw [List.getElem?_map,hy];rfl) n hn
  ·simp at h
theorem TZ.slice (ht:P.underlying t=some (.slice e)) (hb:1≤P.bytesOf e) {a:Option Addr} {n c:Nat} (h:TZ P w t [.slice a n c] cap):n≤cap:=by
 obtain ⟨H,enc,base,sp,held,fuel,x,h,hw⟩:=h
 rcases open_slice ht h with ⟨h0,_⟩ | ⟨a',len,O6,m,n',D,Pl,h0,_,DA,MS,hm,rfl,hx⟩
 ·simp at h0;omega
 ·simp at h0
  obtain ⟨-,rfl,-⟩:=h0
  have:=hw _ (by simp only [DataW.weights,ht];exact List.mem_cons_self)
  simp at this
  exact Nat.le_trans (Nat.le_trans (Nat.le_add_right n _) (Nat.le_mul_of_pos_right _ hb)) this
end
theorem Rd.pair {P:Program} {t e:TypeId} (h:P.underlying t=some (.array 2 e)) (he:P.underlying e=some (.int .i64)) (hc:P.cellsOf e=1) (ht:P.cellsOf t=2):Rd P w t (fun x:Int×Int=>[.z x.1,.z x.2]) fun _=>True:=fun cs hr=>by
 obtain ⟨hl,hi⟩:=TR.array h hr
 rw [ht] at hl
 have a0:=hi 0 (by omega)
 have a1:=hi 1 (by omega)
 rw [hc] at a0 a1
 match cs,hl with
 | [x,y],_=>
  obtain ⟨m,-,c0⟩:=(Rd.int he) _ a0
  obtain ⟨k,-,c1⟩:=(Rd.int he) _ a1
  exact ⟨(m,k),trivial,c0.app c1⟩
def sE (c:bN):List DV:=[.z c.az,.ro 2 (ah c.ah),.ro 1 (ints c.homes)]
theorem rdPair:Rd Tryz.prog w 60 (fun x:Int×Int=>[.z x.1,.z x.2]) fun _=>True:=Rd.pair (e:=3) (by kernel_rfl) (by kernel_rfl) (by kernel_rfl) (by kernel_rfl)
theorem Mn:Rd Tryz.prog w 25 sE fun _=>True:=
 (Rd.struct (fs:=[⟨"Servers",3,0,false, "", "",0⟩,⟨"Links",22,1,false, "", "",8⟩,⟨"Homes",23,2,false, "", "",32⟩]) (tot:=3) (by kernel_rfl) (by kernel_rfl)
  (Rs.cons rfl (k:=1) (by kernel_rfl) (Rd.int (by kernel_rfl)) (Rs.cons rfl (k:=1) (by kernel_rfl) (Rd.slice (e:=60) (by kernel_rfl) (by kernel_rfl) rdPair) (Rs.cons rfl (k:=1) (by kernel_rfl) (Rd.slice (e:=3) (by kernel_rfl) (by kernel_rfl) (Rd.int (by kernel_rfl))) Rs.nil)))).map
  (fun x=>⟨x.1,x.2.1,x.2.2.1⟩) (fun _=>rfl) fun _ _=>trivial
theorem Mp:Rd Tryz.prog w 42 aL.row aL.Rd:=
 (Rd.struct (fs:=[⟨"Kind",3,0,false, "", "",0⟩,⟨"Node",3,1,false, "", "",8⟩,⟨"Peer",3,2,false, "", "",16⟩,⟨"N",3,3,false, "", "",24⟩,⟨"Bit",3,4,false, "", "",32⟩,⟨"Inc",40,5,false, "", "",40⟩,⟨"Body",31,6,false, "", "",48⟩]) (tot:=7) (by kernel_rfl) (by kernel_rfl)
  (Rs.cons rfl (k:=1) (by kernel_rfl) (Rd.int (by kernel_rfl)) (Rs.cons rfl (k:=1) (by kernel_rfl) (Rd.int (by kernel_rfl)) (Rs.cons rfl (k:=1) (by kernel_rfl) (Rd.int (by kernel_rfl)) (Rs.cons rfl (k:=1) (by kernel_rfl) (Rd.int (by kernel_rfl)) (Rs.cons rfl (k:=1) (by kernel_rfl) (Rd.int (by kernel_rfl)) (Rs.cons rfl (k:=1) (by kernel_rfl) (Rd.u64 (by kernel_rfl)) (Rs.cons rfl (k:=1) (by kernel_rfl) (Rd.slice (e:=5) (by kernel_rfl) (by kernel_rfl) (Rd.byte (by kernel_rfl))) Rs.nil)))))))).map
  (fun x=>⟨x.1,x.2.1,x.2.2.1,x.2.2.2.1,x.2.2.2.2.1,x.2.2.2.2.2.1,x.2.2.2.2.2.2.1⟩) (fun _=>rfl) fun x h=>⟨h.2.2.2.2.2.2.1.1,h.2.2.2.2.2.1⟩
theorem HN:∀ {cs:List Value},cs.length=3→∃ x y z,cs=[x,y,z]
 | [x,y,z],_=>⟨x,y,z,rfl⟩
instance:Inhabited aL:=⟨⟨0,0,0,0,0,0,[]⟩⟩
theorem Jq:Rd Tryz.prog w 26 (fun l:List aL=>[.ro 7 (steps l)]) fun l=>l.length≤9223372036854775807∧∀ s ∈ l,s.Rd:=Rd.slice (e:=42) (by kernel_rfl) (by kernel_rfl) Mp
theorem HO {cs:List Value} {cap:Nat} (h:TZ Tryz.prog w 25 cs cap):∃ c:bN,jY w (sE c) cs∧c.ah.length≤cap∧c.homes.length≤cap:=by
 obtain ⟨c,-,hr⟩:=Mn cs h.tr
 have hf:=TZ.struct (fs:=#[⟨"Servers",3,0,false, "", "",0⟩,⟨"Links",22,1,false, "", "",8⟩,⟨"Homes",23,2,false, "", "",32⟩]) (by kernel_rfl) h
 obtain ⟨x,y,z,rfl⟩:=HN hr.1
 have ha:=hf ⟨"Links",22,1,false, "", "",8⟩ (by simp)
 have hb:=hf ⟨"Homes",23,2,false, "", "",32⟩ (by simp)
 rw [show Tryz.prog.cellsOf (⟨"Links",22,1,false, "", "",8⟩:Field).type=1 by kernel_rfl] at ha
 rw [show Tryz.prog.cellsOf (⟨"Homes",23,2,false, "", "",32⟩:Field).type=1 by kernel_rfl] at hb
 refine ⟨c,hr,?_,?_⟩
 ·have d:=hr.2 1 (.ro 2 (ah c.ah)) y rfl rfl
  cases d with | ro X h1 h2 h3 h4=>
  obtain ⟨a,k,rfl,-⟩:=h2
  have:=TZ.slice (e:=60) (by kernel_rfl) (Nat.le_of_ble_eq_true (by kernel_rfl)) ha
  simpa [ah] using this
 ·have d:=hr.2 2 (.ro 1 (ints c.homes)) z rfl rfl
  cases d with | ro X h1 h2 h3 h4=>
  obtain ⟨a,k,rfl,-⟩:=h2
  have:=TZ.slice (e:=3) (by kernel_rfl) (Nat.le_of_ble_eq_true (by kernel_rfl)) hb
  simpa [ints] using this
end Go.Proofs.YtcnpikbbmbombaaGreatDoor
namespace Go.Proofs.YtcnpikbbmbombaaGreatDoor
open Go.RowKit
def mB (F:TypeId→DataW Unit→Option (List Value)) (P:Program) (tot:Nat):List (TypeId×Nat)→List (DataW Unit)→Nat→Option (List Value)
 | [],[],off=>if off=tot then some [] else none
 | q::L,d::ds,off=>if q.2=off then (F q.1 d).bind fun X=>(mB F P tot L ds (off+P.cellsOf q.1)).map fun Y=>X++Y else none
 | _,_,_=>none
def mC (P:Program):Nat→TypeId→DataW Unit→Option (List Value)
 | 0,_,_=>none
 | _+1,t,.lit l=>match P.underlying t,l with
  | some .bool,.bool b=>some [.bool b]
  | some (.int _),.int k m=>some [.int k m]
  | some .string,.string s=>some [.string ⟨s.toArray⟩]
  | _,_=>none
 | n+1,t,.agg ps=>match P.underlying t with
  | some (.struct fs)=>mB (mC P n) P (P.cellsOf t) (fs.toList.map fun f=>(f.type,f.offset)) ps 0
  | some (.array m e)=>mB (mC P n) P (P.cellsOf t) ((List.range m).map fun i=>(e,i*P.cellsOf e)) ps 0
  | _=>none
 | _+1,_,_=>none
theorem uM {F:TypeId→DataW Unit→Option (List Value)} {P:Program} {tot:Nat} {cs:List Value} (hl:cs.length=tot):∀ {L:List (TypeId×Nat)} {ds:List (DataW Unit)} {off:Nat} {X:List Value},(∀ (j:Nat) q d,L[j]?=some q→ds[j]?=some d→∀ X,F q.1 d=some X→(cs.drop q.2).take (P.cellsOf q.1)=X)→mB F P tot L ds off=some X→cs.drop off=X
 | [],[],off,X,_,h=>by
  unfold mB at h
  split at h
  ·simp at h;subst h;rename_i e;exact List.drop_of_length_le (by omega)
  ·simp at h
 | q::L,d::ds,off,X,hq,h=>by
  unfold mB at h
  split at h
  ·rename_i e
   obtain ⟨X0,h0,h1⟩:=Option.bind_eq_some_iff.1 h
   obtain ⟨Y,h2,rfl⟩:=Option.map_eq_some_iff.1 h1
   have a:=hq 0 q d rfl rfl X0 h0
   have b:=uM hl (fun j q' d' g1 g2=>hq (j+1) q' d' (by simpa using g1) (by simpa using g2)) h2
   rw [e] at a
   rw [← a,← b,← List.drop_drop,List.take_append_drop]
  ·simp at h
 | [],_::_,_,_,_,h=>by simp [mB] at h
 | _::_,[],_,_,_,h=>by simp [mB] at h
theorem HP {P:Program} {w:World} {enc:TypeId×Value→Unit} {base:Nat} {sp:Nat→Bool} {held:Bool}:∀ {n fuel:Nat} {t:TypeId} {cs:List Value} {d:DataW Unit} {p:List MemPlace} {X:List Value},DataW.trod enc P w base sp held fuel t cs=some (d,p)→mC P n t d=some X→cs=X:=by
 intro n
 induction n with
 | zero=>intro fuel t cs d p X _ h;simp [mC] at h
 | succ n ih=>
  intro fuel t cs d p X h hf
  cases fuel with
  | zero=>simp [DataW.trod] at h
  | succ fuel=>
   cases d with
   | lit l=>
    unfold mC at hf
    split at hf
    ·rename_i ht
     rw [DataW.trod_step] at h;unfold DataW.trodStep at h;simp only [ht] at h
     split at h<;>simp_all
    ·rename_i ht
     rw [DataW.trod_step] at h;unfold DataW.trodStep at h;simp only [ht] at h
     split at h<;>simp_all
    ·rename_i ht
     rw [DataW.trod_step] at h;unfold DataW.trodStep at h;simp only [ht] at h
     split at h<;>try simp_all
     rename_i s _ _ _ _
     obtain ⟨-,rfl,-⟩:=h
     subst hf
     simp
    ·simp at hf
   | agg ps=>
    unfold mC at hf
    split at hf
    ·rename_i fs ht
     rw [DataW.trod_step] at h;unfold DataW.trodStep at h;simp only [ht] at h
     split at h
     ·rename_i hlen
      obtain ⟨xs,h1,h2⟩:=Option.map_eq_some_iff.1 h
      simp only [Prod.mk.injEq,DataW.agg.injEq] at h2
      obtain ⟨rfl,-⟩:=h2
      have:=uM hlen (fun j q d g1 g2 Y gY=>?_) hf
      ·simpa using this
      ·rw [List.getElem?_map] at g1 g2
       obtain ⟨f,g3,rfl⟩:=Option.map_eq_some_iff.1 g1
       obtain ⟨y,g4,rfl⟩:=Option.map_eq_some_iff.1 g2
       obtain ⟨y',g5,g6⟩:=mapM_at h1 j f g3
       obtain rfl:y'=y:=Option.some.inj (g5.symm.trans g4)
       exact ih (d:=y'.1) (p:=y'.2) g6 gY
     ·simp at h
    ·rename_i m e ht
     rw [DataW.trod_step] at h;unfold DataW.trodStep at h;simp only [ht] at h
     split at h
     ·rename_i hlen
      obtain ⟨xs,h1,h2⟩:=Option.map_eq_some_iff.1 h
      simp only [Prod.mk.injEq,DataW.agg.injEq] at h2
      obtain ⟨rfl,-⟩:=h2
      have:=uM hlen (fun j q d g1 g2 Y gY=>?_) hf
      ·simpa using this
      ·rw [List.getElem?_map] at g1 g2
       obtain ⟨f,g3,rfl⟩:=Option.map_eq_some_iff.1 g1
       obtain ⟨y,g4,rfl⟩:=Option.map_eq_some_iff.1 g2
       obtain ⟨y',g5,g6⟩:=mapM_at h1 j f g3
       obtain rfl:y'=y:=Option.some.inj (g5.symm.trans g4)
       exact ih (d:=y'.1) (p:=y'.2) g6 gY
     ·simp at h
    ·simp at hf
   | _=>simp [mC] at hf
theorem zf {P:Program} {w:World}:∀ {l:List (String×DataW Unit)} {ps:List MemPlace},DataW.LaidVars P w l ps→∀ {n:String} {d:DataW Unit},(n,d) ∈ l→∃ g t cs fuel p,P.globalNamed n=some g∧(P.globals[g]?).map (·.type)=some t∧w.var? P n=some cs∧DataW.trod (fun _=>()) P w 0 (fun _=>true) false fuel t cs.toList=some (d,p)
 | [],_,_,_,_,hm=>by simp at hm
 | (n0,d0)::r,ps,h,n,d,hm=>by
  obtain ⟨g,t,cs,fuel,p,q,e1,e2,e3,e4,hr,rfl⟩:=h
  rcases List.mem_cons.1 hm with e | hm
  ·obtain ⟨rfl,rfl⟩:=Prod.mk.inj e;exact ⟨g,t,cs,fuel,p,e1,e2,e3,e4⟩
  ·exact zf hr hm
def x2:DV→Value
 | .v x=>x
 | _=>.bool false
def CT:DV→Bool
 | .v _=>true
 | _=>false
theorem Bg {P:Program} {w:World} {laid:List (String×DataW Unit)} (h:laidMet P laid w) {n:String} {d:DataW Unit} (hm:(n,d) ∈ laid) {g t:Nat} (k:Nat) {row:List DV} (hg:P.globalNamed n=some g) (ht:(P.globals[g]?).map (·.type)=some t) (hf:mC P k t d=some (row.map x2)) (hv:row.all CT=true) {u:Nat}:bF (Gr w) [] u (.gw g row) []:=by
 obtain ⟨ps,hl,-⟩:=h
 obtain ⟨g',t',cs,fuel,p,e1,e2,e3,e4⟩:=zf hl hm
 obtain rfl:g=g':=Option.some.inj (hg.symm.trans e1)
 obtain rfl:t=t':=Option.some.inj (ht.symm.trans e2)
 have hX:=HP e4 hf
 refine .gw (row.map x2) (by simp) (fun w' hw j x hx=>hw.sF ?_) fun j c x hc hx=>?_
 ·unfold World.var? at e3
  rw [hg,Option.bind_some] at e3
  split at e3
  ·rename_i bW t' fr hh
   obtain rfl:=Option.some.inj e3
   rw [← hX] at hx
   have h0:((⟨g,0,none⟩:Addr).add j)=⟨g,j,none⟩:=by simp [Addr.add];omega
   rw [h0]
   simp only [World.cell?,hh]
   simpa using hx
  ·simp at e3
 ·have hb:=List.all_eq_true.1 hv c (List.mem_of_getElem? hc)
  rw [List.getElem?_map,hc] at hx
  cases c<;>simp [CT] at hb
  simp [x2] at hx
  subst hx
  exact .v _
section
variable {w:World} {laid:List (String×DataW Unit)}
theorem Mq:Tryz.prog.globalNamed "caucus/script.shapes"=some 0:=by kernel_rfl
theorem Mr:Tryz.prog.globalNamed "internal/strconv.uint64pow10"=some 1:=by kernel_rfl
end
end Go.Proofs.YtcnpikbbmbombaaGreatDoor
namespace Go.Proofs.YtcnpikbbmbombaaGreatDoor
open Go.ChangeShapes Go.WideShapes Go.ChangeAt Go.RowKit
theorem Tryz.laidOut:laidOutB Tryz.prog=true:=by kernel_rfl
theorem Tryz.own:ownKnob Tryz.prog.godebug=none:=by kernel_rfl
theorem Mt {w:World} {laid:List (String×DataW Unit)} (h:laidMet Tryz.prog laid w) (h0:("caucus/script.shapes",Rows.laid_caucus_script_shapes) ∈ laid) (h1:("internal/strconv.uint64pow10",Rows.laid_internal_strconv_uint64pow10) ∈ laid):sO [.gw 0 aj,.gw 1 bc] (Gr w):=fun u blk hu=>by
 match u,hu with
 | 0,hu=>cases hu;exact Bg h h0 (t:=95) 5 Mq (by kernel_rfl) (by kernel_rfl) (by kernel_rfl)
 | 1,hu=>cases hu;exact Bg h h1 (t:=158) 5 Mr (by kernel_rfl) (by kernel_rfl) (by kernel_rfl)
 | k+2,hu=>simp at hu
theorem KK {w:World} {c:bN} {cs:Array Value} (h:jY w (sE c) (Value.agg cs).cells.toList):ax (Gr w) [] (.ag [.z c.az,.d (.ro 2 (ah c.ah)),.d (.ro 1 (ints c.homes))]) (.agg cs):=by
 obtain ⟨l⟩:=cs
 refine .ag l h.1 fun j x y h1 h2=>?_
 have e:([.z c.az,.d (.ro 2 (ah c.ah)),.d (.ro 1 (ints c.homes))]:List AV)=(sE c).map AV.d:=rfl
 rw [e,List.getElem?_map] at h1
 obtain ⟨x',h3,rfl⟩:=Option.map_eq_some_iff.1 h1
 exact .d (h.2 j x' y h3 h2)
theorem HQ {w:World} {l:List aL} {v:Value} {a:Option Addr} {n c:Nat} (e:v=.slice a n c) (h:jY w [.ro 7 (steps l)] v.cells.toList):ax (Gr w) [] (.d (.ro 7 (steps l))) v:=by
 subst e
 exact .d (h.2 0 _ _ rfl rfl)
end Go.Proofs.YtcnpikbbmbombaaGreatDoor
namespace Go.Proofs.YtcnpikbbmbombaaGreatDoor
open Go.ChangeShapes Go.WideShapes Go.ChangeAt Go.RowKit
theorem Ge:Tryz.prog.funcs.any Func.goes=false:=by kernel_rfl
theorem Jr {P:Program} (h:P.funcs.any Func.goes=false) (f:FuncId):P.goes f=false:=by
 have h1:∀ (g:Nat) fn,P.funcs[g]?=some fn→fn.goes=false:=fun g fn hg=>by
  have:=Array.any_eq_false.1 h g (Array.getElem?_eq_some_iff.1 hg).1
  obtain ⟨aO,rfl⟩:=Array.getElem?_eq_some_iff.1 hg
  simpa using this
 unfold Program.goes
 rw [h,Bool.and_false,Bool.or_false,List.any_eq_false]
 intro g _
 cases hg:P.funcs[g]? with
 | none=>simp
 | some fn=>simp [h1 g fn hg]
theorem Gf {P:Program} {c:OpenClaim} (hs:c.start=.entering) (h:P.funcs.any Func.goes=false):false=c.goesBy P:=by
 unfold OpenClaim.goesBy Program.goesAt Program.goesFrom
 rw [hs]
 cases P.funcNamed c.func with
 | none=>rfl
 | some f=>simp [Jr h f]
end Go.Proofs.YtcnpikbbmbombaaGreatDoor
namespace Go.Proofs.YtcnpikbbmbombaaGreatDoor
open Go.ChangeShapes Go.WideShapes Go.ChangeAt Go.RowKit
set_option maxRecDepth 100000 in
theorem DU (os:Os) (started:os.Started) (H:Type) (enc:TypeId×Value→H):
  ReturnsInHanded {} Tryz.checked os 5 .any (fun w args=>(Rows.scriptPrintsSpec.pre enc Tryz.prog Tryz.f5 [] false w args∧laidMetH Tryz.prog Rows.scriptPrintsRow.laid w)∧sizedMet enc Tryz.prog Tryz.f5 (OpenSpec.ofChange Rows.scriptPrintsSpec) false w args)
   (Rows.scriptPrintsSpec.post enc Tryz.prog Tryz.f5 false true false false):=by
 refine returnsInHanded_of_change_and (C:=Tryz.checked) (X:=fun w _=>laidMetH Tryz.prog Rows.scriptPrintsRow.laid w) (fun _ _ _ hh h=>h.of_heap hh) Tryz.own started (by kernel_rfl) Tryz.func5
  (ChangeSpec.witness_shaped (enc:=enc) (C:=Tryz.checked) (os:=os) (X:=fun w _=>laidMetH Tryz.prog Rows.scriptPrintsRow.laid w) false (World.laidAll Tryz.prog os Rows.scriptPrintsRow.laid) #[.agg #[.int .i64 0,.slice none 0 0,.slice none 0 0],.slice none 0 0] 8 (World.laidAll_os _ _ _) (World.shaped_of_ZipB (by kernel_rfl) (by kernel_rfl)) (by kernel_rfl) (by kernel_rfl) (by kernel_rfl)
   (by rw [MakeChecks.laidMetH_plain _ _ _ (by kernel_rfl)];exact laidMet_laidAll _ (by kernel_rfl) (by kernel_rfl))) ?_
 intro W base args ds gs before Mu hW _ bA hX _
 have yK:DataW.Whole enc Tryz.prog Tryz.f5.params.toList Rows.scriptPrintsSpec.vars false W args.toList ds gs before:=hW
 obtain ⟨p,q,ON,hV,rfl,ey,gD⟩:=hW
 have hA:DataW.TrodAll enc Tryz.prog W 0 (fun _=>true) true Tryz.f5.params.toList args.toList ds p:=ON
 have lz:∀ (j:Nat) t v,Tryz.f5.params[j]?=some t→args[j]?=some v→Value.okWide Tryz.prog W .any base t v:=Mu
 rw [Tryz.params5] at hA lz
 obtain ⟨v0,PX,d0,PY,p0,q0,OO,rfl,rfl,h0,r0⟩:=trodAll_cons hA
 obtain ⟨v1,PZ,d1,P0,p1,q1,KL,rfl,rfl,h1,r1⟩:=trodAll_cons r0
 subst KL
 obtain ⟨rfl,rfl,rfl⟩:=trodAll_nil r1
 obtain rfl:args=#[v0,v1]:=by cases args;simp_all
 obtain ⟨rfl,rfl⟩:=trodVars_none hV
 have P1:=reachBytes_lt
 have yo:∀ n ∈ d0.weights Tryz.prog 25,n≤reachBytes:=fun n hn=>by simpa using List.all_eq_true.1 bA n (DataW.weights_mem_each (j:=0) (by rw [Tryz.params5];rfl) rfl n hn)
 obtain ⟨P2,rfl,-,-⟩:∃ cs,v0=.agg cs∧_∧_:=by have:=lz 0 25 v0 rfl rfl;rw [Value.okWide,Tryz.underlying25] at this;exact this
 obtain ⟨c,hc,fK,iz⟩:=HO (TZ.of h0 yo)
 obtain ⟨a1,n1,c1,ea⟩:=okWide_slice (P:=Tryz.prog) (e:=42) (by kernel_rfl) (lz 1 26 v1 rfl rfl)
 obtain ⟨l,⟨hl,hr⟩,hs⟩:=Jq _ (TR.of h1)
 refine (aE.JQ (HM c l (by omega) hl hr) (Mt ((MakeChecks.laidMetH_plain _ _ _ (by kernel_rfl)).mp hX) (by simp [Rows.scriptPrintsRow]) (by simp [Rows.scriptPrintsRow])) (ys:=[_,_]) rfl fun j x y e1 e2=>?_).mono fun e W' ⟨he,hg⟩=>?_
 ·match j,e1,e2 with
  | 0,e1,e2=>cases e1;cases e2;exact KK hc
  | 1,e1,e2=>cases e1;cases e2;exact HQ ea hs
  | k+2,e1,e2=>simp at e1
 ·subst he
  exact ⟨_,rfl,Hc Tryz.laidOut (by kernel_rfl) (by kernel_rfl) Tryz.underlying4 rfl yK rfl hg⟩
theorem DW:joinedFacts Tryz.pinned.checked.prog 5 Tryz.f5 Rows.scriptPrintsSpec Rows.scriptPrintsRow=true:=by kernel_rfl
theorem DX:Rows.ScriptPrintsSaid:=
 OpenClaim.holds_of_wide 5 Tryz.f5 rfl rfl rfl rfl rfl rfl rfl ⟨rfl,rfl,rfl,rfl,rfl⟩ rfl rfl rfl rfl rfl (by kernel_rfl) Tryz.func5 DW
  (of_decide_eq_true (by kernel_rfl)) (by unfold Func.isWrapper;first | (rw [if_pos (by decide +kernel)];kernel_rfl) | (rw [if_neg (by decide +kernel)];exact ⟨rfl,rfl⟩))
  (fun os started H enc _=>DU os started H enc)
theorem DZ:Tryz.pinned.checked.prog.wantsStandIn 25=false:=by kernel_rfl
theorem D0:Tryz.pinned.checked.prog.wantsStandIn 26=false:=by kernel_rfl
theorem scriptPrints_card:Rows.ScriptPrintsCardSaid:=
 Claim7.holds_tied_plain_at .later [] [.data,.data,.data,.data,.data,.pinned] true (true, "87fd9ac5dc35926ba142226b58e4c3bd046d15fb1e4227dfba02688f131c99bf") false DX (fun _ h=>by cases h) (by kernel_rfl) (fun _ h=>by cases h) scriptPrints_row_tie rfl ⟨rfl,rfl⟩ (by kernel_rfl) rfl
  (fun f fn hf ni=>by
   obtain rfl:f=5:=Option.some.inj ((show Tryz.prog.funcNamed "caucus/caucuslaw27.ScriptPrints"=some 5 by kernel_rfl).symm.trans hf) |>.symm
   obtain rfl:fn=Tryz.f5:=(Option.some.inj (Tryz.func5.symm.trans ni)).symm
   exact ⟨by kernel_rfl,fun j t ht=>by
    rw [Tryz.params5] at ht
    match j,ht with
    | 0,ht=>
     obtain rfl:t=25:=by simpa using ht.symm
     exact DZ
    | 1,ht=>
     obtain rfl:t=26:=by simpa using ht.symm
     exact D0
    | k+2,ht=>simp at ht⟩)
  (Gf rfl Ge)
end Go.Proofs.YtcnpikbbmbombaaGreatDoor
