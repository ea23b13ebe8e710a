/-
  graphTakes_holds, part 4 of 5: merged by program from the texts that it needs.
-/
import Derived.Test.YtikmdkicccfjpaaTkC
set_option linter.unusedSimpArgs false
set_option linter.unusedVariables false
set_option linter.unnecessarySimpa false
namespace Go.Proofs.Ytikmdkicccfjpaa
open Go.RowKit
abbrev ints (l : List Int) : List (List DV) := l.map fun z => [.v (.int .i64 z)]
theorem ints_at {l : List Int} {i : Nat} {z : Int} (h : l[i]? = some z) : (ints l)[i]? = some [.v (.int .i64 z)] := by simp [ints, h]
theorem ints_set (l : List Int) (i : Nat) (z : Int) : List.set (ints l) i [.v (.int .i64 z)] = ints (l.set i z) := by unfold ints; rw [List.map_set]
theorem ints_app (l : List Int) (z : Int) : ints l ++ [[.v (.int .i64 z)]] = ints (l ++ [z]) := by unfold ints; rw [List.map_append]; rfl
theorem froz_ints (l : List Int) : frozR (ints l) = ints l := by
 rw [frozR_map]; unfold ints; rw [List.map_map]; apply List.map_congr_left; intro s _; show [froz (.v _)] = _; rw [froz]
def Rising (l : List Int) : Prop := ∀ (i : Nat) a b, l[i]? = some a → l[i + 1]? = some b → a ≤ b
def blen (n : Nat) : Nat := match n with | 0 => 0 | 1 => 1 | 2 => 2 | 3 => 2 | 4 => 3 | 5 => 3 | _ => 3
set_option maxRecDepth 100000 in
theorem len64_0  : Con Try.prog 85 [.d (.v (.int .u64 0))] (.v (.int .i64 0)) := by
 refine Con.intro (by kernel_rfl) rfl rfl 25 rfl rfl fun w0 K ac hK r => ?_
 exact toRet tk tq hK rfl [(10, [(2, .z (0)), (3, .n 0), (4, .z (0)), (5, .z (0))])] 2000 r (by kernel_rfl) (an ((by decide) : IntKind.u8.wrap (0) = 0) (an (rfl : (0 : Int) = ((0 : Nat) : Int)) (an ((by decide) : IntKind.i64.wrap (0) = 0) (an ((by decide) : IntKind.i64.wrap ((0 : Int) + 0) = 0) trivial))))
set_option maxRecDepth 100000 in
theorem bitsLen_0  : Con Try.prog 65 [.d (.v (.int .u64 0))] (.v (.int .i64 0)) := by
 refine Con.intro (by kernel_rfl) rfl rfl 8 rfl rfl fun w0 K ac hK r => ?_
 exact toRet tk tq hK rfl [(2, [(1, .con (.z 0))])] 2000 r (by kernel_rfl) (an (len64_0) trivial)
set_option maxRecDepth 100000 in
theorem len64_1  : Con Try.prog 85 [.d (.v (.int .u64 1))] (.v (.int .i64 1)) := by
 refine Con.intro (by kernel_rfl) rfl rfl 25 rfl rfl fun w0 K ac hK r => ?_
 exact toRet tk tq hK rfl [(10, [(2, .z (1)), (3, .n 1), (4, .z (1)), (5, .z (1))])] 2000 r (by kernel_rfl) (an ((by decide) : IntKind.u8.wrap (1) = 1) (an (rfl : (1 : Int) = ((1 : Nat) : Int)) (an ((by decide) : IntKind.i64.wrap (1) = 1) (an ((by decide) : IntKind.i64.wrap ((0 : Int) + 1) = 1) trivial))))
set_option maxRecDepth 100000 in
theorem bitsLen_1  : Con Try.prog 65 [.d (.v (.int .u64 1))] (.v (.int .i64 1)) := by
 refine Con.intro (by kernel_rfl) rfl rfl 8 rfl rfl fun w0 K ac hK r => ?_
 exact toRet tk tq hK rfl [(2, [(1, .con (.z 1))])] 2000 r (by kernel_rfl) (an (len64_1) trivial)
set_option maxRecDepth 100000 in
theorem len64_2  : Con Try.prog 85 [.d (.v (.int .u64 2))] (.v (.int .i64 2)) := by
 refine Con.intro (by kernel_rfl) rfl rfl 25 rfl rfl fun w0 K ac hK r => ?_
 exact toRet tk tq hK rfl [(10, [(2, .z (2)), (3, .n 2), (4, .z (2)), (5, .z (2))])] 2000 r (by kernel_rfl) (an ((by decide) : IntKind.u8.wrap (2) = 2) (an (rfl : (2 : Int) = ((2 : Nat) : Int)) (an ((by decide) : IntKind.i64.wrap (2) = 2) (an ((by decide) : IntKind.i64.wrap ((0 : Int) + 2) = 2) trivial))))
set_option maxRecDepth 100000 in
theorem bitsLen_2  : Con Try.prog 65 [.d (.v (.int .u64 2))] (.v (.int .i64 2)) := by
 refine Con.intro (by kernel_rfl) rfl rfl 8 rfl rfl fun w0 K ac hK r => ?_
 exact toRet tk tq hK rfl [(2, [(1, .con (.z 2))])] 2000 r (by kernel_rfl) (an (len64_2) trivial)
set_option maxRecDepth 100000 in
theorem len64_3  : Con Try.prog 85 [.d (.v (.int .u64 3))] (.v (.int .i64 2)) := by
 refine Con.intro (by kernel_rfl) rfl rfl 25 rfl rfl fun w0 K ac hK r => ?_
 exact toRet tk tq hK rfl [(10, [(2, .z (3)), (3, .n 3), (4, .z (2)), (5, .z (2))])] 2000 r (by kernel_rfl) (an ((by decide) : IntKind.u8.wrap (3) = 3) (an (rfl : (3 : Int) = ((3 : Nat) : Int)) (an ((by decide) : IntKind.i64.wrap (2) = 2) (an ((by decide) : IntKind.i64.wrap ((0 : Int) + 2) = 2) trivial))))
set_option maxRecDepth 100000 in
theorem bitsLen_3  : Con Try.prog 65 [.d (.v (.int .u64 3))] (.v (.int .i64 2)) := by
 refine Con.intro (by kernel_rfl) rfl rfl 8 rfl rfl fun w0 K ac hK r => ?_
 exact toRet tk tq hK rfl [(2, [(1, .con (.z 2))])] 2000 r (by kernel_rfl) (an (len64_3) trivial)
set_option maxRecDepth 100000 in
theorem len64_4  : Con Try.prog 85 [.d (.v (.int .u64 4))] (.v (.int .i64 3)) := by
 refine Con.intro (by kernel_rfl) rfl rfl 25 rfl rfl fun w0 K ac hK r => ?_
 exact toRet tk tq hK rfl [(10, [(2, .z (4)), (3, .n 4), (4, .z (3)), (5, .z (3))])] 2000 r (by kernel_rfl) (an ((by decide) : IntKind.u8.wrap (4) = 4) (an (rfl : (4 : Int) = ((4 : Nat) : Int)) (an ((by decide) : IntKind.i64.wrap (3) = 3) (an ((by decide) : IntKind.i64.wrap ((0 : Int) + 3) = 3) trivial))))
set_option maxRecDepth 100000 in
theorem bitsLen_4  : Con Try.prog 65 [.d (.v (.int .u64 4))] (.v (.int .i64 3)) := by
 refine Con.intro (by kernel_rfl) rfl rfl 8 rfl rfl fun w0 K ac hK r => ?_
 exact toRet tk tq hK rfl [(2, [(1, .con (.z 3))])] 2000 r (by kernel_rfl) (an (len64_4) trivial)
set_option maxRecDepth 100000 in
theorem len64_5  : Con Try.prog 85 [.d (.v (.int .u64 5))] (.v (.int .i64 3)) := by
 refine Con.intro (by kernel_rfl) rfl rfl 25 rfl rfl fun w0 K ac hK r => ?_
 exact toRet tk tq hK rfl [(10, [(2, .z (5)), (3, .n 5), (4, .z (3)), (5, .z (3))])] 2000 r (by kernel_rfl) (an ((by decide) : IntKind.u8.wrap (5) = 5) (an (rfl : (5 : Int) = ((5 : Nat) : Int)) (an ((by decide) : IntKind.i64.wrap (3) = 3) (an ((by decide) : IntKind.i64.wrap ((0 : Int) + 3) = 3) trivial))))
set_option maxRecDepth 100000 in
theorem bitsLen_5  : Con Try.prog 65 [.d (.v (.int .u64 5))] (.v (.int .i64 3)) := by
 refine Con.intro (by kernel_rfl) rfl rfl 8 rfl rfl fun w0 K ac hK r => ?_
 exact toRet tk tq hK rfl [(2, [(1, .con (.z 3))])] 2000 r (by kernel_rfl) (an (len64_5) trivial)
set_option maxRecDepth 100000 in
theorem len64_6  : Con Try.prog 85 [.d (.v (.int .u64 6))] (.v (.int .i64 3)) := by
 refine Con.intro (by kernel_rfl) rfl rfl 25 rfl rfl fun w0 K ac hK r => ?_
 exact toRet tk tq hK rfl [(10, [(2, .z (6)), (3, .n 6), (4, .z (3)), (5, .z (3))])] 2000 r (by kernel_rfl) (an ((by decide) : IntKind.u8.wrap (6) = 6) (an (rfl : (6 : Int) = ((6 : Nat) : Int)) (an ((by decide) : IntKind.i64.wrap (3) = 3) (an ((by decide) : IntKind.i64.wrap ((0 : Int) + 3) = 3) trivial))))
set_option maxRecDepth 100000 in
theorem bitsLen_6  : Con Try.prog 65 [.d (.v (.int .u64 6))] (.v (.int .i64 3)) := by
 refine Con.intro (by kernel_rfl) rfl rfl 8 rfl rfl fun w0 K ac hK r => ?_
 exact toRet tk tq hK rfl [(2, [(1, .con (.z 3))])] 2000 r (by kernel_rfl) (an (len64_6) trivial)
theorem bitsLen (n : Nat) (h : n ≤ 6) : Con Try.prog 65 [.d (.v (.int .u64 ((n : Nat) : Int)))] (.v (.int .i64 ((blen n : Nat) : Int))) :=
 match n, h with
 | 0, _ => bitsLen_0
 | 1, _ => bitsLen_1
 | 2, _ => bitsLen_2
 | 3, _ => bitsLen_3
 | 4, _ => bitsLen_4
 | 5, _ => bitsLen_5
 | 6, _ => bitsLen_6
 | n + 7, h => absurd h (by omega)
set_option maxRecDepth 100000 in
theorem notNan (x : Int) : Con Try.prog 86 [.z x] (.v (.bool false)) := by
 refine Con.intro (by kernel_rfl) rfl rfl 6 rfl rfl fun w0 K ac hK r => ?_
 exact toRet tk tq hK rfl [(1, [(2, .b false)])] 2000 r (by kernel_rfl) (an ((by simp) : ((x : Int) != x) = false) trivial)
set_option maxRecDepth 100000 in
theorem lessOk (x y : Int) : Con Try.prog 106 [.z x, .z y] (.v (.bool (decide (x < y)))) := by
 refine Con.intro (by kernel_rfl) rfl rfl 17 rfl rfl fun w0 K ac hK r => ?_
 cases h0 : (decide ((x : Int) < y)) with
 | false =>
  have qh0 := of_decide_eq_false h0
  exact toRet tk tq hK rfl [(1, [(1, .con (.v (.bool false))), (10, .b false)])] 2000 r (by kernel_rfl) (an (notNan _ : Con Try.prog 86 [.z x] (.v (.bool false))) (an h0 trivial))
 | true =>
  have qh0 := of_decide_eq_true h0
  exact toRet tk tq hK rfl [(1, [(1, .con (.v (.bool false))), (10, .b true)])] 2000 r (by kernel_rfl) (an (notNan _ : Con Try.prog 86 [.z x] (.v (.bool false))) (an h0 trivial))
set_option maxRecDepth 100000 in
theorem insSort (l : List Int) (hs : Rising l) (hb : l.length < 1073741824) : Con Try.prog 100 [.d (.ro 1 (ints l)), .z 0, .n l.length] (.tu []) := by
 refine Con.intro (by kernel_rfl) rfl rfl 49 rfl rfl fun w0 K ac hK r => ?_
 refine toHead (todo' := hd Try.f100 0) (E' := [(0, .d (.ro 1 (ints l))), (1, .z 0), (2, .n l.length), (6, .n (0 + 1))]) (M' := []) tk tq hK [(0, [(1, .z (1))])] 2000 [] [0, 1, 2, 6] r (by kernel_rfl) (an ((wi (by omega)) : IntKind.i64.wrap ((0 : Int) + 1) = 1) trivial) fun ac wd r => ?_
 refine Goes.rounds (Φ := fun (i : Nat) ac wd => (True) ∧ RE' [] w0 K 49 [(0, .d (.ro 1 (ints l))), (1, .z 0), (2, .n l.length), (6, .n (i + 1))] [] ac wd) (l.length) ?_ (Nat.zero_le _) ⟨trivial, r⟩
 clear r
 rintro i hi0 again0 ac wd ⟨hv0, r⟩
 cases h0 : (decide ((((i + 1 : Nat) : Int) : Int) < ((l.length : Nat) : Int))) with
 | false =>
  have qh0 := of_decide_eq_false h0
  exact toRet tk tq hK rfl [(1, [(2, .b false)])] 2000 r (by kernel_rfl) (an h0 trivial)
 | true =>
  have qh0 := of_decide_eq_true h0
  obtain ⟨e_l_i1, ge_l_i1⟩ : ∃ x, l[i + 1]? = some x := ⟨_, List.getElem?_eq_getElem (by omega)⟩
  obtain ⟨e_l_i11, ge_l_i11⟩ : ∃ x, l[i + 1 - 1]? = some x := ⟨_, List.getElem?_eq_getElem (by omega)⟩
  refine toHead (todo' := hd Try.f100 1) (E' := [(0, .d (.ro 1 (ints l))), (1, .z 0), (2, .n l.length), (6, .n (i + 1)), (7, .n (i + 1))]) (M' := []) tk tq hK [(1, [(2, .b true)])] 2000 [] [0, 1, 2, 6, 7] r (by kernel_rfl) (an h0 trivial) fun ac wd r => ?_
  cases h1 : (decide ((0 : Int) < ((i + 1 : Nat) : Int))) with
  | false =>
   have qh1 := of_decide_eq_false h1
   exact toHead (todo' := hd Try.f100 0) tk tq hK [(2, [(1, .z (((i + 1 + 1 : Nat) : Int)))]), (4, [(2, .b false)])] 2000 [] [0, 1, 2, 6] r (by kernel_rfl) (an h1 (an ((wi (by omega)) : IntKind.i64.wrap ((((i + 1 : Nat) : Int) : Int) + 1) = ((i + 1 + 1 : Nat) : Int)) trivial)) fun ac wd r => again0 (by omega) ac wd ⟨trivial, r⟩
  | true =>
   have qh1 := of_decide_eq_true h1
   have u0 := ((wi (by omega)) : IntKind.i64.wrap ((((i + 1 : Nat) : Int) : Int) - 1) = ((i + 1 - 1 : Nat) : Int))
   cases h2 : (decide (e_l_i1 < e_l_i11)) with
   | false =>
    have qh2 := of_decide_eq_false h2
    exact toHead (todo' := hd Try.f100 0) tk tq hK [(2, [(1, .z (((i + 1 + 1 : Nat) : Int)))]), (4, [(2, .b true), (6, .ix (i + 1) [.z e_l_i1]), (10, .z (((i + 1 - 1 : Nat) : Int))), (11, .ix (i + 1 - 1) [.z e_l_i11]), (13, .con (.v (.bool false)))])] 2000 [] [0, 1, 2, 6] r (by kernel_rfl) (an h1 (an (rfI ((i + 1 : Nat) : Int)) (an (ints_at ge_l_i1) (an u0 (an (rfI ((i + 1 - 1 : Nat) : Int)) (an (ints_at ge_l_i11) (an ((by have k := lessOk (e_l_i1) (e_l_i11); rw [h2] at k; exact k) : Con Try.prog 106 [.z e_l_i1, .z e_l_i11] (.v (.bool false))) (an ((wi (by omega)) : IntKind.i64.wrap ((((i + 1 : Nat) : Int) : Int) + 1) = ((i + 1 + 1 : Nat) : Int)) trivial)))))))) fun ac wd r => again0 (by omega) ac wd ⟨trivial, r⟩
   | true =>
    have qh2 := of_decide_eq_true h2
    exact absurd (hs i _ _ (by simpa using ge_l_i11) ge_l_i1) (by omega)
set_option maxRecDepth 100000 in
theorem pdqSort (l : List Int) (k : Nat) (hs : Rising l) (hb : l.length ≤ 12) : Con Try.prog 98 [.d (.ro 1 (ints l)), .z 0, .n l.length, .n k] (.tu []) := by
 refine Con.intro (by kernel_rfl) rfl rfl 134 rfl rfl fun w0 K ac hK r => ?_
 refine toHead (todo' := hd Try.f98 0) (E' := [(0, .d (.ro 1 (ints l))), (1, .z 0), (2, .n l.length), (3, .n k), (8, .d (.v (.bool true))), (9, .d (.v (.bool true)))]) (M' := []) tk tq hK [] 2000 [] [0, 1, 2, 3, 8, 9] r (by kernel_rfl) trivial fun ac wd r => ?_
 have u0 := ((wi (by omega)) : IntKind.i64.wrap ((((l.length : Nat) : Int) : Int) - 0) = ((l.length : Nat) : Int))
 cases h0 : (decide ((((l.length : Nat) : Int) : Int) ≤ 12)) with
 | false =>
  have qh0 := of_decide_eq_false h0
  exact absurd qh0 (by omega)
 | true =>
  have qh0 := of_decide_eq_true h0
  exact toRet tk tq hK rfl [(2, [(2, .z (((l.length : Nat) : Int)))]), (3, [(1, .b true)]), (4, [(3, .con (.tu []))])] 2000 r (by kernel_rfl) (an u0 (an h0 (an (insSort l hs (by omega)) trivial)))
set_option maxRecDepth 100000 in
theorem sortOk (l : List Int) (hs : Rising l) (hb : l.length ≤ 6) : Con Try.prog 90 [.d (.ro 1 (ints l))] (.tu []) := by
 refine Con.intro (by kernel_rfl) rfl rfl 11 rfl rfl fun w0 K ac hK r => ?_
 exact toRet tk tq hK rfl [(0, [(1, .z (((l.length : Nat) : Int)))]), (1, [(3, .z (((l.length : Nat) : Int))), (4, .con (.n (blen l.length))), (5, .con (.tu []))])] 2000 r (by kernel_rfl) (an ((by simp) : (((ints l).length : Nat) : Int) = ((l.length : Nat) : Int)) (an ((wu (by omega)) : IntKind.u64.wrap (((l.length : Nat) : Int)) = ((l.length : Nat) : Int)) (an (bitsLen l.length (by omega)) (an (pdqSort l (blen l.length) hs (by omega)) trivial))))
def ddStep (l : List Int) (p : Nat) (o : List Int) : List Int := match l[p]? with | some a => (if 0 < p ∧ l[p - 1]? = some a then o else o ++ [a]) | none => o
def ddTo (l : List Int) : Nat → List Int
 | 0 => []
 | p + 1 => ddStep l p (ddTo l p)
def wr (l : List Int) (k : Nat) : Nat → List Int
 | 0 => l
 | j + 1 => match l[k + (j + 1)]? with | some a => (if l[k + j]? = some a then wr l k j else (wr l k j).set (ddTo l (k + 1 + j)).length a) | none => wr l k j
theorem ddTo_same {l : List Int} {p : Nat} {a : Int} (h : l[p]? = some a) (hp : 0 < p) (h2 : l[p - 1]? = some a) : ddTo l (p + 1) = ddTo l p := by rw [ddTo, ddStep, h]; simp [hp, h2]
theorem ddTo_new {l : List Int} {p : Nat} {a b : Int} (h : l[p]? = some a) (h2 : l[p - 1]? = some b) (hab : a ≠ b) : ddTo l (p + 1) = ddTo l p ++ [a] := by
 rw [ddTo, ddStep, h]; simp only [h2]; rw [if_neg]; rintro ⟨-, e⟩; cases e; exact hab rfl
theorem ddTo_one {l : List Int} {a : Int} (h : l[0]? = some a) : ddTo l 1 = [a] := by rw [ddTo, ddStep, h]; simp [ddTo]
theorem ddTo_le (l : List Int) (p : Nat) : (ddTo l (p + 1)).length ≤ (ddTo l p).length + 1 := by
 rw [ddTo, ddStep]; split
 ·split <;> simp
 ·omega
theorem dd_le {l : List Int} {k : Nat} (h : (ddTo l (k + 1)).length ≤ k) : ∀ j, (ddTo l (k + 1 + j)).length ≤ k + j
 | 0 => h
 | j + 1 => by have h1 := dd_le h j; have h2 := ddTo_le l (k + 1 + j); rw [← Nat.add_assoc]; omega
@[simp] theorem wr_len (l : List Int) (k : Nat) : ∀ j, (wr l k j).length = l.length
 | 0 => rfl
 | j + 1 => by
  rw [wr]; split
  ·split
   ·exact wr_len l k j
   ·rw [List.length_set, wr_len l k j]
  ·exact wr_len l k j
theorem wr_at {l : List Int} {k : Nat} (h : (ddTo l (k + 1)).length ≤ k) : ∀ {j p : Nat}, k + j ≤ p → (wr l k j)[p]? = l[p]?
 | 0, p, _ => rfl
 | j + 1, p, hp => by
  have h1 := dd_le h j
  rw [wr]; split
  ·split
   ·exact wr_at h (by omega)
   ·rw [List.getElem?_set, if_neg (by omega)]; exact wr_at h (by omega)
  ·exact wr_at h (by omega)
theorem wr_same {l : List Int} {k j : Nat} {a : Int} (h : l[k + (j + 1)]? = some a) (h2 : l[k + j]? = some a) : wr l k (j + 1) = wr l k j := by rw [wr, h]; simp [h2]
theorem wr_new {l : List Int} {k j : Nat} {a b : Int} (h : l[k + (j + 1)]? = some a) (h2 : l[k + j]? = some b) (hab : a ≠ b) : wr l k (j + 1) = (wr l k j).set (ddTo l (k + 1 + j)).length a := by
 rw [wr, h]; simp only [h2]; rw [if_neg]; intro e; cases e; exact hab rfl
theorem wr_take {l : List Int} {k : Nat} (h : ddTo l (k + 1) = l.take k) (hk : k < l.length) : ∀ {j : Nat}, k + 1 + j ≤ l.length → (wr l k j).take (ddTo l (k + 1 + j)).length = ddTo l (k + 1 + j)
 | 0, _ => by
  show l.take (ddTo l (k + 1)).length = ddTo l (k + 1)
  rw [h, List.length_take, Nat.min_eq_left (by omega)]
 | j + 1, hj => by
  have hle : (ddTo l (k + 1)).length ≤ k := by rw [h, List.length_take]; omega
  have h1 := dd_le hle j
  have ih := wr_take h hk (j := j) (by omega)
  have e1 : l[k + 1 + j]? = some l[k + 1 + j] := List.getElem?_eq_getElem (by omega)
  have e2 : l[k + j]? = some l[k + j] := List.getElem?_eq_getElem (by omega)
  have e3 : k + 1 + j - 1 = k + j := by omega
  have e4 : k + (j + 1) = k + 1 + j := by omega
  rw [← Nat.add_assoc]
  by_cases hab : l[k + 1 + j] = l[k + j]
  ·rw [ddTo_same e1 (by omega) (by rw [e3, e2, hab]), wr_same (by rw [e4]; exact e1) (by rw [e2, hab])]; exact ih
  ·rw [ddTo_new e1 (by rw [e3]; exact e2) hab, wr_new (by rw [e4]; exact e1) e2 hab]
   rw [List.length_append, List.length_singleton, List.take_succ_eq_append_getElem (by rw [List.length_set, wr_len]; omega), List.take_set_of_le (Nat.le_refl _), ih, List.getElem_set_self]
theorem dd_short {l : List Int} (h : l.length < 2) : ddTo l l.length = l := by
 match l, h with
 | [], _ => rfl
 | [a], _ => exact ddTo_one rfl
theorem ints_take (l : List Int) (n : Nat) : (ints l).take n = ints (l.take n) := by unfold ints; rw [List.map_take]
theorem rwB {T k : Nat} {a b : List (List DV)} (h : a = b) : [Blk.rw T k a] = [.rw T k b] := by rw [h]
theorem cut_take {A B : List (List DV)} {n : Nat} (h : n ≤ A.length) : (A.take n ++ B).take n = A.take n := by
 rw [List.take_append_of_le_length (by simp; omega), List.take_take, Nat.min_self]
theorem dd_start {l : List Int} (h : 0 < l.length) : ddTo l 1 = l.take 1 := by
 match l, h with
 | a :: r, _ => exact ddTo_one rfl
theorem dd_next {l : List Int} {k : Nat} {a : Int} (h : l[k]? = some a) : l.take (k + 1) = l.take k ++ [a] := by
 obtain ⟨hk, rfl⟩ := List.getElem?_eq_some_iff.1 h
 rw [List.take_succ_eq_append_getElem hk]
set_option maxRecDepth 100000 in
theorem compactOk (l : List Int) (hb : l.length < 1073741824) : ConM Try.prog 92 [.sl 0 (l.length)] [.rw 3 1 (ints l)] (.sl 0 (ddTo l l.length).length) ([.rw 3 1 (ints (ddTo l l.length))]) := by
 refine ConM.intro (by kernel_rfl) rfl rfl 61 rfl rfl fun D w0 K bs ac wd hK (hbm : bs.m = 1) r => ?_
 cases h0 : (decide ((((l.length : Nat) : Int) : Int) < 2)) with
 | false =>
  have qh0 := of_decide_eq_false h0
  refine toHeadM (todo' := hd Try.f92 0) (E' := [(0, .sl 0 (l.length)), (3, .n (0 + 1))]) (M' := [.rw 3 1 (ints l)]) tk tq hK hbm [(1, [(2, .b false)])] 2000 [0] [0, 3] r (by kernel_rfl) (an h0 trivial) fun ac wd r => ?_
  refine Goes.rounds (Φ := fun (i : Nat) ac wd => (i + 1 ≤ l.length ∧ ddTo l (i + 1) = l.take (i + 1)) ∧ RB D w0 K 61 bs [(0, .sl 0 (l.length)), (3, .n (i + 1))] [.rw 3 1 (ints l)] ac wd) (l.length) ?_ (Nat.zero_le _) ⟨⟨by omega, dd_start (by omega)⟩, r⟩
  clear r
  rintro i hi0 again0 ac wd ⟨hv0, r⟩
  obtain ⟨hi2, hi3⟩ := hv0
  cases h1 : (decide ((((i + 1 : Nat) : Int) : Int) < ((l.length : Nat) : Int))) with
  | false =>
   have qh1 := of_decide_eq_false h1
   refine castM (y := .sl 0 (l.length)) (N' := [.rw 3 1 (ints l)]) ((by first | (rw [dd_short (by omega)]; done) | (rw [show ddTo l l.length = l by rw [show l.length = i + 1 by omega, hi3]; exact List.take_of_length_le (by omega)]; done) | (rw [show l.length = i + 1 + 1 + j by omega]))) ((by first | (rw [dd_short (by omega)]; done) | (rw [show ddTo l l.length = l by rw [show l.length = i + 1 by omega, hi3]; exact List.take_of_length_le (by omega)]; done) | (refine rwB ?_; rw [cut_take (by rw [List.length_map, wr_len]; have := dd_le hlt j; omega), ints_take, wr_take hdd (by omega) (by omega)]; rw [show l.length = i + 1 + 1 + j by omega]))) ?_
   exact toRetM tk tq hK rfl hbm [(4, [(3, .b false)])] 2000 [0] r (by kernel_rfl) (an h1 trivial)
  | true =>
   have qh1 := of_decide_eq_true h1
   obtain ⟨e_l_i1, ge_l_i1⟩ : ∃ x, l[i + 1]? = some x := ⟨_, List.getElem?_eq_getElem (by omega)⟩
   obtain ⟨e_l_i11, ge_l_i11⟩ : ∃ x, l[i + 1 - 1]? = some x := ⟨_, List.getElem?_eq_getElem (by omega)⟩
   have u0 := ((by first | omega | (have := dd_le hlt j; omega)) : (i + 1) < (l.length))
   have u1 := ((wi (by omega)) : IntKind.i64.wrap ((((i + 1 : Nat) : Int) : Int) - 1) = ((i + 1 - 1 : Nat) : Int))
   have u2 := ((by first | omega | (have := dd_le hlt j; omega)) : (i + 1 - 1) < (l.length))
   cases h2 : ((e_l_i1 : Int) == e_l_i11) with
   | false =>
    have qh2 := ne_of_beq_false h2
    exact toHeadM (todo' := hd Try.f92 0) tk tq hK hbm [(4, [(3, .b true)]), (5, [(1, .z (((i + 1 + 1 : Nat) : Int)))]), (6, [(2, .n (i + 1)), (3, .ix 0 [.z e_l_i1]), (6, .z (((i + 1 - 1 : Nat) : Int))), (7, .n (i + 1 - 1)), (8, .ix 0 [.z e_l_i11]), (9, .b false)])] 2000 [0] [0, 3] r (by kernel_rfl) (an h1 (an (rfI ((i + 1 : Nat) : Int)) (an u0 (an ((by simp <;> omega) : (l.length) ≤ (ints l).length) (an (ints_at ge_l_i1) (an u1 (an (rfI ((i + 1 - 1 : Nat) : Int)) (an u2 (an ((by simp <;> omega) : (l.length) ≤ (ints l).length) (an (ints_at ge_l_i11) (an h2 (an ((wi (by omega)) : IntKind.i64.wrap ((((i + 1 : Nat) : Int) : Int) + 1) = ((i + 1 + 1 : Nat) : Int)) trivial)))))))))))) fun ac wd r => again0 (by omega) ac wd ⟨⟨by omega, by rw [ddTo_new (p := i + 1) ge_l_i1 ge_l_i11 (by omega), hi3, ← dd_next ge_l_i1]⟩, r⟩
   | true =>
    have qh2 := eq_of_beq h2
    have hdd : ddTo l (i + 1 + 1) = l.take (i + 1) := by rw [ddTo_same (p := i + 1) ge_l_i1 (by omega) (by rw [ge_l_i11, ‹e_l_i1 = e_l_i11›])]; exact hi3
    have hlt : (ddTo l (i + 1 + 1)).length ≤ i + 1 := by rw [hdd, List.length_take]; omega
    refine toHeadM (todo' := hd Try.f92 1) (E' := [(0, .sl 0 (l.length)), (3, .n (i + 1)), (4, .sb 0 1 (i + 1) (l.length - (i + 1))), (5, .z 1)]) (M' := [.rw 3 1 (ints l)]) tk tq hK hbm [(4, [(3, .b true)]), (6, [(2, .n (i + 1)), (3, .ix 0 [.z e_l_i1]), (6, .z (((i + 1 - 1 : Nat) : Int))), (7, .n (i + 1 - 1)), (8, .ix 0 [.z e_l_i11]), (9, .b true)]), (7, [(2, .n (i + 1))])] 2000 [0] [0, 3, 4, 5] r (by kernel_rfl) (an h1 (an (rfI ((i + 1 : Nat) : Int)) (an u0 (an ((by simp <;> omega) : (l.length) ≤ (ints l).length) (an (ints_at ge_l_i1) (an u1 (an (rfI ((i + 1 - 1 : Nat) : Int)) (an u2 (an ((by simp <;> omega) : (l.length) ≤ (ints l).length) (an (ints_at ge_l_i11) (an h2 (an (rfI ((i + 1 : Nat) : Int)) (an u0 (an ((by simp <;> omega) : (l.length) = (ints l).length) trivial)))))))))))))) fun ac wd r => ?_
    refine Goes.rounds (Φ := fun (j : Nat) ac wd => (i + 1 + 1 + j ≤ l.length) ∧ RB D w0 K 61 bs [(0, .sl 0 (l.length)), (3, .n ((ddTo l (i + 1 + 1 + j)).length)), (4, .sb 0 1 (i + 1) (l.length - (i + 1))), (5, .n (j + 1))] [.rw 3 1 (ints (wr l (i + 1) j))] ac wd) (l.length) ?_ (Nat.zero_le _) ⟨by omega, (r).cast (by rw [hdd]; simp; omega) rfl⟩
    clear r
    rintro j hi1 again1 ac wd ⟨hv1, r⟩
    cases h3 : (decide ((((j + 1 : Nat) : Int) : Int) < ((l.length - (i + 1) : Nat) : Int))) with
    | false =>
     have qh3 := of_decide_eq_false h3
     have hddj := dd_le hlt j
     refine castM (y := .sl 0 ((ddTo l (i + 1 + 1 + j)).length)) (N' := [.rw 3 1 (((ints (wr l (i + 1) j)).take ((ddTo l (i + 1 + 1 + j)).length) ++ (List.replicate (l.length - ((ddTo l (i + 1 + 1 + j)).length)) ([.z 0] : List DV) ++ (ints (wr l (i + 1) j)).drop (((ddTo l (i + 1 + 1 + j)).length) + (l.length - ((ddTo l (i + 1 + 1 + j)).length))))).take ((ddTo l (i + 1 + 1 + j)).length))]) ((by first | (rw [dd_short (by omega)]; done) | (rw [show ddTo l l.length = l by rw [show l.length = i + 1 by omega, hi3]; exact List.take_of_length_le (by omega)]; done) | (rw [show l.length = i + 1 + 1 + j by omega]))) ((by first | (rw [dd_short (by omega)]; done) | (rw [show ddTo l l.length = l by rw [show l.length = i + 1 by omega, hi3]; exact List.take_of_length_le (by omega)]; done) | (refine rwB ?_; rw [cut_take (by rw [List.length_map, wr_len]; have := dd_le hlt j; omega), ints_take, wr_take hdd (by omega) (by omega)]; rw [show l.length = i + 1 + 1 + j by omega]))) ?_
     exact toRetM tk tq hK rfl hbm [(9, [(3, .b false)]), (14, [(2, .n ((ddTo l (i + 1 + 1 + j)).length))]), (15, [(2, .n ((ddTo l (i + 1 + 1 + j)).length))])] 2000 [0] r (by kernel_rfl) (an h3 (an (rfI (((ddTo l (i + 1 + 1 + j)).length : Nat) : Int)) (an ((by first | omega | (have := dd_le hlt j; omega)) : ((ddTo l (i + 1 + 1 + j)).length) < (l.length)) (an ((by simp <;> omega) : (l.length) = (ints (wr l (i + 1) j)).length) (an ((by first | omega | (have := dd_le hlt j; omega)) : 0 < (l.length - ((ddTo l (i + 1 + 1 + j)).length))) (an ((by simp <;> omega) : ((ddTo l (i + 1 + 1 + j)).length) + (l.length - ((ddTo l (i + 1 + 1 + j)).length)) ≤ (ints (wr l (i + 1) j)).length) (an (rfI (((ddTo l (i + 1 + 1 + j)).length : Nat) : Int)) (an ((by first | omega | (have := dd_le hlt j; omega)) : ((ddTo l (i + 1 + 1 + j)).length) ≤ (l.length)) (an ((by simp <;> omega) : (l.length) = ((ints (wr l (i + 1) j)).take ((ddTo l (i + 1 + 1 + j)).length) ++ (List.replicate (l.length - ((ddTo l (i + 1 + 1 + j)).length)) ([.z 0] : List DV) ++ (ints (wr l (i + 1) j)).drop (((ddTo l (i + 1 + 1 + j)).length) + (l.length - ((ddTo l (i + 1 + 1 + j)).length)))) : List (List DV)).length) trivial)))))))))
    | true =>
     have qh3 := of_decide_eq_true h3
     obtain ⟨e_l_i1j1, ge_l_i1j1⟩ : ∃ x, l[i + 1 + (j + 1)]? = some x := ⟨_, List.getElem?_eq_getElem (by omega)⟩
     obtain ⟨e_l_i1j11, ge_l_i1j11⟩ : ∃ x, l[i + 1 + (j + 1 - 1)]? = some x := ⟨_, List.getElem?_eq_getElem (by omega)⟩
     have hddj := dd_le hlt j
     obtain ⟨old, gold⟩ : ∃ x, (wr l (i + 1) j)[(ddTo l (i + 1 + 1 + j)).length]? = some x := ⟨_, List.getElem?_eq_getElem (by rw [wr_len]; omega)⟩
     have u3 := ((by first | omega | (have := dd_le hlt j; omega)) : (j + 1) < (l.length - (i + 1)))
     have u4 := ((by simp <;> omega) : (i + 1) + (l.length - (i + 1)) ≤ (ints (wr l (i + 1) j)).length)
     have u5 := (ints_at (by rw [wr_at hlt (by omega)]; exact ge_l_i1j1) : (ints (wr l (i + 1) j))[i + 1 + (j + 1)]? = some [.z e_l_i1j1])
     have u6 := ((wi (by omega)) : IntKind.i64.wrap ((((j + 1 : Nat) : Int) : Int) - 1) = ((j + 1 - 1 : Nat) : Int))
     have u7 := ((by first | omega | (have := dd_le hlt j; omega)) : (j + 1 - 1) < (l.length - (i + 1)))
     have u8 := (ints_at (by rw [wr_at hlt (by omega)]; exact ge_l_i1j11) : (ints (wr l (i + 1) j))[i + 1 + (j + 1 - 1)]? = some [.z e_l_i1j11])
     cases h4 : ((e_l_i1j1 : Int) != e_l_i1j11) with
     | false =>
      have qh4 := eq_of_bne h4
      exact toHeadM (todo' := hd Try.f92 1) (E' := [(0, .sl 0 (l.length)), (3, .n ((ddTo l (i + 1 + 1 + j)).length)), (4, .sb 0 1 (i + 1) (l.length - (i + 1))), (5, .n (j + 1 + 1))]) (M' := [.rw 3 1 (ints (wr l (i + 1) j))]) tk tq hK hbm [(9, [(3, .b true)]), (10, [(1, .z (((j + 1 + 1 : Nat) : Int)))]), (11, [(2, .n (j + 1)), (3, .ix 0 [.z e_l_i1j1]), (6, .z (((j + 1 - 1 : Nat) : Int))), (7, .n (j + 1 - 1)), (8, .ix 0 [.z e_l_i1j11]), (9, .b false)])] 2000 [0] [0, 3, 4, 5] r (by kernel_rfl) (an h3 (an (rfI ((j + 1 : Nat) : Int)) (an u3 (an u4 (an u5 (an u6 (an (rfI ((j + 1 - 1 : Nat) : Int)) (an u7 (an u4 (an u8 (an h4 (an ((wi (by omega)) : IntKind.i64.wrap ((((j + 1 : Nat) : Int) : Int) + 1) = ((j + 1 + 1 : Nat) : Int)) trivial)))))))))))) fun ac wd r => again1 (by omega) ac wd ⟨by omega, r.cast (by have e : i + 1 + 1 + (j + 1) = (i + 1 + (j + 1)) + 1 := (by omega); have e2 : i + 1 + (j + 1) = i + 1 + 1 + j := (by omega); rw [e]; first | (rw [ddTo_new (p := i + 1 + (j + 1)) ge_l_i1j1 (by have k := ge_l_i1j11; simpa using k) (by omega), e2]; simp; done) | (rw [ddTo_same (p := i + 1 + (j + 1)) ge_l_i1j1 (by omega) (by have k := ge_l_i1j11; rw [show e_l_i1j1 = e_l_i1j11 by omega]; simpa using k), e2]; done)) (by first | (rw [ints_set, wr_new (k := i + 1) (j := j) ge_l_i1j1 (by have k := ge_l_i1j11; simpa using k) (by omega)]; done) | (rw [wr_same (k := i + 1) (j := j) ge_l_i1j1 (by have k := ge_l_i1j11; rw [show e_l_i1j1 = e_l_i1j11 by omega]; simpa using k)]; done))⟩
     | true =>
      have qh4 : ¬ _ = _ := bne_iff_ne.1 h4
      exact toHeadM (todo' := hd Try.f92 1) (E' := [(0, .sl 0 (l.length)), (3, .n ((ddTo l (i + 1 + 1 + j)).length + 1)), (4, .sb 0 1 (i + 1) (l.length - (i + 1))), (5, .n (j + 1 + 1))]) (M' := [.rw 3 1 (List.set (ints (wr l (i + 1) j)) ((ddTo l (i + 1 + 1 + j)).length) [.z e_l_i1j1])]) tk tq hK hbm [(9, [(3, .b true)]), (10, [(1, .z (((j + 1 + 1 : Nat) : Int)))]), (11, [(2, .n (j + 1)), (3, .ix 0 [.z e_l_i1j1]), (6, .z (((j + 1 - 1 : Nat) : Int))), (7, .n (j + 1 - 1)), (8, .ix 0 [.z e_l_i1j11]), (9, .b true)]), (12, [(4, .n (j + 1)), (5, .ix 0 [.z e_l_i1j1]), (6, .n ((ddTo l (i + 1 + 1 + j)).length)), (7, .ix 0 [.z old])]), (13, [(1, .z ((((ddTo l (i + 1 + 1 + j)).length + 1 : Nat) : Int)))])] 2000 [0] [0, 3, 4, 5] r (by kernel_rfl) (an h3 (an (rfI ((j + 1 : Nat) : Int)) (an u3 (an u4 (an u5 (an u6 (an (rfI ((j + 1 - 1 : Nat) : Int)) (an u7 (an u4 (an u8 (an h4 (an (rfI ((j + 1 : Nat) : Int)) (an u3 (an u4 (an u5 (an (rfI (((ddTo l (i + 1 + 1 + j)).length : Nat) : Int)) (an ((by first | omega | (have := dd_le hlt j; omega)) : ((ddTo l (i + 1 + 1 + j)).length) < (l.length)) (an ((by simp <;> omega) : (l.length) ≤ (ints (wr l (i + 1) j)).length) (an (ints_at gold) (an ((wi (by omega)) : IntKind.i64.wrap (((((ddTo l (i + 1 + 1 + j)).length : Nat) : Int) : Int) + 1) = (((ddTo l (i + 1 + 1 + j)).length + 1 : Nat) : Int)) (an ((wi (by omega)) : IntKind.i64.wrap ((((j + 1 : Nat) : Int) : Int) + 1) = ((j + 1 + 1 : Nat) : Int)) trivial))))))))))))))))))))) fun ac wd r => again1 (by omega) ac wd ⟨by omega, r.cast (by have e : i + 1 + 1 + (j + 1) = (i + 1 + (j + 1)) + 1 := (by omega); have e2 : i + 1 + (j + 1) = i + 1 + 1 + j := (by omega); rw [e]; first | (rw [ddTo_new (p := i + 1 + (j + 1)) ge_l_i1j1 (by have k := ge_l_i1j11; simpa using k) (by omega), e2]; simp; done) | (rw [ddTo_same (p := i + 1 + (j + 1)) ge_l_i1j1 (by omega) (by have k := ge_l_i1j11; rw [show e_l_i1j1 = e_l_i1j11 by omega]; simpa using k), e2]; done)) (by first | (rw [ints_set, wr_new (k := i + 1) (j := j) ge_l_i1j1 (by have k := ge_l_i1j11; simpa using k) (by omega)]; done) | (rw [wr_same (k := i + 1) (j := j) ge_l_i1j1 (by have k := ge_l_i1j11; rw [show e_l_i1j1 = e_l_i1j11 by omega]; simpa using k)]; done))⟩
 | true =>
  have qh0 := of_decide_eq_true h0
  refine castM (y := .sl 0 (l.length)) (N' := [.rw 3 1 (ints l)]) ((by first | (rw [dd_short (by omega)]; done) | (rw [show ddTo l l.length = l by rw [show l.length = i + 1 by omega, hi3]; exact List.take_of_length_le (by omega)]; done) | (rw [show l.length = i + 1 + 1 + j by omega]))) ((by first | (rw [dd_short (by omega)]; done) | (rw [show ddTo l l.length = l by rw [show l.length = i + 1 by omega, hi3]; exact List.take_of_length_le (by omega)]; done) | (refine rwB ?_; rw [cut_take (by rw [List.length_map, wr_len]; have := dd_le hlt j; omega), ints_take, wr_take hdd (by omega) (by omega)]; rw [show l.length = i + 1 + 1 + j by omega]))) ?_
  exact toRetM tk tq hK rfl hbm [(1, [(2, .b true)])] 2000 [0] r (by kernel_rfl) (an h0 trivial)
end Go.Proofs.Ytikmdkicccfjpaa
namespace Go.Proofs.Ytikmdkicccfjpaa
open Go.RowKit
theorem ddTo_take {l : List Int} (h : ∀ (i : Nat) (a b : Int), l[i]? = some a → l[i + 1]? = some b → b ≠ a) : ∀ {p : Nat}, p ≤ l.length → ddTo l p = l.take p
 | 0, _ => by simp [ddTo]
 | 1, hp => dd_start (by omega)
 | p + 2, hp => by
  have e1 : l[p + 1]? = some l[p + 1] := List.getElem?_eq_getElem (by omega)
  have e2 : l[p]? = some l[p] := List.getElem?_eq_getElem (by omega)
  rw [ddTo_new (p := p + 1) e1 (by simp) (h p _ _ e2 e1), ddTo_take h (p := p + 1) (by omega), ← dd_next e1]
theorem ddTo_le' (l : List Int) : ∀ p, (ddTo l p).length ≤ p
 | 0 => by simp [ddTo]
 | p + 1 => by have := ddTo_le l p; have := ddTo_le' l p; omega
theorem lone_nodes {l : List Proc} (hs : isSet l = true) : ((ddTo (l.map Proc.node) (l.map Proc.node).length).length = l.length) ↔ lone l = true := by
 have hset := (isSet_iff l).1 hs
 have hle : ∀ (i : Nat) p q, l[i]? = some p → l[i + 1]? = some q → p.node ≤ q.node := fun i p q hp hq => by
  have := hset.2 i p q (List.getElem?_eq_some_iff.1 hq).1 hp hq
  unfold Proc.lt at this
  have := of_decide_eq_true this
  omega
 have mono : ∀ (d i : Nat) p q, l[i]? = some p → l[i + d]? = some q → p.node ≤ q.node := by
  intro d
  induction d with
  | zero => intro i p q hp hq; rw [Nat.add_zero, hp] at hq; cases hq; omega
  | succ d ih =>
   intro i p q hp hq
   have hlt := (List.getElem?_eq_some_iff.1 hq).1
   have e : l[i + d]? = some l[i + d] := List.getElem?_eq_getElem (by omega)
   have h1 := ih i p _ hp e
   have h2 := hle (i + d) _ q e (by rw [Nat.add_assoc]; exact hq)
   omega
 constructor
 ·intro h
  cases hl : lone l with
  | true => rfl
  | false =>
   exfalso
   have hn : ¬ Lone l l.length := fun hh => by rw [lone_yes hh] at hl; cases hl
   apply hn
   intro a b p q ha hb hp hq e
   have hpos : 0 < a := by omega
   have e1 : l[a - 1]? = some l[a - 1] := List.getElem?_eq_getElem (by omega)
   have h1 := mono (a - 1 - b) b q _ hq (by rw [show b + (a - 1 - b) = a - 1 by omega]; exact e1)
   have h2 := hle (a - 1) _ p e1 (by rw [show a - 1 + 1 = a by omega]; exact hp)
   have g1 : (l.map Proc.node)[a]? = some p.node := by rw [List.getElem?_map, hp]; rfl
   have g2 : (l.map Proc.node)[a - 1]? = some p.node := by rw [List.getElem?_map, e1]; simp; omega
   have h3 := ddTo_same g1 hpos g2
   have h4 := ddTo_le' (l.map Proc.node) a
   have h5 := dd_le (l := l.map Proc.node) (k := a) (by rw [h3]; exact h4) (l.length - (a + 1))
   rw [show a + 1 + (l.length - (a + 1)) = (l.map Proc.node).length by simp; omega] at h5
   omega
 ·intro h
  have hlone := (lone_iff l).1 h
  rw [ddTo_take (fun i a b ha hb => ?_) (Nat.le_refl _), List.take_length, List.length_map]
  rw [List.getElem?_map, Option.map_eq_some_iff] at ha hb
  obtain ⟨p, hp, rfl⟩ := ha
  obtain ⟨q, hq, rfl⟩ := hb
  exact fun e => hlone (i + 1) i q p (List.getElem?_eq_some_iff.1 hq).1 (by omega) hq hp e.symm
theorem set_rising {l : List Proc} (hs : isSet l = true) : Rising (l.map Proc.node) := by
 have hset := (isSet_iff l).1 hs
 intro i a b ha hb
 rw [List.getElem?_map, Option.map_eq_some_iff] at ha hb
 obtain ⟨p, hp, rfl⟩ := ha
 obtain ⟨q, hq, rfl⟩ := hb
 have := hset.2 i p q (List.getElem?_eq_some_iff.1 hq).1 hp hq
 unfold Proc.lt at this
 have := of_decide_eq_true this
 omega
theorem compactI (l : List Int) (i : Nat) (h : i = l.length) (hb : l.length < 1073741824) : ConM Try.prog 92 [.sl 0 i] [.rw 3 1 (ints l)] (.sl 0 (ddTo l l.length).length) [.rw 3 1 (ints (ddTo l l.length))] := by subst h; exact compactOk l hb
theorem nodes_next {l : List Proc} {i : Nat} {p : Proc} (h : l[i]? = some p) : ints ((l.take i).map Proc.node) ++ [[.v (.int .i64 p.node)]] = ints ((l.take (i + 1)).map Proc.node) := by
 obtain ⟨hi, rfl⟩ := List.getElem?_eq_some_iff.1 h
 rw [ints_app, List.take_succ_eq_append_getElem hi, List.map_append]; rfl
set_option maxRecDepth 100000 in
theorem nodesOk (l : List Proc) (hs : Rising (l.map Proc.node)) (hb : l.length ≤ 6) : Con Try.prog 74 [.d (.ro 2 (procs l))] (.ro 1 (ints (ddTo (l.map Proc.node) (l.map Proc.node).length))) := by
 refine Con.intro (by kernel_rfl) rfl rfl 26 rfl rfl fun w0 K ac hK r => ?_
 refine toHead (todo' := hd Try.f74 0) (E' := [(3, .sl 0 (0)), (9, .d (.ro 2 (procs l))), (10, .n l.length), (11, .z 0)]) (M' := [.rw 3 1 ([])]) tk tq hK [(1, [(1, .z (((l.length : Nat) : Int))), (2, .n2 (0) (l.length))]), (2, [(1, .z (((l.length : Nat) : Int)))])] 2000 [0] [3, 9, 10, 11] r (by kernel_rfl) (an ((by simp) : (((procs l).length : Nat) : Int) = ((l.length : Nat) : Int)) (an (rfl : (0 : Int) = ((0 : Nat) : Int)) (an (rfI ((l.length : Nat) : Int)) (an ((by first | omega | (simp; omega)) : (0) ≤ (l.length)) (an ((by first | omega | (simp; omega)) : 8 * (l.length) ≤ 281474976710656) (an ((by first | omega | (simp; omega)) : (l.length) < 4611686018427387904) (an ((by simp) : (((procs l).length : Nat) : Int) = ((l.length : Nat) : Int)) trivial))))))) fun ac wd r => ?_
 refine Goes.rounds (Φ := fun (i : Nat) ac wd => (i ≤ l.length) ∧ RE' [] w0 K 26 [(3, .sl 0 (i)), (9, .d (.ro 2 (procs l))), (10, .n l.length), (11, .n i)] [.rw 3 1 (ints ((l.take i).map Proc.node))] ac wd) (l.length) ?_ (Nat.zero_le _) ⟨by omega, (r).cast rfl rfl⟩
 clear r
 rintro i hi0 again0 ac wd ⟨hv0, r⟩
 cases h0 : (decide ((((i : Nat) : Int) : Int) < ((l.length : Nat) : Int))) with
 | false =>
  have qh0 := of_decide_eq_false h0
  have hall : l.take i = l := List.take_of_length_le (by omega)
  exact toRet tk tq hK rfl [(3, [(0, .b false)]), (7, [(1, .call [.d (.ro 1 (ints (l.map Proc.node)))] (.tu []))]), (8, [(1, .mem [0] (.sl 0 ((ddTo (l.map Proc.node) (l.map Proc.node).length).length)) [.rw 3 1 (ints (ddTo (l.map Proc.node) (l.map Proc.node).length))]), (2, .into 200 [(1, [(5, .res (.ro 1 (ints (ddTo (l.map Proc.node) (l.map Proc.node).length))))])])])] 2000 r (by kernel_rfl) (an h0 (an (sortOk (l.map Proc.node) hs (by simp; omega)) (an ((.tu (by simp)) : Ind (.tu [])) (an (rfN (1)) (an ((by simp <;> omega) : (i) = (ints ((l.take i).map Proc.node)).length) (an ((by rw [froz_ints, hall]) : frozR (ints ((l.take i).map Proc.node)) = ints (l.map Proc.node)) (an ((by rw [hall]; exact compactI (l.map Proc.node) (i) (by simp; omega) (by simp; omega)) : ConM Try.prog 92 [.sl 0 (i)] [.rw 3 1 (ints ((l.take i).map Proc.node))] (.sl 0 ((ddTo (l.map Proc.node) (l.map Proc.node).length).length)) [.rw 3 1 (ints (ddTo (l.map Proc.node) (l.map Proc.node).length))]) (an (rfI (((ddTo (l.map Proc.node) (l.map Proc.node).length).length : Nat) : Int)) (an (rfI (((ddTo (l.map Proc.node) (l.map Proc.node).length).length : Nat) : Int)) (an ((by simp <;> omega) : ((ddTo (l.map Proc.node) (l.map Proc.node).length).length) = (ints (ddTo (l.map Proc.node) (l.map Proc.node).length)).length) (an (rfN (1)) (an (froz_ints _ : frozR (ints (ddTo (l.map Proc.node) (l.map Proc.node).length)) = ints (ddTo (l.map Proc.node) (l.map Proc.node).length)) trivial))))))))))))
 | true =>
  have qh0 := of_decide_eq_true h0
  obtain ⟨e_l_i, ge_l_i⟩ : ∃ x, l[i]? = some x := ⟨_, List.getElem?_eq_getElem (by omega)⟩
  exact toHead (todo' := hd Try.f74 0) (E' := [(3, .sl 0 (i + (1))), (9, .d (.ro 2 (procs l))), (10, .n l.length), (11, .n (i + 1))]) (M' := [.rw 3 1 (ints ((l.take i).map Proc.node) ++ [[.z e_l_i.node]])]) tk tq hK [(3, [(0, .b true)]), (4, [(0, .ix (i) [.z e_l_i.node, .u e_l_i.inc])]), (6, [(0, .z (((i + 1 : Nat) : Int)))])] 2000 [0] [3, 9, 10, 11] r (by kernel_rfl) (an h0 (an (rfI ((i : Nat) : Int)) (an (procs_at ge_l_i) (an ((by simp <;> omega) : (i) = (ints ((l.take i).map Proc.node)).length) (an ((by simp <;> omega) : (1) = ([[.z e_l_i.node]] : List (List DV)).length) (an ((by first | omega | (simp; done) | (simp; omega)) : (2 * ((i) + (1)) + 0) * 8 ≤ 281474976710656) (an ((by first | omega | (simp; done) | (simp; omega)) : (i) + (1) < 4611686018427387904) (an ((by simp [OneR, AV.one, oneC]) : OneR ([[.z e_l_i.node]])) (an ((wi (by omega)) : IntKind.i64.wrap ((((i : Nat) : Int) : Int) + 1) = ((i + 1 : Nat) : Int)) trivial))))))))) fun ac wd r => again0 (by omega) ac wd ⟨by omega, r.cast rfl (by rw [nodes_next ge_l_i])⟩
end Go.Proofs.Ytikmdkicccfjpaa
namespace Go.Proofs.Ytikmdkicccfjpaa
open Go.RowKit
structure Advert where
 server : Proc
 seq : Nat
 peers : List Proc
deriving DecidableEq
def Advert.row (a : Advert) : List DV := [.v (.int .i64 a.server.node), .v (.int .u64 (a.server.inc : Int)), .v (.int .u64 (a.seq : Int)), .ro 2 (procs a.peers)]
abbrev adverts (l : List Advert) : List (List DV) := l.map Advert.row
theorem adverts_at {l : List Advert} {i : Nat} {a : Advert} (h : l[i]? = some a) : (adverts l)[i]? = some [.v (.int .i64 a.server.node), .v (.int .u64 (a.server.inc : Int)), .v (.int .u64 (a.seq : Int)), .ro 2 (procs a.peers)] := by simp [adverts, h, Advert.row]
def Proc.life (p : Proc) : Bool := p.may && decide (p.inc < 34359738368)
def Proc.srv (p : Proc) : Bool := p.may && decide (p.inc < 34359738368) && decide (p.node ≤ 4)
theorem Proc.srv_iff {p : Proc} : p.srv = true ↔ 1 ≤ p.node ∧ p.node ≤ 4 ∧ 0 < p.inc ∧ p.inc < 34359738368 := by
 simp only [Proc.srv, Proc.may, Bool.and_eq_true, decide_eq_true_eq]; omega
set_option maxRecDepth 100000 in
theorem countOk (x m : Nat) : Con Try.prog 72 [.u x, .u m] (DV.v (.bool (decide (m ≤ x ∧ x ≤ 34359738367)))) := by
 refine Con.intro (by kernel_rfl) rfl rfl 12 rfl rfl fun w0 K ac hK r => ?_
 cases h0 : (decide ((((m : Nat) : Int) : Int) ≤ ((x : Nat) : Int))) with
 | false =>
  have qh0 := of_decide_eq_false h0
  rw [show (DV.v (.bool (decide (m ≤ x ∧ x ≤ 34359738367))) : DV) = .v (.bool false) from (bv (by simp; omega))]
  exact toRet tk tq hK rfl [(1, [(2, .b false)])] 2000 r (by kernel_rfl) (an h0 trivial)
 | true =>
  have qh0 := of_decide_eq_true h0
  cases h1 : (decide ((((x : Nat) : Int) : Int) ≤ 34359738367)) with
  | false =>
   have qh1 := of_decide_eq_false h1
   rw [show (DV.v (.bool (decide (m ≤ x ∧ x ≤ 34359738367))) : DV) = .v (.bool false) from (bv (by simp; omega))]
   exact toRet tk tq hK rfl [(1, [(2, .b true), (5, .b false)])] 2000 r (by kernel_rfl) (an h0 (an h1 trivial))
  | true =>
   have qh1 := of_decide_eq_true h1
   rw [show (DV.v (.bool (decide (m ≤ x ∧ x ≤ 34359738367))) : DV) = .v (.bool true) from (bv (by simp; omega))]
   exact toRet tk tq hK rfl [(1, [(2, .b true), (5, .b true)])] 2000 r (by kernel_rfl) (an h0 (an h1 trivial))
set_option maxRecDepth 100000 in
theorem refCount (x : Nat) : Con Try.prog 47 [.u x] (DV.v (.bool (decide (x < 34359738368)))) := by
 refine Con.intro (by kernel_rfl) rfl rfl 5 rfl rfl fun w0 K ac hK r => ?_
 cases h0 : (decide ((((x : Nat) : Int) : Int) < 34359738368)) with
 | false =>
  have qh0 := of_decide_eq_false h0
  rw [show (DV.v (.bool (decide (x < 34359738368))) : DV) = .v (.bool false) from (bv (by simp; omega))]
  exact toRet tk tq hK rfl [(1, [(1, .b false)])] 2000 r (by kernel_rfl) (an h0 trivial)
 | true =>
  have qh0 := of_decide_eq_true h0
  rw [show (DV.v (.bool (decide (x < 34359738368))) : DV) = .v (.bool true) from (bv (by simp; omega))]
  exact toRet tk tq hK rfl [(1, [(1, .b true)])] 2000 r (by kernel_rfl) (an h0 trivial)
set_option maxRecDepth 100000 in
theorem lifeOk (p : Proc) : Con Try.prog 89 [.ag [.z p.node, .u p.inc]] (DV.v (.bool (p.life))) := by
 refine Con.intro (by kernel_rfl) rfl rfl 10 rfl rfl fun w0 K ac hK r => ?_
 cases h0 : (p.may) with
 | false =>
  rw [show (DV.v (.bool (p.life)) : DV) = .v (.bool false) from (bv (by simp_all [Proc.srv, Proc.may, Proc.life]; try omega))]
  exact toRet tk tq hK rfl [(1, [(1, .con (.v (.bool false)))])] 2000 r (by kernel_rfl) (an ((by have k := procMay p; rw [h0] at k; exact k) : Con Try.prog 37 [.ag [.z p.node, .u p.inc]] (.v (.bool false))) trivial)
 | true =>
  have u0 := ((by have k := procMay p; rw [h0] at k; exact k) : Con Try.prog 37 [.ag [.z p.node, .u p.inc]] (.v (.bool true)))
  cases h1 : (decide (1 ≤ p.inc ∧ p.inc ≤ 34359738367)) with
  | false =>
   have qh1 := of_decide_eq_false h1
   rw [show (DV.v (.bool (p.life)) : DV) = .v (.bool false) from (bv (by simp_all [Proc.srv, Proc.may, Proc.life]; try omega))]
   exact toRet tk tq hK rfl [(1, [(1, .con (.v (.bool true))), (5, .con (.v (.bool false)))])] 2000 r (by kernel_rfl) (an u0 (an ((by have k := countOk p.inc 1; rw [h1] at k; exact k) : Con Try.prog 72 [.u p.inc, .d (.v (.int .u64 1))] (.v (.bool false))) trivial))
  | true =>
   have qh1 := of_decide_eq_true h1
   rw [show (DV.v (.bool (p.life)) : DV) = .v (.bool true) from (bv (by simp_all [Proc.srv, Proc.may, Proc.life]; try omega))]
   exact toRet tk tq hK rfl [(1, [(1, .con (.v (.bool true))), (5, .con (.v (.bool true)))])] 2000 r (by kernel_rfl) (an u0 (an ((by have k := countOk p.inc 1; rw [h1] at k; exact k) : Con Try.prog 72 [.u p.inc, .d (.v (.int .u64 1))] (.v (.bool true))) trivial))
set_option maxRecDepth 100000 in
theorem serverOk (p : Proc) : Con Try.prog 71 [.ag [.z p.node, .u p.inc]] (DV.v (.bool (p.srv))) := by
 refine Con.intro (by kernel_rfl) rfl rfl 10 rfl rfl fun w0 K ac hK r => ?_
 cases h0 : (p.life) with
 | false =>
  rw [show (DV.v (.bool (p.srv)) : DV) = .v (.bool false) from (bv (by simp_all [Proc.srv, Proc.may, Proc.life]; try omega))]
  exact toRet tk tq hK rfl [(1, [(1, .con (.v (.bool false)))])] 2000 r (by kernel_rfl) (an ((by have k := lifeOk p; rw [h0] at k; exact k) : Con Try.prog 89 [.ag [.z p.node, .u p.inc]] (.v (.bool false))) trivial)
 | true =>
  have u0 := ((by have k := lifeOk p; rw [h0] at k; exact k) : Con Try.prog 89 [.ag [.z p.node, .u p.inc]] (.v (.bool true)))
  cases h1 : (decide ((p.node : Int) ≤ 4)) with
  | false =>
   have qh1 := of_decide_eq_false h1
   rw [show (DV.v (.bool (p.srv)) : DV) = .v (.bool false) from (bv (by simp_all [Proc.srv, Proc.may, Proc.life]; try omega))]
   exact toRet tk tq hK rfl [(1, [(1, .con (.v (.bool true))), (5, .b false)])] 2000 r (by kernel_rfl) (an u0 (an h1 trivial))
  | true =>
   have qh1 := of_decide_eq_true h1
   rw [show (DV.v (.bool (p.srv)) : DV) = .v (.bool true) from (bv (by simp_all [Proc.srv, Proc.may, Proc.life]; try omega))]
   exact toRet tk tq hK rfl [(1, [(1, .con (.v (.bool true))), (5, .b true)])] 2000 r (by kernel_rfl) (an u0 (an h1 trivial))
set_option maxRecDepth 100000 in
theorem refLife (p : Proc) : Con Try.prog 63 [.ag [.z p.node, .u p.inc]] (DV.v (.bool (p.life))) := by
 refine Con.intro (by kernel_rfl) rfl rfl 10 rfl rfl fun w0 K ac hK r => ?_
 cases h0 : (p.may) with
 | false =>
  rw [show (DV.v (.bool (p.life)) : DV) = .v (.bool false) from (bv (by simp_all [Proc.srv, Proc.may, Proc.life]; try omega))]
  exact toRet tk tq hK rfl [(1, [(1, .con (.v (.bool false)))])] 2000 r (by kernel_rfl) (an ((by have k := refProcMay p; rw [h0] at k; exact k) : Con Try.prog 55 [.ag [.z p.node, .u p.inc]] (.v (.bool false))) trivial)
 | true =>
  have u0 := ((by have k := refProcMay p; rw [h0] at k; exact k) : Con Try.prog 55 [.ag [.z p.node, .u p.inc]] (.v (.bool true)))
  cases h1 : (decide (p.inc < 34359738368)) with
  | false =>
   have qh1 := of_decide_eq_false h1
   rw [show (DV.v (.bool (p.life)) : DV) = .v (.bool false) from (bv (by simp_all [Proc.srv, Proc.may, Proc.life]; try omega))]
   exact toRet tk tq hK rfl [(1, [(1, .con (.v (.bool true))), (5, .con (.v (.bool false)))])] 2000 r (by kernel_rfl) (an u0 (an ((by have k := refCount p.inc; rw [h1] at k; exact k) : Con Try.prog 47 [.u p.inc] (.v (.bool false))) trivial))
  | true =>
   have qh1 := of_decide_eq_true h1
   rw [show (DV.v (.bool (p.life)) : DV) = .v (.bool true) from (bv (by simp_all [Proc.srv, Proc.may, Proc.life]; try omega))]
   exact toRet tk tq hK rfl [(1, [(1, .con (.v (.bool true))), (5, .con (.v (.bool true)))])] 2000 r (by kernel_rfl) (an u0 (an ((by have k := refCount p.inc; rw [h1] at k; exact k) : Con Try.prog 47 [.u p.inc] (.v (.bool true))) trivial))
set_option maxRecDepth 100000 in
theorem refServer (p : Proc) : Con Try.prog 46 [.ag [.z p.node, .u p.inc]] (DV.v (.bool (p.srv))) := by
 refine Con.intro (by kernel_rfl) rfl rfl 10 rfl rfl fun w0 K ac hK r => ?_
 cases h0 : (p.life) with
 | false =>
  rw [show (DV.v (.bool (p.srv)) : DV) = .v (.bool false) from (bv (by simp_all [Proc.srv, Proc.may, Proc.life]; try omega))]
  exact toRet tk tq hK rfl [(1, [(1, .con (.v (.bool false)))])] 2000 r (by kernel_rfl) (an ((by have k := refLife p; rw [h0] at k; exact k) : Con Try.prog 63 [.ag [.z p.node, .u p.inc]] (.v (.bool false))) trivial)
 | true =>
  have u0 := ((by have k := refLife p; rw [h0] at k; exact k) : Con Try.prog 63 [.ag [.z p.node, .u p.inc]] (.v (.bool true)))
  cases h1 : (decide ((p.node : Int) ≤ 4)) with
  | false =>
   have qh1 := of_decide_eq_false h1
   rw [show (DV.v (.bool (p.srv)) : DV) = .v (.bool false) from (bv (by simp_all [Proc.srv, Proc.may, Proc.life]; try omega))]
   exact toRet tk tq hK rfl [(1, [(1, .con (.v (.bool true))), (5, .b false)])] 2000 r (by kernel_rfl) (an u0 (an h1 trivial))
  | true =>
   have qh1 := of_decide_eq_true h1
   rw [show (DV.v (.bool (p.srv)) : DV) = .v (.bool true) from (bv (by simp_all [Proc.srv, Proc.may, Proc.life]; try omega))]
   exact toRet tk tq hK rfl [(1, [(1, .con (.v (.bool true))), (5, .b true)])] 2000 r (by kernel_rfl) (an u0 (an h1 trivial))
end Go.Proofs.Ytikmdkicccfjpaa
namespace Go.Proofs.Ytikmdkicccfjpaa
open Go.RowKit
def Advert.may (a : Advert) : Bool := a.server.srv && (decide (1 ≤ a.seq) && decide (a.seq ≤ 34359738367)) && (isSet a.peers && a.peers.all Proc.srv && lone (a.server :: a.peers))
theorem lone_cons (p : Proc) (l : List Proc) : lone (p :: l) = true ↔ lone l = true ∧ ∀ q ∈ l, q.node ≠ p.node := by
 simp only [lone_iff, Lone]
 constructor
 ·intro h
  refine ⟨fun a b x y ha hb hx hy => h (a + 1) (b + 1) x y (by simpa using ha) (by omega) (by simpa using hx) (by simpa using hy), fun q hq e => ?_⟩
  obtain ⟨i, hi, rfl⟩ := List.getElem_of_mem hq
  exact h (i + 1) 0 l[i] p (by simpa using hi) (by omega) (by simp [hi]) (by simp) e.symm
 ·rintro ⟨h1, h2⟩ a b x y ha hb hx hy
  cases a with
  | zero => omega
  | succ a =>
   rw [List.getElem?_cons_succ] at hx
   cases b with
   | zero => simp at hy; subst hy; exact fun e => h2 x (List.mem_of_getElem? hx) e.symm
   | succ b => rw [List.getElem?_cons_succ] at hy; exact h1 a b x y (by simpa using ha) (by omega) hx hy
theorem all_of {l : List Proc} {f : Proc → Bool} {i : Nat} (hi : l.length ≤ i) (h : ∀ j p, j < i → l[j]? = some p → f p = true) : l.all f = true := by
 rw [List.all_eq_true]; intro x hx
 obtain ⟨j, hj, rfl⟩ := List.getElem_of_mem hx
 exact h j _ (by omega) (List.getElem?_eq_getElem hj)
theorem allP_no {l : List Proc} {f : Proc → Bool} {i : Nat} {p : Proc} (h : l[i]? = some p) (hf : f p = false) : l.all f = false := by
 cases hh : l.all f with
 | false => rfl
 | true => rw [List.all_eq_true.1 hh p (List.mem_of_getElem? h)] at hf; cases hf
theorem lone_four : ∀ {l : List Proc}, lone l = true → l.all Proc.srv = true → l.length ≤ 4 := by
 have key : ∀ (m : Nat) (l : List Proc), lone l = true → (∀ p ∈ l, 1 ≤ p.node ∧ p.node ≤ m) → l.length ≤ m := by
  intro m
  induction m with
  | zero =>
   intro l _ h
   cases l with
   | nil => simp
   | cons p l => have := h p List.mem_cons_self; omega
  | succ m ih =>
   intro l hl h
   by_cases hm : ∃ i : Nat, ∃ p : Proc, l[i]? = some p ∧ p.node = (m + 1 : Nat)
   ·obtain ⟨i, p, hi, hp⟩ := hm
    obtain ⟨hlt, rfl⟩ := List.getElem?_eq_some_iff.1 hi
    have hL := (lone_iff l).1 hl
    have h1 : (l.take i ++ l.drop (i + 1)).length ≤ m := by
     have get : ∀ {a x}, (l.take i ++ l.drop (i + 1))[a]? = some x → ∃ a', l[a']? = some x ∧ a' ≠ i ∧ (a < i → a' = a) ∧ (i ≤ a → a' = a + 1) := by
      intro a x hx
      rcases Nat.lt_or_ge a i with ha | ha
      ·rw [List.getElem?_append_left (by simp; omega), List.getElem?_take, if_pos ha] at hx
       exact ⟨a, hx, by omega, fun _ => rfl, fun h => by omega⟩
      ·rw [List.getElem?_append_right (by simp; omega), List.getElem?_drop] at hx
       simp only [List.length_take] at hx
       refine ⟨a + 1, by rw [← hx]; congr 1; omega, by omega, fun h => by omega, fun _ => rfl⟩
     refine ih _ ((lone_iff _).2 fun a b x y ha hb hx hy => ?_) fun x hx => ?_
     ·obtain ⟨a', e1, -, f1, f2⟩ := get hx
      obtain ⟨b', e2, -, k1, k2⟩ := get hy
      have : b' < a' := by
       rcases Nat.lt_or_ge a i with h | h <;> rcases Nat.lt_or_ge b i with h' | h'
       ·have := f1 h; have := k1 h'; omega
       ·omega
       ·have := f2 h; have := k1 h'; omega
       ·have := f2 h; have := k2 h'; omega
      exact hL a' b' x y (List.getElem?_eq_some_iff.1 e1).1 this e1 e2
     ·obtain ⟨a, ha, rfl⟩ := List.getElem_of_mem hx
      obtain ⟨a', e1, hne, -, -⟩ := get (List.getElem?_eq_getElem ha)
      have hb := h _ (List.mem_of_getElem? e1)
      have hn : (l.take i ++ l.drop (i + 1))[a].node ≠ (m + 1 : Nat) := by
       intro e
       rcases Nat.lt_or_ge a' i with hh | hh
       ·exact hL i a' _ _ hlt hh hi e1 (by rw [e, hp])
       ·exact hL a' i _ _ (List.getElem?_eq_some_iff.1 e1).1 (by omega) e1 hi (by rw [e, hp])
      omega
    simp only [List.length_append, List.length_take, List.length_drop] at h1
    omega
   ·have := ih l hl fun p hp => by
     obtain ⟨i, hi, rfl⟩ := List.getElem_of_mem hp
     have h1 := h _ hp
     have h2 : l[i].node ≠ (m + 1 : Nat) := fun e => hm ⟨i, _, List.getElem?_eq_getElem hi, e⟩
     omega
    omega
 intro l hl ha
 refine key 4 l hl fun p hp => ?_
 have := Proc.srv_iff.1 (List.all_eq_true.1 ha p hp)
 omega
theorem Advert.may_iff {a : Advert} : a.may = true ↔ a.server.srv = true ∧ (1 ≤ a.seq ∧ a.seq ≤ 34359738367) ∧ isSet a.peers = true ∧ a.peers.all Proc.srv = true ∧ lone a.peers = true ∧ ∀ q ∈ a.peers, q.node ≠ a.server.node := by
 simp only [Advert.may, Bool.and_eq_true, decide_eq_true_eq, lone_cons]
 constructor
 ·rintro ⟨⟨h1, h2⟩, ⟨h3, h4⟩, h5, h6⟩; exact ⟨h1, h2, h3, h4, h5, h6⟩
 ·rintro ⟨h1, h2, h3, h4, h5, h6⟩; exact ⟨⟨h1, h2⟩, ⟨h3, h4⟩, h5, h6⟩
theorem Advert.few {a : Advert} (h : a.may = true) : a.peers.length ≤ 3 := by
 obtain ⟨h1, -, -, h4, h5, h6⟩ := Advert.may_iff.1 h
 have := lone_four ((lone_cons _ _).2 ⟨h5, h6⟩) (by simp only [List.all_cons, h1, h4, Bool.and_self])
 simpa using this
theorem Advert.no1 {a : Advert} (h : a.server.srv = false) : a.may = false := by simp [Advert.may, h]
theorem Advert.no2 {a : Advert} (h : ¬ (1 ≤ a.seq ∧ a.seq ≤ 34359738367)) : a.may = false := by
 cases hh : a.may with
 | false => rfl
 | true => exact absurd (Advert.may_iff.1 hh).2.1 h
theorem Advert.no3 {a : Advert} (h : isSet a.peers = false) : a.may = false := by simp [Advert.may, h]
theorem Advert.no4 {a : Advert} (h : 4 < a.peers.length) : a.may = false := by
 cases hh : a.may with
 | false => rfl
 | true => have := Advert.few hh; omega
theorem Advert.no5 {a : Advert} {i : Nat} {p : Proc} (h : a.peers[i]? = some p) (hs : p.srv = false) : a.may = false := by
 cases hh : a.may with
 | false => rfl
 | true => rw [List.all_eq_true.1 (Advert.may_iff.1 hh).2.2.2.1 p (List.mem_of_getElem? h)] at hs; cases hs
theorem Advert.no6 {a : Advert} {i : Nat} {p : Proc} (h : a.peers[i]? = some p) (hs : p.node = a.server.node) : a.may = false := by
 cases hh : a.may with
 | false => rfl
 | true => exact absurd hs ((Advert.may_iff.1 hh).2.2.2.2.2 p (List.mem_of_getElem? h))
theorem ne_all {l : List Proc} {n : Int} {i : Nat} (hi : l.length ≤ i) (h : ∀ j p, j < i → l[j]? = some p → p.srv = true ∧ p.node ≠ n) : (∀ q ∈ l, q.node ≠ n) ∧ l.all Proc.srv = true :=
 ⟨fun q hq => by obtain ⟨j, hj, rfl⟩ := List.getElem_of_mem hq; exact (h j _ (by omega) (List.getElem?_eq_getElem hj)).2, all_of hi fun j p hj hp => (h j p hj hp).1⟩
theorem Advert.end1 {a : Advert} {c : Bool} {i : Nat} (h1 : a.server.srv = true) (h2 : 1 ≤ a.seq ∧ a.seq ≤ 34359738367) (h3 : isSet a.peers = true) (hi : a.peers.length ≤ i) (h4 : ∀ j p, j < i → a.peers[j]? = some p → p.srv = true ∧ p.node ≠ a.server.node)
  (hc : (((((ddTo (a.peers.map Proc.node) (a.peers.map Proc.node).length).length : Nat) : Int) == ((a.peers.length : Nat) : Int)) = c)) : a.may = c := by
 obtain ⟨g1, g2⟩ := ne_all hi h4
 have hl := lone_nodes h3
 rw [Bool.eq_iff_iff, Advert.may_iff]
 have hc' : c = true ↔ lone a.peers = true := by
  rw [← hl, ← hc, beq_iff_eq]; omega
 rw [hc']
 exact ⟨fun h => h.2.2.2.2.1, fun h => ⟨h1, h2, h3, g2, h, g1⟩⟩
set_option maxRecDepth 100000 in
theorem mayAdvert (a : Advert) (hb : a.peers.length ≤ 9223372036854775807) : Con Try.prog 60 [.ag [.z a.server.node, .u a.server.inc, .u a.seq, .d (.ro 2 (procs a.peers))]] (DV.v (.bool a.may)) := by
 refine Con.intro (by kernel_rfl) rfl rfl 54 rfl rfl fun w0 K ac hK r => ?_
 cases h0 : (a.server.srv) with
 | false =>
  rw [show (DV.v (.bool a.may) : DV) = .v (.bool false) from (bv (by first | exact Advert.no1 (by assumption) | exact Advert.no2 (by omega) | exact Advert.no3 (by assumption) | exact Advert.no4 (by omega) | exact Advert.no5 ge_a_peers_i (by assumption) | exact Advert.no6 ge_a_peers_i (by omega) | exact Advert.end1 (by assumption) (by omega) (by assumption) (by omega) hv0 (by assumption)))]
  exact toRet tk tq hK rfl [(1, [(2, .con (.v (.bool false)))])] 2000 r (by kernel_rfl) (an ((by have k := serverOk a.server; rw [h0] at k; exact k) : Con Try.prog 71 [.ag [.z a.server.node, .u a.server.inc]] (.v (.bool false))) trivial)
 | true =>
  have u0 := ((by have k := serverOk a.server; rw [h0] at k; exact k) : Con Try.prog 71 [.ag [.z a.server.node, .u a.server.inc]] (.v (.bool true)))
  cases h1 : (decide (1 ≤ a.seq ∧ a.seq ≤ 34359738367)) with
  | false =>
   have qh1 := of_decide_eq_false h1
   rw [show (DV.v (.bool a.may) : DV) = .v (.bool false) from (bv (by first | exact Advert.no1 (by assumption) | exact Advert.no2 (by omega) | exact Advert.no3 (by assumption) | exact Advert.no4 (by omega) | exact Advert.no5 ge_a_peers_i (by assumption) | exact Advert.no6 ge_a_peers_i (by omega) | exact Advert.end1 (by assumption) (by omega) (by assumption) (by omega) hv0 (by assumption)))]
   exact toRet tk tq hK rfl [(1, [(2, .con (.v (.bool true))), (7, .con (.v (.bool false)))])] 2000 r (by kernel_rfl) (an u0 (an ((by have k := countOk a.seq 1; rw [h1] at k; exact k) : Con Try.prog 72 [.u a.seq, .d (.v (.int .u64 1))] (.v (.bool false))) trivial))
  | true =>
   have qh1 := of_decide_eq_true h1
   have u1 := ((by have k := countOk a.seq 1; rw [h1] at k; exact k) : Con Try.prog 72 [.u a.seq, .d (.v (.int .u64 1))] (.v (.bool true)))
   have u2 := ((by simp) : (((procs a.peers).length : Nat) : Int) = ((a.peers.length : Nat) : Int))
   cases h2 : (decide ((4 : Int) < ((a.peers.length : Nat) : Int))) with
   | false =>
    have qh2 := of_decide_eq_false h2
    cases h3 : (isSet a.peers) with
    | false =>
     rw [show (DV.v (.bool a.may) : DV) = .v (.bool false) from (bv (by first | exact Advert.no1 (by assumption) | exact Advert.no2 (by omega) | exact Advert.no3 (by assumption) | exact Advert.no4 (by omega) | exact Advert.no5 ge_a_peers_i (by assumption) | exact Advert.no6 ge_a_peers_i (by omega) | exact Advert.end1 (by assumption) (by omega) (by assumption) (by omega) hv0 (by assumption)))]
     exact toRet tk tq hK rfl [(1, [(2, .con (.v (.bool true))), (7, .con (.v (.bool true))), (13, .z (((a.peers.length : Nat) : Int))), (14, .b false), (19, .con (.v (.bool false)))])] 2000 r (by kernel_rfl) (an u0 (an u1 (an u2 (an h2 (an ((by have k := procSet a.peers (by omega); rw [h3] at k; exact k) : Con Try.prog 73 [.d (.ro 2 (procs a.peers))] (.v (.bool false))) trivial)))))
    | true =>
     refine toHead (todo' := hd Try.f60 0) (E' := [(1, .pt 0 0), (28, .d (.ro 2 (procs a.peers))), (29, .n a.peers.length), (30, .n 0)]) (M' := [.bx 33 [.z a.server.node, .u a.server.inc, .u a.seq, .d (.ro 2 (procs a.peers))]]) tk tq hK [(1, [(2, .con (.v (.bool true))), (7, .con (.v (.bool true))), (13, .z (((a.peers.length : Nat) : Int))), (14, .b false), (19, .con (.v (.bool true)))]), (3, [(2, .z (((a.peers.length : Nat) : Int)))])] 2000 [0] [1, 28, 29, 30] r (by kernel_rfl) (an u0 (an u1 (an u2 (an h2 (an ((by have k := procSet a.peers (by omega); rw [h3] at k; exact k) : Con Try.prog 73 [.d (.ro 2 (procs a.peers))] (.v (.bool true))) (an u2 trivial)))))) fun ac wd r => ?_
     refine Goes.rounds (Φ := fun (i : Nat) ac wd => (i ≤ a.peers.length ∧ ∀ j p, j < i → a.peers[j]? = some p → p.srv = true ∧ p.node ≠ a.server.node) ∧ RE' [] w0 K 54 [(1, .pt 0 0), (28, .d (.ro 2 (procs a.peers))), (29, .n a.peers.length), (30, .n i)] [.bx 33 [.z a.server.node, .u a.server.inc, .u a.seq, .d (.ro 2 (procs a.peers))]] ac wd) (a.peers.length) ?_ (Nat.zero_le _) ⟨⟨by omega, by omega⟩, r⟩
     clear r
     rintro i hi0 again0 ac wd ⟨hv0, r⟩
     obtain ⟨hi1, hv0⟩ := hv0
     cases h4 : (decide ((((i : Nat) : Int) : Int) < ((a.peers.length : Nat) : Int))) with
     | false =>
      have qh4 := of_decide_eq_false h4
      have u3 := ((by simp) : (((ints (ddTo (a.peers.map Proc.node) (a.peers.map Proc.node).length)).length : Nat) : Int) = (((ddTo (a.peers.map Proc.node) (a.peers.map Proc.node).length).length : Nat) : Int))
      cases h5 : (((((ddTo (a.peers.map Proc.node) (a.peers.map Proc.node).length).length : Nat) : Int) : Int) == ((a.peers.length : Nat) : Int)) with
      | false =>
       have qh5 := ne_of_beq_false h5
       rw [show (DV.v (.bool a.may) : DV) = .v (.bool false) from (bv (by first | exact Advert.no1 (by assumption) | exact Advert.no2 (by omega) | exact Advert.no3 (by assumption) | exact Advert.no4 (by omega) | exact Advert.no5 ge_a_peers_i (by assumption) | exact Advert.no6 ge_a_peers_i (by omega) | exact Advert.end1 (by assumption) (by omega) (by assumption) (by omega) hv0 (by assumption)))]
       exact toRet tk tq hK rfl [(4, [(0, .b false)]), (9, [(6, .z (((a.peers.length : Nat) : Int))), (2, .con (.ro 1 (ints (ddTo (a.peers.map Proc.node) (a.peers.map Proc.node).length)))), (3, .z ((((ddTo (a.peers.map Proc.node) (a.peers.map Proc.node).length).length : Nat) : Int))), (7, .b false)])] 2000 r (by kernel_rfl) (an h4 (an u2 (an (nodesOk a.peers (set_rising (by assumption)) (by omega)) (an u3 (an h5 trivial)))))
      | true =>
       have qh5 := eq_of_beq h5
       rw [show (DV.v (.bool a.may) : DV) = .v (.bool true) from (bv (by first | exact Advert.no1 (by assumption) | exact Advert.no2 (by omega) | exact Advert.no3 (by assumption) | exact Advert.no4 (by omega) | exact Advert.no5 ge_a_peers_i (by assumption) | exact Advert.no6 ge_a_peers_i (by omega) | exact Advert.end1 (by assumption) (by omega) (by assumption) (by omega) hv0 (by assumption)))]
       exact toRet tk tq hK rfl [(4, [(0, .b false)]), (9, [(6, .z (((a.peers.length : Nat) : Int))), (2, .con (.ro 1 (ints (ddTo (a.peers.map Proc.node) (a.peers.map Proc.node).length)))), (3, .z ((((ddTo (a.peers.map Proc.node) (a.peers.map Proc.node).length).length : Nat) : Int))), (7, .b true)])] 2000 r (by kernel_rfl) (an h4 (an u2 (an (nodesOk a.peers (set_rising (by assumption)) (by omega)) (an u3 (an h5 trivial)))))
     | true =>
      have qh4 := of_decide_eq_true h4
      obtain ⟨e_a_peers_i, ge_a_peers_i⟩ : ∃ x, a.peers[i]? = some x := ⟨_, List.getElem?_eq_getElem (by omega)⟩
      cases h6 : (e_a_peers_i.srv) with
      | false =>
       rw [show (DV.v (.bool a.may) : DV) = .v (.bool false) from (bv (by first | exact Advert.no1 (by assumption) | exact Advert.no2 (by omega) | exact Advert.no3 (by assumption) | exact Advert.no4 (by omega) | exact Advert.no5 ge_a_peers_i (by assumption) | exact Advert.no6 ge_a_peers_i (by omega) | exact Advert.end1 (by assumption) (by omega) (by assumption) (by omega) hv0 (by assumption)))]
       exact toRet tk tq hK rfl [(4, [(0, .b true)]), (5, [(0, .ix (i) [.z e_a_peers_i.node, .u e_a_peers_i.inc])]), (6, [(1, .con (.v (.bool false)))])] 2000 r (by kernel_rfl) (an h4 (an (rfI ((i : Nat) : Int)) (an (procs_at ge_a_peers_i) (an ((by have k := serverOk e_a_peers_i; rw [h6] at k; exact k) : Con Try.prog 71 [.ag [.z e_a_peers_i.node, .u e_a_peers_i.inc]] (.v (.bool false))) trivial))))
      | true =>
       have u4 := ((by have k := serverOk e_a_peers_i; rw [h6] at k; exact k) : Con Try.prog 71 [.ag [.z e_a_peers_i.node, .u e_a_peers_i.inc]] (.v (.bool true)))
       cases h7 : ((e_a_peers_i.node : Int) == a.server.node) with
       | false =>
        have qh7 := ne_of_beq_false h7
        exact toHead (todo' := hd Try.f60 0) tk tq hK [(4, [(0, .b true)]), (5, [(0, .ix (i) [.z e_a_peers_i.node, .u e_a_peers_i.inc])]), (6, [(1, .con (.v (.bool true))), (9, .b false)]), (8, [(0, .z (((i + 1 : Nat) : Int)))])] 2000 [0] [1, 28, 29, 30] r (by kernel_rfl) (an h4 (an (rfI ((i : Nat) : Int)) (an (procs_at ge_a_peers_i) (an u4 (an h7 (an ((wi (by omega)) : IntKind.i64.wrap ((((i : Nat) : Int) : Int) + 1) = ((i + 1 : Nat) : Int)) trivial)))))) fun ac wd r => again0 (by omega) ac wd ⟨⟨by omega, fun j p hj hp => by rcases Nat.lt_succ_iff_lt_or_eq.1 hj with h | rfl; exact hv0 j p h hp; rw [ge_a_peers_i] at hp; cases hp; exact ⟨by assumption, by omega⟩⟩, r⟩
       | true =>
        have qh7 := eq_of_beq h7
        rw [show (DV.v (.bool a.may) : DV) = .v (.bool false) from (bv (by first | exact Advert.no1 (by assumption) | exact Advert.no2 (by omega) | exact Advert.no3 (by assumption) | exact Advert.no4 (by omega) | exact Advert.no5 ge_a_peers_i (by assumption) | exact Advert.no6 ge_a_peers_i (by omega) | exact Advert.end1 (by assumption) (by omega) (by assumption) (by omega) hv0 (by assumption)))]
        exact toRet tk tq hK rfl [(4, [(0, .b true)]), (5, [(0, .ix (i) [.z e_a_peers_i.node, .u e_a_peers_i.inc])]), (6, [(1, .con (.v (.bool true))), (9, .b true)])] 2000 r (by kernel_rfl) (an h4 (an (rfI ((i : Nat) : Int)) (an (procs_at ge_a_peers_i) (an u4 (an h7 trivial)))))
   | true =>
    have qh2 := of_decide_eq_true h2
    rw [show (DV.v (.bool a.may) : DV) = .v (.bool false) from (bv (by first | exact Advert.no1 (by assumption) | exact Advert.no2 (by omega) | exact Advert.no3 (by assumption) | exact Advert.no4 (by omega) | exact Advert.no5 ge_a_peers_i (by assumption) | exact Advert.no6 ge_a_peers_i (by omega) | exact Advert.end1 (by assumption) (by omega) (by assumption) (by omega) hv0 (by assumption)))]
    exact toRet tk tq hK rfl [(1, [(2, .con (.v (.bool true))), (7, .con (.v (.bool true))), (13, .z (((a.peers.length : Nat) : Int))), (14, .b true)])] 2000 r (by kernel_rfl) (an u0 (an u1 (an u2 (an h2 trivial))))
set_option maxRecDepth 100000 in
theorem mayOk (a : Advert) (hb : a.peers.length ≤ 9223372036854775807) : Con Try.prog 32 [.ag [.z a.server.node, .u a.server.inc, .u a.seq, .d (.ro 2 (procs a.peers))]] (DV.v (.bool a.may)) := by
 refine Con.intro (by kernel_rfl) rfl rfl 6 rfl rfl fun w0 K ac hK r => ?_
 exact toRet tk tq hK rfl [(1, [(2, .into 200 [(3, [(3, .b true), (24, .con (.v (.bool a.may)))])])])] 2000 r (by kernel_rfl) (an ((eqT (eqProc 0 0 0 0) (by decide)) : EqAgg Try.prog 30 [(.int .i64 (0)), (.int .u64 (0))] [(.int .i64 (0)), (.int .u64 (0))] true) (an (mayAdvert a hb) trivial))
end Go.Proofs.Ytikmdkicccfjpaa
namespace Go.Proofs.Ytikmdkicccfjpaa
open Go.RowKit
theorem froz_procs (l : List Proc) : frozR (procs l) = procs l := by
 rw [frozR_map]; unfold procs; rw [List.map_map]; apply List.map_congr_left; intro s _; simp [Proc.row, froz]
theorem one_procs (l : List Proc) : OneR (procs l) := by
 simp only [OneR, procs, List.mem_map]
 first
 | (rintro r ⟨p, -, rfl⟩ c hc; simp only [Proc.row, List.mem_cons, List.not_mem_nil, or_false] at hc; rcases hc with rfl | rfl <;> rfl)
 | (simp only [List.all_eq_true, List.mem_map]; rintro r ⟨p, -, rfl⟩ c hc; simp only [Proc.row, List.mem_cons, List.not_mem_nil, or_false] at hc; rcases hc with rfl | rfl <;> rfl)
def Proc.rank (p : Proc) : Nat := p.node.toNat * 34359738368 + p.inc
theorem rank_lt {p q : Proc} (hp : p.srv = true) (hq : q.srv = true) (h : p.lt q = true) : p.rank < q.rank := by
 have h1 := Proc.srv_iff.1 hp
 have h2 := Proc.srv_iff.1 hq
 unfold Proc.lt at h
 have h3 := of_decide_eq_true h
 unfold Proc.rank
 rcases h3 with h3 | h3
 ·have : p.node.toNat + 1 ≤ q.node.toNat := by omega
  have := Nat.mul_le_mul_right 34359738368 this
  omega
 ·have : p.node.toNat = q.node.toNat := by omega
  rw [this]; omega
theorem set_short {l : List Proc} (hs : isSet l = true) (ha : l.all Proc.srv = true) : l.length < 274877906944 := by
 have hset := (isSet_iff l).1 hs
 have key : ∀ (i : Nat) (p : Proc), l[i]? = some p → i ≤ p.rank := by
  intro i
  induction i with
  | zero => intro p _; omega
  | succ i ih =>
   intro p hp
   have hlt1 := (List.getElem?_eq_some_iff.1 hp).1
   have e : l[i]? = some (l[i]'(by omega)) := List.getElem?_eq_getElem (by omega)
   have h1 := ih _ e
   have hlt := hset.2 i _ p (List.getElem?_eq_some_iff.1 hp).1 e hp
   have h2 := rank_lt (List.all_eq_true.1 ha _ (List.mem_of_getElem? e)) (List.all_eq_true.1 ha _ (List.mem_of_getElem? hp)) hlt
   omega
 rcases Nat.lt_or_ge l.length 274877906944 with h | h
 ·exact h
 ·exfalso
  have e : l[l.length - 1]? = some l[l.length - 1] := List.getElem?_eq_getElem (by omega)
  have h1 := key _ _ e
  have h2 := Proc.srv_iff.1 (List.all_eq_true.1 ha _ (List.mem_of_getElem? e))
  unfold Proc.rank at h1
  have h3 : (l[l.length - 1]).node.toNat ≤ 4 := by omega
  have := Nat.mul_le_mul_right 34359738368 h3
  omega
theorem procs_cons (p : Proc) (l : List Proc) : [[.v (.int .i64 p.node), .v (.int .u64 (p.inc : Int))]] ++ procs l = procs (p :: l) := rfl
theorem Advert.end2 {a : Advert} {c d : Bool} (h1 : a.server.srv = true) (h0 : (a.seq : Int) ≠ 0) (h2 : a.seq < 34359738368) (h3 : isSet a.peers = true) (h4 : a.peers.all Proc.srv = d) (h5 : d = true → lone (a.server :: a.peers) = c) (h6 : d = false → c = false) : a.may = c := by
 cases d with
 | false => rw [h6 rfl]; simp [Advert.may, h4]
 | true => rw [← h5 rfl]; simp only [Advert.may, h1, h3, h4, Bool.and_eq_true, Bool.true_and]; rw [decide_eq_true (by omega : 1 ≤ a.seq), decide_eq_true (by omega : a.seq ≤ 34359738367)]; rfl
set_option maxRecDepth 100000 in
theorem refSetB (l : List Proc) (hb : l.length ≤ 9223372036854775807) : Con Try.prog 48 [.d (.ro 2 (procs l))] (DV.v (.bool (isSet l))) := by
 refine Con.intro (by kernel_rfl) rfl rfl 33 rfl rfl fun w0 K ac hK r => ?_
 refine toHead (todo' := hd Try.f48 0) (E' := [(0, .d (.ro 2 (procs l))), (3, .n 0)]) (M' := []) tk tq hK [] 2000 [] [0, 3] r (by kernel_rfl) trivial fun ac wd r => ?_
 refine Goes.rounds (Φ := fun (i : Nat) ac wd => (i ≤ l.length ∧ SetTo l i) ∧ RE' [] w0 K 33 [(0, .d (.ro 2 (procs l))), (3, .n i)] [] ac wd) (l.length) ?_ (Nat.zero_le _) ⟨⟨by omega, by simp [SetTo]⟩, r⟩
 clear r
 rintro i hi0 again0 ac wd ⟨hv0, r⟩
 obtain ⟨hi1, hv0⟩ := hv0
 have u0 := ((by simp) : (((procs l).length : Nat) : Int) = ((l.length : Nat) : Int))
 cases h0 : (decide ((((i : Nat) : Int) : Int) < ((l.length : Nat) : Int))) with
 | false =>
  have qh0 := of_decide_eq_false h0
  rw [show (DV.v (.bool (isSet l)) : DV) = .v (.bool true) from (bv (by first | exact isSet_yes (by rw [show l.length = i by omega]; exact hv0) | exact isSet_no (SetTo.no1 ge_l_i (by assumption) (by omega)) | exact isSet_no (SetTo.no2 ge_l_i ge_l_i1 (by omega) (by first | assumption | (rw [lt_of_cmp (by assumption)]; rfl)) (by omega))))]
  exact toRet tk tq hK rfl [(2, [(2, .z (((l.length : Nat) : Int))), (3, .b false)])] 2000 r (by kernel_rfl) (an u0 (an h0 trivial))
 | true =>
  have qh0 := of_decide_eq_true h0
  obtain ⟨e_l_i, ge_l_i⟩ : ∃ x, l[i]? = some x := ⟨_, List.getElem?_eq_getElem (by omega)⟩
  cases h1 : (e_l_i.may) with
  | false =>
   rw [show (DV.v (.bool (isSet l)) : DV) = .v (.bool false) from (bv (by first | exact isSet_yes (by rw [show l.length = i by omega]; exact hv0) | exact isSet_no (SetTo.no1 ge_l_i (by assumption) (by omega)) | exact isSet_no (SetTo.no2 ge_l_i ge_l_i1 (by omega) (by first | assumption | (rw [lt_of_cmp (by assumption)]; rfl)) (by omega))))]
   exact toRet tk tq hK rfl [(2, [(2, .z (((l.length : Nat) : Int))), (3, .b true)]), (4, [(2, .ix (i) [.z e_l_i.node, .u e_l_i.inc]), (4, .con (.v (.bool false)))])] 2000 r (by kernel_rfl) (an u0 (an h0 (an (rfI ((i : Nat) : Int)) (an (procs_at ge_l_i) (an ((by have k := refProcMay e_l_i; rw [h1] at k; exact k) : Con Try.prog 55 [.ag [.z e_l_i.node, .u e_l_i.inc]] (.v (.bool false))) trivial)))))
  | true =>
   have u1 := ((by have k := refProcMay e_l_i; rw [h1] at k; exact k) : Con Try.prog 55 [.ag [.z e_l_i.node, .u e_l_i.inc]] (.v (.bool true)))
   cases h2 : (decide ((0 : Int) < ((i : Nat) : Int))) with
   | false =>
    have qh2 := of_decide_eq_false h2
    exact toHead (todo' := hd Try.f48 0) tk tq hK [(2, [(2, .z (((l.length : Nat) : Int))), (3, .b true)]), (3, [(1, .z (((i + 1 : Nat) : Int)))]), (4, [(2, .ix (i) [.z e_l_i.node, .u e_l_i.inc]), (4, .con (.v (.bool true))), (8, .b false)])] 2000 [] [0, 3] r (by kernel_rfl) (an u0 (an h0 (an (rfI ((i : Nat) : Int)) (an (procs_at ge_l_i) (an u1 (an h2 (an ((wi (by omega)) : IntKind.i64.wrap ((((i : Nat) : Int) : Int) + 1) = ((i + 1 : Nat) : Int)) trivial))))))) fun ac wd r => again0 (by omega) ac wd ⟨⟨by omega, hv0.step ge_l_i (by assumption) fun q hq0 hq => by first | (exfalso; omega) | (rw [ge_l_i1] at hq; cases hq; first | assumption | (rw [lt_of_cmp (by assumption)]; rfl))⟩, r⟩
   | true =>
    have qh2 := of_decide_eq_true h2
    obtain ⟨e_l_i1, ge_l_i1⟩ : ∃ x, l[i - 1]? = some x := ⟨_, List.getElem?_eq_getElem (by omega)⟩
    have u2 := ((wi (by omega)) : IntKind.i64.wrap ((((i : Nat) : Int) : Int) - 1) = ((i - 1 : Nat) : Int))
    cases h3 : (e_l_i1.lt e_l_i) with
    | false =>
     rw [show (DV.v (.bool (isSet l)) : DV) = .v (.bool false) from (bv (by first | exact isSet_yes (by rw [show l.length = i by omega]; exact hv0) | exact isSet_no (SetTo.no1 ge_l_i (by assumption) (by omega)) | exact isSet_no (SetTo.no2 ge_l_i ge_l_i1 (by omega) (by first | assumption | (rw [lt_of_cmp (by assumption)]; rfl)) (by omega))))]
     exact toRet tk tq hK rfl [(2, [(2, .z (((l.length : Nat) : Int))), (3, .b true)]), (4, [(2, .ix (i) [.z e_l_i.node, .u e_l_i.inc]), (4, .con (.v (.bool true))), (8, .b true), (12, .z (((i - 1 : Nat) : Int))), (13, .ix (i - 1) [.z e_l_i1.node, .u e_l_i1.inc]), (17, .ix (i) [.z e_l_i.node, .u e_l_i.inc]), (19, .con (.v (.bool false)))])] 2000 r (by kernel_rfl) (an u0 (an h0 (an (rfI ((i : Nat) : Int)) (an (procs_at ge_l_i) (an u1 (an h2 (an u2 (an (rfI ((i - 1 : Nat) : Int)) (an (procs_at ge_l_i1) (an (rfI ((i : Nat) : Int)) (an (procs_at ge_l_i) (an ((by have k := refBefore e_l_i1 e_l_i; rw [h3] at k; exact k) : Con Try.prog 56 [.ag [.z e_l_i1.node, .u e_l_i1.inc], .ag [.z e_l_i.node, .u e_l_i.inc]] (.v (.bool false))) trivial))))))))))))
    | true =>
     exact toHead (todo' := hd Try.f48 0) tk tq hK [(2, [(2, .z (((l.length : Nat) : Int))), (3, .b true)]), (3, [(1, .z (((i + 1 : Nat) : Int)))]), (4, [(2, .ix (i) [.z e_l_i.node, .u e_l_i.inc]), (4, .con (.v (.bool true))), (8, .b true), (12, .z (((i - 1 : Nat) : Int))), (13, .ix (i - 1) [.z e_l_i1.node, .u e_l_i1.inc]), (17, .ix (i) [.z e_l_i.node, .u e_l_i.inc]), (19, .con (.v (.bool true)))])] 2000 [] [0, 3] r (by kernel_rfl) (an u0 (an h0 (an (rfI ((i : Nat) : Int)) (an (procs_at ge_l_i) (an u1 (an h2 (an u2 (an (rfI ((i - 1 : Nat) : Int)) (an (procs_at ge_l_i1) (an (rfI ((i : Nat) : Int)) (an (procs_at ge_l_i) (an ((by have k := refBefore e_l_i1 e_l_i; rw [h3] at k; exact k) : Con Try.prog 56 [.ag [.z e_l_i1.node, .u e_l_i1.inc], .ag [.z e_l_i.node, .u e_l_i.inc]] (.v (.bool true))) (an ((wi (by omega)) : IntKind.i64.wrap ((((i : Nat) : Int) : Int) + 1) = ((i + 1 : Nat) : Int)) trivial))))))))))))) fun ac wd r => again0 (by omega) ac wd ⟨⟨by omega, hv0.step ge_l_i (by assumption) fun q hq0 hq => by first | (exfalso; omega) | (rw [ge_l_i1] at hq; cases hq; first | assumption | (rw [lt_of_cmp (by assumption)]; rfl))⟩, r⟩
set_option maxRecDepth 100000 in
theorem refServers (l : List Proc) (hb : l.length ≤ 9223372036854775807) : Con Try.prog 49 [.d (.ro 2 (procs l))] (DV.v (.bool (l.all Proc.srv))) := by
 refine Con.intro (by kernel_rfl) rfl rfl 16 rfl rfl fun w0 K ac hK r => ?_
 refine toHead (todo' := hd Try.f49 0) (E' := [(0, .d (.ro 2 (procs l))), (3, .n 0)]) (M' := []) tk tq hK [] 2000 [] [0, 3] r (by kernel_rfl) trivial fun ac wd r => ?_
 refine Goes.rounds (Φ := fun (i : Nat) ac wd => (i ≤ l.length ∧ ∀ j p, j < i → l[j]? = some p → p.srv = true) ∧ RE' [] w0 K 16 [(0, .d (.ro 2 (procs l))), (3, .n i)] [] ac wd) (l.length) ?_ (Nat.zero_le _) ⟨⟨by omega, by omega⟩, r⟩
 clear r
 rintro i hi0 again0 ac wd ⟨hv0, r⟩
 obtain ⟨hi1, hv0⟩ := hv0
 have u0 := ((by simp) : (((procs l).length : Nat) : Int) = ((l.length : Nat) : Int))
 cases h0 : (decide ((((i : Nat) : Int) : Int) < ((l.length : Nat) : Int))) with
 | false =>
  have qh0 := of_decide_eq_false h0
  rw [show (DV.v (.bool (l.all Proc.srv)) : DV) = .v (.bool true) from (bv (by first | exact all_of (by omega) hv0 | exact allP_no ge_l_i (by assumption)))]
  exact toRet tk tq hK rfl [(2, [(2, .z (((l.length : Nat) : Int))), (3, .b false)])] 2000 r (by kernel_rfl) (an u0 (an h0 trivial))
 | true =>
  have qh0 := of_decide_eq_true h0
  obtain ⟨e_l_i, ge_l_i⟩ : ∃ x, l[i]? = some x := ⟨_, List.getElem?_eq_getElem (by omega)⟩
  cases h1 : (e_l_i.srv) with
  | false =>
   rw [show (DV.v (.bool (l.all Proc.srv)) : DV) = .v (.bool false) from (bv (by first | exact all_of (by omega) hv0 | exact allP_no ge_l_i (by assumption)))]
   exact toRet tk tq hK rfl [(2, [(2, .z (((l.length : Nat) : Int))), (3, .b true)]), (4, [(2, .ix (i) [.z e_l_i.node, .u e_l_i.inc]), (4, .con (.v (.bool false)))])] 2000 r (by kernel_rfl) (an u0 (an h0 (an (rfI ((i : Nat) : Int)) (an (procs_at ge_l_i) (an ((by have k := refServer e_l_i; rw [h1] at k; exact k) : Con Try.prog 46 [.ag [.z e_l_i.node, .u e_l_i.inc]] (.v (.bool false))) trivial)))))
  | true =>
   exact toHead (todo' := hd Try.f49 0) tk tq hK [(2, [(2, .z (((l.length : Nat) : Int))), (3, .b true)]), (3, [(1, .z (((i + 1 : Nat) : Int)))]), (4, [(2, .ix (i) [.z e_l_i.node, .u e_l_i.inc]), (4, .con (.v (.bool true)))])] 2000 [] [0, 3] r (by kernel_rfl) (an u0 (an h0 (an (rfI ((i : Nat) : Int)) (an (procs_at ge_l_i) (an ((by have k := refServer e_l_i; rw [h1] at k; exact k) : Con Try.prog 46 [.ag [.z e_l_i.node, .u e_l_i.inc]] (.v (.bool true))) (an ((wi (by omega)) : IntKind.i64.wrap ((((i : Nat) : Int) : Int) + 1) = ((i + 1 : Nat) : Int)) trivial)))))) fun ac wd r => again0 (by omega) ac wd ⟨⟨by omega, fun j p hj hp => by rcases Nat.lt_succ_iff_lt_or_eq.1 hj with h | rfl; exact hv0 j p h hp; rw [ge_l_i] at hp; cases hp; assumption⟩, r⟩
set_option maxRecDepth 100000 in
theorem refLivesB (l : List Proc) (hb : l.length ≤ 9223372036854775807) : Con Try.prog 50 [.d (.ro 2 (procs l))] (DV.v (.bool (lone l))) := by
 refine Con.intro (by kernel_rfl) rfl rfl 27 rfl rfl fun w0 K ac hK r => ?_
 refine toHead (todo' := hd Try.f50 0) (E' := [(0, .d (.ro 2 (procs l))), (3, .n 0)]) (M' := []) tk tq hK [] 2000 [] [0, 3] r (by kernel_rfl) trivial fun ac wd r => ?_
 refine Goes.rounds (Φ := fun (i : Nat) ac wd => (i ≤ l.length ∧ Lone l i) ∧ RE' [] w0 K 27 [(0, .d (.ro 2 (procs l))), (3, .n i)] [] ac wd) (l.length) ?_ (Nat.zero_le _) ⟨⟨by omega, by simp [Lone]⟩, r⟩
 clear r
 rintro i hi0 again0 ac wd ⟨hv0, r⟩
 obtain ⟨hi1, hv0⟩ := hv0
 have u0 := ((by simp) : (((procs l).length : Nat) : Int) = ((l.length : Nat) : Int))
 cases h0 : (decide ((((i : Nat) : Int) : Int) < ((l.length : Nat) : Int))) with
 | false =>
  have qh0 := of_decide_eq_false h0
  rw [show (DV.v (.bool (lone l)) : DV) = .v (.bool true) from (bv (by first | exact lone_yes (by rw [show l.length = i by omega]; exact hv0) | exact lone_no (a := i) (b := j) (by omega) (by omega) ge_l_i ge_l_j (by assumption)))]
  exact toRet tk tq hK rfl [(2, [(2, .z (((l.length : Nat) : Int))), (3, .b false)])] 2000 r (by kernel_rfl) (an u0 (an h0 trivial))
 | true =>
  have qh0 := of_decide_eq_true h0
  obtain ⟨e_l_i, ge_l_i⟩ : ∃ x, l[i]? = some x := ⟨_, List.getElem?_eq_getElem (by omega)⟩
  refine toHead (todo' := hd Try.f50 1) (E' := [(0, .d (.ro 2 (procs l))), (3, .n i), (4, .n 0)]) (M' := []) tk tq hK [(2, [(2, .z (((l.length : Nat) : Int))), (3, .b true)])] 2000 [] [0, 3, 4] r (by kernel_rfl) (an u0 (an h0 trivial)) fun ac wd r => ?_
  refine Goes.rounds (Φ := fun (j : Nat) ac wd => (j ≤ i ∧ ∀ b q, b < j → l[b]? = some q → q.node ≠ e_l_i.node) ∧ RE' [] w0 K 27 [(0, .d (.ro 2 (procs l))), (3, .n i), (4, .n j)] [] ac wd) (i) ?_ (Nat.zero_le _) ⟨⟨by omega, by omega⟩, r⟩
  clear r
  rintro j hi1 again1 ac wd ⟨hv1, r⟩
  obtain ⟨hj1, hv1⟩ := hv1
  cases h1 : (decide ((((j : Nat) : Int) : Int) < ((i : Nat) : Int))) with
  | false =>
   have qh1 := of_decide_eq_false h1
   exact toHead (todo' := hd Try.f50 0) tk tq hK [(3, [(1, .z (((i + 1 : Nat) : Int)))]), (5, [(2, .b false)])] 2000 [] [0, 3] r (by kernel_rfl) (an h1 (an ((wi (by omega)) : IntKind.i64.wrap ((((i : Nat) : Int) : Int) + 1) = ((i + 1 : Nat) : Int)) trivial)) fun ac wd r => again0 (by omega) ac wd ⟨⟨by omega, fun a b p q ha hb hp hq => by rcases Nat.lt_succ_iff_lt_or_eq.1 ha with h | rfl; exact hv0 a b p q h hb hp hq; rw [ge_l_i] at hp; cases hp; exact hv1 b q (by omega) hq⟩, r⟩
  | true =>
   have qh1 := of_decide_eq_true h1
   obtain ⟨e_l_j, ge_l_j⟩ : ∃ x, l[j]? = some x := ⟨_, List.getElem?_eq_getElem (by omega)⟩
   cases h2 : ((e_l_j.node : Int) == e_l_i.node) with
   | false =>
    have qh2 := ne_of_beq_false h2
    exact toHead (todo' := hd Try.f50 1) tk tq hK [(5, [(2, .b true)]), (6, [(1, .z (((j + 1 : Nat) : Int)))]), (7, [(2, .ix (j) [.z e_l_j.node, .u e_l_j.inc]), (7, .ix (i) [.z e_l_i.node, .u e_l_i.inc]), (10, .b false)])] 2000 [] [0, 3, 4] r (by kernel_rfl) (an h1 (an (rfI ((j : Nat) : Int)) (an (procs_at ge_l_j) (an (rfI ((i : Nat) : Int)) (an (procs_at ge_l_i) (an h2 (an ((wi (by omega)) : IntKind.i64.wrap ((((j : Nat) : Int) : Int) + 1) = ((j + 1 : Nat) : Int)) trivial))))))) fun ac wd r => again1 (by omega) ac wd ⟨⟨by omega, fun b q hb hq => by rcases Nat.lt_succ_iff_lt_or_eq.1 hb with h | rfl; exact hv1 b q h hq; rw [ge_l_j] at hq; cases hq; assumption⟩, r⟩
   | true =>
    have qh2 := eq_of_beq h2
    rw [show (DV.v (.bool (lone l)) : DV) = .v (.bool false) from (bv (by first | exact lone_yes (by rw [show l.length = i by omega]; exact hv0) | exact lone_no (a := i) (b := j) (by omega) (by omega) ge_l_i ge_l_j (by assumption)))]
    exact toRet tk tq hK rfl [(5, [(2, .b true)]), (7, [(2, .ix (j) [.z e_l_j.node, .u e_l_j.inc]), (7, .ix (i) [.z e_l_i.node, .u e_l_i.inc]), (10, .b true)])] 2000 r (by kernel_rfl) (an h1 (an (rfI ((j : Nat) : Int)) (an (procs_at ge_l_j) (an (rfI ((i : Nat) : Int)) (an (procs_at ge_l_i) (an h2 trivial))))))
set_option maxRecDepth 100000 in
theorem refAdvert (a : Advert) (hb : a.peers.length ≤ 9223372036854775807) : Con Try.prog 35 [.ag [.z a.server.node, .u a.server.inc, .u a.seq, .d (.ro 2 (procs a.peers))]] (DV.v (.bool a.may)) := by
 refine Con.intro (by kernel_rfl) rfl rfl 36 rfl rfl fun w0 K ac hK r => ?_
 cases h0 : (a.server.srv) with
 | false =>
  rw [show (DV.v (.bool a.may) : DV) = .v (.bool false) from (bv (by first | exact Advert.no1 (by assumption) | exact Advert.no2 (by omega) | exact Advert.no3 (by assumption) | exact Advert.end2 (by assumption) (by omega) (by omega) (by assumption) (by assumption) (fun _ => by assumption) (by simp) | exact Advert.end2 (by assumption) (by omega) (by omega) (by assumption) (by assumption) (by simp) (fun _ => rfl)))]
  exact toRet tk tq hK rfl [(1, [(2, .con (.v (.bool false)))])] 2000 r (by kernel_rfl) (an ((by have k := refServer a.server; rw [h0] at k; exact k) : Con Try.prog 46 [.ag [.z a.server.node, .u a.server.inc]] (.v (.bool false))) trivial)
 | true =>
  have u0 := ((by have k := refServer a.server; rw [h0] at k; exact k) : Con Try.prog 46 [.ag [.z a.server.node, .u a.server.inc]] (.v (.bool true)))
  cases h1 : ((((a.seq : Nat) : Int) : Int) == 0) with
  | false =>
   have qh1 := ne_of_beq_false h1
   cases h2 : (decide (a.seq < 34359738368)) with
   | false =>
    have qh2 := of_decide_eq_false h2
    rw [show (DV.v (.bool a.may) : DV) = .v (.bool false) from (bv (by first | exact Advert.no1 (by assumption) | exact Advert.no2 (by omega) | exact Advert.no3 (by assumption) | exact Advert.end2 (by assumption) (by omega) (by omega) (by assumption) (by assumption) (fun _ => by assumption) (by simp) | exact Advert.end2 (by assumption) (by omega) (by omega) (by assumption) (by assumption) (by simp) (fun _ => rfl)))]
    exact toRet tk tq hK rfl [(1, [(2, .con (.v (.bool true))), (7, .b false), (12, .con (.v (.bool false)))])] 2000 r (by kernel_rfl) (an u0 (an h1 (an ((by have k := refCount a.seq; rw [h2] at k; exact k) : Con Try.prog 47 [.u a.seq] (.v (.bool false))) trivial)))
   | true =>
    have qh2 := of_decide_eq_true h2
    have u1 := ((by have k := refCount a.seq; rw [h2] at k; exact k) : Con Try.prog 47 [.u a.seq] (.v (.bool true)))
    cases h3 : (isSet a.peers) with
    | false =>
     rw [show (DV.v (.bool a.may) : DV) = .v (.bool false) from (bv (by first | exact Advert.no1 (by assumption) | exact Advert.no2 (by omega) | exact Advert.no3 (by assumption) | exact Advert.end2 (by assumption) (by omega) (by omega) (by assumption) (by assumption) (fun _ => by assumption) (by simp) | exact Advert.end2 (by assumption) (by omega) (by omega) (by assumption) (by assumption) (by simp) (fun _ => rfl)))]
     exact toRet tk tq hK rfl [(1, [(2, .con (.v (.bool true))), (7, .b false), (12, .con (.v (.bool true))), (18, .con (.v (.bool false)))])] 2000 r (by kernel_rfl) (an u0 (an h1 (an u1 (an ((by have k := refSetB a.peers (by omega); rw [h3] at k; exact k) : Con Try.prog 48 [.d (.ro 2 (procs a.peers))] (.v (.bool false))) trivial))))
    | true =>
     have u2 := ((by have k := refSetB a.peers (by omega); rw [h3] at k; exact k) : Con Try.prog 48 [.d (.ro 2 (procs a.peers))] (.v (.bool true)))
     cases h4 : (a.peers.all Proc.srv) with
     | false =>
      rw [show (DV.v (.bool a.may) : DV) = .v (.bool false) from (bv (by first | exact Advert.no1 (by assumption) | exact Advert.no2 (by omega) | exact Advert.no3 (by assumption) | exact Advert.end2 (by assumption) (by omega) (by omega) (by assumption) (by assumption) (fun _ => by assumption) (by simp) | exact Advert.end2 (by assumption) (by omega) (by omega) (by assumption) (by assumption) (by simp) (fun _ => rfl)))]
      exact toRet tk tq hK rfl [(1, [(2, .con (.v (.bool true))), (7, .b false), (12, .con (.v (.bool true))), (18, .con (.v (.bool true)))]), (3, [(2, .con (.v (.bool false)))])] 2000 r (by kernel_rfl) (an u0 (an h1 (an u1 (an u2 (an ((by have k := refServers a.peers hb; rw [h4] at k; exact k) : Con Try.prog 49 [.d (.ro 2 (procs a.peers))] (.v (.bool false))) trivial)))))
     | true =>
      have hss := set_short (l := a.peers) (by assumption) (by assumption)
      have u3 := ((by have k := refServers a.peers hb; rw [h4] at k; exact k) : Con Try.prog 49 [.d (.ro 2 (procs a.peers))] (.v (.bool true)))
      have u4 := ((by first | rfl | (simp; done) | (simp <;> omega)) : (1) = ([[.z a.server.node, .u a.server.inc]] : List (List DV)).length)
      have u5 := ((by first | omega | (simp; done) | (simp <;> omega)) : (2 * ((1) + (procs a.peers).length) + 0) * 16 ≤ 281474976710656)
      have u6 := ((by first | omega | (simp; done) | (simp <;> omega)) : (1) + (procs a.peers).length < 4611686018427387904)
      cases h5 : (lone (a.server :: a.peers)) with
      | false =>
       rw [show (DV.v (.bool a.may) : DV) = .v (.bool false) from (bv (by first | exact Advert.no1 (by assumption) | exact Advert.no2 (by omega) | exact Advert.no3 (by assumption) | exact Advert.end2 (by assumption) (by omega) (by omega) (by assumption) (by assumption) (fun _ => by assumption) (by simp) | exact Advert.end2 (by assumption) (by omega) (by omega) (by assumption) (by assumption) (by simp) (fun _ => rfl)))]
       exact toRet tk tq hK rfl [(1, [(2, .con (.v (.bool true))), (7, .b false), (12, .con (.v (.bool true))), (18, .con (.v (.bool true)))]), (3, [(2, .con (.v (.bool true))), (10, .call [.d (.ro 2 (procs (a.server :: a.peers)))] (.v (.bool false)))])] 2000 r (by kernel_rfl) (an u0 (an h1 (an u1 (an u2 (an u3 (an u4 (an u5 (an u6 (an ((one_procs _) : OneR (procs a.peers)) (an ((by have k := refLivesB (a.server :: a.peers) (by simp; omega); rw [h5] at k; exact k) : Con Try.prog 50 [.d (.ro 2 (procs (a.server :: a.peers)))] (.v (.bool false))) (an ((ind_v _) : Ind (.v (.bool false))) (an (rfN (2)) (an ((by first | rfl | (simp; done) | (simp <;> omega)) : (1 + (procs a.peers).length) = ([[.z a.server.node, .u a.server.inc]] ++ (procs a.peers) : List (List DV)).length) (an ((by rw [procs_cons]; exact froz_procs _) : frozR ([[.z a.server.node, .u a.server.inc]] ++ (procs a.peers)) = procs (a.server :: a.peers)) trivial))))))))))))))
      | true =>
       rw [show (DV.v (.bool a.may) : DV) = .v (.bool true) from (bv (by first | exact Advert.no1 (by assumption) | exact Advert.no2 (by omega) | exact Advert.no3 (by assumption) | exact Advert.end2 (by assumption) (by omega) (by omega) (by assumption) (by assumption) (fun _ => by assumption) (by simp) | exact Advert.end2 (by assumption) (by omega) (by omega) (by assumption) (by assumption) (by simp) (fun _ => rfl)))]
       exact toRet tk tq hK rfl [(1, [(2, .con (.v (.bool true))), (7, .b false), (12, .con (.v (.bool true))), (18, .con (.v (.bool true)))]), (3, [(2, .con (.v (.bool true))), (10, .call [.d (.ro 2 (procs (a.server :: a.peers)))] (.v (.bool true)))])] 2000 r (by kernel_rfl) (an u0 (an h1 (an u1 (an u2 (an u3 (an u4 (an u5 (an u6 (an ((one_procs _) : OneR (procs a.peers)) (an ((by have k := refLivesB (a.server :: a.peers) (by simp; omega); rw [h5] at k; exact k) : Con Try.prog 50 [.d (.ro 2 (procs (a.server :: a.peers)))] (.v (.bool true))) (an ((ind_v _) : Ind (.v (.bool true))) (an (rfN (2)) (an ((by first | rfl | (simp; done) | (simp <;> omega)) : (1 + (procs a.peers).length) = ([[.z a.server.node, .u a.server.inc]] ++ (procs a.peers) : List (List DV)).length) (an ((by rw [procs_cons]; exact froz_procs _) : frozR ([[.z a.server.node, .u a.server.inc]] ++ (procs a.peers)) = procs (a.server :: a.peers)) trivial))))))))))))))
  | true =>
   have qh1 := eq_of_beq h1
   rw [show (DV.v (.bool a.may) : DV) = .v (.bool false) from (bv (by first | exact Advert.no1 (by assumption) | exact Advert.no2 (by omega) | exact Advert.no3 (by assumption) | exact Advert.end2 (by assumption) (by omega) (by omega) (by assumption) (by assumption) (fun _ => by assumption) (by simp) | exact Advert.end2 (by assumption) (by omega) (by omega) (by assumption) (by assumption) (by simp) (fun _ => rfl)))]
   exact toRet tk tq hK rfl [(1, [(2, .con (.v (.bool true))), (7, .b true)])] 2000 r (by kernel_rfl) (an u0 (an h1 trivial))
end Go.Proofs.Ytikmdkicccfjpaa
namespace Go.Proofs.Ytikmdkicccfjpaa
open Go.RowKit
def newer (a b : Advert) : Bool := decide (b.server.inc < a.server.inc ∨ a.server.inc = b.server.inc ∧ b.seq < a.seq)
def Advert.rowO (a : Advert) : List DV := [.v (.int .i64 a.server.node), .v (.int .u64 (a.server.inc : Int)), .v (.int .u64 (a.seq : Int)), .em 30 2 (procs a.peers)]
abbrev advertsO (l : List Advert) : List (List DV) := l.map Advert.rowO
theorem advertsO_app (l : List Advert) (a : Advert) : advertsO l ++ [[.v (.int .i64 a.server.node), .v (.int .u64 (a.server.inc : Int)), .v (.int .u64 (a.seq : Int)), .em 30 2 (procs a.peers)]] = advertsO (l ++ [a]) := by simp [advertsO, Advert.rowO]
theorem froz_advertsO (l : List Advert) : frozR (advertsO l) = adverts l := by
 rw [frozR_map]; unfold advertsO adverts; rw [List.map_map]; apply List.map_congr_left; intro s _; show [froz (.v _), froz (.v _), froz (.v _), froz (.em _ 2 (procs s.peers))] = _; rw [froz, froz, froz, froz, froz_procs]; rfl
theorem froz_adverts (l : List Advert) : frozR (adverts l) = adverts l := by
 rw [frozR_map]; unfold adverts; rw [List.map_map]; apply List.map_congr_left; intro s _; simp [Advert.row, froz]
set_option maxRecDepth 100000 in
theorem newerOk (a b : Advert) : Con Try.prog 33 [.ag [.z a.server.node, .u a.server.inc, .u a.seq, .d (.ro 2 (procs a.peers))], .ag [.z b.server.node, .u b.server.inc, .u b.seq, .d (.ro 2 (procs b.peers))]] (DV.v (.bool (newer a b))) := by
 refine Con.intro (by kernel_rfl) rfl rfl 24 rfl rfl fun w0 K ac hK r => ?_
 cases h0 : ((((a.server.inc : Nat) : Int) : Int) != ((b.server.inc : Nat) : Int)) with
 | false =>
  have qh0 := eq_of_bne h0
  cases h1 : (decide ((((b.seq : Nat) : Int) : Int) < ((a.seq : Nat) : Int))) with
  | false =>
   have qh1 := of_decide_eq_false h1
   rw [show (DV.v (.bool (newer a b)) : DV) = .v (.bool false) from (bv (by unfold newer; first | (apply decide_eq_true; omega) | (apply decide_eq_false; omega) | (simp; omega)))]
   exact toRet tk tq hK rfl [(1, [(6, .b false)]), (3, [(4, .b false)])] 2000 r (by kernel_rfl) (an h0 (an h1 trivial))
  | true =>
   have qh1 := of_decide_eq_true h1
   rw [show (DV.v (.bool (newer a b)) : DV) = .v (.bool true) from (bv (by unfold newer; first | (apply decide_eq_true; omega) | (apply decide_eq_false; omega) | (simp; omega)))]
   exact toRet tk tq hK rfl [(1, [(6, .b false)]), (3, [(4, .b true)])] 2000 r (by kernel_rfl) (an h0 (an h1 trivial))
 | true =>
  have qh0 : ¬ _ = _ := bne_iff_ne.1 h0
  cases h2 : (decide ((((b.server.inc : Nat) : Int) : Int) < ((a.server.inc : Nat) : Int))) with
  | false =>
   have qh2 := of_decide_eq_false h2
   rw [show (DV.v (.bool (newer a b)) : DV) = .v (.bool false) from (bv (by unfold newer; first | (apply decide_eq_true; omega) | (apply decide_eq_false; omega) | (simp; omega)))]
   exact toRet tk tq hK rfl [(1, [(6, .b true)]), (2, [(6, .b false)])] 2000 r (by kernel_rfl) (an h0 (an h2 trivial))
  | true =>
   have qh2 := of_decide_eq_true h2
   rw [show (DV.v (.bool (newer a b)) : DV) = .v (.bool true) from (bv (by unfold newer; first | (apply decide_eq_true; omega) | (apply decide_eq_false; omega) | (simp; omega)))]
   exact toRet tk tq hK rfl [(1, [(6, .b true)]), (2, [(6, .b true)])] 2000 r (by kernel_rfl) (an h0 (an h2 trivial))
set_option maxRecDepth 100000 in
theorem refNewer (a b : Advert) : Con Try.prog 36 [.ag [.z a.server.node, .u a.server.inc, .u a.seq, .d (.ro 2 (procs a.peers))], .ag [.z b.server.node, .u b.server.inc, .u b.seq, .d (.ro 2 (procs b.peers))]] (DV.v (.bool (newer a b))) := by
 refine Con.intro (by kernel_rfl) rfl rfl 28 rfl rfl fun w0 K ac hK r => ?_
 cases h0 : (decide ((((b.server.inc : Nat) : Int) : Int) < ((a.server.inc : Nat) : Int))) with
 | false =>
  have qh0 := of_decide_eq_false h0
  cases h1 : ((((a.server.inc : Nat) : Int) : Int) == ((b.server.inc : Nat) : Int)) with
  | false =>
   have qh1 := ne_of_beq_false h1
   rw [show (DV.v (.bool (newer a b)) : DV) = .v (.bool false) from (bv (by unfold newer; first | (apply decide_eq_true; omega) | (apply decide_eq_false; omega) | (simp; omega)))]
   exact toRet tk tq hK rfl [(1, [(6, .b false), (14, .b false)])] 2000 r (by kernel_rfl) (an h0 (an h1 trivial))
  | true =>
   have qh1 := eq_of_beq h1
   cases h2 : (decide ((((b.seq : Nat) : Int) : Int) < ((a.seq : Nat) : Int))) with
   | false =>
    have qh2 := of_decide_eq_false h2
    rw [show (DV.v (.bool (newer a b)) : DV) = .v (.bool false) from (bv (by unfold newer; first | (apply decide_eq_true; omega) | (apply decide_eq_false; omega) | (simp; omega)))]
    exact toRet tk tq hK rfl [(1, [(6, .b false), (14, .b true), (20, .b false)])] 2000 r (by kernel_rfl) (an h0 (an h1 (an h2 trivial)))
   | true =>
    have qh2 := of_decide_eq_true h2
    rw [show (DV.v (.bool (newer a b)) : DV) = .v (.bool true) from (bv (by unfold newer; first | (apply decide_eq_true; omega) | (apply decide_eq_false; omega) | (simp; omega)))]
    exact toRet tk tq hK rfl [(1, [(6, .b false), (14, .b true), (20, .b true)])] 2000 r (by kernel_rfl) (an h0 (an h1 (an h2 trivial)))
 | true =>
  have qh0 := of_decide_eq_true h0
  rw [show (DV.v (.bool (newer a b)) : DV) = .v (.bool true) from (bv (by unfold newer; first | (apply decide_eq_true; omega) | (apply decide_eq_false; omega) | (simp; omega)))]
  exact toRet tk tq hK rfl [(1, [(6, .b true)])] 2000 r (by kernel_rfl) (an h0 trivial)
set_option maxRecDepth 100000 in
theorem refOwn (a : Advert) (hb : a.peers.length ≤ 1000000000) : Con Try.prog 31 [.ag [.z a.server.node, .u a.server.inc, .u a.seq, .d (.ro 2 (procs a.peers))]] (.ag [.z a.server.node, .u a.server.inc, .u a.seq, .em 30 2 ([] ++ procs a.peers)]) := by
 refine Con.intro (by kernel_rfl) rfl rfl 9 rfl rfl fun w0 K ac hK r => ?_
 exact toRet tk tq hK rfl [] 2000 r (by kernel_rfl) (an ((by first | rfl | (simp; done) | (simp <;> omega)) : (0) = ([] : List (List DV)).length) (an ((by first | omega | (simp; done) | (simp <;> omega)) : (2 * ((0) + (procs a.peers).length) + 0) * 16 ≤ 281474976710656) (an ((by first | omega | (simp; done) | (simp <;> omega)) : (0) + (procs a.peers).length < 4611686018427387904) (an ((one_procs _) : OneR (procs a.peers)) (an ((by first | rfl | (simp; done) | (simp <;> omega)) : (0 + (procs a.peers).length) = ([] ++ (procs a.peers) : List (List DV)).length) trivial)))))
set_option maxRecDepth 100000 in
theorem refEqualB (a b : List Proc) (hb : a.length ≤ 9223372036854775807) : Con Try.prog 20 [.d (.ro 2 (procs a)), .d (.ro 2 (procs b))] (DV.v (.bool (decide (a = b)))) := by
 refine Con.intro (by kernel_rfl) rfl rfl 26 rfl rfl fun w0 K ac hK r => ?_
 have u0 := ((by simp) : (((procs a).length : Nat) : Int) = ((a.length : Nat) : Int))
 have u1 := ((by simp) : (((procs b).length : Nat) : Int) = ((b.length : Nat) : Int))
 cases h0 : ((((a.length : Nat) : Int) : Int) != ((b.length : Nat) : Int)) with
 | false =>
  have qh0 := eq_of_bne h0
  refine toHead (todo' := hd Try.f20 0) (E' := [(0, .d (.ro 2 (procs a))), (1, .d (.ro 2 (procs b))), (5, .n 0)]) (M' := []) tk tq hK [(1, [(1, .z (((a.length : Nat) : Int))), (3, .z (((b.length : Nat) : Int))), (4, .b false)])] 2000 [] [0, 1, 5] r (by kernel_rfl) (an u0 (an u1 (an h0 trivial))) fun ac wd r => ?_
  refine Goes.rounds (Φ := fun (i : Nat) ac wd => (i ≤ a.length ∧ ∀ j, j < i → a[j]? = b[j]?) ∧ RE' [] w0 K 26 [(0, .d (.ro 2 (procs a))), (1, .d (.ro 2 (procs b))), (5, .n i)] [] ac wd) (a.length) ?_ (Nat.zero_le _) ⟨⟨by omega, by omega⟩, r⟩
  clear r
  rintro i hi0 again0 ac wd ⟨hv0, r⟩
  obtain ⟨hi1, hv0⟩ := hv0
  cases h1 : (decide ((((i : Nat) : Int) : Int) < ((a.length : Nat) : Int))) with
  | false =>
   have qh1 := of_decide_eq_false h1
   rw [show (DV.v (.bool (decide (a = b))) : DV) = .v (.bool true) from (bv (by first | (simp; intro e; subst e; simp_all; done) | (simp; exact ext_of (by omega) fun j hj => hv0 j (by omega))))]
   exact toRet tk tq hK rfl [(4, [(2, .z (((a.length : Nat) : Int))), (3, .b false)])] 2000 r (by kernel_rfl) (an u0 (an h1 trivial))
  | true =>
   have qh1 := of_decide_eq_true h1
   obtain ⟨e_a_i, ge_a_i⟩ : ∃ x, a[i]? = some x := ⟨_, List.getElem?_eq_getElem (by omega)⟩
   obtain ⟨e_b_i, ge_b_i⟩ : ∃ x, b[i]? = some x := ⟨_, List.getElem?_eq_getElem (by omega)⟩
   cases h2 : (decide (e_a_i = e_b_i)) with
   | false =>
    have qh2 := of_decide_eq_false h2
    rw [show (DV.v (.bool (decide (a = b))) : DV) = .v (.bool false) from (bv (by first | (simp; intro e; subst e; simp_all; done) | (simp; exact ext_of (by omega) fun j hj => hv0 j (by omega))))]
    exact toRet tk tq hK rfl [(4, [(2, .z (((a.length : Nat) : Int))), (3, .b true)]), (6, [(2, .ix (i) [.z e_a_i.node, .u e_a_i.inc]), (6, .ix (i) [.z e_b_i.node, .u e_b_i.inc]), (8, .b false)])] 2000 r (by kernel_rfl) (an u0 (an h1 (an (rfI ((i : Nat) : Int)) (an (procs_at ge_a_i) (an (rfI ((i : Nat) : Int)) (an (procs_at ge_b_i) (an ((eqT (eqProcD _ _) h2) : EqAgg Try.prog 30 [(.int .i64 (e_a_i.node)), (.int .u64 (((e_a_i.inc : Nat) : Int)))] [(.int .i64 (e_b_i.node)), (.int .u64 (((e_b_i.inc : Nat) : Int)))] false) trivial)))))))
   | true =>
    have qh2 := of_decide_eq_true h2
    exact toHead (todo' := hd Try.f20 0) tk tq hK [(4, [(2, .z (((a.length : Nat) : Int))), (3, .b true)]), (5, [(1, .z (((i + 1 : Nat) : Int)))]), (6, [(2, .ix (i) [.z e_a_i.node, .u e_a_i.inc]), (6, .ix (i) [.z e_b_i.node, .u e_b_i.inc]), (8, .b true)])] 2000 [] [0, 1, 5] r (by kernel_rfl) (an u0 (an h1 (an (rfI ((i : Nat) : Int)) (an (procs_at ge_a_i) (an (rfI ((i : Nat) : Int)) (an (procs_at ge_b_i) (an ((eqT (eqProcD _ _) h2) : EqAgg Try.prog 30 [(.int .i64 (e_a_i.node)), (.int .u64 (((e_a_i.inc : Nat) : Int)))] [(.int .i64 (e_b_i.node)), (.int .u64 (((e_b_i.inc : Nat) : Int)))] true) (an ((wi (by omega)) : IntKind.i64.wrap ((((i : Nat) : Int) : Int) + 1) = ((i + 1 : Nat) : Int)) trivial)))))))) fun ac wd r => again0 (by omega) ac wd ⟨⟨by omega, fun j hj => by rcases Nat.lt_succ_iff_lt_or_eq.1 hj with h | rfl; exact hv0 j h; simp only [ge_a_i, ge_b_i, Option.some.injEq]; first | assumption | omega⟩, r⟩
 | true =>
  have qh0 : ¬ _ = _ := bne_iff_ne.1 h0
  rw [show (DV.v (.bool (decide (a = b))) : DV) = .v (.bool false) from (bv (by first | (simp; intro e; subst e; simp_all; done) | (simp; exact ext_of (by omega) fun j hj => hv0 j (by omega))))]
  exact toRet tk tq hK rfl [(1, [(1, .z (((a.length : Nat) : Int))), (3, .z (((b.length : Nat) : Int))), (4, .b true)])] 2000 r (by kernel_rfl) (an u0 (an u1 (an h0 trivial)))
set_option maxRecDepth 100000 in
theorem sameAdvert (a b : Advert) (hb : a.peers.length ≤ 9223372036854775807) : Con Try.prog 19 [.ag [.z a.server.node, .u a.server.inc, .u a.seq, .d (.ro 2 (procs a.peers))], .ag [.z b.server.node, .u b.server.inc, .u b.seq, .d (.ro 2 (procs b.peers))]] (DV.v (.bool (decide (a = b)))) := by
 refine Con.intro (by kernel_rfl) rfl rfl 24 rfl rfl fun w0 K ac hK r => ?_
 cases h0 : (decide (a.server = b.server)) with
 | false =>
  have qh0 := of_decide_eq_false h0
  rw [show (DV.v (.bool (decide (a = b))) : DV) = .v (.bool false) from (bv (by cases a; cases b; simp_all <;> omega))]
  exact toRet tk tq hK rfl [(1, [(4, .b false)])] 2000 r (by kernel_rfl) (an ((eqT (eqProcD _ _) h0) : EqAgg Try.prog 30 [(.int .i64 (a.server.node)), (.int .u64 (((a.server.inc : Nat) : Int)))] [(.int .i64 (b.server.node)), (.int .u64 (((b.server.inc : Nat) : Int)))] false) trivial)
 | true =>
  have qh0 := of_decide_eq_true h0
  have u0 := ((eqT (eqProcD _ _) h0) : EqAgg Try.prog 30 [(.int .i64 (a.server.node)), (.int .u64 (((a.server.inc : Nat) : Int)))] [(.int .i64 (b.server.node)), (.int .u64 (((b.server.inc : Nat) : Int)))] true)
  cases h1 : ((((a.seq : Nat) : Int) : Int) == ((b.seq : Nat) : Int)) with
  | false =>
   have qh1 := ne_of_beq_false h1
   rw [show (DV.v (.bool (decide (a = b))) : DV) = .v (.bool false) from (bv (by cases a; cases b; simp_all <;> omega))]
   exact toRet tk tq hK rfl [(1, [(4, .b true), (10, .b false)])] 2000 r (by kernel_rfl) (an u0 (an h1 trivial))
  | true =>
   have qh1 := eq_of_beq h1
   cases h2 : (decide (a.peers = b.peers)) with
   | false =>
    have qh2 := of_decide_eq_false h2
    rw [show (DV.v (.bool (decide (a = b))) : DV) = .v (.bool false) from (bv (by cases a; cases b; simp_all <;> omega))]
    exact toRet tk tq hK rfl [(1, [(4, .b true), (10, .b true), (17, .con (.v (.bool false)))])] 2000 r (by kernel_rfl) (an u0 (an h1 (an ((by have k := refEqualB a.peers b.peers (by assumption); rw [h2] at k; exact k) : Con Try.prog 20 [.d (.ro 2 (procs a.peers)), .d (.ro 2 (procs b.peers))] (.v (.bool false))) trivial)))
   | true =>
    have qh2 := of_decide_eq_true h2
    rw [show (DV.v (.bool (decide (a = b))) : DV) = .v (.bool true) from (bv (by cases a; cases b; simp_all <;> omega))]
    exact toRet tk tq hK rfl [(1, [(4, .b true), (10, .b true), (17, .con (.v (.bool true)))])] 2000 r (by kernel_rfl) (an u0 (an h1 (an ((by have k := refEqualB a.peers b.peers (by assumption); rw [h2] at k; exact k) : Con Try.prog 20 [.d (.ro 2 (procs a.peers)), .d (.ro 2 (procs b.peers))] (.v (.bool true))) trivial)))
set_option maxRecDepth 100000 in
theorem sameOk (a b : List Advert) (hb : a.length ≤ 9223372036854775807) (hp : ∀ x ∈ a, x.peers.length ≤ 9223372036854775807) : Con Try.prog 15 [.d (.ro 4 (adverts a)), .d (.ro 4 (adverts b))] (DV.v (.bool (decide (a = b)))) := by
 refine Con.intro (by kernel_rfl) rfl rfl 27 rfl rfl fun w0 K ac hK r => ?_
 have u0 := ((by simp) : (((adverts a).length : Nat) : Int) = ((a.length : Nat) : Int))
 have u1 := ((by simp) : (((adverts b).length : Nat) : Int) = ((b.length : Nat) : Int))
 cases h0 : ((((a.length : Nat) : Int) : Int) != ((b.length : Nat) : Int)) with
 | false =>
  have qh0 := eq_of_bne h0
  refine toHead (todo' := hd Try.f15 0) (E' := [(0, .d (.ro 4 (adverts a))), (1, .d (.ro 4 (adverts b))), (5, .n 0)]) (M' := []) tk tq hK [(1, [(1, .z (((a.length : Nat) : Int))), (3, .z (((b.length : Nat) : Int))), (4, .b false)])] 2000 [] [0, 1, 5] r (by kernel_rfl) (an u0 (an u1 (an h0 trivial))) fun ac wd r => ?_
  refine Goes.rounds (Φ := fun (i : Nat) ac wd => (i ≤ a.length ∧ ∀ j, j < i → a[j]? = b[j]?) ∧ RE' [] w0 K 27 [(0, .d (.ro 4 (adverts a))), (1, .d (.ro 4 (adverts b))), (5, .n i)] [] ac wd) (a.length) ?_ (Nat.zero_le _) ⟨⟨by omega, by omega⟩, r⟩
  clear r
  rintro i hi0 again0 ac wd ⟨hv0, r⟩
  obtain ⟨hi1, hv0⟩ := hv0
  cases h1 : (decide ((((i : Nat) : Int) : Int) < ((a.length : Nat) : Int))) with
  | false =>
   have qh1 := of_decide_eq_false h1
   rw [show (DV.v (.bool (decide (a = b))) : DV) = .v (.bool true) from (bv (by first | (apply decide_eq_false; intro e; subst e; simp_all; done) | (apply decide_eq_true; exact ext_of (by omega) fun j hj => hv0 j (by omega))))]
   exact toRet tk tq hK rfl [(4, [(2, .z (((a.length : Nat) : Int))), (3, .b false)])] 2000 r (by kernel_rfl) (an u0 (an h1 trivial))
  | true =>
   have qh1 := of_decide_eq_true h1
   obtain ⟨e_a_i, ge_a_i⟩ : ∃ x, a[i]? = some x := ⟨_, List.getElem?_eq_getElem (by omega)⟩
   have be_a_i := hp _ (List.mem_of_getElem? ge_a_i)
   obtain ⟨e_b_i, ge_b_i⟩ : ∃ x, b[i]? = some x := ⟨_, List.getElem?_eq_getElem (by omega)⟩
   cases h2 : (decide (e_a_i = e_b_i)) with
   | false =>
    have qh2 := of_decide_eq_false h2
    rw [show (DV.v (.bool (decide (a = b))) : DV) = .v (.bool false) from (bv (by first | (apply decide_eq_false; intro e; subst e; simp_all; done) | (apply decide_eq_true; exact ext_of (by omega) fun j hj => hv0 j (by omega))))]
    exact toRet tk tq hK rfl [(4, [(2, .z (((a.length : Nat) : Int))), (3, .b true)]), (6, [(2, .ix (i) [.z e_a_i.server.node, .u e_a_i.server.inc, .u e_a_i.seq, .ro 2 (procs e_a_i.peers)]), (6, .ix (i) [.z e_b_i.server.node, .u e_b_i.server.inc, .u e_b_i.seq, .ro 2 (procs e_b_i.peers)]), (8, .con (.v (.bool false)))])] 2000 r (by kernel_rfl) (an u0 (an h1 (an (rfI ((i : Nat) : Int)) (an (adverts_at ge_a_i) (an (rfI ((i : Nat) : Int)) (an (adverts_at ge_b_i) (an ((by have k := sameAdvert e_a_i e_b_i (by assumption); rw [h2] at k; exact k) : Con Try.prog 19 [.ag [.z e_a_i.server.node, .u e_a_i.server.inc, .u e_a_i.seq, .d (.ro 2 (procs e_a_i.peers))], .ag [.z e_b_i.server.node, .u e_b_i.server.inc, .u e_b_i.seq, .d (.ro 2 (procs e_b_i.peers))]] (.v (.bool false))) trivial)))))))
   | true =>
    have qh2 := of_decide_eq_true h2
    exact toHead (todo' := hd Try.f15 0) tk tq hK [(4, [(2, .z (((a.length : Nat) : Int))), (3, .b true)]), (5, [(1, .z (((i + 1 : Nat) : Int)))]), (6, [(2, .ix (i) [.z e_a_i.server.node, .u e_a_i.server.inc, .u e_a_i.seq, .ro 2 (procs e_a_i.peers)]), (6, .ix (i) [.z e_b_i.server.node, .u e_b_i.server.inc, .u e_b_i.seq, .ro 2 (procs e_b_i.peers)]), (8, .con (.v (.bool true)))])] 2000 [] [0, 1, 5] r (by kernel_rfl) (an u0 (an h1 (an (rfI ((i : Nat) : Int)) (an (adverts_at ge_a_i) (an (rfI ((i : Nat) : Int)) (an (adverts_at ge_b_i) (an ((by have k := sameAdvert e_a_i e_b_i (by assumption); rw [h2] at k; exact k) : Con Try.prog 19 [.ag [.z e_a_i.server.node, .u e_a_i.server.inc, .u e_a_i.seq, .d (.ro 2 (procs e_a_i.peers))], .ag [.z e_b_i.server.node, .u e_b_i.server.inc, .u e_b_i.seq, .d (.ro 2 (procs e_b_i.peers))]] (.v (.bool true))) (an ((wi (by omega)) : IntKind.i64.wrap ((((i : Nat) : Int) : Int) + 1) = ((i + 1 : Nat) : Int)) trivial)))))))) fun ac wd r => again0 (by omega) ac wd ⟨⟨by omega, fun j hj => by rcases Nat.lt_succ_iff_lt_or_eq.1 hj with h | rfl; exact hv0 j h; simp only [ge_a_i, ge_b_i, Option.some.injEq]; simp_all⟩, r⟩
 | true =>
  have qh0 : ¬ _ = _ := bne_iff_ne.1 h0
  rw [show (DV.v (.bool (decide (a = b))) : DV) = .v (.bool false) from (bv (by first | (apply decide_eq_false; intro e; subst e; simp_all; done) | (apply decide_eq_true; exact ext_of (by omega) fun j hj => hv0 j (by omega))))]
  exact toRet tk tq hK rfl [(1, [(1, .z (((a.length : Nat) : Int))), (3, .z (((b.length : Nat) : Int))), (4, .b true)])] 2000 r (by kernel_rfl) (an u0 (an u1 (an h0 trivial)))
end Go.Proofs.Ytikmdkicccfjpaa
namespace Go.Proofs.Ytikmdkicccfjpaa
open Go.RowKit
theorem rowNone : LeL [.z 0, .v (.int .u64 0), .v (.int .u64 0), .v (.slice none 0 0)] [.v (.int .i64 0), .v (.int .u64 ((0 : Nat) : Int)), .v (.int .u64 ((0 : Nat) : Int)), .ro 2 []] := .cons (Le.refl _) (.cons (Le.refl _) (.cons (Le.refl _) (.cons (Le.nilRo 2) .nil)))
abbrev Advert.none : Advert := ⟨⟨0, 0⟩, 0, []⟩
def stp (k : Nat) (c a : Advert) : Advert := if a.may = true ∧ a.server.node = (k : Int) ∧ (c.seq = 0 ∨ newer a c = true) then a else c
def best (l : List Advert) (n k : Nat) : Advert := (l.take n).foldl (stp k) Advert.none
theorem best_succ {l : List Advert} {n : Nat} {a : Advert} (h : l[n]? = some a) (k : Nat) : best l (n + 1) k = stp k (best l n k) a := by
 obtain ⟨hn, rfl⟩ := List.getElem?_eq_some_iff.1 h
 rw [best, List.take_succ_eq_append_getElem hn, List.foldl_append]; rfl
def adv5 (l : List Advert) (n : Nat) : List (List DV) := [(best l n 0).row, (best l n 1).row, (best l n 2).row, (best l n 3).row, (best l n 4).row]
theorem adv5_at {l : List Advert} {n k : Nat} (h : k < 5) : (adv5 l n)[k]? = some (best l n k).row := by
 match k, h with
 | 0, _ => rfl
 | 1, _ => rfl
 | 2, _ => rfl
 | 3, _ => rfl
 | 4, _ => rfl
 | k + 5, h => omega
theorem five {P : Nat → Prop} (h : ∀ k, k < 5 → P k) : P 0 ∧ P 1 ∧ P 2 ∧ P 3 ∧ P 4 := ⟨h 0 (by omega), h 1 (by omega), h 2 (by omega), h 3 (by omega), h 4 (by omega)⟩
theorem adv5_same {l : List Advert} {n : Nat} (h : ∀ k, k < 5 → best l (n + 1) k = best l n k) : adv5 l n = adv5 l (n + 1) := by
 obtain ⟨h0, h1, h2, h3, h4⟩ := five h
 rw [adv5, adv5, h0, h1, h2, h3, h4]
theorem adv5_set {l : List Advert} {n k : Nat} {a : Advert} (hk : k < 5) (h : ∀ j, j < 5 → best l (n + 1) j = if j = k then a else best l n j) : List.set (adv5 l n) k a.row = adv5 l (n + 1) := by
 obtain ⟨h0, h1, h2, h3, h4⟩ := five h
 rw [adv5, adv5, h0, h1, h2, h3, h4]
 match k, hk with
 | 0, _ => rfl
 | 1, _ => rfl
 | 2, _ => rfl
 | 3, _ => rfl
 | 4, _ => rfl
 | k + 5, h => omega
theorem of_no {l : List Advert} {n : Nat} {a : Advert} (h : l[n]? = some a) (hm : a.may = false) : adv5 l n = adv5 l (n + 1) :=
 adv5_same fun k _ => by rw [best_succ h, stp, if_neg (by simp [hm])]
theorem may_node {a : Advert} (h : a.may = true) : ((a.server.node.toNat : Nat) : Int) = a.server.node ∧ a.server.node.toNat < 5 ∧ 0 < a.server.node.toNat := by
 have := Proc.srv_iff.1 (Advert.may_iff.1 h).1
 omega
theorem of_old {l : List Advert} {n : Nat} {a : Advert} (h : l[n]? = some a) (hm : a.may = true) (h1 : ((best l n a.server.node.toNat).seq : Int) ≠ 0) (h2 : newer a (best l n a.server.node.toNat) = false) : adv5 l n = adv5 l (n + 1) :=
 adv5_same fun k _ => by
  rw [best_succ h, stp, if_neg]
  rintro ⟨-, e, e2⟩
  obtain rfl : a.server.node.toNat = k := by omega
  rcases e2 with e2 | e2
  ·exact h1 (by rw [e2]; rfl)
  ·rw [h2] at e2; cases e2
theorem of_yes {l : List Advert} {n : Nat} {a : Advert} (h : l[n]? = some a) (hm : a.may = true) (h2 : ((best l n a.server.node.toNat).seq : Int) = 0 ∨ newer a (best l n a.server.node.toNat) = true) : List.set (adv5 l n) (0 + a.server.node.toNat) a.row = adv5 l (n + 1) := by
 obtain ⟨e1, e2, -⟩ := may_node hm
 rw [Nat.zero_add]
 refine adv5_set e2 fun k hk => ?_
 rw [best_succ h, stp]
 by_cases hkk : k = a.server.node.toNat
 ·subst hkk; rw [if_pos ⟨hm, e1.symm, h2.imp (fun h => by omega) id⟩, if_pos rfl]
 ·rw [if_neg hkk, if_neg]
  rintro ⟨-, e, -⟩
  omega
def bookTo (l : List Advert) : Nat → List Advert
 | 0 => []
 | k + 1 => bookTo l k ++ (if 0 < (best l l.length k).seq then [best l l.length k] else [])
def book (l : List Advert) : List Advert := bookTo l 5
theorem best_or (l : List Advert) (k : Nat) : ∀ n, best l n k = Advert.none ∨ (best l n k ∈ l ∧ (best l n k).may = true ∧ (best l n k).server.node = (k : Int)) := by
 intro n
 induction n with
 | zero => left; simp [best]
 | succ n ih =>
  rcases Nat.lt_or_ge n l.length with hn | hn
  ·have e := List.getElem?_eq_getElem hn
   rw [best_succ e, stp]
   split
   ·rename_i h; exact .inr ⟨List.getElem_mem hn, h.1, h.2.1⟩
   ·exact ih
  ·have : best l (n + 1) k = best l n k := by rw [best, best, List.take_of_length_le (by omega), List.take_of_length_le hn]
   rw [this]; exact ih
theorem best_few (l : List Advert) (n k : Nat) : (best l n k).peers.length ≤ 3 := by
 rcases best_or l k n with h | ⟨-, h, -⟩
 ·rw [h]; simp
 ·exact Advert.few h
theorem bookTo_yes {l : List Advert} {k : Nat} (h : (0 : Int) < ((best l l.length k).seq : Int)) : advertsO (bookTo l k) ++ [[.v (.int .i64 (best l l.length k).server.node), .v (.int .u64 ((best l l.length k).server.inc : Int)), .v (.int .u64 ((best l l.length k).seq : Int)), .em 30 2 (procs (best l l.length k).peers)]] = advertsO (bookTo l (k + 1)) := by
 rw [advertsO_app, bookTo, if_pos (by omega)]
theorem bookTo_no {l : List Advert} {k : Nat} (h : ¬ (0 : Int) < ((best l l.length k).seq : Int)) : advertsO (bookTo l k) = advertsO (bookTo l (k + 1)) := by
 rw [bookTo, if_neg (by omega), List.append_nil]
theorem bookTo_lenY {l : List Advert} {k : Nat} (h : (0 : Int) < ((best l l.length k).seq : Int)) : (bookTo l (k + 1)).length = (bookTo l k).length + 1 := by
 rw [bookTo, if_pos (by omega)]; simp
theorem bookTo_lenN {l : List Advert} {k : Nat} (h : ¬ (0 : Int) < ((best l l.length k).seq : Int)) : (bookTo l (k + 1)).length = (bookTo l k).length := by
 rw [bookTo, if_neg (by omega)]; simp
theorem bookTo_len (l : List Advert) : ∀ k, (bookTo l k).length ≤ k
 | 0 => by simp [bookTo]
 | k + 1 => by have := bookTo_len l k; rw [bookTo, List.length_append]; split <;> simp <;> omega
set_option maxRecDepth 100000 in
theorem ofOk (l : List Advert) (hb : l.length ≤ 9223372036854775807) (hp : ∀ x ∈ l, x.peers.length ≤ 9223372036854775807) : Con Try.prog 14 [.d (.ro 4 (adverts l))] (.em 33 4 (advertsO (book l))) := by
 refine Con.intro (by kernel_rfl) rfl rfl 58 rfl rfl fun w0 K ac hK r => ?_
 refine toAt (todo' := aft Try.f14 1) (E' := [(0, .d (.ro 4 (adverts l))), (2, .d (.v (.slice none 0 0))), (3, .pt 0 0)]) (M' := [.bx 53 [.z 0, .d (.v (.int .u64 0)), .d (.v (.int .u64 0)), .d (.v (.slice none 0 0)), .z 0, .d (.v (.int .u64 0)), .d (.v (.int .u64 0)), .d (.v (.slice none 0 0)), .z 0, .d (.v (.int .u64 0)), .d (.v (.int .u64 0)), .d (.v (.slice none 0 0)), .z 0, .d (.v (.int .u64 0)), .d (.v (.int .u64 0)), .d (.v (.slice none 0 0)), .z 0, .d (.v (.int .u64 0)), .d (.v (.int .u64 0)), .d (.v (.slice none 0 0))]]) tk tq hK [] 4 [0] [0, 2, 3] r (by kernel_rfl) trivial fun ac wd r => ?_
 have r := r.rowedK (M2 := [.rw 53 4 ([[.z 0, .v (.int .u64 0), .v (.int .u64 0), .v (.slice none 0 0)], [.z 0, .v (.int .u64 0), .v (.int .u64 0), .v (.slice none 0 0)], [.z 0, .v (.int .u64 0), .v (.int .u64 0), .v (.slice none 0 0)], [.z 0, .v (.int .u64 0), .v (.int .u64 0), .v (.slice none 0 0)], [.z 0, .v (.int .u64 0), .v (.int .u64 0), .v (.slice none 0 0)]])]) (E2 := [(0, .d (.ro 4 (adverts l))), (2, .d (.v (.slice none 0 0))), (3, .ep 0 4 (0) 0)]) 0 4 5 (by kernel_rfl) (by kernel_rfl) rfl
 have r := (r.less 0 (rows' := adv5 l 0) rfl (.cons rowNone (.cons rowNone (.cons rowNone (.cons rowNone (.cons rowNone .nil)))))).cast (M' := [.rw 53 4 (adv5 l 0)]) rfl rfl
 refine toHead (todo' := hd Try.f14 0) (E' := [(3, .ep 0 4 (0) 0), (9, .d (.ro 4 (adverts l))), (10, .n l.length), (11, .n 0)]) (M' := [.rw 53 4 (adv5 l 0)]) tk tq hK [(2, [(1, .z (((l.length : Nat) : Int)))])] 2000 [0] [3, 9, 10, 11] r (by kernel_rfl) (an ((by simp) : (((adverts l).length : Nat) : Int) = ((l.length : Nat) : Int)) trivial) fun ac wd r => ?_
 refine Goes.rounds (Φ := fun (i : Nat) ac wd => (i ≤ l.length) ∧ RE' [] w0 K 58 [(3, .ep 0 4 (0) 0), (9, .d (.ro 4 (adverts l))), (10, .n l.length), (11, .n i)] [.rw 53 4 (adv5 l i)] ac wd) (l.length) ?_ (Nat.zero_le _) ⟨(Nat.zero_le _), r⟩
 clear r
 rintro i hi0 again0 ac wd ⟨hv0, r⟩
 cases h0 : (decide ((((i : Nat) : Int) : Int) < ((l.length : Nat) : Int))) with
 | false =>
  have qh0 := of_decide_eq_false h0
  refine toHead (todo' := hd Try.f14 1) (E' := [(41, .ag [.z ((best l l.length 0).server.node), .u ((best l l.length 0).server.inc), .u ((best l l.length 0).seq), .d (.ro 2 (procs (best l l.length 0).peers)), .z ((best l l.length 1).server.node), .u ((best l l.length 1).server.inc), .u ((best l l.length 1).seq), .d (.ro 2 (procs (best l l.length 1).peers)), .z ((best l l.length 2).server.node), .u ((best l l.length 2).server.inc), .u ((best l l.length 2).seq), .d (.ro 2 (procs (best l l.length 2).peers)), .z ((best l l.length 3).server.node), .u ((best l l.length 3).server.inc), .u ((best l l.length 3).seq), .d (.ro 2 (procs (best l l.length 3).peers)), .z ((best l l.length 4).server.node), .u ((best l l.length 4).server.inc), .u ((best l l.length 4).seq), .d (.ro 2 (procs (best l l.length 4).peers))]), (42, .z 0), (6, .d (.v (.slice none 0 0)))]) (M' := []) tk tq hK [(3, [(0, .b false)]), (9, [(0, .res (.ag [.z ((best l l.length 0).server.node), .u ((best l l.length 0).server.inc), .u ((best l l.length 0).seq), .ro 2 (procs (best l l.length 0).peers), .z ((best l l.length 1).server.node), .u ((best l l.length 1).server.inc), .u ((best l l.length 1).seq), .ro 2 (procs (best l l.length 1).peers), .z ((best l l.length 2).server.node), .u ((best l l.length 2).server.inc), .u ((best l l.length 2).seq), .ro 2 (procs (best l l.length 2).peers), .z ((best l l.length 3).server.node), .u ((best l l.length 3).server.inc), .u ((best l l.length 3).seq), .ro 2 (procs (best l l.length 3).peers), .z ((best l l.length 4).server.node), .u ((best l l.length 4).server.inc), .u ((best l l.length 4).seq), .ro 2 (procs (best l l.length 4).peers)]))])] 2000 [] [41, 42, 6] r (by kernel_rfl) (an h0 (an ((by rw [show i = l.length by omega]; rfl) : List.flatten (adv5 l i) = [.z ((best l l.length 0).server.node), .u ((best l l.length 0).server.inc), .u ((best l l.length 0).seq), .ro 2 (procs (best l l.length 0).peers), .z ((best l l.length 1).server.node), .u ((best l l.length 1).server.inc), .u ((best l l.length 1).seq), .ro 2 (procs (best l l.length 1).peers), .z ((best l l.length 2).server.node), .u ((best l l.length 2).server.inc), .u ((best l l.length 2).seq), .ro 2 (procs (best l l.length 2).peers), .z ((best l l.length 3).server.node), .u ((best l l.length 3).server.inc), .u ((best l l.length 3).seq), .ro 2 (procs (best l l.length 3).peers), .z ((best l l.length 4).server.node), .u ((best l l.length 4).server.inc), .u ((best l l.length 4).seq), .ro 2 (procs (best l l.length 4).peers)]) trivial)) fun ac wd r => ?_
  refine Goes.rounds (Φ := fun (i : Nat) ac wd => (i ≤ 5) ∧ RE' [] w0 K 58 [(41, .ag [.z ((best l l.length 0).server.node), .u ((best l l.length 0).server.inc), .u ((best l l.length 0).seq), .d (.ro 2 (procs (best l l.length 0).peers)), .z ((best l l.length 1).server.node), .u ((best l l.length 1).server.inc), .u ((best l l.length 1).seq), .d (.ro 2 (procs (best l l.length 1).peers)), .z ((best l l.length 2).server.node), .u ((best l l.length 2).server.inc), .u ((best l l.length 2).seq), .d (.ro 2 (procs (best l l.length 2).peers)), .z ((best l l.length 3).server.node), .u ((best l l.length 3).server.inc), .u ((best l l.length 3).seq), .d (.ro 2 (procs (best l l.length 3).peers)), .z ((best l l.length 4).server.node), .u ((best l l.length 4).server.inc), .u ((best l l.length 4).seq), .d (.ro 2 (procs (best l l.length 4).peers))]), (42, .n i), (6, .sl 0 ((bookTo l i).length))] [.rw 33 4 (advertsO (bookTo l i))] ac wd) (5) ?_ (Nat.zero_le _) ⟨(Nat.zero_le _), r.adopt (M1 := [.rw 33 4 []]) [(6, 33, 4)] [] (by kernel_rfl) (by kernel_rfl)⟩
  clear r
  rintro i hi1 again1 ac wd ⟨hv1, r⟩
  cases h1 : (decide ((((i : Nat) : Int) : Int) < 5)) with
  | false =>
   have qh1 := of_decide_eq_false h1
   rw [show (.em 33 4 (advertsO (book l)) : DV) = .em 33 4 (advertsO (bookTo l i)) from (by unfold book; rw [show (5 : Nat) = i by omega])]
   exact toRet tk tq hK rfl [(10, [(0, .b false)])] 2000 r (by kernel_rfl) (an h1 (an ((by first | rfl | (simp; done) | (simp <;> omega)) : ((bookTo l i).length) = (advertsO (bookTo l i)).length) trivial))
  | true =>
   have qh1 := of_decide_eq_true h1
   have u0 := ((by match i, (show i < 5 by omega) with | 0, _ => rfl | 1, _ => rfl | 2, _ => rfl | 3, _ => rfl | 4, _ => rfl | j + 5, h => omega) : List.take 4 (List.drop ((i) * 4) ([.z ((best l l.length 0).server.node), .u ((best l l.length 0).server.inc), .u ((best l l.length 0).seq), .ro 2 (procs (best l l.length 0).peers), .z ((best l l.length 1).server.node), .u ((best l l.length 1).server.inc), .u ((best l l.length 1).seq), .ro 2 (procs (best l l.length 1).peers), .z ((best l l.length 2).server.node), .u ((best l l.length 2).server.inc), .u ((best l l.length 2).seq), .ro 2 (procs (best l l.length 2).peers), .z ((best l l.length 3).server.node), .u ((best l l.length 3).server.inc), .u ((best l l.length 3).seq), .ro 2 (procs (best l l.length 3).peers), .z ((best l l.length 4).server.node), .u ((best l l.length 4).server.inc), .u ((best l l.length 4).seq), .ro 2 (procs (best l l.length 4).peers)] : List DV)) = [.z ((best l l.length i).server.node), .u ((best l l.length i).server.inc), .u ((best l l.length i).seq), .ro 2 (procs (best l l.length i).peers)])
   cases h2 : (decide ((0 : Int) < (((best l l.length i).seq : Nat) : Int))) with
   | false =>
    have qh2 := of_decide_eq_false h2
    exact toHead (todo' := hd Try.f14 1) (E' := [(41, .ag [.z ((best l l.length 0).server.node), .u ((best l l.length 0).server.inc), .u ((best l l.length 0).seq), .d (.ro 2 (procs (best l l.length 0).peers)), .z ((best l l.length 1).server.node), .u ((best l l.length 1).server.inc), .u ((best l l.length 1).seq), .d (.ro 2 (procs (best l l.length 1).peers)), .z ((best l l.length 2).server.node), .u ((best l l.length 2).server.inc), .u ((best l l.length 2).seq), .d (.ro 2 (procs (best l l.length 2).peers)), .z ((best l l.length 3).server.node), .u ((best l l.length 3).server.inc), .u ((best l l.length 3).seq), .d (.ro 2 (procs (best l l.length 3).peers)), .z ((best l l.length 4).server.node), .u ((best l l.length 4).server.inc), .u ((best l l.length 4).seq), .d (.ro 2 (procs (best l l.length 4).peers))]), (42, .n (i + 1)), (6, .sl 0 ((bookTo l i).length))]) (M' := [.rw 33 4 (advertsO (bookTo l i))]) tk tq hK [(10, [(0, .b true)]), (11, [(0, .ix (i) [.z ((best l l.length i).server.node), .u ((best l l.length i).server.inc), .u ((best l l.length i).seq), .ro 2 (procs (best l l.length i).peers)])]), (12, [(2, .b false)]), (15, [(0, .z (((i + 1 : Nat) : Int)))])] 2000 [0] [41, 42, 6] r (by kernel_rfl) (an h1 (an (rfI ((i : Nat) : Int)) (an ((by first | omega | decide | (simp; omega)) : (i) < 5) (an u0 (an h2 (an ((wi (by omega)) : IntKind.i64.wrap ((((i : Nat) : Int) : Int) + 1) = ((i + 1 : Nat) : Int)) trivial)))))) fun ac wd r => again1 (by omega) ac wd ⟨(by omega), r.cast (by first | (rw [bookTo_lenN (by assumption)]; done) | (rw [bookTo_lenY (by assumption)]; done)) (by first | (rw [bookTo_no (by assumption)]; done) | (rw [bookTo_yes (by assumption)]; done))⟩
   | true =>
    have qh2 := of_decide_eq_true h2
    exact toHead (todo' := hd Try.f14 1) (E' := [(41, .ag [.z ((best l l.length 0).server.node), .u ((best l l.length 0).server.inc), .u ((best l l.length 0).seq), .d (.ro 2 (procs (best l l.length 0).peers)), .z ((best l l.length 1).server.node), .u ((best l l.length 1).server.inc), .u ((best l l.length 1).seq), .d (.ro 2 (procs (best l l.length 1).peers)), .z ((best l l.length 2).server.node), .u ((best l l.length 2).server.inc), .u ((best l l.length 2).seq), .d (.ro 2 (procs (best l l.length 2).peers)), .z ((best l l.length 3).server.node), .u ((best l l.length 3).server.inc), .u ((best l l.length 3).seq), .d (.ro 2 (procs (best l l.length 3).peers)), .z ((best l l.length 4).server.node), .u ((best l l.length 4).server.inc), .u ((best l l.length 4).seq), .d (.ro 2 (procs (best l l.length 4).peers))]), (42, .n (i + 1)), (6, .sl 0 ((bookTo l i).length + (1)))]) (M' := [.rw 33 4 (advertsO (bookTo l i) ++ [[.z ((best l l.length i).server.node), .u ((best l l.length i).server.inc), .u ((best l l.length i).seq), .em 30 2 (procs (best l l.length i).peers)]])]) tk tq hK [(10, [(0, .b true)]), (11, [(0, .ix (i) [.z ((best l l.length i).server.node), .u ((best l l.length i).server.inc), .u ((best l l.length i).seq), .ro 2 (procs (best l l.length i).peers)])]), (12, [(2, .b true)]), (13, [(2, .con (.em 30 2 (procs (best l l.length i).peers)))]), (15, [(0, .z (((i + 1 : Nat) : Int)))])] 2000 [0] [41, 42, 6] r (by kernel_rfl) (an h1 (an (rfI ((i : Nat) : Int)) (an ((by first | omega | decide | (simp; omega)) : (i) < 5) (an u0 (an h2 (an (cloneProcs _ (by have := best_few l l.length i; omega) : Con Try.prog 34 [.d (.ro 2 (procs (best l l.length i).peers))] (.em 30 2 (procs (best l l.length i).peers))) (an (rfN ((procs (best l l.length i).peers).length)) (an ((by first | rfl | (simp; done) | (simp <;> omega)) : ((bookTo l i).length) = (advertsO (bookTo l i)).length) (an ((by first | rfl | (simp; done) | (simp <;> omega)) : (1) = ([[.z ((best l l.length i).server.node), .u ((best l l.length i).server.inc), .u ((best l l.length i).seq), .em 30 2 (procs (best l l.length i).peers)]] : List (List DV)).length) (an ((by have := bookTo_len l i; have := best_few l l.length i; first | omega | (simp; omega)) : (2 * (((bookTo l i).length) + (1)) + 0) * 48 ≤ 281474976710656) (an ((by have := bookTo_len l i; have := best_few l l.length i; first | omega | (simp; omega)) : ((bookTo l i).length) + (1) < 4611686018427387904) (an ((by first | exact one_procs _ | simp [OneR, AV.one, oneC]) : OneR ([[.z ((best l l.length i).server.node), .u ((best l l.length i).server.inc), .u ((best l l.length i).seq), .em 30 2 (procs (best l l.length i).peers)]])) (an ((wi (by omega)) : IntKind.i64.wrap ((((i : Nat) : Int) : Int) + 1) = ((i + 1 : Nat) : Int)) trivial))))))))))))) fun ac wd r => again1 (by omega) ac wd ⟨(by omega), r.cast (by first | (rw [bookTo_lenN (by assumption)]; done) | (rw [bookTo_lenY (by assumption)]; done)) (by first | (rw [bookTo_no (by assumption)]; done) | (rw [bookTo_yes (by assumption)]; done))⟩
 | true =>
  have qh0 := of_decide_eq_true h0
  obtain ⟨e_l_i, ge_l_i⟩ : ∃ x, l[i]? = some x := ⟨_, List.getElem?_eq_getElem (by omega)⟩
  cases h3 : (e_l_i.may) with
  | false =>
   exact toHead (todo' := hd Try.f14 0) (E' := [(3, .ep 0 4 (0) 0), (9, .d (.ro 4 (adverts l))), (10, .n l.length), (11, .n (i + 1))]) (M' := [.rw 53 4 (adv5 l i)]) tk tq hK [(3, [(0, .b true)]), (4, [(0, .ix (i) [.z e_l_i.server.node, .u e_l_i.server.inc, .u e_l_i.seq, .ro 2 (procs e_l_i.peers)])]), (5, [(1, .con (.v (.bool false)))]), (7, [(0, .z (((i + 1 : Nat) : Int)))])] 2000 [0] [3, 9, 10, 11] r (by kernel_rfl) (an h0 (an (rfI ((i : Nat) : Int)) (an (adverts_at ge_l_i) (an ((by have k := mayOk e_l_i (hp _ (List.mem_of_getElem? ge_l_i)); rw [h3] at k; exact k) : Con Try.prog 32 [.ag [.z e_l_i.server.node, .u e_l_i.server.inc, .u e_l_i.seq, .d (.ro 2 (procs e_l_i.peers))]] (.v (.bool false))) (an ((wi (by omega)) : IntKind.i64.wrap ((((i : Nat) : Int) : Int) + 1) = ((i + 1 : Nat) : Int)) trivial))))) fun ac wd r => again0 (by omega) ac wd ⟨(by omega), r.cast rfl (by first | (rw [of_no ge_l_i (by assumption)]; done) | (rw [of_old ge_l_i (by assumption) (by assumption) (by assumption)]; done) | (refine congrArg (fun x => [Blk.rw 53 4 x]) (of_yes ge_l_i (by assumption) ?_); first | exact .inl (by assumption) | exact .inr (by assumption)))⟩
  | true =>
   obtain ⟨hn1, hn2, hn3⟩ := may_node (a := e_l_i) (by assumption)
   have u1 := ((by have k := mayOk e_l_i (hp _ (List.mem_of_getElem? ge_l_i)); rw [h3] at k; exact k) : Con Try.prog 32 [.ag [.z e_l_i.server.node, .u e_l_i.server.inc, .u e_l_i.seq, .d (.ro 2 (procs e_l_i.peers))]] (.v (.bool true)))
   have u2 := ((by omega) : (e_l_i.server.node) = ((e_l_i.server.node.toNat : Nat) : Int))
   have u3 := ((by first | omega | decide | (simp; omega)) : (e_l_i.server.node.toNat) < 5)
   have u4 := ((by rw [Nat.zero_add]; exact adv5_at (by omega)) : (adv5 l i)[0 + e_l_i.server.node.toNat]? = some [.z ((best l i e_l_i.server.node.toNat).server.node), .u ((best l i e_l_i.server.node.toNat).server.inc), .u ((best l i e_l_i.server.node.toNat).seq), .ro 2 (procs (best l i e_l_i.server.node.toNat).peers)])
   cases h4 : (((((best l i e_l_i.server.node.toNat).seq : Nat) : Int) : Int) == 0) with
   | false =>
    have qh4 := ne_of_beq_false h4
    cases h5 : (newer e_l_i (best l i e_l_i.server.node.toNat)) with
    | false =>
     exact toHead (todo' := hd Try.f14 0) (E' := [(3, .ep 0 4 (0) 0), (9, .d (.ro 4 (adverts l))), (10, .n l.length), (11, .n (i + 1))]) (M' := [.rw 53 4 (adv5 l i)]) tk tq hK [(3, [(0, .b true)]), (4, [(0, .ix (i) [.z e_l_i.server.node, .u e_l_i.server.inc, .u e_l_i.seq, .ro 2 (procs e_l_i.peers)])]), (5, [(1, .con (.v (.bool true))), (6, .n2 (e_l_i.server.node.toNat) 0), (8, .ix 0 [.z ((best l i e_l_i.server.node.toNat).server.node), .u ((best l i e_l_i.server.node.toNat).server.inc), .u ((best l i e_l_i.server.node.toNat).seq), .ro 2 (procs (best l i e_l_i.server.node.toNat).peers)]), (9, .b false), (15, .n2 (e_l_i.server.node.toNat) 0), (16, .ix 0 [.z ((best l i e_l_i.server.node.toNat).server.node), .u ((best l i e_l_i.server.node.toNat).server.inc), .u ((best l i e_l_i.server.node.toNat).seq), .ro 2 (procs (best l i e_l_i.server.node.toNat).peers)]), (17, .con (.v (.bool false)))]), (7, [(0, .z (((i + 1 : Nat) : Int)))])] 2000 [0] [3, 9, 10, 11] r (by kernel_rfl) (an h0 (an (rfI ((i : Nat) : Int)) (an (adverts_at ge_l_i) (an u1 (an u2 (an u3 (an u4 (an h4 (an u2 (an u3 (an u4 (an ((by have k := newerOk e_l_i (best l i e_l_i.server.node.toNat); rw [h5] at k; exact k) : Con Try.prog 33 [.ag [.z e_l_i.server.node, .u e_l_i.server.inc, .u e_l_i.seq, .d (.ro 2 (procs e_l_i.peers))], .ag [.z ((best l i e_l_i.server.node.toNat).server.node), .u ((best l i e_l_i.server.node.toNat).server.inc), .u ((best l i e_l_i.server.node.toNat).seq), .d (.ro 2 (procs (best l i e_l_i.server.node.toNat).peers))]] (.v (.bool false))) (an ((wi (by omega)) : IntKind.i64.wrap ((((i : Nat) : Int) : Int) + 1) = ((i + 1 : Nat) : Int)) trivial))))))))))))) fun ac wd r => again0 (by omega) ac wd ⟨(by omega), r.cast rfl (by first | (rw [of_no ge_l_i (by assumption)]; done) | (rw [of_old ge_l_i (by assumption) (by assumption) (by assumption)]; done) | (refine congrArg (fun x => [Blk.rw 53 4 x]) (of_yes ge_l_i (by assumption) ?_); first | exact .inl (by assumption) | exact .inr (by assumption)))⟩
    | true =>
     exact toHead (todo' := hd Try.f14 0) (E' := [(3, .ep 0 4 (0) 0), (9, .d (.ro 4 (adverts l))), (10, .n l.length), (11, .n (i + 1))]) (M' := [.rw 53 4 (List.set (adv5 l i) (0 + e_l_i.server.node.toNat) [.z e_l_i.server.node, .u e_l_i.server.inc, .u e_l_i.seq, .ro 2 (procs e_l_i.peers)])]) tk tq hK [(3, [(0, .b true)]), (4, [(0, .ix (i) [.z e_l_i.server.node, .u e_l_i.server.inc, .u e_l_i.seq, .ro 2 (procs e_l_i.peers)])]), (5, [(1, .con (.v (.bool true))), (6, .n2 (e_l_i.server.node.toNat) 0), (8, .ix 0 [.z ((best l i e_l_i.server.node.toNat).server.node), .u ((best l i e_l_i.server.node.toNat).server.inc), .u ((best l i e_l_i.server.node.toNat).seq), .ro 2 (procs (best l i e_l_i.server.node.toNat).peers)]), (9, .b false), (15, .n2 (e_l_i.server.node.toNat) 0), (16, .ix 0 [.z ((best l i e_l_i.server.node.toNat).server.node), .u ((best l i e_l_i.server.node.toNat).server.inc), .u ((best l i e_l_i.server.node.toNat).seq), .ro 2 (procs (best l i e_l_i.server.node.toNat).peers)]), (17, .con (.v (.bool true)))]), (6, [(4, .n2 (e_l_i.server.node.toNat) 0), (5, .ix 0 [.z ((best l i e_l_i.server.node.toNat).server.node), .u ((best l i e_l_i.server.node.toNat).server.inc), .u ((best l i e_l_i.server.node.toNat).seq), .ro 2 (procs (best l i e_l_i.server.node.toNat).peers)])]), (7, [(0, .z (((i + 1 : Nat) : Int)))])] 2000 [0] [3, 9, 10, 11] r (by kernel_rfl) (an h0 (an (rfI ((i : Nat) : Int)) (an (adverts_at ge_l_i) (an u1 (an u2 (an u3 (an u4 (an h4 (an u2 (an u3 (an u4 (an ((by have k := newerOk e_l_i (best l i e_l_i.server.node.toNat); rw [h5] at k; exact k) : Con Try.prog 33 [.ag [.z e_l_i.server.node, .u e_l_i.server.inc, .u e_l_i.seq, .d (.ro 2 (procs e_l_i.peers))], .ag [.z ((best l i e_l_i.server.node.toNat).server.node), .u ((best l i e_l_i.server.node.toNat).server.inc), .u ((best l i e_l_i.server.node.toNat).seq), .d (.ro 2 (procs (best l i e_l_i.server.node.toNat).peers))]] (.v (.bool true))) (an u2 (an u3 (an u4 (an ((wi (by omega)) : IntKind.i64.wrap ((((i : Nat) : Int) : Int) + 1) = ((i + 1 : Nat) : Int)) trivial)))))))))))))))) fun ac wd r => again0 (by omega) ac wd ⟨(by omega), r.cast rfl (by first | (rw [of_no ge_l_i (by assumption)]; done) | (rw [of_old ge_l_i (by assumption) (by assumption) (by assumption)]; done) | (refine congrArg (fun x => [Blk.rw 53 4 x]) (of_yes ge_l_i (by assumption) ?_); first | exact .inl (by assumption) | exact .inr (by assumption)))⟩
   | true =>
    have qh4 := eq_of_beq h4
    exact toHead (todo' := hd Try.f14 0) (E' := [(3, .ep 0 4 (0) 0), (9, .d (.ro 4 (adverts l))), (10, .n l.length), (11, .n (i + 1))]) (M' := [.rw 53 4 (List.set (adv5 l i) (0 + e_l_i.server.node.toNat) [.z e_l_i.server.node, .u e_l_i.server.inc, .u e_l_i.seq, .ro 2 (procs e_l_i.peers)])]) tk tq hK [(3, [(0, .b true)]), (4, [(0, .ix (i) [.z e_l_i.server.node, .u e_l_i.server.inc, .u e_l_i.seq, .ro 2 (procs e_l_i.peers)])]), (5, [(1, .con (.v (.bool true))), (6, .n2 (e_l_i.server.node.toNat) 0), (8, .ix 0 [.z ((best l i e_l_i.server.node.toNat).server.node), .u ((best l i e_l_i.server.node.toNat).server.inc), .u ((best l i e_l_i.server.node.toNat).seq), .ro 2 (procs (best l i e_l_i.server.node.toNat).peers)]), (9, .b true)]), (6, [(4, .n2 (e_l_i.server.node.toNat) 0), (5, .ix 0 [.z ((best l i e_l_i.server.node.toNat).server.node), .u ((best l i e_l_i.server.node.toNat).server.inc), .u ((best l i e_l_i.server.node.toNat).seq), .ro 2 (procs (best l i e_l_i.server.node.toNat).peers)])]), (7, [(0, .z (((i + 1 : Nat) : Int)))])] 2000 [0] [3, 9, 10, 11] r (by kernel_rfl) (an h0 (an (rfI ((i : Nat) : Int)) (an (adverts_at ge_l_i) (an u1 (an u2 (an u3 (an u4 (an h4 (an u2 (an u3 (an u4 (an ((wi (by omega)) : IntKind.i64.wrap ((((i : Nat) : Int) : Int) + 1) = ((i + 1 : Nat) : Int)) trivial)))))))))))) fun ac wd r => again0 (by omega) ac wd ⟨(by omega), r.cast rfl (by first | (rw [of_no ge_l_i (by assumption)]; done) | (rw [of_old ge_l_i (by assumption) (by assumption) (by assumption)]; done) | (refine congrArg (fun x => [Blk.rw 53 4 x]) (of_yes ge_l_i (by assumption) ?_); first | exact .inl (by assumption) | exact .inr (by assumption)))⟩
end Go.Proofs.Ytikmdkicccfjpaa
namespace Go.Proofs.Ytikmdkicccfjpaa
open Go.RowKit
def AtOk (l : List Advert) (i k : Nat) (at' : Int) : Prop := (at' = -1 ∧ best l i k = Advert.none) ∨ ∃ (m : Nat) (e : Advert), at' = ((m : Nat) : Int) ∧ m < i ∧ l[m]? = some e ∧ best l i k = e ∧ e.may = true
theorem AtOk.skip {l : List Advert} {i k : Nat} {z : Int} {a : Advert} (o : AtOk l i k z) (h : l[i]? = some a) (hs : ¬ (a.may = true ∧ a.server.node = (k : Int) ∧ ((best l i k).seq = 0 ∨ newer a (best l i k) = true))) : AtOk l (i + 1) k z := by
 have e : best l (i + 1) k = best l i k := by rw [best_succ h, stp, if_neg hs]
 rcases o with ⟨h1, h2⟩ | ⟨m, x, h1, h2, h3, h4, h5⟩
 ·exact .inl ⟨h1, by rw [e, h2]⟩
 ·exact .inr ⟨m, x, h1, by omega, h3, by rw [e, h4], h5⟩
theorem AtOk.take {l : List Advert} {i k : Nat} {a : Advert} (h : l[i]? = some a) (h1 : a.may = true) (h2 : a.server.node = (k : Int)) (h3 : (best l i k).seq = 0 ∨ newer a (best l i k) = true) : AtOk l (i + 1) k ((i : Nat) : Int) :=
 .inr ⟨i, a, rfl, by omega, h, by rw [best_succ h, stp, if_pos ⟨h1, h2, h3⟩], h1⟩
theorem AtOk.neg {l : List Advert} {i k : Nat} {z : Int} (o : AtOk l i k z) (h : z < 0) : best l i k = Advert.none := by
 rcases o with ⟨-, h2⟩ | ⟨m, x, h1, -⟩
 ·exact h2
 ·omega
theorem AtOk.pos {l : List Advert} {i k : Nat} {z : Int} (o : AtOk l i k z) (h : ¬ z < 0) : ∃ e, z = ((z.toNat : Nat) : Int) ∧ z.toNat < i ∧ l[z.toNat]? = some e ∧ best l i k = e ∧ e.may = true := by
 rcases o with ⟨h1, -⟩ | ⟨m, x, h1, h2, h3, h4, h5⟩
 ·omega
 ·subst h1; exact ⟨x, by simp, by simpa using h2, by simpa using h3, h4, h5⟩
theorem ref_yes {l : List Advert} {k : Nat} {e : Advert} (hm : e.may = true) (hb : best l l.length k = e) : advertsO (bookTo l k) ++ [[.v (.int .i64 e.server.node), .v (.int .u64 (e.server.inc : Int)), .v (.int .u64 (e.seq : Int)), .em 30 2 ([] ++ procs e.peers)]] = advertsO (bookTo l (k + 1)) := by
 subst hb
 have := (Advert.may_iff.1 hm).2.1
 exact bookTo_yes (by omega)
theorem ref_len {l : List Advert} {k : Nat} {e : Advert} (hm : e.may = true) (hb : best l l.length k = e) : (bookTo l (k + 1)).length = (bookTo l k).length + 1 := by
 subst hb
 have := (Advert.may_iff.1 hm).2.1
 exact bookTo_lenY (by omega)
theorem ref_no {l : List Advert} {k : Nat} (hb : best l l.length k = Advert.none) : bookTo l (k + 1) = bookTo l k := by rw [bookTo, hb, if_neg (by simp), List.append_nil]
theorem book_1 (l : List Advert) : bookTo l (0 + 1) = [] := by
 have : best l l.length 0 = Advert.none := by
  rcases best_or l 0 l.length with h | ⟨-, h, h2⟩
  ·exact h
  ·have := Proc.srv_iff.1 (Advert.may_iff.1 h).1; omega
 rw [ref_no this]; rfl
set_option maxRecDepth 100000 in
theorem refOf (l : List Advert) (hb : l.length ≤ 9223372036854775807) (hp : ∀ x ∈ l, x.peers.length ≤ 9223372036854775807) : Con Try.prog 16 [.d (.ro 4 (adverts l))] (.em 33 4 (advertsO (book l))) := by
 refine Con.intro (by kernel_rfl) rfl rfl 59 rfl rfl fun w0 K ac hK r => ?_
 refine toHead (todo' := hd Try.f16 0) (E' := [(0, .d (.ro 4 (adverts l))), (3, .d (.v (.slice none 0 0))), (4, .z 1)]) (M' := []) tk tq hK [] 2000 [] [0, 3, 4] r (by kernel_rfl) trivial fun ac wd r => ?_
 refine Goes.rounds (Φ := fun (k : Nat) ac wd => (k ≤ 4) ∧ RE' [] w0 K 59 [(0, .d (.ro 4 (adverts l))), (3, .sl 0 ((bookTo l (k + 1)).length)), (4, .n (k + 1))] [.rw 33 4 (advertsO (bookTo l (k + 1)))] ac wd) (4) ?_ (Nat.zero_le _) ⟨(Nat.zero_le _), (r.adopt (M1 := [.rw 33 4 []]) [(3, 33, 4)] [] (by kernel_rfl) (by kernel_rfl)).cast (by rw [book_1]) (by rw [book_1])⟩
 clear r
 rintro k hi0 again0 ac wd ⟨hv0, r⟩
 cases h0 : (decide ((((k + 1 : Nat) : Int) : Int) ≤ 4)) with
 | false =>
  have qh0 := of_decide_eq_false h0
  rw [show (.em 33 4 (advertsO (book l)) : DV) = .em 33 4 (advertsO (bookTo l (k + 1))) from (by unfold book; rw [show (5 : Nat) = k + 1 by omega])]
  exact toRet tk tq hK rfl [(3, [(1, .b false)])] 2000 r (by kernel_rfl) (an h0 (an ((by first | rfl | (simp; done) | (simp <;> omega)) : ((bookTo l (k + 1)).length) = (advertsO (bookTo l (k + 1))).length) trivial))
 | true =>
  have qh0 := of_decide_eq_true h0
  refine toHead (todo' := hd Try.f16 1) (E' := [(0, .d (.ro 4 (adverts l))), (3, .sl 0 ((bookTo l (k + 1)).length)), (4, .n (k + 1)), (5, .z (-1)), (6, .n 0)]) (M' := [.rw 33 4 (advertsO (bookTo l (k + 1)))]) tk tq hK [(3, [(1, .b true)])] 2000 [0] [0, 3, 4, 5, 6] r (by kernel_rfl) (an h0 trivial) fun ac wd r => ?_
  refine Goes.rounds (Φ := fun (i : Nat) ac wd => ∃ z : Int, (i ≤ l.length ∧ AtOk l i (k + 1) z) ∧ RE' [] w0 K 59 [(0, .d (.ro 4 (adverts l))), (3, .sl 0 ((bookTo l (k + 1)).length)), (4, .n (k + 1)), (5, .z z), (6, .n i)] [.rw 33 4 (advertsO (bookTo l (k + 1)))] ac wd) (l.length) ?_ (Nat.zero_le _) ⟨(-1), ⟨Nat.zero_le _, .inl ⟨rfl, by simp [best]⟩⟩, r⟩
  clear r
  rintro i hi1 again1 ac wd ⟨z, hv1, r⟩
  obtain ⟨hi1, hv1⟩ := hv1
  have u0 := ((by simp) : (((adverts l).length : Nat) : Int) = ((l.length : Nat) : Int))
  cases h1 : (decide ((((i : Nat) : Int) : Int) < ((l.length : Nat) : Int))) with
  | false =>
   have qh1 := of_decide_eq_false h1
   obtain rfl : i = l.length := by omega
   cases h2 : (decide ((0 : Int) ≤ z)) with
   | false =>
    have qh2 := of_decide_eq_false h2
    have hzn := hv1.neg (by omega)
    exact toHead (todo' := hd Try.f16 0) (E' := [(0, .d (.ro 4 (adverts l))), (3, .sl 0 ((bookTo l (k + 1)).length)), (4, .n (k + 1 + 1))]) (M' := [.rw 33 4 (advertsO (bookTo l (k + 1)))]) tk tq hK [(4, [(1, .z (((k + 1 + 1 : Nat) : Int)))]), (7, [(2, .z (((l.length : Nat) : Int))), (3, .b false)]), (11, [(1, .b false)])] 2000 [0] [0, 3, 4] r (by kernel_rfl) (an u0 (an h1 (an h2 (an ((wi (by omega)) : IntKind.i64.wrap ((((k + 1 : Nat) : Int) : Int) + 1) = ((k + 1 + 1 : Nat) : Int)) trivial)))) fun ac wd r => again0 (by omega) ac wd ⟨(by omega), r.cast (by first | (rw [ref_len hz5 hz4]; done) | (rw [ref_no hzn]; done)) (by first | (rw [← ref_yes hz5 hz4]; done) | (rw [ref_no hzn]; done))⟩
   | true =>
    have qh2 := of_decide_eq_true h2
    obtain ⟨ez, hz1, hz2, hz3, hz4, hz5⟩ := hv1.pos (by omega)
    exact toHead (todo' := hd Try.f16 0) (E' := [(0, .d (.ro 4 (adverts l))), (3, .sl 0 ((bookTo l (k + 1)).length + (1))), (4, .n (k + 1 + 1))]) (M' := [.rw 33 4 (advertsO (bookTo l (k + 1)) ++ [[.z ez.server.node, .u ez.server.inc, .u ez.seq, .em 30 2 ([] ++ procs ez.peers)]])]) tk tq hK [(4, [(1, .z (((k + 1 + 1 : Nat) : Int)))]), (7, [(2, .z (((l.length : Nat) : Int))), (3, .b false)]), (11, [(1, .b true)]), (12, [(3, .ix (z.toNat) [.z ez.server.node, .u ez.server.inc, .u ez.seq, .ro 2 (procs ez.peers)]), (5, .con (.ag [.z ez.server.node, .u ez.server.inc, .u ez.seq, .em 30 2 ([] ++ procs ez.peers)]))])] 2000 [0] [0, 3, 4] r (by kernel_rfl) (an u0 (an h1 (an h2 (an (hz1 : (z) = ((z.toNat : Nat) : Int)) (an (adverts_at hz3 : (adverts l)[z.toNat]? = some [.z ez.server.node, .u ez.server.inc, .u ez.seq, .ro 2 (procs ez.peers)]) (an (refOwn ez (by have := Advert.few hz5; omega)) (an (rfN (([] ++ procs ez.peers : List (List DV)).length)) (an ((by first | rfl | (simp; done) | (simp <;> omega)) : ((bookTo l (k + 1)).length) = (advertsO (bookTo l (k + 1))).length) (an ((by first | rfl | (simp; done) | (simp <;> omega)) : (1) = ([[.z ez.server.node, .u ez.server.inc, .u ez.seq, .em 30 2 ([] ++ procs ez.peers)]] : List (List DV)).length) (an ((by have := bookTo_len l (k + 1); first | omega | (simp; omega)) : (2 * (((bookTo l (k + 1)).length) + (1)) + 0) * 48 ≤ 281474976710656) (an ((by have := bookTo_len l (k + 1); first | omega | (simp; omega)) : ((bookTo l (k + 1)).length) + (1) < 4611686018427387904) (an ((by first | exact one_procs _ | rfl | simp [OneR, AV.one, oneC]) : OneR ([[.z ez.server.node, .u ez.server.inc, .u ez.seq, .em 30 2 ([] ++ procs ez.peers)]])) (an ((wi (by omega)) : IntKind.i64.wrap ((((k + 1 : Nat) : Int) : Int) + 1) = ((k + 1 + 1 : Nat) : Int)) trivial))))))))))))) fun ac wd r => again0 (by omega) ac wd ⟨(by omega), r.cast (by first | (rw [ref_len hz5 hz4]; done) | (rw [ref_no hzn]; done)) (by first | (rw [← ref_yes hz5 hz4]; done) | (rw [ref_no hzn]; done))⟩
  | true =>
   have qh1 := of_decide_eq_true h1
   obtain ⟨e_l_i, ge_l_i⟩ : ∃ x, l[i]? = some x := ⟨_, List.getElem?_eq_getElem (by omega)⟩
   cases h3 : ((e_l_i.server.node : Int) == ((k + 1 : Nat) : Int)) with
   | false =>
    have qh3 := ne_of_beq_false h3
    exact toHead (todo' := hd Try.f16 1) tk tq hK [(7, [(2, .z (((l.length : Nat) : Int))), (3, .b true)]), (8, [(1, .z (((i + 1 : Nat) : Int)))]), (9, [(2, .ix (i) [.z e_l_i.server.node, .u e_l_i.server.inc, .u e_l_i.seq, .ro 2 (procs e_l_i.peers)]), (7, .b false)])] 2000 [0] [0, 3, 4, 5, 6] r (by kernel_rfl) (an u0 (an h1 (an (rfI ((i : Nat) : Int)) (an (adverts_at ge_l_i) (an h3 (an ((wi (by omega)) : IntKind.i64.wrap ((((i : Nat) : Int) : Int) + 1) = ((i + 1 : Nat) : Int)) trivial)))))) fun ac wd r => again1 (by omega) ac wd ⟨z, ⟨by omega, by first | exact hv1.skip ge_l_i (fun hh => by have := hh.2.1; omega) | exact hv1.skip ge_l_i (fun hh => by have k := hh.1; rw [‹e_l_i.may = false›] at k; cases k) | exact hv1.skip ge_l_i (fun hh => by rw [hz4] at hh; have := (Advert.may_iff.1 hz5).2.1; rcases hh.2.2 with h | h; omega; rw [‹newer e_l_i ez = false›] at h; cases h) | exact AtOk.take ge_l_i (by assumption) (by omega) (.inl (by rw [hv1.neg (by omega)])) | exact AtOk.take ge_l_i (by assumption) (by omega) (.inr (by rw [hz4]; assumption))⟩, r⟩
   | true =>
    have qh3 := eq_of_beq h3
    cases h4 : (e_l_i.may) with
    | false =>
     exact toHead (todo' := hd Try.f16 1) tk tq hK [(7, [(2, .z (((l.length : Nat) : Int))), (3, .b true)]), (8, [(1, .z (((i + 1 : Nat) : Int)))]), (9, [(2, .ix (i) [.z e_l_i.server.node, .u e_l_i.server.inc, .u e_l_i.seq, .ro 2 (procs e_l_i.peers)]), (7, .b true), (11, .ix (i) [.z e_l_i.server.node, .u e_l_i.server.inc, .u e_l_i.seq, .ro 2 (procs e_l_i.peers)]), (13, .con (.v (.bool false)))])] 2000 [0] [0, 3, 4, 5, 6] r (by kernel_rfl) (an u0 (an h1 (an (rfI ((i : Nat) : Int)) (an (adverts_at ge_l_i) (an h3 (an (rfI ((i : Nat) : Int)) (an (adverts_at ge_l_i) (an ((by have k := refAdvert e_l_i (hp _ (List.mem_of_getElem? ge_l_i)); rw [h4] at k; exact k) : Con Try.prog 35 [.ag [.z e_l_i.server.node, .u e_l_i.server.inc, .u e_l_i.seq, .d (.ro 2 (procs e_l_i.peers))]] (.v (.bool false))) (an ((wi (by omega)) : IntKind.i64.wrap ((((i : Nat) : Int) : Int) + 1) = ((i + 1 : Nat) : Int)) trivial))))))))) fun ac wd r => again1 (by omega) ac wd ⟨z, ⟨by omega, by first | exact hv1.skip ge_l_i (fun hh => by have := hh.2.1; omega) | exact hv1.skip ge_l_i (fun hh => by have k := hh.1; rw [‹e_l_i.may = false›] at k; cases k) | exact hv1.skip ge_l_i (fun hh => by rw [hz4] at hh; have := (Advert.may_iff.1 hz5).2.1; rcases hh.2.2 with h | h; omega; rw [‹newer e_l_i ez = false›] at h; cases h) | exact AtOk.take ge_l_i (by assumption) (by omega) (.inl (by rw [hv1.neg (by omega)])) | exact AtOk.take ge_l_i (by assumption) (by omega) (.inr (by rw [hz4]; assumption))⟩, r⟩
    | true =>
     have u1 := ((by have k := refAdvert e_l_i (hp _ (List.mem_of_getElem? ge_l_i)); rw [h4] at k; exact k) : Con Try.prog 35 [.ag [.z e_l_i.server.node, .u e_l_i.server.inc, .u e_l_i.seq, .d (.ro 2 (procs e_l_i.peers))]] (.v (.bool true)))
     cases h5 : (decide ((z : Int) < 0)) with
     | false =>
      have qh5 := of_decide_eq_false h5
      obtain ⟨ez, hz1, hz2, hz3, hz4, hz5⟩ := hv1.pos (by omega)
      have u2 := (adverts_at hz3 : (adverts l)[z.toNat]? = some [.z ez.server.node, .u ez.server.inc, .u ez.seq, .ro 2 (procs ez.peers)])
      cases h6 : (newer e_l_i ez) with
      | false =>
       exact toHead (todo' := hd Try.f16 1) tk tq hK [(7, [(2, .z (((l.length : Nat) : Int))), (3, .b true)]), (8, [(1, .z (((i + 1 : Nat) : Int)))]), (9, [(2, .ix (i) [.z e_l_i.server.node, .u e_l_i.server.inc, .u e_l_i.seq, .ro 2 (procs e_l_i.peers)]), (7, .b true), (11, .ix (i) [.z e_l_i.server.node, .u e_l_i.server.inc, .u e_l_i.seq, .ro 2 (procs e_l_i.peers)]), (13, .con (.v (.bool true))), (17, .b false), (21, .ix (i) [.z e_l_i.server.node, .u e_l_i.server.inc, .u e_l_i.seq, .ro 2 (procs e_l_i.peers)]), (25, .ix (z.toNat) [.z ez.server.node, .u ez.server.inc, .u ez.seq, .ro 2 (procs ez.peers)]), (27, .con (.v (.bool false)))])] 2000 [0] [0, 3, 4, 5, 6] r (by kernel_rfl) (an u0 (an h1 (an (rfI ((i : Nat) : Int)) (an (adverts_at ge_l_i) (an h3 (an (rfI ((i : Nat) : Int)) (an (adverts_at ge_l_i) (an u1 (an h5 (an (rfI ((i : Nat) : Int)) (an (adverts_at ge_l_i) (an (hz1 : (z) = ((z.toNat : Nat) : Int)) (an u2 (an ((by have k := refNewer e_l_i ez; rw [h6] at k; exact k) : Con Try.prog 36 [.ag [.z e_l_i.server.node, .u e_l_i.server.inc, .u e_l_i.seq, .d (.ro 2 (procs e_l_i.peers))], .ag [.z ez.server.node, .u ez.server.inc, .u ez.seq, .d (.ro 2 (procs ez.peers))]] (.v (.bool false))) (an ((wi (by omega)) : IntKind.i64.wrap ((((i : Nat) : Int) : Int) + 1) = ((i + 1 : Nat) : Int)) trivial))))))))))))))) fun ac wd r => again1 (by omega) ac wd ⟨z, ⟨by omega, by first | exact hv1.skip ge_l_i (fun hh => by have := hh.2.1; omega) | exact hv1.skip ge_l_i (fun hh => by have k := hh.1; rw [‹e_l_i.may = false›] at k; cases k) | exact hv1.skip ge_l_i (fun hh => by rw [hz4] at hh; have := (Advert.may_iff.1 hz5).2.1; rcases hh.2.2 with h | h; omega; rw [‹newer e_l_i ez = false›] at h; cases h) | exact AtOk.take ge_l_i (by assumption) (by omega) (.inl (by rw [hv1.neg (by omega)])) | exact AtOk.take ge_l_i (by assumption) (by omega) (.inr (by rw [hz4]; assumption))⟩, r⟩
      | true =>
       exact toHead (todo' := hd Try.f16 1) tk tq hK [(7, [(2, .z (((l.length : Nat) : Int))), (3, .b true)]), (8, [(1, .z (((i + 1 : Nat) : Int)))]), (9, [(2, .ix (i) [.z e_l_i.server.node, .u e_l_i.server.inc, .u e_l_i.seq, .ro 2 (procs e_l_i.peers)]), (7, .b true), (11, .ix (i) [.z e_l_i.server.node, .u e_l_i.server.inc, .u e_l_i.seq, .ro 2 (procs e_l_i.peers)]), (13, .con (.v (.bool true))), (17, .b false), (21, .ix (i) [.z e_l_i.server.node, .u e_l_i.server.inc, .u e_l_i.seq, .ro 2 (procs e_l_i.peers)]), (25, .ix (z.toNat) [.z ez.server.node, .u ez.server.inc, .u ez.seq, .ro 2 (procs ez.peers)]), (27, .con (.v (.bool true)))])] 2000 [0] [0, 3, 4, 5, 6] r (by kernel_rfl) (an u0 (an h1 (an (rfI ((i : Nat) : Int)) (an (adverts_at ge_l_i) (an h3 (an (rfI ((i : Nat) : Int)) (an (adverts_at ge_l_i) (an u1 (an h5 (an (rfI ((i : Nat) : Int)) (an (adverts_at ge_l_i) (an (hz1 : (z) = ((z.toNat : Nat) : Int)) (an u2 (an ((by have k := refNewer e_l_i ez; rw [h6] at k; exact k) : Con Try.prog 36 [.ag [.z e_l_i.server.node, .u e_l_i.server.inc, .u e_l_i.seq, .d (.ro 2 (procs e_l_i.peers))], .ag [.z ez.server.node, .u ez.server.inc, .u ez.seq, .d (.ro 2 (procs ez.peers))]] (.v (.bool true))) (an ((wi (by omega)) : IntKind.i64.wrap ((((i : Nat) : Int) : Int) + 1) = ((i + 1 : Nat) : Int)) trivial))))))))))))))) fun ac wd r => again1 (by omega) ac wd ⟨((i : Nat) : Int), ⟨by omega, by first | exact hv1.skip ge_l_i (fun hh => by have := hh.2.1; omega) | exact hv1.skip ge_l_i (fun hh => by have k := hh.1; rw [‹e_l_i.may = false›] at k; cases k) | exact hv1.skip ge_l_i (fun hh => by rw [hz4] at hh; have := (Advert.may_iff.1 hz5).2.1; rcases hh.2.2 with h | h; omega; rw [‹newer e_l_i ez = false›] at h; cases h) | exact AtOk.take ge_l_i (by assumption) (by omega) (.inl (by rw [hv1.neg (by omega)])) | exact AtOk.take ge_l_i (by assumption) (by omega) (.inr (by rw [hz4]; assumption))⟩, r⟩
     | true =>
      have qh5 := of_decide_eq_true h5
      exact toHead (todo' := hd Try.f16 1) tk tq hK [(7, [(2, .z (((l.length : Nat) : Int))), (3, .b true)]), (8, [(1, .z (((i + 1 : Nat) : Int)))]), (9, [(2, .ix (i) [.z e_l_i.server.node, .u e_l_i.server.inc, .u e_l_i.seq, .ro 2 (procs e_l_i.peers)]), (7, .b true), (11, .ix (i) [.z e_l_i.server.node, .u e_l_i.server.inc, .u e_l_i.seq, .ro 2 (procs e_l_i.peers)]), (13, .con (.v (.bool true))), (17, .b true)])] 2000 [0] [0, 3, 4, 5, 6] r (by kernel_rfl) (an u0 (an h1 (an (rfI ((i : Nat) : Int)) (an (adverts_at ge_l_i) (an h3 (an (rfI ((i : Nat) : Int)) (an (adverts_at ge_l_i) (an u1 (an h5 (an ((wi (by omega)) : IntKind.i64.wrap ((((i : Nat) : Int) : Int) + 1) = ((i + 1 : Nat) : Int)) trivial)))))))))) fun ac wd r => again1 (by omega) ac wd ⟨((i : Nat) : Int), ⟨by omega, by first | exact hv1.skip ge_l_i (fun hh => by have := hh.2.1; omega) | exact hv1.skip ge_l_i (fun hh => by have k := hh.1; rw [‹e_l_i.may = false›] at k; cases k) | exact hv1.skip ge_l_i (fun hh => by rw [hz4] at hh; have := (Advert.may_iff.1 hz5).2.1; rcases hh.2.2 with h | h; omega; rw [‹newer e_l_i ez = false›] at h; cases h) | exact AtOk.take ge_l_i (by assumption) (by omega) (.inl (by rw [hv1.neg (by omega)])) | exact AtOk.take ge_l_i (by assumption) (by omega) (.inr (by rw [hz4]; assumption))⟩, r⟩
end Go.Proofs.Ytikmdkicccfjpaa
namespace Go.Proofs.Ytikmdkicccfjpaa
open Go.RowKit
def ins (x : Proc) : List Proc → List Proc
 | [] => [x]
 | y :: r => if x.lt y = true then x :: y :: r else y :: ins x r
def isortTo (l : List Proc) (n : Nat) : List Proc := (l.take n).foldl (fun s x => ins x s) []
def isort (l : List Proc) : List Proc := isortTo l l.length
theorem isortTo_succ {l : List Proc} {n : Nat} {x : Proc} (h : l[n]? = some x) : isortTo l (n + 1) = ins x (isortTo l n) := by
 obtain ⟨hn, rfl⟩ := List.getElem?_eq_some_iff.1 h
 rw [isortTo, List.take_succ_eq_append_getElem hn, List.foldl_append]; rfl
theorem ins_len (x : Proc) : ∀ s, (ins x s).length = s.length + 1
 | [] => rfl
 | y :: r => by rw [ins]; split <;> simp [ins_len x r]
theorem isortTo_len (l : List Proc) : ∀ n, n ≤ l.length → (isortTo l n).length = n
 | 0, _ => by simp [isortTo]
 | n + 1, h => by rw [isortTo_succ (List.getElem?_eq_getElem (by omega)), ins_len, isortTo_len l n (by omega)]
theorem ins_perm (x : Proc) : ∀ s, (ins x s).Perm (x :: s)
 | [] => List.Perm.refl _
 | y :: r => by
  rw [ins]; split
  ·exact List.Perm.refl _
  ·exact ((ins_perm x r).cons y).trans (List.Perm.swap x y r)
theorem isortTo_perm (l : List Proc) : ∀ n, n ≤ l.length → (isortTo l n).Perm (l.take n)
 | 0, _ => by simp [isortTo]
 | n + 1, h => by
  rw [isortTo_succ (List.getElem?_eq_getElem (by omega)), List.take_succ_eq_append_getElem (by omega)]
  exact (ins_perm _ _).trans (((isortTo_perm l n (by omega)).cons _).trans (List.perm_append_singleton _ _).symm)
theorem isort_perm (l : List Proc) : (isort l).Perm l := by
 have := isortTo_perm l l.length (Nat.le_refl _); rwa [List.take_length] at this
theorem lt_trans {p q r : Proc} (h1 : p.lt q = true) (h2 : q.lt r = true) : p.lt r = true := by
 unfold Proc.lt at *; have := of_decide_eq_true h1; have := of_decide_eq_true h2; apply decide_eq_true; omega
theorem lt_irrefl (p : Proc) : p.lt p = false := by unfold Proc.lt; apply decide_eq_false; omega
theorem lt_total {p q : Proc} (h1 : p.lt q = false) (h2 : q.lt p = false) : p = q := by
 unfold Proc.lt at *; have := of_decide_eq_false h1; have := of_decide_eq_false h2
 cases p; cases q; simp only [Proc.mk.injEq]; dsimp only at *; omega
theorem lt_neg_trans {p q r : Proc} (h1 : q.lt p = false) (h2 : r.lt q = false) : r.lt p = false := by
 cases h : r.lt p with
 | false => rfl
 | true =>
  unfold Proc.lt at *; have := of_decide_eq_false h1; have := of_decide_eq_false h2; have := of_decide_eq_true h; omega
def Srt (s : List Proc) : Prop := s.Pairwise fun a b => b.lt a = false
theorem mem_ins {x z : Proc} {s : List Proc} : z ∈ ins x s ↔ z = x ∨ z ∈ s := by rw [(ins_perm x s).mem_iff, List.mem_cons]
theorem ins_srt {x : Proc} : ∀ {s : List Proc}, Srt s → Srt (ins x s)
 | [], _ => by simp [ins, Srt]
 | y :: r, h => by
  unfold Srt at *
  rw [List.pairwise_cons] at h
  rw [ins]; split
  ·rename_i hx
   rw [List.pairwise_cons, List.pairwise_cons]
   have hyx : y.lt x = false := by
    cases e : y.lt x with
    | false => rfl
    | true => have := lt_trans hx e; rw [lt_irrefl] at this; cases this
   refine ⟨fun z hz => ?_, h⟩
   rcases List.mem_cons.1 hz with rfl | hz
   ·exact hyx
   ·exact lt_neg_trans hyx (h.1 z hz)
  ·rename_i hx
   rw [List.pairwise_cons]
   refine ⟨fun z hz => ?_, ins_srt h.2⟩
   rcases mem_ins.1 hz with rfl | hz
   ·simpa using hx
   ·exact h.1 z hz
theorem isortTo_srt (l : List Proc) : ∀ n, n ≤ l.length → Srt (isortTo l n)
 | 0, _ => by simp [isortTo, Srt]
 | n + 1, h => by rw [isortTo_succ (List.getElem?_eq_getElem (by omega))]; exact ins_srt (isortTo_srt l n (by omega))
theorem isort_srt (l : List Proc) : Srt (isort l) := isortTo_srt l _ (Nat.le_refl _)
theorem ins_at {x : Proc} : ∀ {s : List Proc} {j : Nat}, (∀ y ∈ s.take j, x.lt y = false) → (∀ y, s[j]? = some y → x.lt y = true) → ins x s = s.take j ++ x :: s.drop j
 | [], j, _, _ => by simp [ins]
 | y :: r, 0, _, h => by rw [ins, if_pos (h y rfl)]; rfl
 | y :: r, j + 1, h1, h2 => by
  have := h1 y (by simp)
  rw [ins, if_neg (by simp [this]), ins_at (j := j) (fun z hz => h1 z (by simp [hz])) (fun z hz => h2 z (by simpa using hz))]
  rfl
def putP (s : List Proc) (x : Proc) (j : Nat) (r : List Proc) : List Proc := s.take j ++ x :: (s.drop j ++ r)
theorem putP_len {s : List Proc} {x : Proc} {j : Nat} {r : List Proc} : (putP s x j r).length = s.length + 1 + r.length := by
 unfold putP; simp only [List.length_append, List.length_cons, List.length_take, List.length_drop]; omega
theorem putP_at {s : List Proc} {x : Proc} {j : Nat} {r : List Proc} (h : j ≤ s.length) : (putP s x j r)[j]? = some x := by
 unfold putP; rw [List.getElem?_append_right (by simp; omega)]; simp [Nat.min_eq_left h]
theorem putP_ahead {s : List Proc} {x y : Proc} {j : Nat} {r : List Proc} (h0 : 0 < j) (hy : s[j - 1]? = some y) : (putP s x j r)[j - 1]? = some y := by
 have := (List.getElem?_eq_some_iff.1 hy).1
 unfold putP; rw [List.getElem?_append_left (by simp; omega), List.getElem?_take, if_pos (by omega), hy]
theorem putP_step {s : List Proc} {x y : Proc} {j : Nat} {r : List Proc} (h0 : 0 < j) (h : j ≤ s.length) (hy : s[j - 1]? = some y) : ((putP s x j r).set j y).set (j - 1) x = putP s x (j - 1) r := by
 obtain ⟨hlt, rfl⟩ := List.getElem?_eq_some_iff.1 hy
 unfold putP
 obtain ⟨k, rfl⟩ : ∃ k, j = k + 1 := ⟨j - 1, by omega⟩
 simp only [Nat.add_sub_cancel] at *
 have hk : k < s.length := hlt
 rw [List.set_append_right _ _ (by simp; omega), List.take_succ_eq_append_getElem hk]
 have e0 : (List.take k s ++ [s[k]]).length = k + 1 := by simp; omega
 rw [e0, Nat.sub_self, List.set_cons_zero, List.append_assoc, List.set_append_right _ _ (by simp; omega)]
 rw [show k - (List.take k s).length = 0 by simp; omega]
 simp only [List.singleton_append, List.set_cons_zero]
 rw [List.drop_eq_getElem_cons hk]
 rfl
theorem procs_set (l : List Proc) (i : Nat) (p : Proc) : List.set (procs l) i [.v (.int .i64 p.node), .v (.int .u64 (p.inc : Int))] = procs (l.set i p) := by
 unfold procs; rw [List.map_set]; rfl
theorem isort_more {l : List Proc} {n j : Nat} {x : Proc} (h : l[n]? = some x) (hj : j ≤ n) (h1 : j = 0 ∨ ∃ y, (isortTo l n)[j - 1]? = some y ∧ x.lt y = false) (h2 : ∀ y, (isortTo l n)[j]? = some y → x.lt y = true) : putP (isortTo l n) x j (l.drop (n + 1)) = isortTo l (n + 1) ++ l.drop (n + 1) := by
 have hn := (List.getElem?_eq_some_iff.1 h).1
 have hs := isortTo_srt l n (by omega)
 have hl := isortTo_len l n (by omega)
 rw [isortTo_succ h, ins_at (j := j) (fun y hy => ?_) h2]
 ·unfold putP; simp
 ·rcases h1 with rfl | ⟨z, hz, hx⟩
  ·simp at hy
  ·obtain ⟨i, hi, rfl⟩ := List.getElem_of_mem hy
   simp only [List.length_take] at hi
   rw [List.getElem_take]
   obtain ⟨hz1, rfl⟩ := List.getElem?_eq_some_iff.1 hz
   rcases Nat.lt_or_ge i (j - 1) with hij | hij
   ·exact lt_neg_trans ((List.pairwise_iff_getElem.1 hs) i (j - 1) (by omega) hz1 hij) hx
   ·have : i = j - 1 := by omega
    subst this; exact hx
theorem lt_of_cmp' {p q : Proc} {b : Bool} (h : (decide (p.cmp q < 0)) = b) : p.lt q = b := by
 rw [← h]
 have := cmp_lt p q
 cases e : p.lt q with
 | true => rw [e] at this; symm; apply decide_eq_true; have := of_decide_eq_false (this.trans rfl); omega
 | false => rw [e] at this; symm; apply decide_eq_false; have := of_decide_eq_true (this.trans rfl); omega
theorem isort_start (l : List Proc) : isortTo l 1 ++ l.drop 1 = l := by
 cases l with
 | nil => rfl
 | cons a l => simp [isortTo, ins]
theorem isort_end {l : List Proc} {i : Nat} (h1 : i ≤ l.length) (h2 : l.length ≤ i + 1) : [Blk.rw 30 2 (procs (isort l))] = [.rw 30 2 (procs (isortTo l (i + 1) ++ l.drop (i + 1)))] := by
 rw [List.drop_of_length_le h2, List.append_nil]
 unfold isort
 rw [show isortTo l (i + 1) = isortTo l l.length by unfold isortTo; rw [List.take_of_length_le h2, List.take_length]]
theorem putP_begin {l : List Proc} {n : Nat} {x : Proc} (h : l[n]? = some x) : putP (isortTo l n) x (n - 0) (l.drop (n + 1)) = isortTo l n ++ l.drop n := by
 obtain ⟨hn, rfl⟩ := List.getElem?_eq_some_iff.1 h
 have hl := isortTo_len l n (by omega)
 rw [Nat.sub_zero, List.drop_eq_getElem_cons hn]
 unfold putP
 rw [List.take_of_length_le (by omega), List.drop_of_length_le (by omega)]
 rfl
set_option maxRecDepth 100000 in
theorem insSortP (l : List Proc) (hb : l.length < 1073741824) : ConM Try.prog 76 [.sl 0 (l.length), .z 0, .n l.length, .fn 52 []] [.rw 30 2 (procs l)] (.tu []) ([.rw 30 2 (procs (isort l))]) := by
 refine ConM.intro (by kernel_rfl) rfl rfl 53 rfl rfl fun D w0 K bs ac wd hK (hbm : bs.m = 1) r => ?_
 refine toHeadM (todo' := hd Try.f76 0) (E' := [(0, .sl 0 (l.length)), (1, .z 0), (2, .n l.length), (3, .fn 52 []), (8, .z 1)]) (M' := [.rw 30 2 (procs l)]) tk tq hK hbm [(0, [(1, .z (1))])] 2000 [0] [0, 1, 2, 3, 8] r (by kernel_rfl) (an ((wi (by omega)) : IntKind.i64.wrap ((0 : Int) + 1) = 1) trivial) fun ac wd r => ?_
 refine Goes.rounds (Φ := fun (i : Nat) ac wd => (i ≤ l.length) ∧ RB D w0 K 53 bs [(0, .sl 0 (l.length)), (1, .z 0), (2, .n l.length), (3, .fn 52 []), (8, .n (i + 1))] [.rw 30 2 (procs (isortTo l (i + 1) ++ l.drop (i + 1)))] ac wd) (l.length) ?_ (Nat.zero_le _) ⟨(Nat.zero_le _), (r).cast rfl (by rw [isort_start])⟩
 clear r
 rintro i hi0 again0 ac wd ⟨hv0, r⟩
 have hi1 := hv0
 cases h0 : (decide ((((i + 1 : Nat) : Int) : Int) < ((l.length : Nat) : Int))) with
 | false =>
  have qh0 := of_decide_eq_false h0
  refine castM (y := .tu []) (N' := [.rw 30 2 (procs (isortTo l (i + 1) ++ l.drop (i + 1)))]) (rfl) ((isort_end hi1 (by omega))) ?_
  exact toRetM tk tq hK rfl hbm [(1, [(2, .b false)])] 2000 [0] r (by kernel_rfl) (an h0 trivial)
 | true =>
  have qh0 := of_decide_eq_true h0
  obtain ⟨x, gx⟩ : ∃ x, l[i + 1]? = some x := ⟨_, List.getElem?_eq_getElem (by omega)⟩
  have hsl := isortTo_len l (i + 1) (by omega)
  refine toHeadM (todo' := hd Try.f76 1) (E' := [(0, .sl 0 (l.length)), (1, .z 0), (2, .n l.length), (3, .fn 52 []), (8, .n (i + 1)), (9, .n (i + 1))]) (M' := [.rw 30 2 (procs (isortTo l (i + 1) ++ l.drop (i + 1)))]) tk tq hK hbm [(1, [(2, .b true)])] 2000 [0] [0, 1, 2, 3, 8, 9] r (by kernel_rfl) (an h0 trivial) fun ac wd r => ?_
  refine Goes.rounds (Φ := fun (d : Nat) ac wd => (d ≤ i + 1 ∧ ∀ y, (isortTo l (i + 1))[i + 1 - d]? = some y → x.lt y = true) ∧ RB D w0 K 53 bs [(0, .sl 0 (l.length)), (1, .z 0), (2, .n l.length), (3, .fn 52 []), (8, .n (i + 1)), (9, .n (i + 1 - d))] [.rw 30 2 (procs (putP (isortTo l (i + 1)) x (i + 1 - d) (l.drop (i + 1 + 1))))] ac wd) (i + 1) ?_ (Nat.zero_le _) ⟨⟨by omega, fun y hy => by rw [Nat.sub_zero, List.getElem?_eq_none (by omega)] at hy; cases hy⟩, (r).cast rfl (by rw [putP_begin gx])⟩
  clear r
  rintro d hi1 again1 ac wd ⟨hv1, r⟩
  obtain ⟨hd1, hd2⟩ := hv1
  cases h1 : (decide ((0 : Int) < ((i + 1 - d : Nat) : Int))) with
  | false =>
   have qh1 := of_decide_eq_false h1
   exact toHeadM (todo' := hd Try.f76 0) (E' := [(0, .sl 0 (l.length)), (1, .z 0), (2, .n l.length), (3, .fn 52 []), (8, .n (i + 1 + 1))]) (M' := [.rw 30 2 (procs (putP (isortTo l (i + 1)) x (i + 1 - d) (l.drop (i + 1 + 1))))]) tk tq hK hbm [(2, [(1, .z (((i + 1 + 1 : Nat) : Int)))]), (4, [(2, .b false)])] 2000 [0] [0, 1, 2, 3, 8] r (by kernel_rfl) (an h1 (an ((wi (by omega)) : IntKind.i64.wrap ((((i + 1 : Nat) : Int) : Int) + 1) = ((i + 1 + 1 : Nat) : Int)) trivial)) fun ac wd r => again0 (by omega) ac wd ⟨(by omega), r.cast rfl (by first | (rw [isort_more (n := i + 1) gx (by omega) (.inl (by omega)) hd2]; done) | (rw [isort_more (n := i + 1) gx (by omega) (.inr ⟨y, gy, lt_of_cmp' (by assumption)⟩) hd2]; done))⟩
  | true =>
   have qh1 := of_decide_eq_true h1
   obtain ⟨y, gy⟩ : ∃ y, (isortTo l (i + 1))[i + 1 - d - 1]? = some y := ⟨_, List.getElem?_eq_getElem (by omega)⟩
   have u0 := ((by first | omega | decide | (simp; omega)) : (i + 1 - d) < (l.length))
   have u1 := ((by first | (simp [putP_len, isortTo_len l (i + 1) (show i + 1 ≤ l.length by omega)]; done) | (simp [putP_len, isortTo_len l (i + 1) (show i + 1 ≤ l.length by omega)] <;> omega) | (simp <;> omega)) : (l.length) ≤ (procs (putP (isortTo l (i + 1)) x (i + 1 - d) (l.drop (i + 1 + 1)))).length)
   have u2 := (procs_at (putP_at (by rw [isortTo_len l (i + 1) (by omega)]; omega)) : (procs (putP (isortTo l (i + 1)) x (i + 1 - d) (l.drop (i + 1 + 1))))[i + 1 - d]? = some [.z x.node, .u x.inc])
   have u3 := ((wi (by omega)) : IntKind.i64.wrap ((((i + 1 - d : Nat) : Int) : Int) - 1) = ((i + 1 - d - 1 : Nat) : Int))
   have u4 := ((by first | omega | decide | (simp; omega)) : (i + 1 - d - 1) < (l.length))
   have u5 := (procs_at (putP_ahead (by omega) gy) : (procs (putP (isortTo l (i + 1)) x (i + 1 - d) (l.drop (i + 1 + 1))))[i + 1 - d - 1]? = some [.z y.node, .u y.inc])
   cases h2 : (decide ((x.cmp y : Int) < 0)) with
   | false =>
    have qh2 := of_decide_eq_false h2
    exact toHeadM (todo' := hd Try.f76 0) (E' := [(0, .sl 0 (l.length)), (1, .z 0), (2, .n l.length), (3, .fn 52 []), (8, .n (i + 1 + 1))]) (M' := [.rw 30 2 (procs (putP (isortTo l (i + 1)) x (i + 1 - d) (l.drop (i + 1 + 1))))]) tk tq hK hbm [(2, [(1, .z (((i + 1 + 1 : Nat) : Int)))]), (4, [(2, .b true), (7, .n (i + 1 - d)), (8, .ix 0 [.z x.node, .u x.inc]), (11, .z (((i + 1 - d - 1 : Nat) : Int))), (12, .n (i + 1 - d - 1)), (13, .ix 0 [.z y.node, .u y.inc]), (14, .con (.z (x.cmp y))), (15, .b false)])] 2000 [0] [0, 1, 2, 3, 8] r (by kernel_rfl) (an h1 (an (rfI ((i + 1 - d : Nat) : Int)) (an u0 (an u1 (an u2 (an u3 (an (rfI ((i + 1 - d - 1 : Nat) : Int)) (an u4 (an u1 (an u5 (an (procCompare x y) (an h2 (an ((wi (by omega)) : IntKind.i64.wrap ((((i + 1 : Nat) : Int) : Int) + 1) = ((i + 1 + 1 : Nat) : Int)) trivial))))))))))))) fun ac wd r => again0 (by omega) ac wd ⟨(by omega), r.cast rfl (by first | (rw [isort_more (n := i + 1) gx (by omega) (.inl (by omega)) hd2]; done) | (rw [isort_more (n := i + 1) gx (by omega) (.inr ⟨y, gy, lt_of_cmp' (by assumption)⟩) hd2]; done))⟩
   | true =>
    have qh2 := of_decide_eq_true h2
    have v6_0 := (rfI ((i + 1 - d : Nat) : Int))
    have v6_1 := ((by first | omega | decide | (simp; omega)) : (i + 1 - d) < (l.length))
    have v6_2 := ((by first | (simp [putP_len, isortTo_len l (i + 1) (show i + 1 ≤ l.length by omega)]; done) | (simp [putP_len, isortTo_len l (i + 1) (show i + 1 ≤ l.length by omega)] <;> omega) | (simp <;> omega)) : (l.length) ≤ (procs (putP (isortTo l (i + 1)) x (i + 1 - d) (l.drop (i + 1 + 1)))).length)
    have v6_3 := (procs_at (putP_at (by rw [isortTo_len l (i + 1) (by omega)]; omega)) : (procs (putP (isortTo l (i + 1)) x (i + 1 - d) (l.drop (i + 1 + 1))))[i + 1 - d]? = some [.z x.node, .u x.inc])
    have v6_4 := ((wi (by omega)) : IntKind.i64.wrap ((((i + 1 - d : Nat) : Int) : Int) - 1) = ((i + 1 - d - 1 : Nat) : Int))
    have v6_5 := (rfI ((i + 1 - d - 1 : Nat) : Int))
    have v6_6 := ((by first | omega | decide | (simp; omega)) : (i + 1 - d - 1) < (l.length))
    have v6_7 := (procs_at (putP_ahead (by omega) gy) : (procs (putP (isortTo l (i + 1)) x (i + 1 - d) (l.drop (i + 1 + 1))))[i + 1 - d - 1]? = some [.z y.node, .u y.inc])
    have v6_8 := ((by first | (simp [putP_len, isortTo_len l (i + 1) (show i + 1 ≤ l.length by omega)]; done) | (simp [putP_len, isortTo_len l (i + 1) (show i + 1 ≤ l.length by omega)] <;> omega) | (simp <;> omega)) : (l.length) ≤ (List.set (procs (putP (isortTo l (i + 1)) x (i + 1 - d) (l.drop (i + 1 + 1)))) (i + 1 - d) [.z y.node, .u y.inc] : List (List DV)).length)
    have v6_9 := ((by rw [List.getElem?_set, if_neg (by omega)]; exact procs_at (putP_ahead (by omega) gy)) : (List.set (procs (putP (isortTo l (i + 1)) x (i + 1 - d) (l.drop (i + 1 + 1)))) (i + 1 - d) [.z y.node, .u y.inc])[i + 1 - d - 1]? = some [.z y.node, .u y.inc])
    refine toDrawM (todo' := aft Try.f76 6) (E' := [(0, .sl 0 (l.length)), (1, .z 0), (2, .n l.length), (3, .fn 52 []), (8, .n (i + 1)), (9, .n (i + 1 - d)), (18, .n (i + 1 - d)), (19, .z 0), (20, .d (.v (.bool true))), (21, .d (.v (.bool true))), (22, .fn 52 []), (23, .sl 0 (l.length)), (24, .n (i + 1 - d)), (25, .ep 0 2 (i + 1 - d) 0), (26, .ag [.z x.node, .u x.inc]), (27, .sl 0 (l.length)), (28, .n (i + 1 - d)), (29, .n (i + 1 - d - 1)), (30, .ep 0 2 (i + 1 - d - 1) 0), (31, .ag [.z y.node, .u y.inc]), (32, .z (x.cmp y)), (33, .d (.v (.bool true))), (34, .d (.v (.bool true))), (37, .sl 0 (l.length)), (38, .n (i + 1 - d)), (39, .sl 0 (l.length)), (40, .n (i + 1 - d)), (41, .n (i + 1 - d - 1)), (42, .sl 0 (l.length)), (43, .n (i + 1 - d)), (44, .n (i + 1 - d - 1)), (45, .ep 0 2 (i + 1 - d - 1) 0), (47, .sl 0 (l.length)), (48, .n (i + 1 - d)), (49, .ep 0 2 (i + 1 - d) 0), (46, .ag [.z y.node, .u y.inc]), (50, .ag [.z x.node, .u x.inc]), (51, .ep 0 2 (i + 1 - d) 0), (52, .ep 0 2 (i + 1 - d - 1) 0)]) (M' := [.rw 30 2 (List.set (List.set (procs (putP (isortTo l (i + 1)) x (i + 1 - d) (l.drop (i + 1 + 1)))) (i + 1 - d) [.z y.node, .u y.inc]) (i + 1 - d - 1) [.z x.node, .u x.inc])]) tk tq hK hbm [(4, [(2, .b true), (7, .n (i + 1 - d)), (8, .ix 0 [.z x.node, .u x.inc]), (11, .z (((i + 1 - d - 1 : Nat) : Int))), (12, .n (i + 1 - d - 1)), (13, .ix 0 [.z y.node, .u y.inc]), (14, .con (.z (x.cmp y))), (15, .b true)]), (6, [(4, .z (((i + 1 - d - 1 : Nat) : Int))), (7, .z (((i + 1 - d - 1 : Nat) : Int))), (8, .n (i + 1 - d - 1)), (9, .ix 0 [.z y.node, .u y.inc]), (12, .n (i + 1 - d)), (13, .ix 0 [.z x.node, .u x.inc]), (14, .n (i + 1 - d)), (15, .ix 0 [.z x.node, .u x.inc]), (16, .n (i + 1 - d - 1)), (17, .ix 0 [.z y.node, .u y.inc])])] 7 2 [9, 13] [[0], [0]] [0, 1, 2, 3, 8, 9, 18, 19, 20, 21, 22, 23, 24, 25, 26, 27, 28, 29, 30, 31, 32, 33, 34, 37, 38, 39, 40, 41, 42, 43, 44, 45, 47, 48, 49, 46, 50, 51, 52] r (by kernel_rfl) (an (an h1 (an v6_0 (an v6_1 (an v6_2 (an v6_3 (an v6_4 (an v6_5 (an v6_6 (an v6_2 (an v6_7 (an (procCompare x y) (an h2 (an v6_4 (an v6_4 (an v6_5 (an v6_6 (an v6_2 (an v6_0 (an v6_1 (an v6_2 (an v6_7 (an v6_3 (an v6_0 (an v6_1 (an v6_2 (an v6_3 (an v6_5 (an v6_6 (an v6_8 (an v6_9 trivial)))))))))))))))))))))))))))))) (an (an h1 (an v6_0 (an v6_1 (an v6_2 (an v6_3 (an v6_4 (an v6_5 (an v6_6 (an v6_2 (an v6_7 (an (procCompare x y) (an h2 (an v6_4 (an v6_4 (an v6_5 (an v6_6 (an v6_2 (an v6_0 (an v6_1 (an v6_2 (an v6_3 (an v6_7 (an v6_0 (an v6_1 (an v6_2 (an v6_3 (an v6_5 (an v6_6 (an v6_8 (an v6_9 trivial)))))))))))))))))))))))))))))) trivial)) fun ac wd r => ?_
    exact toHeadM (todo' := hd Try.f76 1) (E' := [(0, .sl 0 (l.length)), (1, .z 0), (2, .n l.length), (3, .fn 52 []), (8, .n (i + 1)), (9, .n (i + 1 - d - 1))]) (M' := [.rw 30 2 (List.set (List.set (procs (putP (isortTo l (i + 1)) x (i + 1 - d) (l.drop (i + 1 + 1)))) (i + 1 - d) [.z y.node, .u y.inc]) (i + 1 - d - 1) [.z x.node, .u x.inc])]) tk tq hK hbm [(5, [(1, .z (((i + 1 - d - 1 : Nat) : Int)))])] 2000 [0] [0, 1, 2, 3, 8, 9] r (by kernel_rfl) (an u3 trivial) fun ac wd r => again1 (by omega) ac wd ⟨⟨by omega, fun z hz => by rw [Nat.sub_add_eq, gy] at hz; cases hz; exact lt_of_cmp' (by assumption)⟩, r.cast (by rw [Nat.sub_add_eq]) (by rw [procs_set, procs_set, putP_step (by omega) (by omega) gy, Nat.sub_add_eq])⟩
end Go.Proofs.Ytikmdkicccfjpaa
namespace Go.Proofs.Ytikmdkicccfjpaa
open Go.RowKit
def srtTo (l : List Proc) (n : Nat) : List Proc := (l.take n).foldl (fun s x => if x ∈ s then s else ins x s) []
def srt (l : List Proc) : List Proc := srtTo l l.length
theorem srtTo_succ {l : List Proc} {n : Nat} {x : Proc} (h : l[n]? = some x) : srtTo l (n + 1) = if x ∈ srtTo l n then srtTo l n else ins x (srtTo l n) := by
 obtain ⟨hn, rfl⟩ := List.getElem?_eq_some_iff.1 h
 rw [srtTo, List.take_succ_eq_append_getElem hn, List.foldl_append]; rfl
def SS (s : List Proc) : Prop := s.Pairwise fun a b => a.lt b = true
theorem lt_of_not {p q : Proc} (h : p.lt q = false) (hn : q ≠ p) : q.lt p = true := by
 cases e : q.lt p with
 | true => rfl
 | false => exact absurd (lt_total e h) hn
theorem ins_ss {x : Proc} : ∀ {s : List Proc}, SS s → x ∉ s → SS (ins x s)
 | [], _, _ => by simp [ins, SS]
 | y :: r, h, hx => by
  unfold SS at *
  rw [List.pairwise_cons] at h
  simp only [List.mem_cons, not_or] at hx
  rw [ins]; split
  ·rename_i hxy
   rw [List.pairwise_cons, List.pairwise_cons]
   refine ⟨fun z hz => ?_, h⟩
   rcases List.mem_cons.1 hz with rfl | hz
   ·exact hxy
   ·exact lt_trans hxy (h.1 z hz)
  ·rename_i hxy
   rw [List.pairwise_cons]
   refine ⟨fun z hz => ?_, ins_ss h.2 hx.2⟩
   rcases mem_ins.1 hz with rfl | hz
   ·exact lt_of_not (by simpa using hxy) (fun e => hx.1 e.symm)
   ·exact h.1 z hz
theorem srtTo_ss (l : List Proc) : ∀ n, n ≤ l.length → SS (srtTo l n)
 | 0, _ => by simp [srtTo, SS]
 | n + 1, h => by
  rw [srtTo_succ (List.getElem?_eq_getElem (by omega))]
  split
  ·exact srtTo_ss l n (by omega)
  ·rename_i hx; exact ins_ss (srtTo_ss l n (by omega)) hx
theorem srt_ss (l : List Proc) : SS (srt l) := srtTo_ss l _ (Nat.le_refl _)
theorem mem_srtTo {l : List Proc} {x : Proc} : ∀ {n}, n ≤ l.length → (x ∈ srtTo l n ↔ x ∈ l.take n)
 | 0, _ => by simp [srtTo]
 | n + 1, h => by
  have ih := mem_srtTo (l := l) (x := x) (n := n) (by omega)
  rw [srtTo_succ (List.getElem?_eq_getElem (by omega)), List.take_succ_eq_append_getElem (by omega), List.mem_append, List.mem_singleton, ← ih]
  split
  ·rename_i hx
   constructor
   ·exact Or.inl
   ·rintro (h1 | rfl)
    ·exact h1
    ·exact hx
  ·rw [mem_ins, or_comm]
theorem mem_srt {l : List Proc} {x : Proc} : x ∈ srt l ↔ x ∈ l := by unfold srt; rw [mem_srtTo (Nat.le_refl _), List.take_length]
theorem ss_ext : ∀ {s t : List Proc}, SS s → SS t → (∀ x, x ∈ s ↔ x ∈ t) → s = t
 | [], [], _, _, _ => rfl
 | [], y :: t, _, _, h => by have := (h y).2 List.mem_cons_self; cases this
 | x :: s, [], _, _, h => by have := (h x).1 List.mem_cons_self; cases this
 | x :: s, y :: t, hs, ht, h => by
  unfold SS at hs ht
  rw [List.pairwise_cons] at hs ht
  have hxy : x = y := by
   rcases List.mem_cons.1 ((h x).1 List.mem_cons_self) with e | e
   ·exact e
   ·rcases List.mem_cons.1 ((h y).2 List.mem_cons_self) with e' | e'
    ·exact e'.symm
    ·have h1 := ht.1 x e
     have h2 := hs.1 y e'
     have := lt_trans h1 h2; rw [lt_irrefl] at this; cases this
  subst hxy
  rw [ss_ext hs.2 ht.2 fun z => ?_]
  have hz := h z
  simp only [List.mem_cons] at hz
  constructor
  ·intro hz1
   rcases hz.1 (Or.inr hz1) with rfl | h2
   ·have := hs.1 z hz1; rw [lt_irrefl] at this; cases this
   ·exact h2
  ·intro hz1
   rcases hz.2 (Or.inr hz1) with rfl | h2
   ·have := ht.1 z hz1; rw [lt_irrefl] at this; cases this
   ·exact h2
theorem srt_nodup {l : List Proc} (h : l.Nodup) : isort l = srt l := by
 have hs := isort_srt l
 have hn : (isort l).Nodup := (isort_perm l).nodup_iff.2 h
 refine ss_ext ?_ (srt_ss l) fun x => by rw [mem_srt, (isort_perm l).mem_iff]
 unfold SS Srt List.Nodup at *
 exact (hs.and hn).imp fun ⟨h1, h2⟩ => lt_of_not h1 h2
theorem idx_memP {l : List Proc} {p : Proc} : ∀ k, decide ((0 : Int) ≤ idx l p k) = decide (p ∈ l) := by
 induction l with
 | nil => intro k; simp [idx]
 | cons x l ih =>
  intro k
  unfold idx
  by_cases h : x = p
  ·subst h; simp <;> omega
  ·rw [if_neg h, ih (k + 1)]
   have : p ≠ x := fun e => h e.symm
   simp [this]
set_option maxRecDepth 100000 in
theorem procHas (l : List Proc) (p : Proc) (hb : l.length < 2147483648) : Con Try.prog 59 [.d (.ro 2 (procs l)), .ag [.z p.node, .u p.inc]] (DV.v (.bool (decide (p ∈ l)))) := by
 refine Con.intro (by kernel_rfl) rfl rfl 8 rfl rfl fun w0 K ac hK r => ?_
 cases h0 : (decide ((0 : Int) ≤ idx l p 0)) with
 | false =>
  have qh0 := of_decide_eq_false h0
  rw [show (DV.v (.bool (decide (p ∈ l))) : DV) = .v (.bool false) from (bv (by rw [← idx_memP 0]; first | exact (by assumption) | simp_all))]
  exact toRet tk tq hK rfl [(1, [(2, .into 200 [(1, [(2, .con (.z (idx l p 0))), (3, .b false)])])])] 2000 r (by kernel_rfl) (an (indexProcs l p (by omega)) (an h0 trivial))
 | true =>
  have qh0 := of_decide_eq_true h0
  rw [show (DV.v (.bool (decide (p ∈ l))) : DV) = .v (.bool true) from (bv (by rw [← idx_memP 0]; first | exact (by assumption) | simp_all))]
  exact toRet tk tq hK rfl [(1, [(2, .into 200 [(1, [(2, .con (.z (idx l p 0))), (3, .b true)])])])] 2000 r (by kernel_rfl) (an (indexProcs l p (by omega)) (an h0 trivial))
end Go.Proofs.Ytikmdkicccfjpaa
namespace Go.Proofs.Ytikmdkicccfjpaa
open Go.RowKit
theorem isort_len (l : List Proc) : (isort l).length = l.length := (isort_perm l).length_eq
set_option maxRecDepth 100000 in
theorem pdqSortP (l : List Proc) (k : Nat) (hb : l.length ≤ 12) : ConM Try.prog 64 [.sl 0 (l.length), .z 0, .n l.length, .n k, .fn 52 []] [.rw 30 2 (procs l)] (.tu []) ([.rw 30 2 (procs (isort l))]) := by
 refine ConM.intro (by kernel_rfl) rfl rfl 148 rfl rfl fun D w0 K bs ac wd hK (hbm : bs.m = 1) r => ?_
 refine toHeadM (todo' := hd Try.f64 0) (E' := [(0, .sl 0 (l.length)), (1, .z 0), (2, .n l.length), (3, .n k), (4, .fn 52 []), (10, .d (.v (.bool true))), (11, .d (.v (.bool true)))]) (M' := [.rw 30 2 (procs l)]) tk tq hK hbm [] 2000 [0] [0, 1, 2, 3, 4, 10, 11] r (by kernel_rfl) trivial fun ac wd r => ?_
 have u0 := ((wi (by omega)) : IntKind.i64.wrap ((((l.length : Nat) : Int) : Int) - 0) = ((l.length : Nat) : Int))
 cases h0 : (decide ((((l.length : Nat) : Int) : Int) ≤ 12)) with
 | false =>
  have qh0 := of_decide_eq_false h0
  exact absurd qh0 (by omega)
 | true =>
  have qh0 := of_decide_eq_true h0
  refine castM (y := .tu []) (N' := [.rw 30 2 (procs (isort l))]) (rfl) (rfl) ?_
  exact toRetM tk tq hK rfl hbm [(2, [(2, .z (((l.length : Nat) : Int)))]), (3, [(1, .b true)]), (4, [(4, .mem [0] (.tu []) [.rw 30 2 (procs (isort l))])])] 2000 [0] r (by kernel_rfl) (an u0 (an h0 (an (insSortP l (by omega)) trivial)))
set_option maxRecDepth 100000 in
theorem sortFuncP (l : List Proc) (hb : l.length ≤ 6) : ConM Try.prog 51 [.sl 0 (l.length), .fn 52 []] [.rw 30 2 (procs l)] (.tu []) ([.rw 30 2 (procs (isort l))]) := by
 refine ConM.intro (by kernel_rfl) rfl rfl 14 rfl rfl fun D w0 K bs ac wd hK (hbm : bs.m = 1) r => ?_
 refine castM (y := .tu []) (N' := [.rw 30 2 (procs (isort l))]) (rfl) (rfl) ?_
 exact toRetM tk tq hK rfl hbm [(1, [(3, .z (((l.length : Nat) : Int))), (4, .con (.n (blen l.length))), (6, .mem [0] (.tu []) [.rw 30 2 (procs (isort l))])])] 2000 [0] r (by kernel_rfl) (an ((wu (by omega)) : IntKind.u64.wrap (((l.length : Nat) : Int)) = ((l.length : Nat) : Int)) (an (bitsLen l.length (by omega)) (an (pdqSortP l (blen l.length) (by omega)) trivial)))
set_option maxRecDepth 100000 in
theorem compactP (l : List Proc) (hn : l.Nodup) (hb : l.length < 1073741824) : ConM Try.prog 54 [.sl 0 (l.length)] [.rw 30 2 (procs l)] (.sl 0 l.length) ([.rw 30 2 (procs l)]) := by
 refine ConM.intro (by kernel_rfl) rfl rfl 61 rfl rfl fun D w0 K bs ac wd hK (hbm : bs.m = 1) r => ?_
 cases h0 : (decide ((((l.length : Nat) : Int) : Int) < 2)) with
 | false =>
  have qh0 := of_decide_eq_false h0
  refine toHeadM (todo' := hd Try.f54 0) (E' := [(0, .sl 0 (l.length)), (3, .n (0 + 1))]) (M' := [.rw 30 2 (procs l)]) tk tq hK hbm [(1, [(2, .b false)])] 2000 [0] [0, 3] r (by kernel_rfl) (an h0 trivial) fun ac wd r => ?_
  refine Goes.rounds (Φ := fun (k : Nat) ac wd => (k ≤ l.length) ∧ RB D w0 K 61 bs [(0, .sl 0 (l.length)), (3, .n (k + 1))] [.rw 30 2 (procs l)] ac wd) (l.length) ?_ (Nat.zero_le _) ⟨(Nat.zero_le _), r⟩
  clear r
  rintro k hi0 again0 ac wd ⟨hv0, r⟩
  cases h1 : (decide ((((k + 1 : Nat) : Int) : Int) < ((l.length : Nat) : Int))) with
  | false =>
   have qh1 := of_decide_eq_false h1
   refine castM (y := .sl 0 (l.length)) (N' := [.rw 30 2 (procs l)]) (rfl) (rfl) ?_
   exact toRetM tk tq hK rfl hbm [(4, [(3, .b false)])] 2000 [0] r (by kernel_rfl) (an h1 trivial)
  | true =>
   have qh1 := of_decide_eq_true h1
   obtain ⟨y, gy⟩ : ∃ y, l[k + 1]? = some y := ⟨_, List.getElem?_eq_getElem (by omega)⟩
   obtain ⟨x, gx⟩ : ∃ x, l[k + 1 - 1]? = some x := ⟨_, List.getElem?_eq_getElem (by omega)⟩
   have u0 := ((by first | rfl | (simp; done) | (simp <;> omega)) : (l.length) ≤ (procs l).length)
   have u1 := ((wi (by omega)) : IntKind.i64.wrap ((((k + 1 : Nat) : Int) : Int) - 1) = ((k + 1 - 1 : Nat) : Int))
   have u2 := ((by first | omega | decide | (simp; omega)) : (k + 1 - 1) < (l.length))
   cases h2 : (decide (y = x)) with
   | false =>
    have qh2 := of_decide_eq_false h2
    exact toHeadM (todo' := hd Try.f54 0) tk tq hK hbm [(4, [(3, .b true)]), (5, [(1, .z (((k + 1 + 1 : Nat) : Int)))]), (6, [(2, .n (k + 1)), (3, .ix 0 [.z y.node, .u y.inc]), (6, .z (((k + 1 - 1 : Nat) : Int))), (7, .n (k + 1 - 1)), (8, .ix 0 [.z x.node, .u x.inc]), (9, .b false)])] 2000 [0] [0, 3] r (by kernel_rfl) (an h1 (an (rfI ((k + 1 : Nat) : Int)) (an ((by first | omega | decide | (simp; omega)) : (k + 1) < (l.length)) (an u0 (an (procs_at gy) (an u1 (an (rfI ((k + 1 - 1 : Nat) : Int)) (an u2 (an u0 (an (procs_at gx) (an ((eqT (eqProcD _ _) h2) : EqAgg Try.prog 30 [(.int .i64 (y.node)), (.int .u64 (((y.inc : Nat) : Int)))] [(.int .i64 (x.node)), (.int .u64 (((x.inc : Nat) : Int)))] false) (an ((wi (by omega)) : IntKind.i64.wrap ((((k + 1 : Nat) : Int) : Int) + 1) = ((k + 1 + 1 : Nat) : Int)) trivial)))))))))))) fun ac wd r => again0 (by omega) ac wd ⟨(by omega), r⟩
   | true =>
    have qh2 := of_decide_eq_true h2
    exact absurd (of_decide_eq_true h2) (fun e => by have := (List.getElem?_inj (by omega) hn).1 (gy.trans (by rw [e]; exact gx.symm)); omega)
 | true =>
  have qh0 := of_decide_eq_true h0
  refine castM (y := .sl 0 (l.length)) (N' := [.rw 30 2 (procs l)]) (rfl) (rfl) ?_
  exact toRetM tk tq hK rfl hbm [(1, [(2, .b true)])] 2000 [0] r (by kernel_rfl) (an h0 trivial)
theorem compactI' (l : List Proc) (i : Nat) (h : i = l.length) (hn : l.Nodup) (hb : l.length < 1073741824) : ConM Try.prog 54 [.sl 0 i] [.rw 30 2 (procs l)] (.sl 0 l.length) [.rw 30 2 (procs l)] := by subst h; exact compactP l hn hb
theorem sortFuncI (l : List Proc) (i : Nat) (h : i = l.length) (hb : l.length ≤ 6) : ConM Try.prog 51 [.sl 0 i, .fn 52 []] [.rw 30 2 (procs l)] (.tu []) [.rw 30 2 (procs (isort l))] := by subst h; exact sortFuncP l hb
set_option maxRecDepth 100000 in
theorem sortedOk (l : List Proc) (hn : l.Nodup) (hb : l.length ≤ 6) : Con Try.prog 39 [.d (.ro 2 (procs l))] (.ro 2 (procs (srt l))) := by
 refine Con.intro (by kernel_rfl) rfl rfl 11 rfl rfl fun w0 K ac hK r => ?_
 exact toRet tk tq hK rfl [(1, [(1, .con (.em 30 2 (procs l)))]), (2, [(1, .mem [0] (.tu []) [.rw 30 2 (procs (isort l))])]), (3, [(1, .mem [0] (.sl 0 ((isort l).length)) [.rw 30 2 (procs (isort l))]), (2, .into 200 [(1, [(5, .res (.ro 2 (procs (srt l))))])])])] 2000 r (by kernel_rfl) (an (cloneProcs l (by omega)) (an (sortFuncI l ((procs l).length) (by simp) (by omega)) (an (compactI' (isort l) ((procs l).length) (by simp [isort_len]) ((isort_perm l).nodup_iff.2 hn) (by rw [isort_len]; omega)) (an (rfI (((isort l).length : Nat) : Int)) (an (rfI (((isort l).length : Nat) : Int)) (an ((by first | rfl | (simp [isort_len]; done) | (simp [isort_len] <;> omega)) : ((isort l).length) = (procs (isort l)).length) (an (rfN (2)) (an ((by rw [froz_procs, srt_nodup hn]) : frozR (procs (isort l)) = procs (srt l)) trivial))))))))
end Go.Proofs.Ytikmdkicccfjpaa
namespace Go.Proofs.Ytikmdkicccfjpaa
open Go.RowKit
def peersOf (b : List Advert) (p : Proc) : List Proc := match b.find? (fun a => decide (a.server = p)) with | some a => a.peers | none => []
theorem peersOf_at {b : List Advert} {p : Proc} {i : Nat} {a : Advert} (h : b[i]? = some a) (ha : a.server = p) (hb : ∀ j x, j < i → b[j]? = some x → x.server ≠ p) : peersOf b p = a.peers := by
 obtain ⟨hi, rfl⟩ := List.getElem?_eq_some_iff.1 h
 have : b.find? (fun a => decide (a.server = p)) = some b[i] := by
  rw [List.find?_eq_some_iff_getElem]
  exact ⟨by simpa using ha, i, hi, rfl, fun j hj => by simpa using hb j _ hj (List.getElem?_eq_getElem (by omega))⟩
 rw [peersOf, this]
theorem peersOf_none {b : List Advert} {p : Proc} (hb : ∀ j x, j < b.length → b[j]? = some x → x.server ≠ p) : peersOf b p = [] := by
 have : b.find? (fun a => decide (a.server = p)) = none := by
  rw [List.find?_eq_none]; intro x hx
  obtain ⟨j, hj, rfl⟩ := List.getElem_of_mem hx
  simpa using hb j _ hj (List.getElem?_eq_getElem hj)
 rw [peersOf, this]
theorem Goes.le {P : Program} {f : FuncId} {todo : List Item} {a : Act} {w w0 : World} {K : World → Prop} {x x' : DV} (e : Le x x') (h : Goes P f todo (RetA w0 K x) a w) : Goes P f todo (RetA w0 K x') a w := by
 intro b cs h1 h2 h3
 obtain ⟨ed, w', fr, ⟨v, rfl, g, H, ⟨Ho, Hi, rfl, hd⟩, n⟩, r2, r3⟩ := h b cs h1 h2 h3
 exact ⟨_, w', fr, ⟨v, rfl, g, _, ⟨Ho, Hi, rfl, e _ _ _ hd⟩, n⟩, r2, r3⟩
set_option maxRecDepth 100000 in
theorem peersOk (b : List Advert) (p : Proc) (hb : b.length ≤ 9223372036854775807) : Con Try.prog 58 [.d (.ro 4 (adverts b)), .ag [.z p.node, .u p.inc]] (.ro 2 (procs (peersOf b p))) := by
 refine Con.intro (by kernel_rfl) rfl rfl 20 rfl rfl fun w0 K ac hK r => ?_
 refine toHead (todo' := hd Try.f58 0) (E' := [(3, .pt 0 0), (7, .d (.ro 4 (adverts b))), (8, .n b.length), (9, .n 0)]) (M' := [.bx 30 [.z p.node, .u p.inc]]) tk tq hK [(1, [(1, .z (((b.length : Nat) : Int)))])] 2000 [0] [3, 7, 8, 9] r (by kernel_rfl) (an ((by simp) : (((adverts b).length : Nat) : Int) = ((b.length : Nat) : Int)) trivial) fun ac wd r => ?_
 refine Goes.rounds (Φ := fun (i : Nat) ac wd => (i ≤ b.length ∧ ∀ j x, j < i → b[j]? = some x → x.server ≠ p) ∧ RE' [] w0 K 20 [(3, .pt 0 0), (7, .d (.ro 4 (adverts b))), (8, .n b.length), (9, .n i)] [.bx 30 [.z p.node, .u p.inc]] ac wd) (b.length) ?_ (Nat.zero_le _) ⟨⟨by omega, by omega⟩, r⟩
 clear r
 rintro i hi0 again0 ac wd ⟨hv0, r⟩
 obtain ⟨hi1, hv0⟩ := hv0
 cases h0 : (decide ((((i : Nat) : Int) : Int) < ((b.length : Nat) : Int))) with
 | false =>
  have qh0 := of_decide_eq_false h0
  refine Goes.le (x := .v (.slice none 0 0)) (by rw [peersOf_none (fun j x hj hx => hv0 j x (by omega) hx)]; exact Le.nilRo 2) ?_
  exact toRet tk tq hK rfl [(2, [(0, .b false)])] 2000 r (by kernel_rfl) (an h0 trivial)
 | true =>
  have qh0 := of_decide_eq_true h0
  obtain ⟨e_b_i, ge_b_i⟩ : ∃ x, b[i]? = some x := ⟨_, List.getElem?_eq_getElem (by omega)⟩
  cases h1 : (decide (e_b_i.server = p)) with
  | false =>
   have qh1 := of_decide_eq_false h1
   exact toHead (todo' := hd Try.f58 0) tk tq hK [(2, [(0, .b true)]), (3, [(0, .ix (i) [.z e_b_i.server.node, .u e_b_i.server.inc, .u e_b_i.seq, .ro 2 (procs e_b_i.peers)])]), (4, [(3, .b false)]), (6, [(0, .z (((i + 1 : Nat) : Int)))])] 2000 [0] [3, 7, 8, 9] r (by kernel_rfl) (an h0 (an (rfI ((i : Nat) : Int)) (an (adverts_at ge_b_i) (an ((eqT (eqProcD _ _) h1) : EqAgg Try.prog 30 [(.int .i64 (e_b_i.server.node)), (.int .u64 (((e_b_i.server.inc : Nat) : Int)))] [(.int .i64 (p.node)), (.int .u64 (((p.inc : Nat) : Int)))] false) (an ((wi (by omega)) : IntKind.i64.wrap ((((i : Nat) : Int) : Int) + 1) = ((i + 1 : Nat) : Int)) trivial))))) fun ac wd r => again0 (by omega) ac wd ⟨⟨by omega, fun j x hj hx => by rcases Nat.lt_succ_iff_lt_or_eq.1 hj with h | rfl; exact hv0 j x h hx; rw [ge_b_i] at hx; cases hx; exact of_decide_eq_false (by assumption)⟩, r⟩
  | true =>
   have qh1 := of_decide_eq_true h1
   have hsp : e_b_i.server = p := of_decide_eq_true (by assumption)
   rw [show (.ro 2 (procs (peersOf b p)) : DV) = .ro 2 (procs e_b_i.peers) from (by rw [peersOf_at ge_b_i (by assumption) hv0])]
   exact toRet tk tq hK rfl [(2, [(0, .b true)]), (3, [(0, .ix (i) [.z e_b_i.server.node, .u e_b_i.server.inc, .u e_b_i.seq, .ro 2 (procs e_b_i.peers)])]), (4, [(3, .b true)])] 2000 r (by kernel_rfl) (an h0 (an (rfI ((i : Nat) : Int)) (an (adverts_at ge_b_i) (an ((eqT (eqProcD _ _) h1) : EqAgg Try.prog 30 [(.int .i64 (e_b_i.server.node)), (.int .u64 (((e_b_i.server.inc : Nat) : Int)))] [(.int .i64 (p.node)), (.int .u64 (((p.inc : Nat) : Int)))] true) trivial))))
end Go.Proofs.Ytikmdkicccfjpaa
namespace Go.Proofs.Ytikmdkicccfjpaa
open Go.RowKit
open Go.Maps Go.WideMaps
def Proc.okP (p : Proc) : Prop := (-9223372036854775808 ≤ p.node ∧ p.node ≤ 9223372036854775807) ∧ p.inc ≤ 18446744073709551615
theorem srv_okP {p : Proc} (h : p.srv = true) : p.okP := by have := Proc.srv_iff.1 h; unfold Proc.okP; omega
abbrev pk (p : Proc) : MK := .a [(.i64, p.node), (.u64, (p.inc : Int))]
theorem pk_inj {p q : Proc} (h : pk p = pk q) : p = q := by
 simp only [pk, MK.a.injEq, List.cons.injEq, Prod.mk.injEq, true_and, and_true] at h
 cases p; cases q; simp only [Proc.mk.injEq]; dsimp only at h; omega
theorem Try.laidOut : laidOutB Try.prog = true := by kernel_rfl
theorem Try.rowP : (30 : TypeId) < Try.prog.types.size := of_decide_eq_true (by kernel_rfl)
theorem Try.wideP : (match Try.prog.underlying 30 with | some (.array _ _) | some (.struct _) => true | _ => false) = true := by kernel_rfl
set_option maxRecDepth 100000 in
theorem Try.lawP : Keyed Try.prog 30 := Keyed.of_law (deep_law_laid Try.laidOut (m := 2) (by omega) Try.rowP (by kernel_rfl) Try.wideP)
theorem wf64 {x : Int} (h : -9223372036854775808 ≤ x ∧ x ≤ 9223372036854775807) : (Lit.int .i64 x).wf = true := by
 have e1 : IntKind.i64.min = -9223372036854775808 := by decide
 have e2 : IntKind.i64.max = 9223372036854775807 := by decide
 simp only [Lit.wf, e1, e2, Bool.and_eq_true, decide_eq_true_eq]; exact h
theorem wfu64 {x : Nat} (h : x ≤ 18446744073709551615) : (Lit.int .u64 (x : Int)).wf = true := by
 have e1 : IntKind.u64.min = 0 := by decide
 have e2 : IntKind.u64.max = 18446744073709551615 := by decide
 simp only [Lit.wf, e1, e2, Bool.and_eq_true, decide_eq_true_eq]; omega
theorem good_two {P : Program} {K : TypeId} {f0 f1 : Field} {a b : Int} {ka kb : IntKind} (hk : P.keyType K = true) (hu : P.underlying K = some (.struct #[f0, f1])) (ha : P.underlying f0.type = some (.int ka)) (hb : P.underlying f1.type = some (.int kb)) (hn : (f0.name != "_" && f1.name != "_") = true) (h0 : f0.offset = 0) (h1 : f1.offset = 1)
  (hc : P.cellsOf K = 2) (hca : P.cellsOf f0.type = 1) (hcb : P.cellsOf f1.type = 1) (hs : 0 < P.types.size) (g1 : (Lit.int ka a).wf = true) (g2 : (Lit.int kb b).wf = true) : ∃ l, keyOf P K (.agg #[.int ka a, .int kb b]) = some l := by
 obtain ⟨d, hd⟩ : ∃ d, P.types.size = d + 1 := ⟨P.types.size - 1, by omega⟩
 simp only [Bool.and_eq_true] at hn
 unfold keyOf
 rw [hd]
 simp [hk, hu, ha, hb, h0, h1, hn.1, hn.2, Value.formed, hc, Value.cells, Program.keyLits, hca, hcb, g1, g2]
theorem good_pk {p : Proc} (h : p.okP) : ∃ l, keyOf Try.prog 30 (pk p).val = some l :=
 good_two (f0 := ⟨"Node", 3, 0, false, "", "", 0⟩) (f1 := ⟨"Inc", 28, 1, false, "", "", 8⟩) (by kernel_rfl) (by kernel_rfl) (by kernel_rfl) (by kernel_rfl) (by kernel_rfl) rfl rfl (by kernel_rfl) (by kernel_rfl) (by kernel_rfl) (of_decide_eq_true (by kernel_rfl)) (wf64 h.1) (wfu64 h.2)
def ents (ps : List (Proc × Nat)) : List (Nat × MK × DV) := ps.zipIdx.map fun x => (x.2, pk x.1.1, .n x.1.2)
theorem ents_at {ps : List (Proc × Nat)} {j : Nat} {q : Proc} {d : Nat} (h : ps[j]? = some (q, d)) : (ents ps)[j]? = some (j, pk q, .n d) := by simp [ents, List.getElem?_zipIdx, h]
theorem ents_get {ps : List (Proc × Nat)} {j b : Nat} {k : MK} {x : DV} (h : (ents ps)[j]? = some (b, k, x)) : ∃ q d, ps[j]? = some (q, d) ∧ b = j ∧ k = pk q ∧ x = .n d := by
 simp only [ents, List.getElem?_map, List.getElem?_zipIdx, Option.map_map, Option.map_eq_some_iff] at h
 obtain ⟨⟨q, d⟩, h1, h2⟩ := h
 simp only [Function.comp, Nat.zero_add, Prod.mk.injEq] at h2
 exact ⟨q, d, h1, h2.1.symm, h2.2.1.symm, h2.2.2.symm⟩
theorem ents_mem {ps : List (Proc × Nat)} {e : Nat × MK × DV} (h : e ∈ ents ps) : ∃ q d, ps[e.1]? = some (q, d) ∧ e.2.1 = pk q ∧ e.2.2 = .n d := by
 obtain ⟨j, hj, rfl⟩ := List.getElem_of_mem h
 have e1 : (ents ps)[j]? = some ((ents ps)[j].1, (ents ps)[j].2.1, (ents ps)[j].2.2) := List.getElem?_eq_getElem hj
 obtain ⟨q, d, h1, h2, h3, h4⟩ := ents_get e1
 exact ⟨q, d, by rw [h2]; exact h1, h3, h4⟩
theorem ents_app (ps : List (Proc × Nat)) (q : Proc) (d : Nat) : ents ps ++ [(ps.length, pk q, .n d)] = ents (ps ++ [(q, d)]) := by simp [ents, List.zipIdx_append]
theorem ents_keys (ps : List (Proc × Nat)) : List.map (fun (e : Nat × MK × DV) => e.2.1) (ents ps) = ps.map fun x => pk x.1 := by
 apply List.ext_getElem?; intro j
 simp only [ents, List.map_map, List.getElem?_map, List.getElem?_zipIdx]
 cases ps[j]? <;> rfl
theorem ents_born (ps : List (Proc × Nat)) : List.map (fun (e : Nat × MK × DV) => e.1) (ents ps) = List.range ps.length := by
 apply List.ext_getElem?; intro j
 simp only [ents, List.map_map, List.getElem?_map, List.getElem?_zipIdx]
 rcases Nat.lt_or_ge j ps.length with h | h
 ·rw [List.getElem?_eq_getElem h, List.getElem?_range h]; simp
 ·rw [List.getElem?_eq_none h, List.getElem?_eq_none (by simpa using h)]; rfl
theorem ents_lt {ps : List (Proc × Nat)} : ∀ e ∈ ents ps, e.1 < ps.length := fun e he => by
 obtain ⟨q, d, h, -⟩ := ents_mem he; exact (List.getElem?_eq_some_iff.1 h).1
def hasK (ps : List (Proc × Nat)) (q : Proc) : Bool := decide (q ∈ ps.map Prod.fst)
theorem ents_ok {ps : List (Proc × Nat)} {q : Proc} (h : ∀ x ∈ ps, x.1.okP) (hq : q.okP) : KeysOk Try.prog 30 (pk q :: List.map (fun (e : Nat × MK × DV) => e.2.1) (ents ps)) := by
 refine ⟨Try.lawP, fun k hk => ?_⟩
 rw [ents_keys] at hk
 rcases List.mem_cons.1 hk with rfl | hk
 ·exact good_pk hq
 ·obtain ⟨x, hx, rfl⟩ := List.mem_map.1 hk
  exact good_pk (h x hx)
theorem ents_fresh {ps : List (Proc × Nat)} {q : Proc} (h : hasK ps q = false) : ∀ e ∈ ents ps, e.2.1 ≠ pk q := fun e he hk => by
 obtain ⟨q', d, h1, h2, -⟩ := ents_mem he
 rw [h2] at hk
 obtain rfl := pk_inj hk
 exact of_decide_eq_false h (List.mem_map.2 ⟨_, List.mem_of_getElem? h1, rfl⟩)
theorem ents_has {ps : List (Proc × Nat)} {q : Proc} (h : hasK ps q = true) : ∃ (j d : Nat), ps[j]? = some (q, d) := by
 obtain ⟨⟨q', d⟩, hx, rfl⟩ := List.mem_map.1 (of_decide_eq_true h)
 obtain ⟨j, hj, e⟩ := List.getElem_of_mem hx
 exact ⟨j, d, by rw [List.getElem?_eq_getElem hj, e]⟩
theorem ents_nodup {ps : List (Proc × Nat)} (h : (ps.map Prod.fst).Nodup) : (List.map (fun (e : Nat × MK × DV) => e.2.1) (ents ps)).Nodup := by
 rw [ents_keys]
 unfold List.Nodup at *
 rw [List.pairwise_map] at *
 exact h.imp fun hab e => hab (pk_inj e)
theorem zeroInt : ZeroIs Try.prog 3 (.int .i64 0) := fun w => by
 have h : (Try.prog.info? 3).bind (fun i => i.zero) = some (.int .i64 0) := by kernel_rfl
 cases hi : Try.prog.info? 3 with
 | none => rw [hi] at h; cases h
 | some i => rw [hi] at h; simp [zeroValue, typeInfo, Sem.run_bind, hi, (show i.zero = some _ from h)]
def addA (ps : List (Proc × Nat)) (d : Nat) : List Proc → List (Proc × Nat)
 | [] => ps
 | q :: r => addA (if hasK ps q = true then ps else ps ++ [(q, d)]) d r
theorem addA_app (d : Nat) (q : Proc) : ∀ (l : List Proc) (ps : List (Proc × Nat)), addA ps d (l ++ [q]) = if hasK (addA ps d l) q = true then addA ps d l else addA ps d l ++ [(q, d)]
 | [], ps => rfl
 | x :: l, ps => by rw [List.cons_append, addA, addA_app d q l, addA]
theorem addA_nodup {d : Nat} : ∀ {l : List Proc} {ps : List (Proc × Nat)}, (ps.map Prod.fst).Nodup → ((addA ps d l).map Prod.fst).Nodup
 | [], _, h => h
 | q :: r, ps, h => by
  rw [addA]; refine addA_nodup ?_
  split
  ·exact h
  ·rename_i hq
   rw [List.map_append, List.nodup_append]
   refine ⟨h, by simp, fun a ha b hb e => ?_⟩
   simp at hb; subst hb e
   exact hq (decide_eq_true ha)
theorem addA_mem {d : Nat} {x : Proc × Nat} : ∀ {l : List Proc} {ps : List (Proc × Nat)}, x ∈ addA ps d l ↔ x ∈ ps ∨ (x.2 = d ∧ x.1 ∈ l ∧ hasK ps x.1 = false)
 | [], ps => by simp [addA]
 | q :: r, ps => by
  rw [addA, addA_mem (l := r)]
  by_cases hq : hasK ps q = true
  ·rw [if_pos hq]
   constructor
   ·rintro (h | ⟨h1, h2, h3⟩)
    ·exact Or.inl h
    ·exact Or.inr ⟨h1, List.mem_cons_of_mem _ h2, h3⟩
   ·rintro (h | ⟨h1, h2, h3⟩)
    ·exact Or.inl h
    ·rcases List.mem_cons.1 h2 with e | h2
     ·rw [e] at h3; rw [h3] at hq; cases hq
     ·exact Or.inr ⟨h1, h2, h3⟩
  ·rw [if_neg hq]
   have hk : ∀ y, hasK (ps ++ [(q, d)]) y = (hasK ps y || decide (y = q)) := fun y => by
    unfold hasK; rw [List.map_append, Bool.eq_iff_iff]; simp
   rw [hk, List.mem_append, List.mem_singleton]
   constructor
   ·rintro ((h | h) | ⟨h1, h2, h3⟩)
    ·exact Or.inl h
    ·subst h; exact Or.inr ⟨rfl, List.mem_cons_self, by simpa using hq⟩
    ·rw [Bool.or_eq_false_iff] at h3
     exact Or.inr ⟨h1, List.mem_cons_of_mem _ h2, h3.1⟩
   ·rintro (h | ⟨h1, h2, h3⟩)
    ·exact Or.inl (Or.inl h)
    ·rcases List.mem_cons.1 h2 with e | h2
     ·refine Or.inl (Or.inr ?_); cases x; simp_all
     ·by_cases e : x.1 = q
      ·refine Or.inl (Or.inr ?_); cases x; simp_all
      ·exact Or.inr ⟨h1, h2, by rw [h3]; simp [e]⟩
end Go.Proofs.Ytikmdkicccfjpaa
namespace Go.Proofs.Ytikmdkicccfjpaa
open Go.RowKit
def jnTo (b : List Advert) (p : Proc) (i : Nat) : List Proc := ((peersOf b p).take i).filter fun q => decide (p ∈ peersOf b q)
def jn (b : List Advert) (p : Proc) : List Proc := (peersOf b p).filter fun q => decide (p ∈ peersOf b q)
theorem jnTo_all {b : List Advert} {p : Proc} {i : Nat} (h : (peersOf b p).length ≤ i) : jnTo b p i = jn b p := by rw [jnTo, List.take_of_length_le h]; rfl
theorem jnTo_yes {b : List Advert} {p q : Proc} {i : Nat} (h : (peersOf b p)[i]? = some q) (hq : decide (p ∈ peersOf b q) = true) : jnTo b p (i + 1) = jnTo b p i ++ [q] := by
 obtain ⟨hi, rfl⟩ := List.getElem?_eq_some_iff.1 h
 rw [jnTo, List.take_succ_eq_append_getElem hi, List.filter_append, List.filter_cons, if_pos hq]; rfl
theorem jnTo_no {b : List Advert} {p q : Proc} {i : Nat} (h : (peersOf b p)[i]? = some q) (hq : decide (p ∈ peersOf b q) = false) : jnTo b p (i + 1) = jnTo b p i := by
 obtain ⟨hi, rfl⟩ := List.getElem?_eq_some_iff.1 h
 rw [jnTo, List.take_succ_eq_append_getElem hi, List.filter_append, List.filter_cons, if_neg (by rw [hq]; decide), List.filter_nil, List.append_nil]; rfl
structure Book (b : List Advert) : Prop where
 may : ∀ a ∈ b, a.may = true
 up : b.Pairwise fun x y => x.server.node < y.server.node
theorem peersOf_mem {b : List Advert} {p q : Proc} (h : q ∈ peersOf b p) : ∃ a ∈ b, a.server = p ∧ q ∈ a.peers := by
 unfold peersOf at h
 split at h
 ·rename_i a ha
  exact ⟨a, List.mem_of_find?_eq_some ha, by simpa using List.find?_some ha, h⟩
 ·cases h
theorem Book.peer {b : List Advert} (g : Book b) {p q : Proc} (h : q ∈ peersOf b p) : q.srv = true := by
 obtain ⟨a, ha, -, hq⟩ := peersOf_mem h
 exact List.all_eq_true.1 (Advert.may_iff.1 (g.may a ha)).2.2.2.1 q hq
theorem Book.few {b : List Advert} (g : Book b) (p : Proc) : (peersOf b p).length ≤ 3 := by
 unfold peersOf
 split
 ·rename_i a ha; exact Advert.few (g.may a (List.mem_of_find?_eq_some ha))
 ·simp
theorem Book.len {b : List Advert} (g : Book b) : b.length ≤ 4 := by
 have h1 : lone (b.map Advert.server) = true := (lone_iff _).2 fun a c p q ha hc hp hq e => by
  rw [List.getElem?_map, Option.map_eq_some_iff] at hp hq
  obtain ⟨x, hx, rfl⟩ := hp
  obtain ⟨y, hy, rfl⟩ := hq
  obtain ⟨hx1, rfl⟩ := List.getElem?_eq_some_iff.1 hx
  obtain ⟨hy1, rfl⟩ := List.getElem?_eq_some_iff.1 hy
  have := List.pairwise_iff_getElem.1 g.up c a hy1 hx1 hc
  omega
 have h2 : (b.map Advert.server).all Proc.srv = true := by
  rw [List.all_eq_true]; intro p hp
  obtain ⟨a, ha, rfl⟩ := List.mem_map.1 hp
  exact (Advert.may_iff.1 (g.may a ha)).1
 have := lone_four h1 h2
 simpa using this
structure Keys (ps : List (Proc × Nat)) : Prop where
 ok : ∀ x ∈ ps, x.1.okP
 one : (ps.map Prod.fst).Nodup
theorem Keys.add {ps : List (Proc × Nat)} {d : Nat} {l : List Proc} (k : Keys ps) (h : ∀ q ∈ l, q.okP) : Keys (addA ps d l) :=
 ⟨fun x hx => by
  rcases addA_mem.1 hx with hx | ⟨-, hx, -⟩
  ·exact k.ok x hx
  ·exact h _ hx, addA_nodup k.one⟩
theorem jnTo_ok {b : List Advert} (g : Book b) {p : Proc} {i : Nat} : ∀ q ∈ jnTo b p i, q.okP := fun q hq => srv_okP (g.peer (List.mem_of_mem_take (List.mem_filter.1 hq).1))
set_option maxRecDepth 100000 in
theorem farRound (b : List Advert) (p : Proc) (ps : List (Proc × Nat)) (s : Nat) (g : Book b) (kk : Keys ps) (hs : s < 1000000) : ConM Try.prog 57 [.yl 5, .pt 0 0, .pt 1 0] [.bx 22 [.d (.ro 4 (adverts b))], .bx 30 [.z p.node, .u p.inc], .mp 57 (ps.length) (ents ps), .bx 57 [.mv 2], .bx 3 [.n s], .lp .ready 38 62 [(5, .pt 3 0), (6, .pt 4 0)] (rfn Try.f38 0)] (.tu []) ([.bx 22 [.d (.ro 4 (adverts b))], .bx 30 [.z p.node, .u p.inc], .mp 57 ((addA ps (s + 1) (jn b p)).length) (ents (addA ps (s + 1) (jn b p))), .bx 57 [.mv 2], .bx 3 [.n s], .lp .ready 38 62 [(5, .pt 3 0), (6, .pt 4 0)] (rfn Try.f38 0)]) := by
 have hbl := g.len
 have hpl := g.few p
 refine ConM.intro (by kernel_rfl) rfl rfl 26 rfl rfl fun D w0 K bs ac wd hK (hbm : bs.m = 6) r => ?_
 refine toHeadM (todo' := hd Try.f57 0) (E' := [(0, .yl 5), (1, .pt 0 0), (2, .pt 1 0), (8, .d (.ro 2 (procs (peersOf b p)))), (9, .n ((peersOf b p).length)), (10, .z 0)]) (M' := [.bx 22 [.d (.ro 4 (adverts b))], .bx 30 [.z p.node, .u p.inc], .mp 57 (ps.length) (ents ps), .bx 57 [.mv 2], .bx 3 [.n s], .lp .ready 38 62 [(5, .pt 3 0), (6, .pt 4 0)] (rfn Try.f38 0)]) tk tq hK hbm [(0, [(2, .con (.ro 2 (procs (peersOf b p)))), (3, .z ((((peersOf b p).length : Nat) : Int)))])] 2000 [0, 1, 2, 3, 4, 5] [0, 1, 2, 8, 9, 10] r (by kernel_rfl) (an (peersOk b p (by omega)) (an ((by simp) : (((procs (peersOf b p)).length : Nat) : Int) = (((peersOf b p).length : Nat) : Int)) trivial)) fun ac wd r => ?_
 refine Goes.rounds (Φ := fun (i : Nat) ac wd => (i ≤ (peersOf b p).length) ∧ RB D w0 K 26 bs [(0, .yl 5), (1, .pt 0 0), (2, .pt 1 0), (8, .d (.ro 2 (procs (peersOf b p)))), (9, .n ((peersOf b p).length)), (10, .n i)] [.bx 22 [.d (.ro 4 (adverts b))], .bx 30 [.z p.node, .u p.inc], .mp 57 ((addA ps (s + 1) (jnTo b p i)).length) (ents (addA ps (s + 1) (jnTo b p i))), .bx 57 [.mv 2], .bx 3 [.n s], .lp .ready 38 62 [(5, .pt 3 0), (6, .pt 4 0)] (rfn Try.f38 0)] ac wd) ((peersOf b p).length) ?_ (Nat.zero_le _) ⟨(Nat.zero_le _), (r).cast rfl rfl⟩
 clear r
 rintro i hi0 again0 ac wd ⟨hv0, r⟩
 cases h0 : (decide ((((i : Nat) : Int) : Int) < (((peersOf b p).length : Nat) : Int))) with
 | false =>
  have qh0 := of_decide_eq_false h0
  refine castM (y := .tu []) (N' := [.bx 22 [.d (.ro 4 (adverts b))], .bx 30 [.z p.node, .u p.inc], .mp 57 ((addA ps (s + 1) (jnTo b p i)).length) (ents (addA ps (s + 1) (jnTo b p i))), .bx 57 [.mv 2], .bx 3 [.n s], .lp .ready 38 62 [(5, .pt 3 0), (6, .pt 4 0)] (rfn Try.f38 0)]) (rfl) ((by rw [jnTo_all (by omega)])) ?_
  exact toRetM tk tq hK rfl hbm [(1, [(0, .b false)])] 2000 [0, 1, 2, 3, 4, 5] r (by kernel_rfl) (an h0 trivial)
 | true =>
  have qh0 := of_decide_eq_true h0
  obtain ⟨q, gq⟩ : ∃ x, (peersOf b p)[i]? = some x := ⟨_, List.getElem?_eq_getElem (by omega)⟩
  cases h1 : (decide (p ∈ peersOf b q)) with
  | false =>
   have qh1 := of_decide_eq_false h1
   exact toHeadM (todo' := hd Try.f57 0) (E' := [(0, .yl 5), (1, .pt 0 0), (2, .pt 1 0), (8, .d (.ro 2 (procs (peersOf b p)))), (9, .n ((peersOf b p).length)), (10, .n (i + 1))]) (M' := [.bx 22 [.d (.ro 4 (adverts b))], .bx 30 [.z p.node, .u p.inc], .mp 57 ((addA ps (s + 1) (jnTo b p i)).length) (ents (addA ps (s + 1) (jnTo b p i))), .bx 57 [.mv 2], .bx 3 [.n s], .lp .ready 38 62 [(5, .pt 3 0), (6, .pt 4 0)] (rfn Try.f38 0)]) tk tq hK hbm [(1, [(0, .b true)]), (2, [(0, .ix (i) [.z q.node, .u q.inc])]), (3, [(2, .con (.ro 2 (procs (peersOf b q)))), (4, .con (.v (.bool false)))]), (4, [(0, .z (((i + 1 : Nat) : Int)))])] 2000 [0, 1, 2, 3, 4, 5] [0, 1, 2, 8, 9, 10] r (by kernel_rfl) (an h0 (an (rfI ((i : Nat) : Int)) (an (procs_at gq) (an (peersOk b q (by omega)) (an ((by have k := procHas (peersOf b q) p (by have := g.few q; omega); rw [h1] at k; exact k) : Con Try.prog 59 [.d (.ro 2 (procs (peersOf b q))), .ag [.z p.node, .u p.inc]] (.v (.bool false))) (an ((wi (by omega)) : IntKind.i64.wrap ((((i : Nat) : Int) : Int) + 1) = ((i + 1 : Nat) : Int)) trivial)))))) fun ac wd r => again0 (by omega) ac wd ⟨(by omega), r.cast rfl (by first | (rw [jnTo_no gq (by assumption)]; done) | (rw [jnTo_yes gq (by assumption), addA_app, if_pos (by assumption)]; done) | (rw [jnTo_yes gq (by assumption), addA_app, if_neg (by simp [*]), ← ents_app, List.length_append]; rfl))⟩
  | true =>
   have qh1 := of_decide_eq_true h1
   have u0 := ((by have k := procHas (peersOf b q) p (by have := g.few q; omega); rw [h1] at k; exact k) : Con Try.prog 59 [.d (.ro 2 (procs (peersOf b q))), .ag [.z p.node, .u p.inc]] (.v (.bool true)))
   cases h2 : (hasK (addA ps (s + 1) (jnTo b p i)) q) with
   | false =>
    exact toHeadM (todo' := hd Try.f57 0) (E' := [(0, .yl 5), (1, .pt 0 0), (2, .pt 1 0), (8, .d (.ro 2 (procs (peersOf b p)))), (9, .n ((peersOf b p).length)), (10, .n (i + 1))]) (M' := [.bx 22 [.d (.ro 4 (adverts b))], .bx 30 [.z p.node, .u p.inc], .mp 57 ((addA ps (s + 1) (jnTo b p i)).length + 1) (ents (addA ps (s + 1) (jnTo b p i)) ++ [((addA ps (s + 1) (jnTo b p i)).length, .a [(.i64, (q.node : Int)), (.u64, (((q.inc : Nat) : Int) : Int))], .n (s + 1))]), .bx 57 [.mv 2], .bx 3 [.n s], .lp .ready 38 62 [(5, .pt 3 0), (6, .pt 4 0)] (rfn Try.f38 0)]) tk tq hK hbm [(1, [(0, .b true)]), (2, [(0, .ix (i) [.z q.node, .u q.inc])]), (3, [(2, .con (.ro 2 (procs (peersOf b q)))), (4, .con (.v (.bool true))), (8, .into 200 [(17, [(2, .b false)]), (19, [(3, .z (((s + 1 : Nat) : Int))), (4, .b false)])])]), (4, [(0, .z (((i + 1 : Nat) : Int)))])] 2000 [0, 1, 2, 3, 4, 5] [0, 1, 2, 8, 9, 10] r (by kernel_rfl) (an h0 (an (rfI ((i : Nat) : Int)) (an (procs_at gq) (an (peersOk b q (by omega)) (an u0 (an ((ents_ok (kk.add (jnTo_ok g)).ok (srv_okP (g.peer (List.mem_of_getElem? gq)))) : KeysOk Try.prog 30 ((.a [(.i64, (q.node : Int)), (.u64, (((q.inc : Nat) : Int) : Int))]) :: List.map (fun (e : Nat × MK × DV) => e.2.1) (ents (addA ps (s + 1) (jnTo b p i))))) (an (zeroInt : ZeroIs Try.prog 3 (.int .i64 0)) (an ((ents_fresh (by assumption)) : ∀ zz ∈ (ents (addA ps (s + 1) (jnTo b p i)) : List (Nat × MK × DV)), zz.2.1 ≠ .a [(.i64, (q.node : Int)), (.u64, (((q.inc : Nat) : Int) : Int))]) (an ((wi (by omega)) : IntKind.i64.wrap ((((s : Nat) : Int) : Int) + 1) = ((s + 1 : Nat) : Int)) (an ((ents_ok (kk.add (jnTo_ok g)).ok (srv_okP (g.peer (List.mem_of_getElem? gq)))) : KeysOk Try.prog 30 ((.a [(.i64, (q.node : Int)), (.u64, (((q.inc : Nat) : Int) : Int))]) :: List.map (fun (e : Nat × MK × DV) => e.2.1) (ents (addA ps (s + 1) (jnTo b p i))))) (an ((ents_fresh (by assumption)) : ∀ zz ∈ (ents (addA ps (s + 1) (jnTo b p i)) : List (Nat × MK × DV)), zz.2.1 ≠ .a [(.i64, (q.node : Int)), (.u64, (((q.inc : Nat) : Int) : Int))]) (an ((wi (by omega)) : IntKind.i64.wrap ((((i : Nat) : Int) : Int) + 1) = ((i + 1 : Nat) : Int)) trivial)))))))))))) fun ac wd r => again0 (by omega) ac wd ⟨(by omega), r.cast rfl (by first | (rw [jnTo_no gq (by assumption)]; done) | (rw [jnTo_yes gq (by assumption), addA_app, if_pos (by assumption)]; done) | (rw [jnTo_yes gq (by assumption), addA_app, if_neg (by simp [*]), ← ents_app, List.length_append]; rfl))⟩
   | true =>
    obtain ⟨jk, dk, hjk⟩ := ents_has (by assumption)
    exact toHeadM (todo' := hd Try.f57 0) (E' := [(0, .yl 5), (1, .pt 0 0), (2, .pt 1 0), (8, .d (.ro 2 (procs (peersOf b p)))), (9, .n ((peersOf b p).length)), (10, .n (i + 1))]) (M' := [.bx 22 [.d (.ro 4 (adverts b))], .bx 30 [.z p.node, .u p.inc], .mp 57 ((addA ps (s + 1) (jnTo b p i)).length) (ents (addA ps (s + 1) (jnTo b p i))), .bx 57 [.mv 2], .bx 3 [.n s], .lp .ready 38 62 [(5, .pt 3 0), (6, .pt 4 0)] (rfn Try.f38 0)]) tk tq hK hbm [(1, [(0, .b true)]), (2, [(0, .ix (i) [.z q.node, .u q.inc])]), (3, [(2, .con (.ro 2 (procs (peersOf b q)))), (4, .con (.v (.bool true))), (8, .into 200 [(17, [(2, .mk (jk) (.a [(.i64, (q.node : Int)), (.u64, (((q.inc : Nat) : Int) : Int))]) (.n dk))])])]), (4, [(0, .z (((i + 1 : Nat) : Int)))])] 2000 [0, 1, 2, 3, 4, 5] [0, 1, 2, 8, 9, 10] r (by kernel_rfl) (an h0 (an (rfI ((i : Nat) : Int)) (an (procs_at gq) (an (peersOk b q (by omega)) (an u0 (an ((ents_ok (kk.add (jnTo_ok g)).ok (srv_okP (g.peer (List.mem_of_getElem? gq)))) : KeysOk Try.prog 30 ((.a [(.i64, (q.node : Int)), (.u64, (((q.inc : Nat) : Int) : Int))]) :: List.map (fun (e : Nat × MK × DV) => e.2.1) (ents (addA ps (s + 1) (jnTo b p i))))) (an (rfl : (.a [(.i64, (q.node : Int)), (.u64, (((q.inc : Nat) : Int) : Int))] : MK) = .a [(.i64, (q.node : Int)), (.u64, (((q.inc : Nat) : Int) : Int))]) (an ((ents_nodup (kk.add (jnTo_ok g)).one) : (List.map (fun (e : Nat × MK × DV) => e.2.1) (ents (addA ps (s + 1) (jnTo b p i)))).Nodup) (an (⟨_, ents_at hjk⟩ : ∃ b0, (ents (addA ps (s + 1) (jnTo b p i)) : List (Nat × MK × DV))[jk]? = some (b0, .a [(.i64, (q.node : Int)), (.u64, (((q.inc : Nat) : Int) : Int))], .n dk)) (an ((wi (by omega)) : IntKind.i64.wrap ((((i : Nat) : Int) : Int) + 1) = ((i + 1 : Nat) : Int)) trivial)))))))))) fun ac wd r => again0 (by omega) ac wd ⟨(by omega), r.cast rfl (by first | (rw [jnTo_no gq (by assumption)]; done) | (rw [jnTo_yes gq (by assumption), addA_app, if_pos (by assumption)]; done) | (rw [jnTo_yes gq (by assumption), addA_app, if_neg (by simp [*]), ← ents_app, List.length_append]; rfl))⟩
end Go.Proofs.Ytikmdkicccfjpaa
namespace Go.Proofs.Ytikmdkicccfjpaa
open Go.RowKit
def Can (b : List Advert) (p : Proc) : Nat → Proc → Prop
 | 0, q => q = p
 | n + 1, q => Can b p n q ∨ ∃ r, Can b p n r ∧ q ∈ jn b r
def Lev (b : List Advert) (p : Proc) (d : Nat) (q : Proc) : Prop := Can b p d q ∧ ∀ k, k < d → ¬ Can b p k q
theorem Can.mono {b : List Advert} {p q : Proc} {n m : Nat} (h : Can b p n q) (hm : n ≤ m) : Can b p m q := by
 induction hm with
 | refl => exact h
 | step _ ih => exact Or.inl ih
theorem Lev.one {b : List Advert} {p q : Proc} {d e : Nat} (h : Lev b p d q) (k : Lev b p e q) : d = e := by
 rcases Nat.lt_trichotomy d e with h1 | h1 | h1
 ·exact absurd h.1 (k.2 d h1)
 ·exact h1
 ·exact absurd k.1 (h.2 e h1)
theorem Can.lev {b : List Advert} {p q : Proc} : ∀ {n : Nat}, Can b p n q → ∃ d, d ≤ n ∧ Lev b p d q
 | 0, h => ⟨0, Nat.le_refl _, h, fun k hk => by omega⟩
 | n + 1, h => by
  by_cases hn : Can b p n q
  ·obtain ⟨d, h1, h2⟩ := Can.lev hn
   exact ⟨d, by omega, h2⟩
  ·exact ⟨n + 1, Nat.le_refl _, h, fun k hk hc => hn (hc.mono (by omega))⟩
theorem Lev.prev {b : List Advert} {p q : Proc} {d : Nat} (h : Lev b p (d + 1) q) : ∃ r, Lev b p d r ∧ q ∈ jn b r := by
 obtain ⟨h1, h2⟩ := h
 rcases h1 with h1 | ⟨r, h1, h3⟩
 ·exact absurd h1 (h2 d (by omega))
 ·refine ⟨r, ⟨h1, fun k hk hc => ?_⟩, h3⟩
  exact h2 (k + 1) (by omega) (Or.inr ⟨r, hc, h3⟩)
theorem mem_jn {b : List Advert} {p q : Proc} : q ∈ jn b p ↔ q ∈ peersOf b p ∧ p ∈ peersOf b q := by simp [jn, List.mem_filter]
theorem jn_symm {b : List Advert} {p q : Proc} : q ∈ jn b p ↔ p ∈ jn b q := by rw [mem_jn, mem_jn, and_comm]
theorem jn_server {b : List Advert} {p q : Proc} (h : q ∈ jn b p) : ∃ a ∈ b, a.server = q := by
 obtain ⟨a, h1, h2, -⟩ := peersOf_mem (mem_jn.1 h).2
 exact ⟨a, h1, h2⟩
theorem cnt_lt {α : Type} {f g : α → Bool} : ∀ {l : List α}, (∀ x ∈ l, f x = true → g x = true) → (∃ x ∈ l, g x = true ∧ f x = false) → l.countP f < l.countP g
 | [], _, ⟨x, hx, _⟩ => by cases hx
 | y :: l, h, ⟨x, hx, h1, h2⟩ => by
  have hle : l.countP f ≤ l.countP g := List.countP_mono_left fun z hz => h z (List.mem_cons_of_mem _ hz)
  rw [List.countP_cons, List.countP_cons]
  rcases List.mem_cons.1 hx with rfl | hx
  ·rw [h1, h2]; simp; omega
  ·have := cnt_lt (fun z hz => h z (List.mem_cons_of_mem _ hz)) ⟨x, hx, h1, h2⟩
   have hy := h y List.mem_cons_self
   cases hf : f y with
   | false => simp; split <;> omega
   | true => rw [hy hf]; simp; omega
open Classical in
theorem Lev.le {b : List Advert} {p : Proc} : ∀ {d : Nat} {q : Proc}, Lev b p d q → d ≤ b.countP fun a => decide (Can b p d a.server)
 | 0, _, _ => Nat.zero_le _
 | d + 1, q, h => by
  obtain ⟨r, hr, hq⟩ := h.prev
  have ih := Lev.le hr
  obtain ⟨a, ha, hs⟩ := jn_server hq
  have : (b.countP fun a => decide (Can b p d a.server)) < b.countP fun a => decide (Can b p (d + 1) a.server) :=
   cnt_lt (fun x _ hx => decide_eq_true (Or.inl (of_decide_eq_true hx))) ⟨a, ha, decide_eq_true (by rw [hs]; exact h.1), decide_eq_false (by rw [hs]; exact h.2 d (by omega))⟩
  omega
theorem Lev.four {b : List Advert} (g : Book b) {p q : Proc} {d : Nat} (h : Lev b p d q) : d ≤ 4 := by
 classical
 have h1 := h.le
 have h2 := List.countP_le_length (p := fun a : Advert => decide (Can b p d a.server)) (l := b)
 have h3 := g.len
 omega
structure Held (b : List Advert) (p : Proc) (s : Nat) (ps : List (Proc × Nat)) : Prop where
 keys : Keys ps
 all : ∀ q d, (q, d) ∈ ps ↔ d ≤ s ∧ Lev b p d q
theorem Held.start (b : List Advert) {p : Proc} (hp : p.okP) : Held b p 0 [(p, 0)] := by
 refine ⟨⟨fun x hx => by simp at hx; subst hx; exact hp, by simp⟩, fun q d => ?_⟩
 simp only [List.mem_singleton, Prod.mk.injEq]
 constructor
 ·rintro ⟨rfl, rfl⟩; exact ⟨Nat.le_refl _, rfl, fun k hk => by omega⟩
 ·rintro ⟨h1, h2⟩
  obtain rfl : d = 0 := by omega
  exact ⟨h2.1, rfl⟩
def addB (b : List Advert) (s : Nat) (ps : List (Proc × Nat)) (l : List Proc) : List (Proc × Nat) := l.foldl (fun ps q => addA ps (s + 1) (jn b q)) ps
theorem addB_succ {b : List Advert} {s : Nat} {ps : List (Proc × Nat)} {l : List Proc} {i : Nat} {q : Proc} (h : l[i]? = some q) : addB b s ps (l.take (i + 1)) = addA (addB b s ps (l.take i)) (s + 1) (jn b q) := by
 obtain ⟨hi, rfl⟩ := List.getElem?_eq_some_iff.1 h
 rw [addB, List.take_succ_eq_append_getElem hi, List.foldl_append]; rfl
theorem jn_ok {b : List Advert} (g : Book b) {p : Proc} : ∀ q ∈ jn b p, q.okP := fun q hq => srv_okP (g.peer (mem_jn.1 hq).1)
theorem addB_keys {b : List Advert} (g : Book b) {s : Nat} : ∀ {l : List Proc} {ps : List (Proc × Nat)}, Keys ps → Keys (addB b s ps l)
 | [], _, k => k
 | q :: l, ps, k => by rw [addB, List.foldl_cons]; exact addB_keys g (k.add (jn_ok g))
theorem hasK_mem {ps : List (Proc × Nat)} {q : Proc} : hasK ps q = true ↔ ∃ d, (q, d) ∈ ps := by
 unfold hasK; rw [decide_eq_true_iff, List.mem_map]
 constructor
 ·rintro ⟨⟨q', d⟩, h, rfl⟩; exact ⟨d, h⟩
 ·rintro ⟨d, h⟩; exact ⟨_, h, rfl⟩
theorem addB_mem {b : List Advert} {s : Nat} {x : Proc × Nat} : ∀ {l : List Proc} {ps : List (Proc × Nat)}, x ∈ addB b s ps l ↔ x ∈ ps ∨ (x.2 = s + 1 ∧ (∃ r ∈ l, x.1 ∈ jn b r) ∧ hasK ps x.1 = false)
 | [], ps => by simp [addB]
 | r :: l, ps => by
  rw [addB, List.foldl_cons]
  show x ∈ addB b s _ l ↔ _
  rw [addB_mem (l := l), addA_mem]
  have hk : hasK (addA ps (s + 1) (jn b r)) x.1 = true ↔ hasK ps x.1 = true ∨ x.1 ∈ jn b r := by
   rw [hasK_mem, hasK_mem]
   constructor
   ·rintro ⟨d, h⟩
    rcases addA_mem.1 h with h | ⟨-, h, -⟩
    ·exact Or.inl ⟨d, h⟩
    ·exact Or.inr h
   ·rintro (⟨d, h⟩ | h)
    ·exact ⟨d, addA_mem.2 (Or.inl h)⟩
    ·by_cases e : hasK ps x.1 = true
     ·obtain ⟨d, e⟩ := hasK_mem.1 e; exact ⟨d, addA_mem.2 (Or.inl e)⟩
     ·exact ⟨s + 1, addA_mem.2 (Or.inr ⟨rfl, h, by simpa using e⟩)⟩
  have hk' : hasK (addA ps (s + 1) (jn b r)) x.1 = false ↔ hasK ps x.1 = false ∧ x.1 ∉ jn b r := by
   rw [← Bool.not_eq_true, hk, not_or, Bool.not_eq_true]
  rw [hk']
  constructor
  ·rintro ((h | ⟨h1, h2, h3⟩) | ⟨h1, ⟨r', h2, h3⟩, h4, -⟩)
   ·exact Or.inl h
   ·exact Or.inr ⟨h1, ⟨r, List.mem_cons_self, h2⟩, h3⟩
   ·exact Or.inr ⟨h1, ⟨r', List.mem_cons_of_mem _ h2, h3⟩, h4⟩
  ·rintro (h | ⟨h1, ⟨r', h2, h3⟩, h4⟩)
   ·exact Or.inl (Or.inl h)
   ·by_cases e : x.1 ∈ jn b r
    ·exact Or.inl (Or.inr ⟨h1, e, h4⟩)
    ·rcases List.mem_cons.1 h2 with rfl | h2
     ·exact absurd h3 e
     ·exact Or.inr ⟨h1, ⟨r', h2, h3⟩, h4, e⟩
theorem Held.next {b : List Advert} (g : Book b) {p : Proc} {s : Nat} {ps : List (Proc × Nat)} {l : List Proc} (h : Held b p s ps) (hl : ∀ q, q ∈ l ↔ (q, s) ∈ ps) : Held b p (s + 1) (addB b s ps l) := by
 refine ⟨addB_keys g h.keys, fun q d => ?_⟩
 rw [addB_mem, h.all]
 constructor
 ·rintro (⟨h1, h2⟩ | ⟨rfl, ⟨r, h1, h2⟩, h3⟩)
  ·exact ⟨by omega, h2⟩
  ·refine ⟨Nat.le_refl _, Or.inr ⟨r, ((h.all r s).1 ((hl r).1 h1)).2.1, h2⟩, fun k hk hc => ?_⟩
   obtain ⟨e, he, hle⟩ := hc.lev
   have := hasK_mem.2 ⟨e, (h.all q e).2 ⟨by omega, hle⟩⟩
   dsimp only at h3
   rw [this] at h3; cases h3
 ·rintro ⟨h1, h2⟩
  rcases Nat.lt_or_ge s d with hd | hd
  ·obtain rfl : d = s + 1 := by omega
   right
   obtain ⟨r, hr, hq⟩ := h2.prev
   refine ⟨rfl, ⟨r, (hl r).2 ((h.all r s).2 ⟨Nat.le_refl _, hr⟩), hq⟩, ?_⟩
   cases hk : hasK ps q with
   | false => rfl
   | true =>
    obtain ⟨e, he⟩ := hasK_mem.1 hk
    obtain ⟨he1, he2⟩ := (h.all q e).1 he
    have := he2.one h2; omega
  ·exact Or.inl ⟨hd, h2⟩
theorem Held.all' {b : List Advert} {p : Proc} {s : Nat} {ps : List (Proc × Nat)} (h : Held b p s ps) (hn : ∀ q, (q, s) ∉ ps) : ∀ q d, (q, d) ∈ ps ↔ Lev b p d q := by
 have far : ∀ d q, s ≤ d → ¬ Lev b p d q := by
  intro d
  induction d with
  | zero => intro q hs hl; obtain rfl : s = 0 := (by omega); exact hn q ((h.all q 0).2 ⟨Nat.le_refl _, hl⟩)
  | succ d ih =>
   intro q hs hl
   obtain ⟨r, hr, -⟩ := hl.prev
   rcases Nat.lt_or_ge d s with h1 | h1
   ·obtain rfl : s = d + 1 := by omega
    exact hn q ((h.all q _).2 ⟨Nat.le_refl _, hl⟩)
   ·exact ih r h1 hr
 intro q d
 rw [h.all]
 constructor
 ·exact fun h => h.2
 ·intro hl
  refine ⟨?_, hl⟩
  rcases Nat.lt_or_ge s d with h1 | h1
  ·exact absurd hl (far d q (by omega))
  ·exact h1
open Classical in
noncomputable def farL (b : List Advert) (p : Proc) : List (Proc × Nat) := if h : ∃ ps, Keys ps ∧ ∀ q d, (q, d) ∈ ps ↔ Lev b p d q then Classical.choose h else []
theorem farL_ok {b : List Advert} {p : Proc} {ps : List (Proc × Nat)} (k : Keys ps) (h : ∀ q d, (q, d) ∈ ps ↔ Lev b p d q) : Keys (farL b p) ∧ (∀ q d, (q, d) ∈ farL b p ↔ Lev b p d q) ∧ ps.Perm (farL b p) := by
 have hex : ∃ ps, Keys ps ∧ ∀ q d, (q, d) ∈ ps ↔ Lev b p d q := ⟨ps, k, h⟩
 have e : farL b p = Classical.choose hex := by unfold farL; rw [dif_pos hex]
 have hc := Classical.choose_spec hex
 rw [← e] at hc
 refine ⟨hc.1, hc.2, ?_⟩
 have n1 : ps.Nodup := by
  have := k.one; unfold List.Nodup at *; rw [List.pairwise_map] at this; exact this.imp fun hab e => hab (by rw [e])
 have n2 : (farL b p).Nodup := by
  have := hc.1.one; unfold List.Nodup at *; rw [List.pairwise_map] at this; exact this.imp fun hab e => hab (by rw [e])
 exact (List.perm_ext_iff_of_nodup n1 n2).2 fun ⟨q, d⟩ => (h q d).trans (hc.2 q d).symm
noncomputable def farE (b : List Advert) (p : Proc) : List (MK × DV) := (farL b p).map fun x => (pk x.1, .n x.2)
theorem ents_two (ps : List (Proc × Nat)) : (ents ps).map (fun e => e.2) = ps.map fun x => (pk x.1, .n x.2) := by
 apply List.ext_getElem?; intro j
 simp only [ents, List.map_map, List.getElem?_map, List.getElem?_zipIdx]
 cases ps[j]? <;> rfl
theorem nodup_lt : ∀ {n : Nat} {l : List Nat}, l.Nodup → (∀ x ∈ l, x < n) → l.length ≤ n
 | 0, [], _, _ => by simp
 | 0, x :: l, _, h => by have := h x List.mem_cons_self; omega
 | n + 1, l, hn, h => by
  by_cases hm : n ∈ l
  ·have h1 := nodup_lt (n := n) (hn.erase n) fun x hx => by
    have h2 := (hn.mem_erase_iff).1 hx
    have := h x h2.2; omega
   rw [List.length_erase_of_mem hm] at h1; omega
  ·have := nodup_lt (n := n) hn fun x hx => by
    have h2 := h x hx
    have : x ≠ n := fun e => hm (e ▸ hx)
    omega
   omega
structure Seen (ps : List (Proc × Nat)) (s i : Nat) (sn : List Nat) (L : List Proc) : Prop where
 len : sn.length = i
 one : sn.Nodup
 lt : ∀ j ∈ sn, j < ps.length
 le : L.length ≤ i
 all : ∀ q, q ∈ L ↔ ∃ j ∈ sn, ps[j]? = some (q, s)
theorem Seen.start (ps : List (Proc × Nat)) (s : Nat) : Seen ps s 0 [] [] := ⟨rfl, by simp, by simp, by simp, by simp⟩
theorem Seen.less {ps : List (Proc × Nat)} {s i j : Nat} {sn : List Nat} {L : List Proc} (h : Seen ps s i sn L) (hj : j < ps.length) (hn : j ∉ sn) : i < ps.length := by
 have := nodup_lt (n := ps.length) (l := j :: sn) (List.nodup_cons.2 ⟨hn, h.one⟩) fun x hx => by
  rcases List.mem_cons.1 hx with rfl | hx
  ·exact hj
  ·exact h.lt x hx
 simp [h.len] at this; omega
theorem Seen.yes {ps : List (Proc × Nat)} {s i j : Nat} {sn : List Nat} {L : List Proc} {q : Proc} (h : Seen ps s i sn L) (hn : j ∉ sn) (hq : ps[j]? = some (q, s)) : Seen ps s (i + 1) (sn ++ [j]) (L ++ [q]) := by
 refine ⟨by simp [h.len], ?_, fun x hx => ?_, by have := h.le; simp; omega, fun q' => ?_⟩
 ·rw [List.nodup_append]; exact ⟨h.one, by simp, fun a ha b hb e => by simp at hb; subst hb e; exact hn ha⟩
 ·rcases List.mem_append.1 hx with hx | hx
  ·exact h.lt x hx
  ·simp at hx; subst hx; exact (List.getElem?_eq_some_iff.1 hq).1
 ·rw [List.mem_append, h.all, List.mem_singleton]
  constructor
  ·rintro (⟨j', h1, h2⟩ | rfl)
   ·exact ⟨j', List.mem_append_left _ h1, h2⟩
   ·exact ⟨j, List.mem_append_right _ List.mem_cons_self, hq⟩
  ·rintro ⟨j', h1, h2⟩
   rcases List.mem_append.1 h1 with h1 | h1
   ·exact Or.inl ⟨j', h1, h2⟩
   ·simp at h1; subst h1; rw [hq] at h2; cases h2; exact Or.inr rfl
theorem Seen.no {ps : List (Proc × Nat)} {s i j d : Nat} {sn : List Nat} {L : List Proc} {q : Proc} (h : Seen ps s i sn L) (hn : j ∉ sn) (hq : ps[j]? = some (q, d)) (hd : d ≠ s) : Seen ps s (i + 1) (sn ++ [j]) L := by
 refine ⟨by simp [h.len], ?_, fun x hx => ?_, by have := h.le; omega, fun q' => ?_⟩
 ·rw [List.nodup_append]; exact ⟨h.one, by simp, fun a ha b hb e => by simp at hb; subst hb e; exact hn ha⟩
 ·rcases List.mem_append.1 hx with hx | hx
  ·exact h.lt x hx
  ·simp at hx; subst hx; exact (List.getElem?_eq_some_iff.1 hq).1
 ·rw [h.all]
  constructor
  ·rintro ⟨j', h1, h2⟩; exact ⟨j', List.mem_append_left _ h1, h2⟩
  ·rintro ⟨j', h1, h2⟩
   rcases List.mem_append.1 h1 with h1 | h1
   ·exact ⟨j', h1, h2⟩
   ·simp at h1; subst h1; rw [hq] at h2; cases h2; exact absurd rfl hd
theorem Seen.end {ps : List (Proc × Nat)} {s i : Nat} {sn : List Nat} {L : List Proc} (h : Seen ps s i sn L) (ha : ∀ e ∈ ents ps, e.1 ∈ sn) : ∀ q, q ∈ L ↔ (q, s) ∈ ps := by
 intro q
 rw [h.all]
 constructor
 ·rintro ⟨j, -, h⟩; exact List.mem_of_getElem? h
 ·intro hq
  obtain ⟨j, hj, e⟩ := List.getElem_of_mem hq
  have e1 : ps[j]? = some (q, s) := by rw [List.getElem?_eq_getElem hj, e]
  exact ⟨j, ha _ (List.mem_of_getElem? (ents_at e1)), e1⟩
end Go.Proofs.Ytikmdkicccfjpaa
namespace Go.Proofs.Ytikmdkicccfjpaa
open Go.RowKit
theorem far_end {b : List Advert} {p : Proc} {s : Nat} {ps : List (Proc × Nat)} {L : List Proc} (h : Held b p s ps) (hL : ∀ q, q ∈ L ↔ (q, s) ∈ ps) (h0 : (((L.length : Nat) : Int) == 0) = true) :
  ((ents ps).map fun e => e.2).Perm (farE b p) ∧ ps.length = (farL b p).length := by
 have hn : ∀ q, (q, s) ∉ ps := fun q hq => by
  have h1 := eq_of_beq h0
  have : L = [] := List.length_eq_zero_iff.1 (by omega)
  have := (hL q).2 hq; simp_all
 obtain ⟨-, -, hp⟩ := farL_ok h.keys (h.all' hn)
 exact ⟨by rw [ents_two]; exact hp.map _, hp.length_eq⟩
theorem far_more {b : List Advert} (g : Book b) {p : Proc} {s : Nat} {ps : List (Proc × Nat)} {L : List Proc} (h : Held b p s ps) (hL : ∀ q, q ∈ L ↔ (q, s) ∈ ps) (h0 : (((L.length : Nat) : Int) == 0) = false) : s ≤ 4 := by
 have h1 := ne_of_beq_false h0
 match L, h1 with
 | [], h1 => exact absurd rfl h1
 | q :: l, _ =>
  have := (h.all q s).1 ((hL q).1 List.mem_cons_self)
  exact this.2.four g
theorem ind_pair {b : List Advert} {p : Proc} : ∀ e ∈ farE b p, Ind e.2 := fun e he => by
 obtain ⟨x, -, rfl⟩ := List.mem_map.1 he
 exact ind_v _
theorem nodup_sub {α : Type} [DecidableEq α] : ∀ {l m : List α}, l.Nodup → (∀ x ∈ l, x ∈ m) → l.length ≤ m.length
 | [], _, _, _ => by simp
 | x :: l, m, hn, h => by
  rw [List.nodup_cons] at hn
  have hx := h x List.mem_cons_self
  have := nodup_sub (l := l) (m := m.erase x) hn.2 fun y hy => (List.mem_erase_of_ne (fun e => hn.1 (by rw [← e]; exact hy))).2 (h y (List.mem_cons_of_mem _ hy))
  have hp : 0 < m.length := List.length_pos_of_mem hx
  rw [List.length_erase_of_mem hx] at this
  simp; omega
theorem Lev.who {b : List Advert} {p q : Proc} {d : Nat} (h : Lev b p d q) : q ∈ p :: b.map Advert.server := by
 cases d with
 | zero => rw [h.1]; exact List.mem_cons_self
 | succ d =>
  obtain ⟨r, -, hq⟩ := h.prev
  obtain ⟨a, ha, hs⟩ := jn_server hq
  exact List.mem_cons_of_mem _ (List.mem_map.2 ⟨a, ha, hs⟩)
theorem Held.few {b : List Advert} (g : Book b) {p : Proc} {s : Nat} {ps : List (Proc × Nat)} (h : Held b p s ps) : ps.length ≤ 5 := by
 have h1 := nodup_sub h.keys.one (m := p :: b.map Advert.server) fun q hq => by
  obtain ⟨⟨q', d⟩, hx, rfl⟩ := List.mem_map.1 hq
  exact ((h.all q' d).1 hx).2.who
 have := g.len
 simp at h1; omega
set_option maxRecDepth 100000 in
theorem farOk (b : List Advert) (p : Proc) (g : Book b) (hp : p.okP) : ConM Try.prog 38 [.d (.ro 4 (adverts b)), .ag [.z p.node, .u p.inc]] [] (.mv 0) ([.mu 57 (farL b p).length (farE b p)]) := by
 refine ConM.intro0 (by kernel_rfl) rfl rfl 62 rfl rfl fun w0 K ac hK r => ?_
 have r := r.mark
 refine toHead (todo' := hd Try.f38 0) (E' := [(0, .d (.ro 4 (adverts b))), (5, .pt 1 0), (6, .pt 2 0)]) (M' := [.mp 57 (0 + 1) ([] ++ [(0, .a [(.i64, (p.node : Int)), (.u64, (((p.inc : Nat) : Int) : Int))], .z 0)]), .bx 57 [.mv 0], .bx 3 [.z 0]]) tk tq hK [(1, [(2, .b false)])] 2000 [1, 2, 3] [0, 5, 6] r (by kernel_rfl) (an (⟨Try.lawP, fun k hk => by simp at hk; subst hk; exact good_pk hp⟩ : KeysOk Try.prog 30 ((.a [(.i64, (p.node : Int)), (.u64, (((p.inc : Nat) : Int) : Int))]) :: List.map (fun (e : Nat × MK × DV) => e.2.1) ([]))) (an ((by simp) : ∀ zz ∈ ([] : List (Nat × MK × DV)), zz.2.1 ≠ .a [(.i64, (p.node : Int)), (.u64, (((p.inc : Nat) : Int) : Int))]) trivial)) fun ac wd r => ?_
 refine Goes.rounds (Φ := fun (s : Nat) ac wd => ∃ ps : List (Proc × Nat), (Held b p s ps) ∧ REg true [] w0 K 62 [(0, .d (.ro 4 (adverts b))), (5, .pt 1 0), (6, .pt 2 0)] [.mp 57 (ps.length) (ents ps), .bx 57 [.mv 0], .bx 3 [.n s]] ac wd) (5) ?_ (Nat.zero_le _) ⟨[(p, 0)], Held.start b hp, (r).cast rfl rfl⟩
 clear r
 rintro s hi0 again0 ac wd ⟨ps, hv0, r⟩
 refine toHead (todo' := hd Try.f38 1) (E' := [(0, .d (.ro 4 (adverts b))), (5, .pt 1 0), (6, .pt 2 0), (21, .pt 3 0), (7, .d (.v (.slice none 0 0)))]) (M' := [.mp 57 (ps.length) (ents ps), .bx 57 [.mv 0], .bx 3 [.n s], .it (some 0) (ps.length) ([]) (ps.length)]) tk tq hK [] 2000 [0, 1, 2, 3] [0, 5, 6, 21, 7] r (by kernel_rfl) trivial fun ac wd r => ?_
 refine Goes.rounds (Φ := fun (i : Nat) ac wd => ∃ sn : List Nat, ∃ L : List Proc, (Seen ps s i sn L) ∧ REg true [] w0 K 62 [(0, .d (.ro 4 (adverts b))), (5, .pt 1 0), (6, .pt 2 0), (21, .pt 3 0), (7, .sl 4 (L.length))] [.mp 57 (ps.length) (ents ps), .bx 57 [.mv 0], .bx 3 [.n s], .it (some 0) (ps.length) (sn) (ps.length), .rw 30 2 (procs L)] ac wd) (ps.length) ?_ (Nat.zero_le _) ⟨[], [], Seen.start ps s, (r.adopt (M1 := [.mp 57 (ps.length) (ents ps), .bx 57 [.mv 0], .bx 3 [.n s], .it (some 0) (ps.length) ([]) (ps.length), .rw 30 2 []]) [(7, 30, 2)] [] (by kernel_rfl) (by kernel_rfl)).cast rfl rfl⟩
 clear r
 rintro i hi1 again1 ac wd ⟨sn, L, hv1, r⟩
 have hfew := hv0.few g
 have hLle := hv1.le
 refine toNext (id := 6) (t := 21) (d1 := 22) (d2 := 23) (ui := 3) (um := 0) (since := ps.length) (c := ps.length) (T' := 57) (ck := ps.length) (seen := sn) (es := ents ps) (k := aft Try.f38 6) (ops := ops Try.f38 6) tk tq hK 1 r (by kernel_rfl) (by kernel_rfl) (by kernel_rfl) ⟨by kernel_rfl, by kernel_rfl⟩ (by kernel_rfl) (by kernel_rfl) (by kernel_rfl) (fun e he => ents_lt e he) (Nat.le_refl _) (fun hall6 ac wd r => ?_) (fun jj6 bb6 kk6 xx6 hj6 hb6 ac wd r => ?_)
 ·
  cases h0 : ((((L.length : Nat) : Int) : Int) == 0) with
  | false =>
   have qh0 := ne_of_beq_false h0
   refine toAt (todo' := aft Try.f38 10) (E' := [(0, .d (.ro 4 (adverts b))), (5, .pt 1 0), (6, .pt 2 0), (21, .pt 3 0), (7, .sl 4 (L.length)), (23, .d (.v (.bool false))), (34, .sl 4 (L.length)), (35, .n L.length), (36, .d (.v (.bool false)))]) (M' := [.mp 57 (ps.length) (ents ps), .bx 57 [.mv 0], .bx 3 [.n s], .it (some 0) (ps.length) (sn) (ps.length), .rw 30 2 (procs L)]) tk tq hK [(10, [(2, .b false)])] 6 [0, 1, 2, 3, 4] [0, 5, 6, 21, 7, 23, 34, 35, 36] r (by kernel_rfl) (an h0 trivial) fun ac wd r => ?_
   have hL := hv1.end hall6
   have hs4 := far_more g hv0 hL h0
   refine toHead (todo' := hd Try.f38 2) (E' := [(0, .d (.ro 4 (adverts b))), (5, .pt 1 0), (6, .pt 2 0), (38, .sl 3 (L.length)), (39, .n L.length), (40, .z 0)]) (M' := [.mp 57 (ps.length) (ents ps), .bx 57 [.mv 0], .bx 3 [.n s], .rw 30 2 (procs L)]) tk tq hK [] 2000 [0, 1, 2, 4] [0, 5, 6, 38, 39, 40] r (by kernel_rfl) trivial fun ac wd r => ?_
   refine Goes.rounds (Φ := fun (i : Nat) ac wd => (i ≤ L.length) ∧ REg true [] w0 K 62 [(0, .d (.ro 4 (adverts b))), (5, .pt 1 0), (6, .pt 2 0), (38, .sl 3 (L.length)), (39, .n L.length), (40, .n i)] [.mp 57 ((addB b s ps (L.take i)).length) (ents (addB b s ps (L.take i))), .bx 57 [.mv 0], .bx 3 [.n s], .rw 30 2 (procs L)] ac wd) (L.length) ?_ (Nat.zero_le _) ⟨(Nat.zero_le _), (r).cast rfl rfl⟩
   clear r
   rintro i hi2 again2 ac wd ⟨hv2, r⟩
   cases h1 : (decide ((((i : Nat) : Int) : Int) < ((L.length : Nat) : Int))) with
   | false =>
    have qh1 := of_decide_eq_false h1
    exact toHead (todo' := hd Try.f38 0) (E' := [(0, .d (.ro 4 (adverts b))), (5, .pt 1 0), (6, .pt 2 0)]) (M' := [.mp 57 ((addB b s ps (L.take i)).length) (ents (addB b s ps (L.take i))), .bx 57 [.mv 0], .bx 3 [.n (s + 1)]]) tk tq hK [(3, [(1, .z (((s + 1 : Nat) : Int)))]), (13, [(0, .b false)])] 2000 [0, 1, 4] [0, 5, 6] r (by kernel_rfl) (an h1 (an ((wi (by omega)) : IntKind.i64.wrap ((((s : Nat) : Int) : Int) + 1) = ((s + 1 : Nat) : Int)) trivial)) fun ac wd r => again0 (by omega) ac wd ⟨(addB b s ps (L.take i)), (by rw [List.take_of_length_le (by omega)]; exact hv0.next g hL), r.cast rfl rfl⟩
   | true =>
    have qh1 := of_decide_eq_true h1
    obtain ⟨q, gq⟩ : ∃ x, L[i]? = some x := ⟨_, List.getElem?_eq_getElem (by omega)⟩
    refine toRange (todo' := aftF Try.f38 0) (E2 := [(0, .d (.ro 4 (adverts b))), (5, .pt 1 0), (6, .pt 2 0), (38, .sl 3 (L.length)), (39, .n L.length), (40, .n i)]) (M2 := [.mp 57 ((addA (addB b s ps (L.take i)) (s + 1) (jn b q)).length) (ents (addA (addB b s ps (L.take i)) (s + 1) (jn b q))), .bx 57 [.mv 0], .bx 3 [.n s], .rw 30 2 (procs L)]) tk tq hK rfl [(13, [(0, .b true)]), (14, [(0, .n (i)), (1, .ix 0 [.z q.node, .u q.inc])]), (15, [(2, .into 200 [])])] 14 [5, 6, 0, 1, 2] [5, 6] (.tu []) [.bx 22 [.d (.ro 4 (adverts b))], .bx 30 [.z q.node, .u q.inc], .mp 57 ((addA (addB b s ps (L.take i)) (s + 1) (jn b q)).length) (ents (addA (addB b s ps (L.take i)) (s + 1) (jn b q))), .bx 57 [.mv 2], .bx 3 [.n s], .lp .ready 38 62 [(5, .pt 3 0), (6, .pt 4 0)] (rfn Try.f38 0)] [0, 1, 2, 3] [0, 5, 6, 38, 39, 40] r (by kernel_rfl) (an (farRound b q (addB b s ps (L.take i)) s g (addB_keys g hv0.keys) (by omega)) (an h1 (an (rfI ((i : Nat) : Int)) (an ((by first | omega | decide | (simp; omega)) : (i) < (L.length)) (an ((by first | rfl | (simp; done) | (simp <;> omega)) : (L.length) ≤ (procs L).length) (an (procs_at gq) trivial)))))) fun ac wd r => ?_
    exact toHead (todo' := hd Try.f38 2) (E' := [(0, .d (.ro 4 (adverts b))), (5, .pt 1 0), (6, .pt 2 0), (38, .sl 3 (L.length)), (39, .n L.length), (40, .n (i + 1))]) (M' := [.mp 57 ((addA (addB b s ps (L.take i)) (s + 1) (jn b q)).length) (ents (addA (addB b s ps (L.take i)) (s + 1) (jn b q))), .bx 57 [.mv 0], .bx 3 [.n s], .rw 30 2 (procs L)]) tk tq hK [(20, [(0, .z (((i + 1 : Nat) : Int)))])] 2000 [0, 1, 2, 3] [0, 5, 6, 38, 39, 40] r (by kernel_rfl) (an ((wi (by omega)) : IntKind.i64.wrap ((((i : Nat) : Int) : Int) + 1) = ((i + 1 : Nat) : Int)) trivial) fun ac wd r => again2 (by omega) ac wd ⟨(by omega), r.cast rfl (by rw [addB_succ gq])⟩
  | true =>
   have qh0 := eq_of_beq h0
   refine toAt (todo' := aft Try.f38 10) (E' := [(0, .d (.ro 4 (adverts b))), (5, .pt 1 0), (6, .pt 2 0), (21, .pt 3 0), (7, .sl 4 (L.length)), (23, .d (.v (.bool false))), (34, .sl 4 (L.length)), (35, .n L.length), (36, .d (.v (.bool true)))]) (M' := [.mp 57 (ps.length) (ents ps), .bx 57 [.mv 0], .bx 3 [.n s], .it (some 0) (ps.length) (sn) (ps.length), .rw 30 2 (procs L)]) tk tq hK [(10, [(2, .b true)])] 6 [0, 1, 2, 3, 4] [0, 5, 6, 21, 7, 23, 34, 35, 36] r (by kernel_rfl) (an h0 trivial) fun ac wd r => ?_
   have hL := hv1.end hall6
   obtain ⟨hperm, hplen⟩ := far_end hv0 hL h0
   have r := (r.forget 0 (es2 := farE b p) rfl hperm (by rw [ents_born]; exact List.nodup_range) (fun e he => ents_lt e he)).cast (M' := [.mu 57 ((farL b p).length) (farE b p), .bx 57 [.mv 0], .bx 3 [.n s], .it (some 0) (ps.length) (sn) (ps.length), .rw 30 2 (procs L)]) rfl (by rw [hplen]; rfl)
   refine toRet0 (E' := [(4, .mv 0)]) (M' := [.mu 57 ((farL b p).length) (farE b p)]) tk tq hK rfl [] 2000 [0] [4] r (by kernel_rfl) (by kernel_rfl) trivial ?_ ?_
   ·intro x hx; simp only [List.mem_singleton] at hx; subst hx; exact IndA.mv 0
   ·intro x hx; simp only [List.mem_singleton] at hx; subst hx; exact IndB.mu ind_pair
 ·
  obtain ⟨q, d, hq, rfl, rfl, rfl⟩ := ents_get hj6
  have hjl := (List.getElem?_eq_some_iff.1 hq).1
  have u0 := (⟨_, _, ents_at hq, rfl⟩ : ∃ b0 s0, (ents ps : List (Nat × MK × DV))[bb6]? = some (b0, .a [(.i64, (q.node : Int)), (.u64, (((q.inc : Nat) : Int) : Int))], .n d) ∧ (sn ++ [bb6] : List Nat) = s0 ++ [b0])
  have u1 := ((by rw [ents_born]; exact List.nodup_range) : (List.map (fun (e : Nat × MK × DV) => e.1) (ents ps)).Nodup)
  cases h2 : ((((d : Nat) : Int) : Int) == ((s : Nat) : Int)) with
  | false =>
   have qh2 := ne_of_beq_false h2
   exact toHead (todo' := hd Try.f38 1) (E' := [(0, .d (.ro 4 (adverts b))), (5, .pt 1 0), (6, .pt 2 0), (21, .pt 3 0), (7, .sl 4 (L.length))]) (M' := [.mp 57 (ps.length) (ents ps), .bx 57 [.mv 0], .bx 3 [.n s], .it (some 0) (ps.length) (sn ++ [bb6]) (ps.length), .rw 30 2 (procs L)]) tk tq hK [(7, [(0, .mk (bb6) (.a [(.i64, (q.node : Int)), (.u64, (((q.inc : Nat) : Int) : Int))]) (.n d))]), (8, [(2, .b false)])] 2000 [0, 1, 2, 3, 4] [0, 5, 6, 21, 7] r (by kernel_rfl) (an u0 (an u1 (an (rfl : (ps.length : Nat) = ps.length) (an h2 trivial)))) fun ac wd r => again1 (hv1.less hjl hb6) ac wd ⟨(sn ++ [bb6]), L, (hv1.no hb6 hq (by omega)), r.cast (by first | rfl | simp) (by first | rfl | simp [procs, Proc.row])⟩
  | true =>
   have qh2 := eq_of_beq h2
   exact toHead (todo' := hd Try.f38 1) (E' := [(0, .d (.ro 4 (adverts b))), (5, .pt 1 0), (6, .pt 2 0), (21, .pt 3 0), (7, .sl 4 (L.length + (1)))]) (M' := [.mp 57 (ps.length) (ents ps), .bx 57 [.mv 0], .bx 3 [.n s], .it (some 0) (ps.length) (sn ++ [bb6]) (ps.length), .rw 30 2 (procs L ++ [[.z q.node, .u q.inc]])]) tk tq hK [(7, [(0, .mk (bb6) (.a [(.i64, (q.node : Int)), (.u64, (((q.inc : Nat) : Int) : Int))]) (.n d))]), (8, [(2, .b true)])] 2000 [0, 1, 2, 3, 4] [0, 5, 6, 21, 7] r (by kernel_rfl) (an u0 (an u1 (an (rfl : (ps.length : Nat) = ps.length) (an h2 (an ((by first | rfl | (simp; done) | (simp <;> omega)) : (L.length) = (procs L).length) (an ((by first | rfl | (simp; done) | (simp <;> omega)) : (1) = ([[.z q.node, .u q.inc]] : List (List DV)).length) (an ((by first | omega | (simp; done) | (simp <;> omega)) : (2 * ((L.length) + (1)) + 0) * 16 ≤ 281474976710656) (an ((by first | omega | (simp; done) | (simp <;> omega)) : (L.length) + (1) < 4611686018427387904) (an ((by simp [OneR, AV.one, oneC]) : OneR ([[.z q.node, .u q.inc]])) trivial))))))))) fun ac wd r => again1 (hv1.less hjl hb6) ac wd ⟨(sn ++ [bb6]), (L ++ [q]), (hv1.yes hb6 (by rw [hq, show d = s by omega])), r.cast (by first | rfl | simp) (by first | rfl | simp [procs, Proc.row])⟩
end Go.Proofs.Ytikmdkicccfjpaa
namespace Go.Proofs.Ytikmdkicccfjpaa
open Go.RowKit
theorem Con.froz {P : Program} {f : FuncId} {args : List AV} {x : DV} (h : Con P f args x) : Con P f args (froz x) := by
 refine ⟨h.1, fun w K ys hK hl hr => (h.2 w K ys hK hl hr).mono ?_⟩
 rintro ed w' ⟨v, rfl, g, H, ⟨Ho, Hi, rfl, hd⟩, n⟩
 exact ⟨_, rfl, g, _, ⟨[], Ho ++ Hi, rfl, froz_ok hd fun w hw => ⟨⟨hw.1, (Holds.app.1 hw.2).2⟩, (Holds.app.1 hw.2).1⟩⟩, n⟩
theorem ofRo (l : List Advert) (hb : l.length ≤ 9223372036854775807) (hp : ∀ x ∈ l, x.peers.length ≤ 9223372036854775807) : Con Try.prog 14 [.d (.ro 4 (adverts l))] (.ro 4 (adverts (book l))) := by
 have h := (ofOk l hb hp).froz
 rw [froz, froz_advertsO] at h; exact h
theorem book_up (l : List Advert) : ∀ k, (∀ a ∈ bookTo l k, a.may = true ∧ a ∈ l ∧ a.server.node < (k : Int)) ∧ (bookTo l k).Pairwise fun x y => x.server.node < y.server.node
 | 0 => by simp [bookTo]
 | k + 1 => by
  obtain ⟨h1, h2⟩ := book_up l k
  rw [bookTo]
  split
  ·rename_i h0
   rcases best_or l k l.length with e | ⟨e1, e2, e3⟩
   ·rw [e] at h0; cases h0
   ·refine ⟨fun a ha => ?_, ?_⟩
    ·rcases List.mem_append.1 ha with ha | ha
     ·obtain ⟨g1, g2, g3⟩ := h1 a ha; exact ⟨g1, g2, by omega⟩
     ·rw [List.mem_singleton] at ha; subst ha; exact ⟨e2, e1, by omega⟩
    ·rw [List.pairwise_append]
     refine ⟨h2, by simp, fun a ha c hc => ?_⟩
     rw [List.mem_singleton] at hc; subst hc
     have := (h1 a ha).2.2; omega
  ·rw [List.append_nil]
   exact ⟨fun a ha => by obtain ⟨g1, g2, g3⟩ := h1 a ha; exact ⟨g1, g2, by omega⟩, h2⟩
theorem book_good (l : List Advert) : Book (book l) := ⟨fun a ha => ((book_up l 5).1 a ha).1, (book_up l 5).2⟩
theorem far_is {b : List Advert} (g : Book b) {p : Proc} (hp : p.okP) : Keys (farL b p) ∧ ∀ q d, (q, d) ∈ farL b p ↔ Lev b p d q := by
 have key : ∀ s ps, Held b p s ps → s ≤ 5 → Keys (farL b p) ∧ ∀ q d, (q, d) ∈ farL b p ↔ Lev b p d q := by
  intro s
  have : ∀ n s ps, Held b p s ps → s ≤ 5 → 5 - s = n → Keys (farL b p) ∧ ∀ q d, (q, d) ∈ farL b p ↔ Lev b p d q := by
   intro n
   induction n with
   | zero =>
    intro s ps h hs hn
    have hno : ∀ q, (q, s) ∉ ps := fun q hq => by have := ((h.all q s).1 hq).2.four g; omega
    obtain ⟨h1, h2, -⟩ := farL_ok h.keys (h.all' hno); exact ⟨h1, h2⟩
   | succ n ih =>
    intro s ps h hs hn
    exact ih (s + 1) _ (h.next g (l := (ps.filter fun x => decide (x.2 = s)).map Prod.fst) fun q => by
     rw [List.mem_map]
     constructor
     ·rintro ⟨⟨q', d⟩, hx, rfl⟩
      obtain ⟨h1, h2⟩ := List.mem_filter.1 hx
      obtain rfl : d = s := of_decide_eq_true h2
      exact h1
     ·intro hq; exact ⟨_, List.mem_filter.2 ⟨hq, decide_eq_true rfl⟩, rfl⟩) (by omega) (by omega)
  exact fun ps h hs => this _ s ps h hs rfl
 exact key 0 _ (Held.start b hp) (by omega)
theorem far_few {b : List Advert} (g : Book b) {p : Proc} (hp : p.okP) : (farL b p).length ≤ 5 := by
 obtain ⟨k, h⟩ := far_is g hp
 have h1 := nodup_sub k.one (m := p :: b.map Advert.server) fun q hq => by
  obtain ⟨⟨q', d⟩, hx, rfl⟩ := List.mem_map.1 hq
  exact ((h q' d).1 hx).who
 have := g.len
 simp at h1; omega
theorem srt_set {l m : List Proc} (h : ∀ q, q ∈ l ↔ q ∈ m) : srt l = srt m := ss_ext (srt_ss l) (srt_ss m) fun q => by rw [mem_srt, mem_srt, h]
open Classical in
noncomputable def reachG (l : List Advert) (p : Proc) : List Proc := if p.may = true ∧ p.node ≤ 4 then srt ((farL (book l) p).map Prod.fst) else []
structure Got (es : List (Nat × MK × DV)) (i : Nat) (sn : List Nat) (L : List Proc) : Prop where
 len : sn.length = i
 le : L.length = i
 one : sn.Nodup
 two : L.Nodup
 sub : ∀ b ∈ sn, b ∈ es.map fun e => e.1
 all : ∀ q, q ∈ L ↔ ∃ e ∈ es, e.1 ∈ sn ∧ e.2.1 = pk q
theorem Got.start (es : List (Nat × MK × DV)) : Got es 0 [] [] := ⟨rfl, rfl, by simp, by simp, by simp, by simp⟩
theorem Got.less {es : List (Nat × MK × DV)} {i j b : Nat} {k : MK} {x : DV} {sn : List Nat} {L : List Proc} (h : Got es i sn L) (hj : es[j]? = some (b, k, x)) (hn : b ∉ sn) : i < es.length := by
 have := nodup_sub (l := b :: sn) (m := es.map fun e => e.1) (List.nodup_cons.2 ⟨hn, h.one⟩) fun y hy => by
  rcases List.mem_cons.1 hy with rfl | hy
  ·exact List.mem_map.2 ⟨_, List.mem_of_getElem? hj, rfl⟩
  ·exact h.sub y hy
 simp [h.len] at this; omega
theorem nodup_key {α β : Type} {l : List α} {f : α → β} (h : (l.map f).Nodup) {a b : α} (ha : a ∈ l) (hb : b ∈ l) (e : f a = f b) : a = b := by
 induction l with
 | nil => cases ha
 | cons x l ih =>
  rw [List.map_cons, List.nodup_cons] at h
  cases ha with
  | head =>
   cases hb with
   | head => rfl
   | tail _ hb => exact absurd (List.mem_map.2 ⟨b, hb, e.symm⟩) h.1
  | tail _ ha =>
   cases hb with
   | head => exact absurd (List.mem_map.2 ⟨a, ha, e⟩) h.1
   | tail _ hb => exact ih h.2 ha hb
theorem Got.more {es : List (Nat × MK × DV)} (hb1 : (es.map fun e => e.1).Nodup) (hk : (es.map fun e => e.2.1).Nodup) {i j b : Nat} {x : DV} {sn : List Nat} {L : List Proc} {q : Proc} (h : Got es i sn L) (hj : es[j]? = some (b, pk q, x)) (hn : b ∉ sn) : Got es (i + 1) (sn ++ [b]) (L ++ [q]) := by
 have hm := List.mem_of_getElem? hj
 refine ⟨by simp [h.len], by simp [h.le], ?_, ?_, fun y hy => ?_, fun q' => ?_⟩
 ·rw [List.nodup_append]; exact ⟨h.one, by simp, fun a ha c hc e => by simp at hc; subst hc e; exact hn ha⟩
 ·rw [List.nodup_append]
  refine ⟨h.two, by simp, fun a ha c hc e => ?_⟩
  simp at hc; subst hc e
  obtain ⟨e', h1, h2, h3⟩ := (h.all a).1 ha
  have := nodup_key hk h1 hm h3
  rw [this] at h2; exact hn h2
 ·rcases List.mem_append.1 hy with hy | hy
  ·exact h.sub y hy
  ·simp at hy; subst hy; exact List.mem_map.2 ⟨_, hm, rfl⟩
 ·rw [List.mem_append, h.all, List.mem_singleton]
  constructor
  ·rintro (⟨e, h1, h2, h3⟩ | rfl)
   ·exact ⟨e, h1, List.mem_append_left _ h2, h3⟩
   ·exact ⟨_, hm, List.mem_append_right _ List.mem_cons_self, rfl⟩
  ·rintro ⟨e, h1, h2, h3⟩
   rcases List.mem_append.1 h2 with h2 | h2
   ·exact Or.inl ⟨e, h1, h2, h3⟩
   ·rw [List.mem_singleton] at h2
    have := nodup_key hb1 h1 hm h2
    rw [this] at h3
    exact Or.inr (pk_inj h3).symm
theorem farE_key {b : List Advert} {p : Proc} {es : List (Nat × MK × DV)} (hp : (es.map fun e => e.2).Perm (farE b p)) (k : Keys (farL b p)) : (es.map fun e => e.2.1).Nodup := by
 have h1 : (es.map fun e => e.2.1) = (es.map fun e => e.2).map Prod.fst := by rw [List.map_map]; rfl
 rw [h1, (hp.map Prod.fst).nodup_iff]
 have h2 : (farE b p).map Prod.fst = ((farL b p).map Prod.fst).map pk := by unfold farE; rw [List.map_map, List.map_map]; rfl
 rw [h2]
 have := k.one
 unfold List.Nodup at *
 rw [List.pairwise_map]
 exact this.imp fun hab e => hab (pk_inj e)
theorem farE_at {b : List Advert} {p : Proc} {es : List (Nat × MK × DV)} (hp : (es.map fun e => e.2).Perm (farE b p)) {j n : Nat} {k : MK} {x : DV} (h : es[j]? = some (n, k, x)) : ∃ q d, k = pk q ∧ x = .n d ∧ (q, d) ∈ farL b p := by
 have := hp.mem_iff.1 (List.mem_map.2 ⟨_, List.mem_of_getElem? h, rfl⟩)
 obtain ⟨⟨q, d⟩, h1, h2⟩ := List.mem_map.1 this
 simp only [Prod.mk.injEq] at h2
 exact ⟨q, d, h2.1.symm, h2.2.symm, h1⟩
theorem Got.done {b : List Advert} {p : Proc} {es : List (Nat × MK × DV)} (hp : (es.map fun e => e.2).Perm (farE b p)) {i : Nat} {sn : List Nat} {L : List Proc} (h : Got es i sn L) (ha : ∀ e ∈ es, e.1 ∈ sn) : srt L = srt ((farL b p).map Prod.fst) := by
 refine srt_set fun q => ?_
 rw [h.all]
 constructor
 ·rintro ⟨e, h1, -, h3⟩
  obtain ⟨j, hj, hje⟩ := List.getElem_of_mem h1
  obtain ⟨q', d, g1, -, g3⟩ := farE_at hp (j := j) (n := e.1) (k := e.2.1) (x := e.2.2) (by rw [List.getElem?_eq_getElem hj, hje])
  rw [g1] at h3
  rw [← pk_inj h3]; exact List.mem_map.2 ⟨_, g3, rfl⟩
 ·intro hq
  obtain ⟨⟨q', d⟩, hx, rfl⟩ := List.mem_map.1 hq
  have : (pk q', DV.n d) ∈ es.map fun e => e.2 := hp.mem_iff.2 (List.mem_map.2 ⟨_, hx, rfl⟩)
  obtain ⟨e, he, h2⟩ := List.mem_map.1 this
  exact ⟨e, he, ha e he, by rw [show e.2.1 = (pk q', DV.n d).1 by rw [← h2]]⟩
set_option maxRecDepth 100000 in
theorem reachOk (l : List Advert) (p : Proc) (hb : l.length ≤ 9223372036854775807) (hl : ∀ x ∈ l, x.peers.length ≤ 9223372036854775807) (hp0 : p.okP) : Con Try.prog 21 [.d (.ro 4 (adverts l)), .ag [.z p.node, .u p.inc]] (.ro 2 (procs (reachG l p))) := by
 refine Con.intro (by kernel_rfl) rfl rfl 30 rfl rfl fun w0 K ac hK r => ?_
 cases h0 : (p.may) with
 | false =>
  refine Goes.le (x := .v (.slice none 0 0)) (by unfold reachG; rw [if_neg (by rintro ⟨h1, h2⟩; first | omega | simp_all)]; exact Le.nilRo 2) ?_
  exact toRet tk tq hK rfl [(1, [(1, .con (.v (.bool false)))])] 2000 r (by kernel_rfl) (an ((by have k := procMay p; rw [h0] at k; exact k) : Con Try.prog 37 [.ag [.z p.node, .u p.inc]] (.v (.bool false))) trivial)
 | true =>
  have u0 := ((by have k := procMay p; rw [h0] at k; exact k) : Con Try.prog 37 [.ag [.z p.node, .u p.inc]] (.v (.bool true)))
  cases h1 : (decide ((4 : Int) < p.node)) with
  | false =>
   have qh1 := of_decide_eq_false h1
   refine toAt (todo' := aft Try.f21 4) (E' := [(4, .d (.v (.slice none 0 0))), (5, .d (.v (.slice none 0 0))), (19, .pt 2 0)]) (M' := [.bx 30 [.z p.node, .u p.inc], .mu 57 ((farL (book l) p).length) (farE (book l) p), .it (some 1) ((farL (book l) p).length) ([]) ((farL (book l) p).length)]) tk tq hK [(1, [(1, .con (.v (.bool true))), (6, .b false)]), (4, [(1, .con (.ro 4 (adverts (book l)))), (3, .mem [] (.mv 0) [.mu 57 ((farL (book l) p).length) (farE (book l) p)])])] 12 [0, 1, 2] [4, 5, 19] r (by kernel_rfl) (an u0 (an h1 (an (ofRo l hb hl) (an (farOk (book l) p (book_good l) hp0) trivial)))) fun ac wd r => ?_
   obtain ⟨kf, hf⟩ := far_is (book_good l) hp0
   have hff := far_few (book_good l) hp0
   obtain ⟨es, hperm, hnd, hlt, r⟩ := r.told 1 rfl
   have hek := farE_key hperm kf
   have hel : es.length = (farL (book l) p).length := by have := hperm.length_eq; unfold farE at this; simpa using this
   have r := r.cast (M' := [.bx 30 [.z p.node, .u p.inc], .mp 57 ((farL (book l) p).length) (es), .it (some 1) ((farL (book l) p).length) ([]) ((farL (book l) p).length)]) rfl rfl
   refine toHead (todo' := hd Try.f21 0) (E' := [(5, .d (.v (.slice none 0 0))), (19, .pt 1 0)]) (M' := [.mp 57 ((farL (book l) p).length) (es), .it (some 0) ((farL (book l) p).length) ([]) ((farL (book l) p).length)]) tk tq hK [] 2000 [1, 2] [5, 19] r (by kernel_rfl) trivial fun ac wd r => ?_
   refine Goes.rounds (Φ := fun (i : Nat) ac wd => ∃ sn : List Nat, ∃ L : List Proc, (Got es i sn L) ∧ RE' [] w0 K 30 [(5, .sl 2 (L.length)), (19, .pt 1 0)] [.mp 57 ((farL (book l) p).length) (es), .it (some 0) ((farL (book l) p).length) (sn) ((farL (book l) p).length), .rw 30 2 (procs L)] ac wd) (es.length) ?_ (Nat.zero_le _) ⟨[], [], Got.start es, (r.adopt (M1 := [.mp 57 ((farL (book l) p).length) (es), .it (some 0) ((farL (book l) p).length) ([]) ((farL (book l) p).length), .rw 30 2 []]) [(5, 30, 2)] [] (by kernel_rfl) (by kernel_rfl)).cast rfl rfl⟩
   clear r
   rintro i hi0 again0 ac wd ⟨sn, L, hv0, r⟩
   have hLe := hv0.le
   refine toNext (id := 5) (t := 19) (d1 := 20) (d2 := 21) (ui := 1) (um := 0) (since := (farL (book l) p).length) (c := (farL (book l) p).length) (T' := 57) (ck := (farL (book l) p).length) (seen := sn) (es := es) (k := aft Try.f21 5) (ops := ops Try.f21 5) tk tq hK 1 r (by kernel_rfl) (by kernel_rfl) (by kernel_rfl) ⟨by kernel_rfl, by kernel_rfl⟩ (by kernel_rfl) (by kernel_rfl) (by kernel_rfl) (hlt) (Nat.le_refl _) (fun hall5 ac wd r => ?_) (fun jj5 bb5 kk5 xx5 hj5 hb5 ac wd r => ?_)
   ·
    rw [show (.ro 2 (procs (reachG l p)) : DV) = .ro 2 (procs (srt L)) from (by unfold reachG; rw [if_pos ⟨by assumption, by omega⟩, ← hv0.done hperm hall5])]
    exact toRet tk tq hK rfl [(8, [(1, .stay [.d (.ro 2 (procs L))] (.ro 2 (procs (srt L))))])] 2000 r (by kernel_rfl) (an (sortedOk L hv0.two (by have := hv0.le; omega)) (an (rfN (2)) (an ((by first | rfl | (simp; done) | (simp <;> omega)) : (L.length) = (procs L).length) (an ((froz_procs _) : frozR (procs L) = procs L) trivial))))
   ·
    obtain ⟨q, d, rfl, rfl, hqd⟩ := farE_at hperm hj5
    exact toHead (todo' := hd Try.f21 0) (E' := [(5, .sl 2 (L.length + (1))), (19, .pt 1 0)]) (M' := [.mp 57 ((farL (book l) p).length) (es), .it (some 0) ((farL (book l) p).length) (sn ++ [bb5]) ((farL (book l) p).length), .rw 30 2 (procs L ++ [[.z q.node, .u q.inc]])]) tk tq hK [(6, [(0, .mk (jj5) (.a [(.i64, (q.node : Int)), (.u64, (((q.inc : Nat) : Int) : Int))]) (.n d))])] 2000 [0, 1, 2] [5, 19] r (by kernel_rfl) (an (⟨_, _, hj5, rfl⟩ : ∃ b0 s0, (es : List (Nat × MK × DV))[jj5]? = some (b0, .a [(.i64, (q.node : Int)), (.u64, (((q.inc : Nat) : Int) : Int))], .n d) ∧ (sn ++ [bb5] : List Nat) = s0 ++ [b0]) (an (hnd : (List.map (fun (e : Nat × MK × DV) => e.1) (es)).Nodup) (an (rfl : ((farL (book l) p).length : Nat) = (farL (book l) p).length) (an ((by first | rfl | (simp; done) | (simp <;> omega)) : (L.length) = (procs L).length) (an ((by first | rfl | (simp; done) | (simp <;> omega)) : (1) = ([[.z q.node, .u q.inc]] : List (List DV)).length) (an ((by first | omega | (simp; done) | (simp <;> omega)) : (2 * ((L.length) + (1)) + 0) * 16 ≤ 281474976710656) (an ((by first | omega | (simp; done) | (simp <;> omega)) : (L.length) + (1) < 4611686018427387904) (an ((by simp [OneR, AV.one, oneC]) : OneR ([[.z q.node, .u q.inc]])) trivial)))))))) fun ac wd r => again0 (hv0.less hj5 hb5) ac wd ⟨(sn ++ [bb5]), (L ++ [q]), (hv0.more hnd hek hj5 hb5), r.cast (by first | rfl | simp) (by first | rfl | simp [procs, Proc.row])⟩
  | true =>
   have qh1 := of_decide_eq_true h1
   refine Goes.le (x := .v (.slice none 0 0)) (by unfold reachG; rw [if_neg (by rintro ⟨h1, h2⟩; first | omega | simp_all)]; exact Le.nilRo 2) ?_
   exact toRet tk tq hK rfl [(1, [(1, .con (.v (.bool true))), (6, .b true)])] 2000 r (by kernel_rfl) (an u0 (an h1 trivial))
end Go.Proofs.Ytikmdkicccfjpaa
