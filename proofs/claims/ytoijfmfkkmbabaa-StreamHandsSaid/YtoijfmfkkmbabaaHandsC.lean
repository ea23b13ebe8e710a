/-
  streamHands_holds, part 3 of 6: merged by program from the texts that it needs.
-/
import Derived.Test.YtoijfmfkkmbabaaHandsB
set_option linter.unusedSimpArgs false
set_option linter.unusedVariables false
set_option linter.unnecessarySimpa false
namespace Go.Proofs.Ytoijfmfkkmbabaa
open Go.RowKit
structure Proc where
  node : Int
  inc : Nat
deriving DecidableEq
def Proc.row (p : Proc) : List DV := [.v (.int .i64 p.node), .v (.int .u64 (p.inc : Int))]
abbrev procs (l : List Proc) : List (List DV) := l.map Proc.row
theorem procs_at {l : List Proc} {i : Nat} {p : Proc} (h : l[i]? = some p) : (procs l)[i]? = some [.v (.int .i64 p.node), .v (.int .u64 (p.inc : Int))] := by simp [procs, h, Proc.row]
abbrev nums (l : List Nat) : List (List DV) := l.map fun (n : Nat) => [.v (.int .u64 (n : Int))]
def Proc.may (p : Proc) : Bool := decide (1 ≤ p.node ∧ p.node ≤ 10 ∧ 0 < p.inc)
theorem eqProcIn (d : Nat) (a b c e : Int) (w : World) : (Op.equalIn (d + 2) 24 (.agg #[.int .i64 a, .int .u64 b]) (.agg #[.int .i64 c, .int .u64 e])).run Try.prog w = .ok (a == c && b == e) w :=
  run_eqTwo (f0 := ⟨"Node", 3, 0, false, "", "", 0⟩) (f1 := ⟨"Inc", 22, 1, false, "", "", 8⟩) (by kernel_rfl) (by kernel_rfl) (by decide) (by decide) (run_partS w (by kernel_rfl) rfl) (run_partS w (by kernel_rfl) rfl) (run_partS w (by kernel_rfl) rfl) (run_partS w (by kernel_rfl) rfl)
    (run_eqInt w d (by kernel_rfl)) (run_eqInt w d (by kernel_rfl))
def idx {α : Type} [DecidableEq α] : List α → α → Nat → Int
  | [], _, _ => -1
  | x :: r, p, k => if x = p then (k : Int) else idx r p (k + 1)
theorem idx_at {α : Type} [DecidableEq α] {p : α} : ∀ {l : List α} {k i : Nat}, l[i]? = some p → (∀ j, j < i → l[j]? ≠ some p) → idx l p k = ((k + i : Nat) : Int)
  | [], _, _, h, _ => by simp at h
  | x :: r, k, 0, h, _ => by simp at h; simp [idx, h]
  | x :: r, k, i + 1, h, hb => by
    have h0 : x ≠ p := by have := hb 0 (by omega); simpa using this
    rw [idx, if_neg h0, idx_at (i := i) (by simpa using h) fun j hj => by simpa using hb (j + 1) (by omega)]
    congr 1; omega
theorem idx_none {α : Type} [DecidableEq α] {p : α} : ∀ {l : List α} {k : Nat}, (∀ j, j < l.length → l[j]? ≠ some p) → idx l p k = -1
  | [], _, _ => rfl
  | x :: r, k, h => by
    have h0 : x ≠ p := by have := h 0 (by simp); simpa using this
    rw [idx, if_neg h0]
    exact idx_none fun j hj => by simpa using h (j + 1) (by simpa using hj)
theorem iv {k : IntKind} {a b : Int} (h : a = b) : DV.v (.int k a) = .v (.int k b) := by rw [h]
theorem ext_of {α : Type} {a b : List α} (hl : a.length = b.length) (h : ∀ j, j < a.length → a[j]? = b[j]?) : a = b := by
  apply List.ext_getElem?
  intro j
  rcases Nat.lt_or_ge j a.length with hj | hj
  · exact h j hj
  · rw [List.getElem?_eq_none hj, List.getElem?_eq_none (by omega)]
theorem eqT {t : TypeId} {xs ys : List Value} {c c' : Bool} (e : EqAgg Try.prog t xs ys c) (h : c = c') : EqAgg Try.prog t xs ys c' := h ▸ e
theorem nums_at {l : List Nat} {i x : Nat} (h : l[i]? = some x) : (nums l)[i]? = some [.v (.int .u64 (x : Int))] := by simp [nums, h]
theorem eqProc (a b c d : Int) : EqAgg Try.prog 24 [.int .i64 a, .int .u64 b] [.int .i64 c, .int .u64 d] (a == c && b == d) := ⟨by kernel_rfl, fun w => eqProcIn 9998 a b c d w⟩
theorem eqProcD (x y : Proc) : EqAgg Try.prog 24 [.int .i64 x.node, .int .u64 (x.inc : Int)] [.int .i64 y.node, .int .u64 (y.inc : Int)] (decide (x = y)) := by
  have h := eqProc x.node x.inc y.node y.inc
  refine eqT h ?_
  cases x with | mk a b => cases y with | mk c d =>
  rw [Bool.eq_iff_iff]
  simp only [Bool.and_eq_true, beq_iff_eq, decide_eq_true_eq, Proc.mk.injEq]
  omega
set_option maxRecDepth 100000 in
theorem procMay (p : Proc) : Con Try.prog 63 [.ag [.z p.node, .u p.inc]] (DV.v (.bool p.may)) := by
  refine Con.intro (by kernel_rfl) rfl rfl 16 rfl rfl fun w0 K ac hK r => ?_
  cases h0 : (decide ((1 : Int) ≤ p.node)) with
  | false =>
    have qh0 := of_decide_eq_false h0
    rw [show (DV.v (.bool p.may) : DV) = .v (.bool false) from (bv (by simp [Proc.may]; omega))]
    exact toRet tb_ok mixed_ok hK rfl [(1, [(2, .b false)])] 2000 r (by kernel_rfl) (an h0 trivial)
  | true =>
    have qh0 := of_decide_eq_true h0
    cases h1 : (decide ((p.node : Int) ≤ 10)) with
    | false =>
      have qh1 := of_decide_eq_false h1
      rw [show (DV.v (.bool p.may) : DV) = .v (.bool false) from (bv (by simp [Proc.may]; omega))]
      exact toRet tb_ok mixed_ok hK rfl [(1, [(2, .b true), (6, .b false)])] 2000 r (by kernel_rfl) (an h0 (an h1 trivial))
    | true =>
      have qh1 := of_decide_eq_true h1
      cases h2 : (decide ((0 : Int) < ((p.inc : Nat) : Int))) with
      | false =>
        have qh2 := of_decide_eq_false h2
        rw [show (DV.v (.bool p.may) : DV) = .v (.bool false) from (bv (by simp [Proc.may]; omega))]
        exact toRet tb_ok mixed_ok hK rfl [(1, [(2, .b true), (6, .b true), (11, .b false)])] 2000 r (by kernel_rfl) (an h0 (an h1 (an h2 trivial)))
      | true =>
        have qh2 := of_decide_eq_true h2
        rw [show (DV.v (.bool p.may) : DV) = .v (.bool true) from (bv (by simp [Proc.may]; omega))]
        exact toRet tb_ok mixed_ok hK rfl [(1, [(2, .b true), (6, .b true), (11, .b true)])] 2000 r (by kernel_rfl) (an h0 (an h1 (an h2 trivial)))
set_option maxRecDepth 100000 in
theorem refProcMay (p : Proc) : Con Try.prog 57 [.ag [.z p.node, .u p.inc]] (DV.v (.bool p.may)) := by
  refine Con.intro (by kernel_rfl) rfl rfl 16 rfl rfl fun w0 K ac hK r => ?_
  cases h0 : (decide ((1 : Int) ≤ p.node)) with
  | false =>
    have qh0 := of_decide_eq_false h0
    rw [show (DV.v (.bool p.may) : DV) = .v (.bool false) from (bv (by simp [Proc.may]; omega))]
    exact toRet tb_ok mixed_ok hK rfl [(1, [(2, .b false)])] 2000 r (by kernel_rfl) (an h0 trivial)
  | true =>
    have qh0 := of_decide_eq_true h0
    cases h1 : (decide ((p.node : Int) ≤ 10)) with
    | false =>
      have qh1 := of_decide_eq_false h1
      rw [show (DV.v (.bool p.may) : DV) = .v (.bool false) from (bv (by simp [Proc.may]; omega))]
      exact toRet tb_ok mixed_ok hK rfl [(1, [(2, .b true), (6, .b false)])] 2000 r (by kernel_rfl) (an h0 (an h1 trivial))
    | true =>
      have qh1 := of_decide_eq_true h1
      cases h2 : ((((p.inc : Nat) : Int) : Int) != 0) with
      | false =>
        have qh2 := eq_of_bne h2
        rw [show (DV.v (.bool p.may) : DV) = .v (.bool false) from (bv (by simp [Proc.may]; omega))]
        exact toRet tb_ok mixed_ok hK rfl [(1, [(2, .b true), (6, .b true), (11, .b false)])] 2000 r (by kernel_rfl) (an h0 (an h1 (an h2 trivial)))
      | true =>
        have qh2 : ¬ _ = _ := bne_iff_ne.1 h2
        rw [show (DV.v (.bool p.may) : DV) = .v (.bool true) from (bv (by simp [Proc.may]; omega))]
        exact toRet tb_ok mixed_ok hK rfl [(1, [(2, .b true), (6, .b true), (11, .b true)])] 2000 r (by kernel_rfl) (an h0 (an h1 (an h2 trivial)))
set_option maxRecDepth 100000 in
theorem equalProcs (a b : List Proc) (hb : a.length < 2147483648) : Con Try.prog 66 [.d (.ro 2 (procs a)), .d (.ro 2 (procs b))] (DV.v (.bool (decide (a = b)))) := by
  refine Con.intro (by kernel_rfl) rfl rfl 26 rfl rfl fun w0 K ac hK r => ?_
  cases h0 : ((((a.length : Nat) : Int) : Int) != ((b.length : Nat) : Int)) with
  | false =>
    have qh0 := eq_of_bne h0
    refine toHead (todo' := hd Try.f66 0) (E' := [(0, .d (.ro 2 (procs a))), (1, .d (.ro 2 (procs b))), (12, .n a.length), (13, .n 0)]) (M' := []) tb_ok mixed_ok hK [(1, [(1, .z (((a.length : Nat) : Int))), (3, .z (((b.length : Nat) : Int))), (4, .b false)]), (3, [(1, .z (((a.length : Nat) : Int)))])] 2000 [] [0, 1, 12, 13] r (by kernel_rfl) (an ((by simp) : (((procs a).length : Nat) : Int) = ((a.length : Nat) : Int)) (an ((by simp) : (((procs b).length : Nat) : Int) = ((b.length : Nat) : Int)) (an h0 (an ((by simp) : (((procs a).length : Nat) : Int) = ((a.length : Nat) : Int)) trivial)))) fun ac wd r => ?_
    refine Goes.rounds (Φ := fun (i : Nat) ac wd => (i ≤ a.length ∧ ∀ j, j < i → a[j]? = b[j]?) ∧ RE' [] w0 K 26 [(0, .d (.ro 2 (procs a))), (1, .d (.ro 2 (procs b))), (12, .n a.length), (13, .n i)] [] ac wd) (a.length) ?_ (Nat.zero_le _) ⟨⟨by omega, by omega⟩, r⟩
    clear r
    rintro i hi0 again0 ac wd ⟨hv0, r⟩
    obtain ⟨hi1, hv0⟩ := hv0
    cases h1 : (decide ((((i : Nat) : Int) : Int) < ((a.length : Nat) : Int))) with
    | false =>
      have qh1 := of_decide_eq_false h1
      rw [show (DV.v (.bool (decide (a = b))) : DV) = .v (.bool true) from (bv (by first | (simp; intro e; subst e; simp_all; done) | (simp; exact ext_of (by omega) fun j hj => hv0 j (by omega))))]
      exact toRet tb_ok mixed_ok hK rfl [(4, [(0, .b false)])] 2000 r (by kernel_rfl) (an h1 trivial)
    | true =>
      have qh1 := of_decide_eq_true h1
      obtain ⟨e_a_i, ge_a_i⟩ : ∃ x, a[i]? = some x := ⟨_, List.getElem?_eq_getElem (by omega)⟩
      obtain ⟨e_b_i, ge_b_i⟩ : ∃ x, b[i]? = some x := ⟨_, List.getElem?_eq_getElem (by omega)⟩
      cases h2 : (decide (e_a_i = e_b_i)) with
      | false =>
        have qh2 := of_decide_eq_false h2
        rw [show (DV.v (.bool (decide (a = b))) : DV) = .v (.bool false) from (bv (by first | (simp; intro e; subst e; simp_all; done) | (simp; exact ext_of (by omega) fun j hj => hv0 j (by omega))))]
        exact toRet tb_ok mixed_ok hK rfl [(4, [(0, .b true)]), (6, [(2, .ix (i) [.z e_a_i.node, .u e_a_i.inc]), (6, .ix (i) [.z e_b_i.node, .u e_b_i.inc]), (8, .b false)])] 2000 r (by kernel_rfl) (an h1 (an (rfI ((i : Nat) : Int)) (an (procs_at ge_a_i) (an (rfI ((i : Nat) : Int)) (an (procs_at ge_b_i) (an ((eqT (eqProcD _ _) h2) : EqAgg Try.prog 24 [(.int .i64 (e_a_i.node)), (.int .u64 (((e_a_i.inc : Nat) : Int)))] [(.int .i64 (e_b_i.node)), (.int .u64 (((e_b_i.inc : Nat) : Int)))] false) trivial))))))
      | true =>
        have qh2 := of_decide_eq_true h2
        exact toHead (todo' := hd Try.f66 0) tb_ok mixed_ok hK [(4, [(0, .b true)]), (6, [(2, .ix (i) [.z e_a_i.node, .u e_a_i.inc]), (6, .ix (i) [.z e_b_i.node, .u e_b_i.inc]), (8, .b true)]), (8, [(0, .z (((i + 1 : Nat) : Int)))])] 2000 [] [0, 1, 12, 13] r (by kernel_rfl) (an h1 (an (rfI ((i : Nat) : Int)) (an (procs_at ge_a_i) (an (rfI ((i : Nat) : Int)) (an (procs_at ge_b_i) (an ((eqT (eqProcD _ _) h2) : EqAgg Try.prog 24 [(.int .i64 (e_a_i.node)), (.int .u64 (((e_a_i.inc : Nat) : Int)))] [(.int .i64 (e_b_i.node)), (.int .u64 (((e_b_i.inc : Nat) : Int)))] true) (an ((wi (by omega)) : IntKind.i64.wrap ((((i : Nat) : Int) : Int) + 1) = ((i + 1 : Nat) : Int)) trivial))))))) fun ac wd r => again0 (by omega) ac wd ⟨⟨by omega, fun j hj => by rcases Nat.lt_succ_iff_lt_or_eq.1 hj with h | rfl; exact hv0 j h; simp only [ge_a_i, ge_b_i, Option.some.injEq]; first | assumption | omega⟩, r⟩
  | true =>
    have qh0 : ¬ _ = _ := bne_iff_ne.1 h0
    rw [show (DV.v (.bool (decide (a = b))) : DV) = .v (.bool false) from (bv (by first | (simp; intro e; subst e; simp_all; done) | (simp; exact ext_of (by omega) fun j hj => hv0 j (by omega))))]
    exact toRet tb_ok mixed_ok hK rfl [(1, [(1, .z (((a.length : Nat) : Int))), (3, .z (((b.length : Nat) : Int))), (4, .b true)])] 2000 r (by kernel_rfl) (an ((by simp) : (((procs a).length : Nat) : Int) = ((a.length : Nat) : Int)) (an ((by simp) : (((procs b).length : Nat) : Int) = ((b.length : Nat) : Int)) (an h0 trivial)))
set_option maxRecDepth 100000 in
theorem equalNums (a b : List Nat) (hb : a.length < 2147483648) : Con Try.prog 68 [.d (.ro 1 (nums a)), .d (.ro 1 (nums b))] (DV.v (.bool (decide (a = b)))) := by
  refine Con.intro (by kernel_rfl) rfl rfl 26 rfl rfl fun w0 K ac hK r => ?_
  cases h0 : ((((a.length : Nat) : Int) : Int) != ((b.length : Nat) : Int)) with
  | false =>
    have qh0 := eq_of_bne h0
    refine toHead (todo' := hd Try.f68 0) (E' := [(0, .d (.ro 1 (nums a))), (1, .d (.ro 1 (nums b))), (12, .n a.length), (13, .n 0)]) (M' := []) tb_ok mixed_ok hK [(1, [(1, .z (((a.length : Nat) : Int))), (3, .z (((b.length : Nat) : Int))), (4, .b false)]), (3, [(1, .z (((a.length : Nat) : Int)))])] 2000 [] [0, 1, 12, 13] r (by kernel_rfl) (an ((by simp) : (((nums a).length : Nat) : Int) = ((a.length : Nat) : Int)) (an ((by simp) : (((nums b).length : Nat) : Int) = ((b.length : Nat) : Int)) (an h0 (an ((by simp) : (((nums a).length : Nat) : Int) = ((a.length : Nat) : Int)) trivial)))) fun ac wd r => ?_
    refine Goes.rounds (Φ := fun (i : Nat) ac wd => (i ≤ a.length ∧ ∀ j, j < i → a[j]? = b[j]?) ∧ RE' [] w0 K 26 [(0, .d (.ro 1 (nums a))), (1, .d (.ro 1 (nums b))), (12, .n a.length), (13, .n i)] [] ac wd) (a.length) ?_ (Nat.zero_le _) ⟨⟨by omega, by omega⟩, r⟩
    clear r
    rintro i hi0 again0 ac wd ⟨hv0, r⟩
    obtain ⟨hi1, hv0⟩ := hv0
    cases h1 : (decide ((((i : Nat) : Int) : Int) < ((a.length : Nat) : Int))) with
    | false =>
      have qh1 := of_decide_eq_false h1
      rw [show (DV.v (.bool (decide (a = b))) : DV) = .v (.bool true) from (bv (by first | (simp; intro e; subst e; simp_all; done) | (simp; exact ext_of (by omega) fun j hj => hv0 j (by omega))))]
      exact toRet tb_ok mixed_ok hK rfl [(4, [(0, .b false)])] 2000 r (by kernel_rfl) (an h1 trivial)
    | true =>
      have qh1 := of_decide_eq_true h1
      obtain ⟨e_a_i, ge_a_i⟩ : ∃ x, a[i]? = some x := ⟨_, List.getElem?_eq_getElem (by omega)⟩
      obtain ⟨e_b_i, ge_b_i⟩ : ∃ x, b[i]? = some x := ⟨_, List.getElem?_eq_getElem (by omega)⟩
      cases h2 : ((((e_a_i : Nat) : Int) : Int) != ((e_b_i : Nat) : Int)) with
      | false =>
        have qh2 := eq_of_bne h2
        exact toHead (todo' := hd Try.f68 0) tb_ok mixed_ok hK [(4, [(0, .b true)]), (6, [(2, .ix (i) [.u e_a_i]), (6, .ix (i) [.u e_b_i]), (8, .b false)]), (8, [(0, .z (((i + 1 : Nat) : Int)))])] 2000 [] [0, 1, 12, 13] r (by kernel_rfl) (an h1 (an (rfI ((i : Nat) : Int)) (an (nums_at ge_a_i) (an (rfI ((i : Nat) : Int)) (an (nums_at ge_b_i) (an h2 (an ((wi (by omega)) : IntKind.i64.wrap ((((i : Nat) : Int) : Int) + 1) = ((i + 1 : Nat) : Int)) trivial))))))) fun ac wd r => again0 (by omega) ac wd ⟨⟨by omega, fun j hj => by rcases Nat.lt_succ_iff_lt_or_eq.1 hj with h | rfl; exact hv0 j h; simp only [ge_a_i, ge_b_i, Option.some.injEq]; first | assumption | omega⟩, r⟩
      | true =>
        have qh2 : ¬ _ = _ := bne_iff_ne.1 h2
        rw [show (DV.v (.bool (decide (a = b))) : DV) = .v (.bool false) from (bv (by first | (simp; intro e; subst e; simp_all; done) | (simp; exact ext_of (by omega) fun j hj => hv0 j (by omega))))]
        exact toRet tb_ok mixed_ok hK rfl [(4, [(0, .b true)]), (6, [(2, .ix (i) [.u e_a_i]), (6, .ix (i) [.u e_b_i]), (8, .b true)])] 2000 r (by kernel_rfl) (an h1 (an (rfI ((i : Nat) : Int)) (an (nums_at ge_a_i) (an (rfI ((i : Nat) : Int)) (an (nums_at ge_b_i) (an h2 trivial))))))
  | true =>
    have qh0 : ¬ _ = _ := bne_iff_ne.1 h0
    rw [show (DV.v (.bool (decide (a = b))) : DV) = .v (.bool false) from (bv (by first | (simp; intro e; subst e; simp_all; done) | (simp; exact ext_of (by omega) fun j hj => hv0 j (by omega))))]
    exact toRet tb_ok mixed_ok hK rfl [(1, [(1, .z (((a.length : Nat) : Int))), (3, .z (((b.length : Nat) : Int))), (4, .b true)])] 2000 r (by kernel_rfl) (an ((by simp) : (((nums a).length : Nat) : Int) = ((a.length : Nat) : Int)) (an ((by simp) : (((nums b).length : Nat) : Int) = ((b.length : Nat) : Int)) (an h0 trivial)))
set_option maxRecDepth 100000 in
theorem refEqual (a b : List Proc) (hb : a.length < 2147483648) : Con Try.prog 48 [.d (.ro 2 (procs a)), .d (.ro 2 (procs b))] (DV.v (.bool (decide (a = b)))) := by
  refine Con.intro (by kernel_rfl) rfl rfl 26 rfl rfl fun w0 K ac hK r => ?_
  cases h0 : ((((a.length : Nat) : Int) : Int) != ((b.length : Nat) : Int)) with
  | false =>
    have qh0 := eq_of_bne h0
    refine toHead (todo' := hd Try.f48 0) (E' := [(0, .d (.ro 2 (procs a))), (1, .d (.ro 2 (procs b))), (5, .n 0)]) (M' := []) tb_ok mixed_ok hK [(1, [(1, .z (((a.length : Nat) : Int))), (3, .z (((b.length : Nat) : Int))), (4, .b false)])] 2000 [] [0, 1, 5] r (by kernel_rfl) (an ((by simp) : (((procs a).length : Nat) : Int) = ((a.length : Nat) : Int)) (an ((by simp) : (((procs b).length : Nat) : Int) = ((b.length : Nat) : Int)) (an h0 trivial))) fun ac wd r => ?_
    refine Goes.rounds (Φ := fun (i : Nat) ac wd => (i ≤ a.length ∧ ∀ j, j < i → a[j]? = b[j]?) ∧ RE' [] w0 K 26 [(0, .d (.ro 2 (procs a))), (1, .d (.ro 2 (procs b))), (5, .n i)] [] ac wd) (a.length) ?_ (Nat.zero_le _) ⟨⟨by omega, by omega⟩, r⟩
    clear r
    rintro i hi0 again0 ac wd ⟨hv0, r⟩
    obtain ⟨hi1, hv0⟩ := hv0
    cases h1 : (decide ((((i : Nat) : Int) : Int) < ((a.length : Nat) : Int))) with
    | false =>
      have qh1 := of_decide_eq_false h1
      rw [show (DV.v (.bool (decide (a = b))) : DV) = .v (.bool true) from (bv (by first | (simp; intro e; subst e; simp_all; done) | (simp; exact ext_of (by omega) fun j hj => hv0 j (by omega))))]
      exact toRet tb_ok mixed_ok hK rfl [(4, [(2, .z (((a.length : Nat) : Int))), (3, .b false)])] 2000 r (by kernel_rfl) (an ((by simp) : (((procs a).length : Nat) : Int) = ((a.length : Nat) : Int)) (an h1 trivial))
    | true =>
      have qh1 := of_decide_eq_true h1
      obtain ⟨e_a_i, ge_a_i⟩ : ∃ x, a[i]? = some x := ⟨_, List.getElem?_eq_getElem (by omega)⟩
      obtain ⟨e_b_i, ge_b_i⟩ : ∃ x, b[i]? = some x := ⟨_, List.getElem?_eq_getElem (by omega)⟩
      cases h2 : (decide (e_a_i = e_b_i)) with
      | false =>
        have qh2 := of_decide_eq_false h2
        rw [show (DV.v (.bool (decide (a = b))) : DV) = .v (.bool false) from (bv (by first | (simp; intro e; subst e; simp_all; done) | (simp; exact ext_of (by omega) fun j hj => hv0 j (by omega))))]
        exact toRet tb_ok mixed_ok hK rfl [(4, [(2, .z (((a.length : Nat) : Int))), (3, .b true)]), (6, [(2, .ix (i) [.z e_a_i.node, .u e_a_i.inc]), (6, .ix (i) [.z e_b_i.node, .u e_b_i.inc]), (8, .b false)])] 2000 r (by kernel_rfl) (an ((by simp) : (((procs a).length : Nat) : Int) = ((a.length : Nat) : Int)) (an h1 (an (rfI ((i : Nat) : Int)) (an (procs_at ge_a_i) (an (rfI ((i : Nat) : Int)) (an (procs_at ge_b_i) (an ((eqT (eqProcD _ _) h2) : EqAgg Try.prog 24 [(.int .i64 (e_a_i.node)), (.int .u64 (((e_a_i.inc : Nat) : Int)))] [(.int .i64 (e_b_i.node)), (.int .u64 (((e_b_i.inc : Nat) : Int)))] false) trivial)))))))
      | true =>
        have qh2 := of_decide_eq_true h2
        exact toHead (todo' := hd Try.f48 0) tb_ok mixed_ok hK [(4, [(2, .z (((a.length : Nat) : Int))), (3, .b true)]), (5, [(1, .z (((i + 1 : Nat) : Int)))]), (6, [(2, .ix (i) [.z e_a_i.node, .u e_a_i.inc]), (6, .ix (i) [.z e_b_i.node, .u e_b_i.inc]), (8, .b true)])] 2000 [] [0, 1, 5] r (by kernel_rfl) (an ((by simp) : (((procs a).length : Nat) : Int) = ((a.length : Nat) : Int)) (an h1 (an (rfI ((i : Nat) : Int)) (an (procs_at ge_a_i) (an (rfI ((i : Nat) : Int)) (an (procs_at ge_b_i) (an ((eqT (eqProcD _ _) h2) : EqAgg Try.prog 24 [(.int .i64 (e_a_i.node)), (.int .u64 (((e_a_i.inc : Nat) : Int)))] [(.int .i64 (e_b_i.node)), (.int .u64 (((e_b_i.inc : Nat) : Int)))] true) (an ((wi (by omega)) : IntKind.i64.wrap ((((i : Nat) : Int) : Int) + 1) = ((i + 1 : Nat) : Int)) trivial)))))))) fun ac wd r => again0 (by omega) ac wd ⟨⟨by omega, fun j hj => by rcases Nat.lt_succ_iff_lt_or_eq.1 hj with h | rfl; exact hv0 j h; simp only [ge_a_i, ge_b_i, Option.some.injEq]; first | assumption | omega⟩, r⟩
  | true =>
    have qh0 : ¬ _ = _ := bne_iff_ne.1 h0
    rw [show (DV.v (.bool (decide (a = b))) : DV) = .v (.bool false) from (bv (by first | (simp; intro e; subst e; simp_all; done) | (simp; exact ext_of (by omega) fun j hj => hv0 j (by omega))))]
    exact toRet tb_ok mixed_ok hK rfl [(1, [(1, .z (((a.length : Nat) : Int))), (3, .z (((b.length : Nat) : Int))), (4, .b true)])] 2000 r (by kernel_rfl) (an ((by simp) : (((procs a).length : Nat) : Int) = ((a.length : Nat) : Int)) (an ((by simp) : (((procs b).length : Nat) : Int) = ((b.length : Nat) : Int)) (an h0 trivial)))
set_option maxRecDepth 100000 in
theorem lawNumbers (a b : List Nat) (hb : a.length < 2147483648) : Con Try.prog 19 [.d (.ro 1 (nums a)), .d (.ro 1 (nums b))] (DV.v (.bool (decide (a = b)))) := by
  refine Con.intro (by kernel_rfl) rfl rfl 26 rfl rfl fun w0 K ac hK r => ?_
  cases h0 : ((((a.length : Nat) : Int) : Int) != ((b.length : Nat) : Int)) with
  | false =>
    have qh0 := eq_of_bne h0
    refine toHead (todo' := hd Try.f19 0) (E' := [(0, .d (.ro 1 (nums a))), (1, .d (.ro 1 (nums b))), (5, .n 0)]) (M' := []) tb_ok mixed_ok hK [(1, [(1, .z (((a.length : Nat) : Int))), (3, .z (((b.length : Nat) : Int))), (4, .b false)])] 2000 [] [0, 1, 5] r (by kernel_rfl) (an ((by simp) : (((nums a).length : Nat) : Int) = ((a.length : Nat) : Int)) (an ((by simp) : (((nums b).length : Nat) : Int) = ((b.length : Nat) : Int)) (an h0 trivial))) fun ac wd r => ?_
    refine Goes.rounds (Φ := fun (i : Nat) ac wd => (i ≤ a.length ∧ ∀ j, j < i → a[j]? = b[j]?) ∧ RE' [] w0 K 26 [(0, .d (.ro 1 (nums a))), (1, .d (.ro 1 (nums b))), (5, .n i)] [] ac wd) (a.length) ?_ (Nat.zero_le _) ⟨⟨by omega, by omega⟩, r⟩
    clear r
    rintro i hi0 again0 ac wd ⟨hv0, r⟩
    obtain ⟨hi1, hv0⟩ := hv0
    cases h1 : (decide ((((i : Nat) : Int) : Int) < ((a.length : Nat) : Int))) with
    | false =>
      have qh1 := of_decide_eq_false h1
      rw [show (DV.v (.bool (decide (a = b))) : DV) = .v (.bool true) from (bv (by first | (simp; intro e; subst e; simp_all; done) | (simp; exact ext_of (by omega) fun j hj => hv0 j (by omega))))]
      exact toRet tb_ok mixed_ok hK rfl [(4, [(2, .z (((a.length : Nat) : Int))), (3, .b false)])] 2000 r (by kernel_rfl) (an ((by simp) : (((nums a).length : Nat) : Int) = ((a.length : Nat) : Int)) (an h1 trivial))
    | true =>
      have qh1 := of_decide_eq_true h1
      obtain ⟨e_a_i, ge_a_i⟩ : ∃ x, a[i]? = some x := ⟨_, List.getElem?_eq_getElem (by omega)⟩
      obtain ⟨e_b_i, ge_b_i⟩ : ∃ x, b[i]? = some x := ⟨_, List.getElem?_eq_getElem (by omega)⟩
      cases h2 : ((((e_a_i : Nat) : Int) : Int) != ((e_b_i : Nat) : Int)) with
      | false =>
        have qh2 := eq_of_bne h2
        exact toHead (todo' := hd Try.f19 0) tb_ok mixed_ok hK [(4, [(2, .z (((a.length : Nat) : Int))), (3, .b true)]), (5, [(1, .z (((i + 1 : Nat) : Int)))]), (6, [(2, .ix (i) [.u e_a_i]), (6, .ix (i) [.u e_b_i]), (8, .b false)])] 2000 [] [0, 1, 5] r (by kernel_rfl) (an ((by simp) : (((nums a).length : Nat) : Int) = ((a.length : Nat) : Int)) (an h1 (an (rfI ((i : Nat) : Int)) (an (nums_at ge_a_i) (an (rfI ((i : Nat) : Int)) (an (nums_at ge_b_i) (an h2 (an ((wi (by omega)) : IntKind.i64.wrap ((((i : Nat) : Int) : Int) + 1) = ((i + 1 : Nat) : Int)) trivial)))))))) fun ac wd r => again0 (by omega) ac wd ⟨⟨by omega, fun j hj => by rcases Nat.lt_succ_iff_lt_or_eq.1 hj with h | rfl; exact hv0 j h; simp only [ge_a_i, ge_b_i, Option.some.injEq]; first | assumption | omega⟩, r⟩
      | true =>
        have qh2 : ¬ _ = _ := bne_iff_ne.1 h2
        rw [show (DV.v (.bool (decide (a = b))) : DV) = .v (.bool false) from (bv (by first | (simp; intro e; subst e; simp_all; done) | (simp; exact ext_of (by omega) fun j hj => hv0 j (by omega))))]
        exact toRet tb_ok mixed_ok hK rfl [(4, [(2, .z (((a.length : Nat) : Int))), (3, .b true)]), (6, [(2, .ix (i) [.u e_a_i]), (6, .ix (i) [.u e_b_i]), (8, .b true)])] 2000 r (by kernel_rfl) (an ((by simp) : (((nums a).length : Nat) : Int) = ((a.length : Nat) : Int)) (an h1 (an (rfI ((i : Nat) : Int)) (an (nums_at ge_a_i) (an (rfI ((i : Nat) : Int)) (an (nums_at ge_b_i) (an h2 trivial)))))))
  | true =>
    have qh0 : ¬ _ = _ := bne_iff_ne.1 h0
    rw [show (DV.v (.bool (decide (a = b))) : DV) = .v (.bool false) from (bv (by first | (simp; intro e; subst e; simp_all; done) | (simp; exact ext_of (by omega) fun j hj => hv0 j (by omega))))]
    exact toRet tb_ok mixed_ok hK rfl [(1, [(1, .z (((a.length : Nat) : Int))), (3, .z (((b.length : Nat) : Int))), (4, .b true)])] 2000 r (by kernel_rfl) (an ((by simp) : (((nums a).length : Nat) : Int) = ((a.length : Nat) : Int)) (an ((by simp) : (((nums b).length : Nat) : Int) = ((b.length : Nat) : Int)) (an h0 trivial)))
set_option maxRecDepth 100000 in
theorem indexProcs (l : List Proc) (p : Proc) (hb : l.length < 2147483648) : Con Try.prog 44 [.d (.ro 2 (procs l)), .ag [.z p.node, .u p.inc]] (DV.v (.int .i64 (idx l p 0))) := by
  refine Con.intro (by kernel_rfl) rfl rfl 19 rfl rfl fun w0 K ac hK r => ?_
  refine toHead (todo' := hd Try.f44 0) (E' := [(0, .d (.ro 2 (procs l))), (3, .pt 0 0), (7, .n l.length), (8, .n 0)]) (M' := [.bx 24 [.z p.node, .u p.inc]]) tb_ok mixed_ok hK [(1, [(1, .z (((l.length : Nat) : Int)))])] 2000 [0] [0, 3, 7, 8] r (by kernel_rfl) (an ((by simp) : (((procs l).length : Nat) : Int) = ((l.length : Nat) : Int)) trivial) fun ac wd r => ?_
  refine Goes.rounds (Φ := fun (i : Nat) ac wd => (i ≤ l.length ∧ ∀ j, j < i → l[j]? ≠ some p) ∧ RE' [] w0 K 19 [(0, .d (.ro 2 (procs l))), (3, .pt 0 0), (7, .n l.length), (8, .n i)] [.bx 24 [.z p.node, .u p.inc]] ac wd) (l.length) ?_ (Nat.zero_le _) ⟨⟨by omega, by omega⟩, r⟩
  clear r
  rintro i hi0 again0 ac wd ⟨hv0, r⟩
  obtain ⟨hi1, hv0⟩ := hv0
  cases h0 : (decide ((((i : Nat) : Int) : Int) < ((l.length : Nat) : Int))) with
  | false =>
    have qh0 := of_decide_eq_false h0
    rw [show (DV.v (.int .i64 (idx l p 0)) : DV) = .z (-1) from (iv (by first | (rw [idx_at (i := i) (by rw [ge_l_i]; congr 1; first | (symm; assumption) | omega) (fun j hj => hv0 j hj)]; simp; done) | exact idx_none fun j hj => hv0 j (by omega)))]
    exact toRet tb_ok mixed_ok hK rfl [(2, [(0, .b false)])] 2000 r (by kernel_rfl) (an h0 trivial)
  | true =>
    have qh0 := of_decide_eq_true h0
    obtain ⟨e_l_i, ge_l_i⟩ : ∃ x, l[i]? = some x := ⟨_, List.getElem?_eq_getElem (by omega)⟩
    cases h1 : (decide (p = e_l_i)) with
    | false =>
      have qh1 := of_decide_eq_false h1
      exact toHead (todo' := hd Try.f44 0) tb_ok mixed_ok hK [(2, [(0, .b true)]), (4, [(3, .ix (i) [.z e_l_i.node, .u e_l_i.inc]), (5, .b false)]), (6, [(0, .z (((i + 1 : Nat) : Int)))])] 2000 [0] [0, 3, 7, 8] r (by kernel_rfl) (an h0 (an (rfI ((i : Nat) : Int)) (an (procs_at ge_l_i) (an ((eqT (eqProcD _ _) h1) : EqAgg Try.prog 24 [(.int .i64 (p.node)), (.int .u64 (((p.inc : Nat) : Int)))] [(.int .i64 (e_l_i.node)), (.int .u64 (((e_l_i.inc : Nat) : Int)))] false) (an ((wi (by omega)) : IntKind.i64.wrap ((((i : Nat) : Int) : Int) + 1) = ((i + 1 : Nat) : Int)) trivial))))) fun ac wd r => again0 (by omega) ac wd ⟨⟨by omega, fun j hj => by rcases Nat.lt_succ_iff_lt_or_eq.1 hj with h | rfl; exact hv0 j h; simp only [ge_l_i, Option.some.injEq, ne_eq]; intro e; first | omega | simp_all⟩, r⟩
    | true =>
      have qh1 := of_decide_eq_true h1
      rw [show (DV.v (.int .i64 (idx l p 0)) : DV) = .n i from (iv (by first | (rw [idx_at (i := i) (by rw [ge_l_i]; congr 1; first | (symm; assumption) | omega) (fun j hj => hv0 j hj)]; simp; done) | exact idx_none fun j hj => hv0 j (by omega)))]
      exact toRet tb_ok mixed_ok hK rfl [(2, [(0, .b true)]), (4, [(3, .ix (i) [.z e_l_i.node, .u e_l_i.inc]), (5, .b true)])] 2000 r (by kernel_rfl) (an h0 (an (rfI ((i : Nat) : Int)) (an (procs_at ge_l_i) (an ((eqT (eqProcD _ _) h1) : EqAgg Try.prog 24 [(.int .i64 (p.node)), (.int .u64 (((p.inc : Nat) : Int)))] [(.int .i64 (e_l_i.node)), (.int .u64 (((e_l_i.inc : Nat) : Int)))] true) trivial))))
set_option maxRecDepth 100000 in
theorem indexNums (l : List Nat) (x : Nat) (hb : l.length < 2147483648) : Con Try.prog 73 [.d (.ro 1 (nums l)), .u x] (DV.v (.int .i64 (idx l x 0))) := by
  refine Con.intro (by kernel_rfl) rfl rfl 19 rfl rfl fun w0 K ac hK r => ?_
  refine toHead (todo' := hd Try.f73 0) (E' := [(0, .d (.ro 1 (nums l))), (1, .u x), (7, .n l.length), (8, .n 0)]) (M' := []) tb_ok mixed_ok hK [(1, [(1, .z (((l.length : Nat) : Int)))])] 2000 [] [0, 1, 7, 8] r (by kernel_rfl) (an ((by simp) : (((nums l).length : Nat) : Int) = ((l.length : Nat) : Int)) trivial) fun ac wd r => ?_
  refine Goes.rounds (Φ := fun (i : Nat) ac wd => (i ≤ l.length ∧ ∀ j, j < i → l[j]? ≠ some x) ∧ RE' [] w0 K 19 [(0, .d (.ro 1 (nums l))), (1, .u x), (7, .n l.length), (8, .n i)] [] ac wd) (l.length) ?_ (Nat.zero_le _) ⟨⟨by omega, by omega⟩, r⟩
  clear r
  rintro i hi0 again0 ac wd ⟨hv0, r⟩
  obtain ⟨hi1, hv0⟩ := hv0
  cases h0 : (decide ((((i : Nat) : Int) : Int) < ((l.length : Nat) : Int))) with
  | false =>
    have qh0 := of_decide_eq_false h0
    rw [show (DV.v (.int .i64 (idx l x 0)) : DV) = .z (-1) from (iv (by first | (rw [idx_at (i := i) (by rw [ge_l_i]; congr 1; first | (symm; assumption) | omega) (fun j hj => hv0 j hj)]; simp; done) | exact idx_none fun j hj => hv0 j (by omega)))]
    exact toRet tb_ok mixed_ok hK rfl [(2, [(0, .b false)])] 2000 r (by kernel_rfl) (an h0 trivial)
  | true =>
    have qh0 := of_decide_eq_true h0
    obtain ⟨e_l_i, ge_l_i⟩ : ∃ x, l[i]? = some x := ⟨_, List.getElem?_eq_getElem (by omega)⟩
    cases h1 : ((((x : Nat) : Int) : Int) == ((e_l_i : Nat) : Int)) with
    | false =>
      have qh1 := ne_of_beq_false h1
      exact toHead (todo' := hd Try.f73 0) tb_ok mixed_ok hK [(2, [(0, .b true)]), (4, [(3, .ix (i) [.u e_l_i]), (5, .b false)]), (6, [(0, .z (((i + 1 : Nat) : Int)))])] 2000 [] [0, 1, 7, 8] r (by kernel_rfl) (an h0 (an (rfI ((i : Nat) : Int)) (an (nums_at ge_l_i) (an h1 (an ((wi (by omega)) : IntKind.i64.wrap ((((i : Nat) : Int) : Int) + 1) = ((i + 1 : Nat) : Int)) trivial))))) fun ac wd r => again0 (by omega) ac wd ⟨⟨by omega, fun j hj => by rcases Nat.lt_succ_iff_lt_or_eq.1 hj with h | rfl; exact hv0 j h; simp only [ge_l_i, Option.some.injEq, ne_eq]; intro e; first | omega | simp_all⟩, r⟩
    | true =>
      have qh1 := eq_of_beq h1
      rw [show (DV.v (.int .i64 (idx l x 0)) : DV) = .n i from (iv (by first | (rw [idx_at (i := i) (by rw [ge_l_i]; congr 1; first | (symm; assumption) | omega) (fun j hj => hv0 j hj)]; simp; done) | exact idx_none fun j hj => hv0 j (by omega)))]
      exact toRet tb_ok mixed_ok hK rfl [(2, [(0, .b true)]), (4, [(3, .ix (i) [.u e_l_i]), (5, .b true)])] 2000 r (by kernel_rfl) (an h0 (an (rfI ((i : Nat) : Int)) (an (nums_at ge_l_i) (an h1 trivial))))
def cmpI (a b : Int) : Int := if a < b then -1 else if b < a then 1 else 0
def Proc.cmp (p q : Proc) : Int := if cmpI p.node q.node ≠ 0 then cmpI p.node q.node else cmpI p.inc q.inc
def Proc.lt (p q : Proc) : Bool := decide (p.node < q.node ∨ p.node = q.node ∧ p.inc < q.inc)
theorem cmp_lt (p q : Proc) : (decide (0 ≤ p.cmp q)) = !p.lt q := by
  unfold Proc.cmp Proc.lt cmpI
  rw [Bool.eq_iff_iff]
  simp only [decide_eq_true_eq, Bool.not_eq_true', decide_eq_false_iff_not]
  repeat' split
  all_goals omega
set_option maxRecDepth 100000 in
theorem cmpInt (a b : Int) : Con Try.prog 77 [.z a, .z b] (DV.v (.int .i64 (cmpI a b))) := by
  refine Con.intro (by kernel_rfl) rfl rfl 20 rfl rfl fun w0 K ac hK r => ?_
  cases h0 : (decide ((a : Int) < b)) with
  | false =>
    have qh0 := of_decide_eq_false h0
    cases h1 : (decide ((b : Int) < a)) with
    | false =>
      have qh1 := of_decide_eq_false h1
      rw [show (DV.v (.int .i64 (cmpI a b)) : DV) = .z 0 from (iv (by unfold cmpI; (repeat' split) <;> omega))]
      exact toRet tb_ok mixed_ok hK rfl [(1, [(1, .into 200 [(1, [(2, .b false)])])]), (2, [(1, .into 200 [(1, [(2, .b false)])])]), (9, [(2, .b false)]), (11, [(2, .b false)])] 2000 r (by kernel_rfl) (an ((by simp) : ((a : Int) != a) = false) (an ((by simp) : ((b : Int) != b) = false) (an h0 (an h1 trivial))))
    | true =>
      have qh1 := of_decide_eq_true h1
      rw [show (DV.v (.int .i64 (cmpI a b)) : DV) = .z 1 from (iv (by unfold cmpI; (repeat' split) <;> omega))]
      exact toRet tb_ok mixed_ok hK rfl [(1, [(1, .into 200 [(1, [(2, .b false)])])]), (2, [(1, .into 200 [(1, [(2, .b false)])])]), (9, [(2, .b false)]), (11, [(2, .b true)])] 2000 r (by kernel_rfl) (an ((by simp) : ((a : Int) != a) = false) (an ((by simp) : ((b : Int) != b) = false) (an h0 (an h1 trivial))))
  | true =>
    have qh0 := of_decide_eq_true h0
    rw [show (DV.v (.int .i64 (cmpI a b)) : DV) = .z (-1) from (iv (by unfold cmpI; (repeat' split) <;> omega))]
    exact toRet tb_ok mixed_ok hK rfl [(1, [(1, .into 200 [(1, [(2, .b false)])])]), (2, [(1, .into 200 [(1, [(2, .b false)])])]), (9, [(2, .b true)])] 2000 r (by kernel_rfl) (an ((by simp) : ((a : Int) != a) = false) (an ((by simp) : ((b : Int) != b) = false) (an h0 trivial)))
set_option maxRecDepth 100000 in
theorem cmpUint (a b : Int) : Con Try.prog 79 [.d (.v (.int .u64 (a))), .d (.v (.int .u64 (b)))] (DV.v (.int .i64 (cmpI a b))) := by
  refine Con.intro (by kernel_rfl) rfl rfl 20 rfl rfl fun w0 K ac hK r => ?_
  cases h0 : (decide ((a : Int) < b)) with
  | false =>
    have qh0 := of_decide_eq_false h0
    cases h1 : (decide ((b : Int) < a)) with
    | false =>
      have qh1 := of_decide_eq_false h1
      rw [show (DV.v (.int .i64 (cmpI a b)) : DV) = .z 0 from (iv (by unfold cmpI; (repeat' split) <;> omega))]
      exact toRet tb_ok mixed_ok hK rfl [(1, [(1, .into 200 [(1, [(2, .b false)])])]), (2, [(1, .into 200 [(1, [(2, .b false)])])]), (9, [(2, .b false)]), (11, [(2, .b false)])] 2000 r (by kernel_rfl) (an ((by simp) : ((a : Int) != a) = false) (an ((by simp) : ((b : Int) != b) = false) (an h0 (an h1 trivial))))
    | true =>
      have qh1 := of_decide_eq_true h1
      rw [show (DV.v (.int .i64 (cmpI a b)) : DV) = .z 1 from (iv (by unfold cmpI; (repeat' split) <;> omega))]
      exact toRet tb_ok mixed_ok hK rfl [(1, [(1, .into 200 [(1, [(2, .b false)])])]), (2, [(1, .into 200 [(1, [(2, .b false)])])]), (9, [(2, .b false)]), (11, [(2, .b true)])] 2000 r (by kernel_rfl) (an ((by simp) : ((a : Int) != a) = false) (an ((by simp) : ((b : Int) != b) = false) (an h0 (an h1 trivial))))
  | true =>
    have qh0 := of_decide_eq_true h0
    rw [show (DV.v (.int .i64 (cmpI a b)) : DV) = .z (-1) from (iv (by unfold cmpI; (repeat' split) <;> omega))]
    exact toRet tb_ok mixed_ok hK rfl [(1, [(1, .into 200 [(1, [(2, .b false)])])]), (2, [(1, .into 200 [(1, [(2, .b false)])])]), (9, [(2, .b true)])] 2000 r (by kernel_rfl) (an ((by simp) : ((a : Int) != a) = false) (an ((by simp) : ((b : Int) != b) = false) (an h0 trivial)))
set_option maxRecDepth 100000 in
theorem procCompare (p q : Proc) : Con Try.prog 69 [.ag [.z p.node, .u p.inc], .ag [.z q.node, .u q.inc]] (DV.v (.int .i64 (p.cmp q))) := by
  refine Con.intro (by kernel_rfl) rfl rfl 14 rfl rfl fun w0 K ac hK r => ?_
  cases h0 : ((cmpI (p.node) (q.node) : Int) != 0) with
  | false =>
    have qh0 := eq_of_bne h0
    rw [show (DV.v (.int .i64 (p.cmp q)) : DV) = .z (cmpI (((p.inc : Nat) : Int)) (((q.inc : Nat) : Int))) from (iv (by unfold Proc.cmp; simp_all))]
    exact toRet tb_ok mixed_ok hK rfl [(2, [(5, .con (.z (cmpI (p.node) (q.node)))), (7, .into 200 [(1, [(1, .b false)]), (3, [(1, .into 200 [(1, [(4, .con (.z (cmpI (((p.inc : Nat) : Int)) (((q.inc : Nat) : Int)))))])])])])])] 2000 r (by kernel_rfl) (an (cmpInt _ _ : Con Try.prog 77 [.z p.node, .z q.node] (.z (cmpI (p.node) (q.node)))) (an h0 (an (cmpUint _ _ : Con Try.prog 79 [.u p.inc, .u q.inc] (.z (cmpI (((p.inc : Nat) : Int)) (((q.inc : Nat) : Int))))) trivial)))
  | true =>
    have qh0 : ¬ _ = _ := bne_iff_ne.1 h0
    rw [show (DV.v (.int .i64 (p.cmp q)) : DV) = .z (cmpI (p.node) (q.node)) from (iv (by unfold Proc.cmp; simp_all))]
    exact toRet tb_ok mixed_ok hK rfl [(2, [(5, .con (.z (cmpI (p.node) (q.node)))), (7, .into 200 [(1, [(1, .b true)])])])] 2000 r (by kernel_rfl) (an (cmpInt _ _ : Con Try.prog 77 [.z p.node, .z q.node] (.z (cmpI (p.node) (q.node)))) (an h0 trivial))
set_option maxRecDepth 100000 in
theorem refBefore (p q : Proc) : Con Try.prog 74 [.ag [.z p.node, .u p.inc], .ag [.z q.node, .u q.inc]] (DV.v (.bool (p.lt q))) := by
  refine Con.intro (by kernel_rfl) rfl rfl 24 rfl rfl fun w0 K ac hK r => ?_
  cases h0 : (decide ((p.node : Int) < q.node)) with
  | false =>
    have qh0 := of_decide_eq_false h0
    cases h1 : ((p.node : Int) == q.node) with
    | false =>
      have qh1 := ne_of_beq_false h1
      rw [show (DV.v (.bool (p.lt q)) : DV) = .v (.bool false) from (bv (by simp [Proc.lt]; omega))]
      exact toRet tb_ok mixed_ok hK rfl [(1, [(4, .b false), (10, .b false)])] 2000 r (by kernel_rfl) (an h0 (an h1 trivial))
    | true =>
      have qh1 := eq_of_beq h1
      cases h2 : (decide ((((p.inc : Nat) : Int) : Int) < ((q.inc : Nat) : Int))) with
      | false =>
        have qh2 := of_decide_eq_false h2
        rw [show (DV.v (.bool (p.lt q)) : DV) = .v (.bool false) from (bv (by simp [Proc.lt]; omega))]
        exact toRet tb_ok mixed_ok hK rfl [(1, [(4, .b false), (10, .b true), (16, .b false)])] 2000 r (by kernel_rfl) (an h0 (an h1 (an h2 trivial)))
      | true =>
        have qh2 := of_decide_eq_true h2
        rw [show (DV.v (.bool (p.lt q)) : DV) = .v (.bool true) from (bv (by simp [Proc.lt]; omega))]
        exact toRet tb_ok mixed_ok hK rfl [(1, [(4, .b false), (10, .b true), (16, .b true)])] 2000 r (by kernel_rfl) (an h0 (an h1 (an h2 trivial)))
  | true =>
    have qh0 := of_decide_eq_true h0
    rw [show (DV.v (.bool (p.lt q)) : DV) = .v (.bool true) from (bv (by simp [Proc.lt]; omega))]
    exact toRet tb_ok mixed_ok hK rfl [(1, [(4, .b true)])] 2000 r (by kernel_rfl) (an h0 trivial)
end Go.Proofs.Ytoijfmfkkmbabaa
namespace Go.Proofs.Ytoijfmfkkmbabaa
open Go.RowKit
def SetTo (l : List Proc) (i : Nat) : Prop := (∀ j p, j < i → l[j]? = some p → p.may = true) ∧ ∀ j p q, j + 1 < i → l[j]? = some p → l[j + 1]? = some q → p.lt q = true
def ltAt (l : List Proc) (j : Nat) : Bool := match l[j]?, l[j + 1]? with | some p, some q => p.lt q | _, _ => true
def isSet (l : List Proc) : Bool := ((List.range l.length).all fun j => match l[j]? with | some p => p.may | none => true) && (List.range (l.length - 1)).all (ltAt l)
theorem isSet_iff (l : List Proc) : isSet l = true ↔ SetTo l l.length := by
  simp only [isSet, Bool.and_eq_true, List.all_eq_true, List.mem_range, SetTo]
  constructor
  · rintro ⟨h1, h2⟩
    refine ⟨fun j p hj hp => by have := h1 j hj; simpa [hp] using this, fun j p q hj hp hq => ?_⟩
    have := h2 j (by omega); simpa [ltAt, hp, hq] using this
  · rintro ⟨h1, h2⟩
    refine ⟨fun j hj => ?_, fun j hj => ?_⟩
    · rw [List.getElem?_eq_getElem hj]; exact h1 j _ hj (List.getElem?_eq_getElem hj)
    · have e1 : l[j]? = some l[j] := List.getElem?_eq_getElem (by omega)
      have e2 : l[j + 1]? = some l[j + 1] := List.getElem?_eq_getElem (by omega)
      simp only [ltAt, e1, e2]; exact h2 j _ _ (by omega) e1 e2
theorem isSet_yes {l : List Proc} (h : SetTo l l.length) : isSet l = true := (isSet_iff l).2 h
theorem isSet_no {l : List Proc} (h : ¬ SetTo l l.length) : isSet l = false := by
  cases hs : isSet l with
  | false => rfl
  | true => exact absurd ((isSet_iff l).1 hs) h
theorem SetTo.step {l : List Proc} {i : Nat} {p : Proc} (h : SetTo l i) (hp : l[i]? = some p) (hm : p.may = true) (hc : ∀ q, 0 < i → l[i - 1]? = some q → q.lt p = true) : SetTo l (i + 1) := by
  refine ⟨fun j q hj hq => ?_, fun j a b hj ha hb => ?_⟩
  · rcases Nat.lt_succ_iff_lt_or_eq.1 hj with h' | rfl
    · exact h.1 j q h' hq
    · rw [hp] at hq; cases hq; exact hm
  · rcases Nat.lt_succ_iff_lt_or_eq.1 hj with h' | h'
    · exact h.2 j a b h' ha hb
    · have : j = i - 1 := by omega
      subst this
      have hi : i - 1 + 1 = i := by omega
      rw [hi, hp] at hb; cases hb
      exact hc a (by omega) ha
theorem SetTo.no1 {l : List Proc} {i n : Nat} {p : Proc} (hp : l[i]? = some p) (hm : p.may = false) (hi : i < n) : ¬ SetTo l n := fun h => by have := h.1 i p hi hp; rw [hm] at this; cases this
theorem SetTo.no2 {l : List Proc} {i n : Nat} {p q : Proc} (hp : l[i]? = some p) (hq : l[i - 1]? = some q) (h0 : 0 < i) (hm : q.lt p = false) (hi : i < n) : ¬ SetTo l n := fun h => by
  have := h.2 (i - 1) q p (by omega) hq (by rw [show i - 1 + 1 = i by omega]; exact hp); rw [hm] at this; cases this
theorem lt_of_cmp {p q : Proc} {b : Bool} (h : (decide ((0 : Int) ≤ p.cmp q)) = b) : p.lt q = !b := by rw [← h, cmp_lt]; simp
set_option maxRecDepth 100000 in
theorem procSet (l : List Proc) (hb : l.length < 2147483648) : Con Try.prog 52 [.d (.ro 2 (procs l))] (DV.v (.bool (isSet l))) := by
  refine Con.intro (by kernel_rfl) rfl rfl 30 rfl rfl fun w0 K ac hK r => ?_
  refine toHead (todo' := hd Try.f52 0) (E' := [(0, .d (.ro 2 (procs l))), (5, .d (.ro 2 (procs l))), (6, .n l.length), (7, .n 0)]) (M' := []) tb_ok mixed_ok hK [(1, [(1, .z (((l.length : Nat) : Int)))])] 2000 [] [0, 5, 6, 7] r (by kernel_rfl) (an ((by simp) : (((procs l).length : Nat) : Int) = ((l.length : Nat) : Int)) trivial) fun ac wd r => ?_
  refine Goes.rounds (Φ := fun (i : Nat) ac wd => (i ≤ l.length ∧ SetTo l i) ∧ RE' [] w0 K 30 [(0, .d (.ro 2 (procs l))), (5, .d (.ro 2 (procs l))), (6, .n l.length), (7, .n i)] [] ac wd) (l.length) ?_ (Nat.zero_le _) ⟨⟨by omega, by simp [SetTo]⟩, r⟩
  clear r
  rintro i hi0 again0 ac wd ⟨hv0, r⟩
  obtain ⟨hi1, hv0⟩ := hv0
  cases h0 : (decide ((((i : Nat) : Int) : Int) < ((l.length : Nat) : Int))) with
  | false =>
    have qh0 := of_decide_eq_false h0
    rw [show (DV.v (.bool (isSet l)) : DV) = .v (.bool true) from (bv (by first | exact isSet_yes (by rw [show l.length = i by omega]; exact hv0) | exact isSet_no (SetTo.no1 ge_l_i (by assumption) (by omega)) | exact isSet_no (SetTo.no2 ge_l_i ge_l_i1 (by omega) (by first | assumption | (rw [lt_of_cmp (by assumption)]; rfl)) (by omega))))]
    exact toRet tb_ok mixed_ok hK rfl [(2, [(0, .b false)])] 2000 r (by kernel_rfl) (an h0 trivial)
  | true =>
    have qh0 := of_decide_eq_true h0
    obtain ⟨e_l_i, ge_l_i⟩ : ∃ x, l[i]? = some x := ⟨_, List.getElem?_eq_getElem (by omega)⟩
    cases h1 : (e_l_i.may) with
    | false =>
      rw [show (DV.v (.bool (isSet l)) : DV) = .v (.bool false) from (bv (by first | exact isSet_yes (by rw [show l.length = i by omega]; exact hv0) | exact isSet_no (SetTo.no1 ge_l_i (by assumption) (by omega)) | exact isSet_no (SetTo.no2 ge_l_i ge_l_i1 (by omega) (by first | assumption | (rw [lt_of_cmp (by assumption)]; rfl)) (by omega))))]
      exact toRet tb_ok mixed_ok hK rfl [(2, [(0, .b true)]), (3, [(1, .ix (i) [.z e_l_i.node, .u e_l_i.inc])]), (4, [(1, .con (.v (.bool false)))])] 2000 r (by kernel_rfl) (an h0 (an (rfI ((i : Nat) : Int)) (an (procs_at ge_l_i) (an ((by have k := procMay e_l_i; rw [h1] at k; exact k) : Con Try.prog 63 [.ag [.z e_l_i.node, .u e_l_i.inc]] (.v (.bool false))) trivial))))
    | true =>
      cases h2 : (decide ((0 : Int) < ((i : Nat) : Int))) with
      | false =>
        have qh2 := of_decide_eq_false h2
        exact toHead (todo' := hd Try.f52 0) tb_ok mixed_ok hK [(2, [(0, .b true)]), (3, [(1, .ix (i) [.z e_l_i.node, .u e_l_i.inc])]), (4, [(1, .con (.v (.bool true))), (5, .b false)]), (6, [(0, .z (((i + 1 : Nat) : Int)))])] 2000 [] [0, 5, 6, 7] r (by kernel_rfl) (an h0 (an (rfI ((i : Nat) : Int)) (an (procs_at ge_l_i) (an ((by have k := procMay e_l_i; rw [h1] at k; exact k) : Con Try.prog 63 [.ag [.z e_l_i.node, .u e_l_i.inc]] (.v (.bool true))) (an h2 (an ((wi (by omega)) : IntKind.i64.wrap ((((i : Nat) : Int) : Int) + 1) = ((i + 1 : Nat) : Int)) trivial)))))) fun ac wd r => again0 (by omega) ac wd ⟨⟨by omega, hv0.step ge_l_i (by assumption) fun q hq0 hq => by first | (exfalso; omega) | (rw [ge_l_i1] at hq; cases hq; first | assumption | (rw [lt_of_cmp (by assumption)]; rfl))⟩, r⟩
      | true =>
        have qh2 := of_decide_eq_true h2
        obtain ⟨e_l_i1, ge_l_i1⟩ : ∃ x, l[i - 1]? = some x := ⟨_, List.getElem?_eq_getElem (by omega)⟩
        cases h3 : (decide ((0 : Int) ≤ e_l_i1.cmp e_l_i)) with
        | false =>
          have qh3 := of_decide_eq_false h3
          exact toHead (todo' := hd Try.f52 0) tb_ok mixed_ok hK [(2, [(0, .b true)]), (3, [(1, .ix (i) [.z e_l_i.node, .u e_l_i.inc])]), (4, [(1, .con (.v (.bool true))), (5, .b true), (9, .z (((i - 1 : Nat) : Int))), (10, .ix (i - 1) [.z e_l_i1.node, .u e_l_i1.inc]), (13, .con (.z (e_l_i1.cmp e_l_i))), (14, .b false)]), (6, [(0, .z (((i + 1 : Nat) : Int)))])] 2000 [] [0, 5, 6, 7] r (by kernel_rfl) (an h0 (an (rfI ((i : Nat) : Int)) (an (procs_at ge_l_i) (an ((by have k := procMay e_l_i; rw [h1] at k; exact k) : Con Try.prog 63 [.ag [.z e_l_i.node, .u e_l_i.inc]] (.v (.bool true))) (an h2 (an ((wi (by omega)) : IntKind.i64.wrap ((((i : Nat) : Int) : Int) - 1) = ((i - 1 : Nat) : Int)) (an (rfI ((i - 1 : Nat) : Int)) (an (procs_at ge_l_i1) (an (procCompare _ _ : Con Try.prog 69 [.ag [.z e_l_i1.node, .u e_l_i1.inc], .ag [.z e_l_i.node, .u e_l_i.inc]] (.z (e_l_i1.cmp e_l_i))) (an h3 (an ((wi (by omega)) : IntKind.i64.wrap ((((i : Nat) : Int) : Int) + 1) = ((i + 1 : Nat) : Int)) trivial))))))))))) fun ac wd r => again0 (by omega) ac wd ⟨⟨by omega, hv0.step ge_l_i (by assumption) fun q hq0 hq => by first | (exfalso; omega) | (rw [ge_l_i1] at hq; cases hq; first | assumption | (rw [lt_of_cmp (by assumption)]; rfl))⟩, r⟩
        | true =>
          have qh3 := of_decide_eq_true h3
          rw [show (DV.v (.bool (isSet l)) : DV) = .v (.bool false) from (bv (by first | exact isSet_yes (by rw [show l.length = i by omega]; exact hv0) | exact isSet_no (SetTo.no1 ge_l_i (by assumption) (by omega)) | exact isSet_no (SetTo.no2 ge_l_i ge_l_i1 (by omega) (by first | assumption | (rw [lt_of_cmp (by assumption)]; rfl)) (by omega))))]
          exact toRet tb_ok mixed_ok hK rfl [(2, [(0, .b true)]), (3, [(1, .ix (i) [.z e_l_i.node, .u e_l_i.inc])]), (4, [(1, .con (.v (.bool true))), (5, .b true), (9, .z (((i - 1 : Nat) : Int))), (10, .ix (i - 1) [.z e_l_i1.node, .u e_l_i1.inc]), (13, .con (.z (e_l_i1.cmp e_l_i))), (14, .b true)])] 2000 r (by kernel_rfl) (an h0 (an (rfI ((i : Nat) : Int)) (an (procs_at ge_l_i) (an ((by have k := procMay e_l_i; rw [h1] at k; exact k) : Con Try.prog 63 [.ag [.z e_l_i.node, .u e_l_i.inc]] (.v (.bool true))) (an h2 (an ((wi (by omega)) : IntKind.i64.wrap ((((i : Nat) : Int) : Int) - 1) = ((i - 1 : Nat) : Int)) (an (rfI ((i - 1 : Nat) : Int)) (an (procs_at ge_l_i1) (an (procCompare _ _ : Con Try.prog 69 [.ag [.z e_l_i1.node, .u e_l_i1.inc], .ag [.z e_l_i.node, .u e_l_i.inc]] (.z (e_l_i1.cmp e_l_i))) (an h3 trivial))))))))))
set_option maxRecDepth 100000 in
theorem refSet (l : List Proc) (hb : l.length < 2147483648) : Con Try.prog 60 [.d (.ro 2 (procs l))] (DV.v (.bool (isSet l))) := by
  refine Con.intro (by kernel_rfl) rfl rfl 33 rfl rfl fun w0 K ac hK r => ?_
  refine toHead (todo' := hd Try.f60 0) (E' := [(0, .d (.ro 2 (procs l))), (3, .n 0)]) (M' := []) tb_ok mixed_ok hK [] 2000 [] [0, 3] r (by kernel_rfl) trivial fun ac wd r => ?_
  refine Goes.rounds (Φ := fun (i : Nat) ac wd => (i ≤ l.length ∧ SetTo l i) ∧ RE' [] w0 K 33 [(0, .d (.ro 2 (procs l))), (3, .n i)] [] ac wd) (l.length) ?_ (Nat.zero_le _) ⟨⟨by omega, by simp [SetTo]⟩, r⟩
  clear r
  rintro i hi0 again0 ac wd ⟨hv0, r⟩
  obtain ⟨hi1, hv0⟩ := hv0
  cases h0 : (decide ((((i : Nat) : Int) : Int) < ((l.length : Nat) : Int))) with
  | false =>
    have qh0 := of_decide_eq_false h0
    rw [show (DV.v (.bool (isSet l)) : DV) = .v (.bool true) from (bv (by first | exact isSet_yes (by rw [show l.length = i by omega]; exact hv0) | exact isSet_no (SetTo.no1 ge_l_i (by assumption) (by omega)) | exact isSet_no (SetTo.no2 ge_l_i ge_l_i1 (by omega) (by first | assumption | (rw [lt_of_cmp (by assumption)]; rfl)) (by omega))))]
    exact toRet tb_ok mixed_ok hK rfl [(2, [(2, .z (((l.length : Nat) : Int))), (3, .b false)])] 2000 r (by kernel_rfl) (an ((by simp) : (((procs l).length : Nat) : Int) = ((l.length : Nat) : Int)) (an h0 trivial))
  | true =>
    have qh0 := of_decide_eq_true h0
    obtain ⟨e_l_i, ge_l_i⟩ : ∃ x, l[i]? = some x := ⟨_, List.getElem?_eq_getElem (by omega)⟩
    cases h1 : (e_l_i.may) with
    | false =>
      rw [show (DV.v (.bool (isSet l)) : DV) = .v (.bool false) from (bv (by first | exact isSet_yes (by rw [show l.length = i by omega]; exact hv0) | exact isSet_no (SetTo.no1 ge_l_i (by assumption) (by omega)) | exact isSet_no (SetTo.no2 ge_l_i ge_l_i1 (by omega) (by first | assumption | (rw [lt_of_cmp (by assumption)]; rfl)) (by omega))))]
      exact toRet tb_ok mixed_ok hK rfl [(2, [(2, .z (((l.length : Nat) : Int))), (3, .b true)]), (4, [(2, .ix (i) [.z e_l_i.node, .u e_l_i.inc]), (4, .con (.v (.bool false)))])] 2000 r (by kernel_rfl) (an ((by simp) : (((procs l).length : Nat) : Int) = ((l.length : Nat) : Int)) (an h0 (an (rfI ((i : Nat) : Int)) (an (procs_at ge_l_i) (an ((by have k := refProcMay e_l_i; rw [h1] at k; exact k) : Con Try.prog 57 [.ag [.z e_l_i.node, .u e_l_i.inc]] (.v (.bool false))) trivial)))))
    | true =>
      cases h2 : (decide ((0 : Int) < ((i : Nat) : Int))) with
      | false =>
        have qh2 := of_decide_eq_false h2
        exact toHead (todo' := hd Try.f60 0) tb_ok mixed_ok hK [(2, [(2, .z (((l.length : Nat) : Int))), (3, .b true)]), (3, [(1, .z (((i + 1 : Nat) : Int)))]), (4, [(2, .ix (i) [.z e_l_i.node, .u e_l_i.inc]), (4, .con (.v (.bool true))), (8, .b false)])] 2000 [] [0, 3] r (by kernel_rfl) (an ((by simp) : (((procs l).length : Nat) : Int) = ((l.length : Nat) : Int)) (an h0 (an (rfI ((i : Nat) : Int)) (an (procs_at ge_l_i) (an ((by have k := refProcMay e_l_i; rw [h1] at k; exact k) : Con Try.prog 57 [.ag [.z e_l_i.node, .u e_l_i.inc]] (.v (.bool true))) (an h2 (an ((wi (by omega)) : IntKind.i64.wrap ((((i : Nat) : Int) : Int) + 1) = ((i + 1 : Nat) : Int)) trivial))))))) fun ac wd r => again0 (by omega) ac wd ⟨⟨by omega, hv0.step ge_l_i (by assumption) fun q hq0 hq => by first | (exfalso; omega) | (rw [ge_l_i1] at hq; cases hq; first | assumption | (rw [lt_of_cmp (by assumption)]; rfl))⟩, r⟩
      | true =>
        have qh2 := of_decide_eq_true h2
        obtain ⟨e_l_i1, ge_l_i1⟩ : ∃ x, l[i - 1]? = some x := ⟨_, List.getElem?_eq_getElem (by omega)⟩
        cases h3 : (e_l_i1.lt e_l_i) with
        | false =>
          rw [show (DV.v (.bool (isSet l)) : DV) = .v (.bool false) from (bv (by first | exact isSet_yes (by rw [show l.length = i by omega]; exact hv0) | exact isSet_no (SetTo.no1 ge_l_i (by assumption) (by omega)) | exact isSet_no (SetTo.no2 ge_l_i ge_l_i1 (by omega) (by first | assumption | (rw [lt_of_cmp (by assumption)]; rfl)) (by omega))))]
          exact toRet tb_ok mixed_ok hK rfl [(2, [(2, .z (((l.length : Nat) : Int))), (3, .b true)]), (4, [(2, .ix (i) [.z e_l_i.node, .u e_l_i.inc]), (4, .con (.v (.bool true))), (8, .b true), (12, .z (((i - 1 : Nat) : Int))), (13, .ix (i - 1) [.z e_l_i1.node, .u e_l_i1.inc]), (17, .ix (i) [.z e_l_i.node, .u e_l_i.inc]), (19, .con (.v (.bool false)))])] 2000 r (by kernel_rfl) (an ((by simp) : (((procs l).length : Nat) : Int) = ((l.length : Nat) : Int)) (an h0 (an (rfI ((i : Nat) : Int)) (an (procs_at ge_l_i) (an ((by have k := refProcMay e_l_i; rw [h1] at k; exact k) : Con Try.prog 57 [.ag [.z e_l_i.node, .u e_l_i.inc]] (.v (.bool true))) (an h2 (an ((wi (by omega)) : IntKind.i64.wrap ((((i : Nat) : Int) : Int) - 1) = ((i - 1 : Nat) : Int)) (an (rfI ((i - 1 : Nat) : Int)) (an (procs_at ge_l_i1) (an (rfI ((i : Nat) : Int)) (an (procs_at ge_l_i) (an ((by have k := refBefore e_l_i1 e_l_i; rw [h3] at k; exact k) : Con Try.prog 74 [.ag [.z e_l_i1.node, .u e_l_i1.inc], .ag [.z e_l_i.node, .u e_l_i.inc]] (.v (.bool false))) trivial))))))))))))
        | true =>
          exact toHead (todo' := hd Try.f60 0) tb_ok mixed_ok hK [(2, [(2, .z (((l.length : Nat) : Int))), (3, .b true)]), (3, [(1, .z (((i + 1 : Nat) : Int)))]), (4, [(2, .ix (i) [.z e_l_i.node, .u e_l_i.inc]), (4, .con (.v (.bool true))), (8, .b true), (12, .z (((i - 1 : Nat) : Int))), (13, .ix (i - 1) [.z e_l_i1.node, .u e_l_i1.inc]), (17, .ix (i) [.z e_l_i.node, .u e_l_i.inc]), (19, .con (.v (.bool true)))])] 2000 [] [0, 3] r (by kernel_rfl) (an ((by simp) : (((procs l).length : Nat) : Int) = ((l.length : Nat) : Int)) (an h0 (an (rfI ((i : Nat) : Int)) (an (procs_at ge_l_i) (an ((by have k := refProcMay e_l_i; rw [h1] at k; exact k) : Con Try.prog 57 [.ag [.z e_l_i.node, .u e_l_i.inc]] (.v (.bool true))) (an h2 (an ((wi (by omega)) : IntKind.i64.wrap ((((i : Nat) : Int) : Int) - 1) = ((i - 1 : Nat) : Int)) (an (rfI ((i - 1 : Nat) : Int)) (an (procs_at ge_l_i1) (an (rfI ((i : Nat) : Int)) (an (procs_at ge_l_i) (an ((by have k := refBefore e_l_i1 e_l_i; rw [h3] at k; exact k) : Con Try.prog 74 [.ag [.z e_l_i1.node, .u e_l_i1.inc], .ag [.z e_l_i.node, .u e_l_i.inc]] (.v (.bool true))) (an ((wi (by omega)) : IntKind.i64.wrap ((((i : Nat) : Int) : Int) + 1) = ((i + 1 : Nat) : Int)) trivial))))))))))))) fun ac wd r => again0 (by omega) ac wd ⟨⟨by omega, hv0.step ge_l_i (by assumption) fun q hq0 hq => by first | (exfalso; omega) | (rw [ge_l_i1] at hq; cases hq; first | assumption | (rw [lt_of_cmp (by assumption)]; rfl))⟩, r⟩
end Go.Proofs.Ytoijfmfkkmbabaa
namespace Go.Proofs.Ytoijfmfkkmbabaa
open Go.RowKit
structure Vid where
  round : Nat
  server : Proc
deriving DecidableEq
structure View where
  id : Vid
  members : List Proc
  starts : List Nat
deriving DecidableEq
def Vid.may (v : Vid) : Bool := decide (v.server.may = true ∧ (v.round = 0 ∨ v.server.node ≤ 4))
def View.first (p : Proc) : View := ⟨⟨0, p⟩, [p], [0]⟩
theorem eqVid (v w : Vid) : EqAgg Try.prog 26 [.int .u64 (v.round : Int), .int .i64 v.server.node, .int .u64 (v.server.inc : Int)] [.int .u64 (w.round : Int), .int .i64 w.server.node, .int .u64 (w.server.inc : Int)] (decide (v = w)) := by
  have h : EqAgg Try.prog 26 [.int .u64 (v.round : Int), .int .i64 v.server.node, .int .u64 (v.server.inc : Int)] [.int .u64 (w.round : Int), .int .i64 w.server.node, .int .u64 (w.server.inc : Int)] (((v.round : Int) == w.round) && (v.server.node == w.server.node && (v.server.inc : Int) == w.server.inc)) :=
    ⟨by kernel_rfl, fun wd => run_eqTwo (d := 9999) (f0 := ⟨"Round", 22, 0, false, "", "", 0⟩) (f1 := ⟨"Server", 24, 1, false, "", "", 8⟩) (by kernel_rfl) (by kernel_rfl) (by decide) (by decide) (run_partS wd (by kernel_rfl) rfl) (run_partS wd (by kernel_rfl) rfl) (run_partA (n := 2) wd (by kernel_rfl)) (run_partA (n := 2) wd (by kernel_rfl))
      (run_eqInt wd 9998 (by kernel_rfl)) (eqProcIn 9997 v.server.node v.server.inc w.server.node w.server.inc wd)⟩
  refine eqT h ?_
  cases v with | mk a p => cases w with | mk b q =>
  cases p with | mk x y => cases q with | mk z u =>
  rw [Bool.eq_iff_iff]
  simp only [Bool.and_eq_true, beq_iff_eq, decide_eq_true_eq, Vid.mk.injEq, Proc.mk.injEq]
  omega
def View.bounded (v : View) : Prop := v.members.length < 1073741824 ∧ v.starts.length < 1073741824
set_option maxRecDepth 100000 in
theorem viewMayId (v : Vid) : Con Try.prog 49 [.ag [.u v.round, .z v.server.node, .u v.server.inc]] (DV.v (.bool v.may)) := by
  refine Con.intro (by kernel_rfl) rfl rfl 17 rfl rfl fun w0 K ac hK r => ?_
  cases h0 : (v.server.may) with
  | false =>
    rw [show (DV.v (.bool v.may) : DV) = .v (.bool false) from (bv (by simp [Vid.may, *]; try omega))]
    exact toRet tb_ok mixed_ok hK rfl [(1, [(2, .con (.v (.bool false)))])] 2000 r (by kernel_rfl) (an ((by have k := procMay v.server; rw [h0] at k; exact k) : Con Try.prog 63 [.ag [.z v.server.node, .u v.server.inc]] (.v (.bool false))) trivial)
  | true =>
    cases h1 : ((((v.round : Nat) : Int) : Int) == 0) with
    | false =>
      have qh1 := ne_of_beq_false h1
      cases h2 : (decide ((v.server.node : Int) ≤ 4)) with
      | false =>
        have qh2 := of_decide_eq_false h2
        rw [show (DV.v (.bool v.may) : DV) = .v (.bool false) from (bv (by simp [Vid.may, *]; try omega))]
        exact toRet tb_ok mixed_ok hK rfl [(1, [(2, .con (.v (.bool true))), (6, .b false), (11, .b false)])] 2000 r (by kernel_rfl) (an ((by have k := procMay v.server; rw [h0] at k; exact k) : Con Try.prog 63 [.ag [.z v.server.node, .u v.server.inc]] (.v (.bool true))) (an h1 (an h2 trivial)))
      | true =>
        have qh2 := of_decide_eq_true h2
        rw [show (DV.v (.bool v.may) : DV) = .v (.bool true) from (bv (by simp [Vid.may, *]; try omega))]
        exact toRet tb_ok mixed_ok hK rfl [(1, [(2, .con (.v (.bool true))), (6, .b false), (11, .b true)])] 2000 r (by kernel_rfl) (an ((by have k := procMay v.server; rw [h0] at k; exact k) : Con Try.prog 63 [.ag [.z v.server.node, .u v.server.inc]] (.v (.bool true))) (an h1 (an h2 trivial)))
    | true =>
      have qh1 := eq_of_beq h1
      rw [show (DV.v (.bool v.may) : DV) = .v (.bool true) from (bv (by simp [Vid.may, *]; try omega))]
      exact toRet tb_ok mixed_ok hK rfl [(1, [(2, .con (.v (.bool true))), (6, .b true)])] 2000 r (by kernel_rfl) (an ((by have k := procMay v.server; rw [h0] at k; exact k) : Con Try.prog 63 [.ag [.z v.server.node, .u v.server.inc]] (.v (.bool true))) (an h1 trivial))
set_option maxRecDepth 100000 in
theorem refMayId (v : Vid) : Con Try.prog 59 [.ag [.u v.round, .z v.server.node, .u v.server.inc]] (DV.v (.bool v.may)) := by
  refine Con.intro (by kernel_rfl) rfl rfl 17 rfl rfl fun w0 K ac hK r => ?_
  cases h0 : (v.server.may) with
  | false =>
    rw [show (DV.v (.bool v.may) : DV) = .v (.bool false) from (bv (by simp [Vid.may, *]; try omega))]
    exact toRet tb_ok mixed_ok hK rfl [(1, [(2, .con (.v (.bool false)))])] 2000 r (by kernel_rfl) (an ((by have k := refProcMay v.server; rw [h0] at k; exact k) : Con Try.prog 57 [.ag [.z v.server.node, .u v.server.inc]] (.v (.bool false))) trivial)
  | true =>
    cases h1 : ((((v.round : Nat) : Int) : Int) == 0) with
    | false =>
      have qh1 := ne_of_beq_false h1
      cases h2 : (decide ((v.server.node : Int) ≤ 4)) with
      | false =>
        have qh2 := of_decide_eq_false h2
        rw [show (DV.v (.bool v.may) : DV) = .v (.bool false) from (bv (by simp [Vid.may, *]; try omega))]
        exact toRet tb_ok mixed_ok hK rfl [(1, [(2, .con (.v (.bool true))), (6, .b false), (11, .b false)])] 2000 r (by kernel_rfl) (an ((by have k := refProcMay v.server; rw [h0] at k; exact k) : Con Try.prog 57 [.ag [.z v.server.node, .u v.server.inc]] (.v (.bool true))) (an h1 (an h2 trivial)))
      | true =>
        have qh2 := of_decide_eq_true h2
        rw [show (DV.v (.bool v.may) : DV) = .v (.bool true) from (bv (by simp [Vid.may, *]; try omega))]
        exact toRet tb_ok mixed_ok hK rfl [(1, [(2, .con (.v (.bool true))), (6, .b false), (11, .b true)])] 2000 r (by kernel_rfl) (an ((by have k := refProcMay v.server; rw [h0] at k; exact k) : Con Try.prog 57 [.ag [.z v.server.node, .u v.server.inc]] (.v (.bool true))) (an h1 (an h2 trivial)))
    | true =>
      have qh1 := eq_of_beq h1
      rw [show (DV.v (.bool v.may) : DV) = .v (.bool true) from (bv (by simp [Vid.may, *]; try omega))]
      exact toRet tb_ok mixed_ok hK rfl [(1, [(2, .con (.v (.bool true))), (6, .b true)])] 2000 r (by kernel_rfl) (an ((by have k := refProcMay v.server; rw [h0] at k; exact k) : Con Try.prog 57 [.ag [.z v.server.node, .u v.server.inc]] (.v (.bool true))) (an h1 trivial))
set_option maxRecDepth 100000 in
theorem viewFirst (p : Proc) : Con Try.prog 51 [.ag [.z p.node, .u p.inc]] (.ag [.v (.int .u64 0), .v (.int .i64 p.node), .v (.int .u64 ((p.inc : Nat) : Int)), .em 24 2 (procs [p]), .em 22 1 (nums [0])]) := by
  refine Con.intro (by kernel_rfl) rfl rfl 9 rfl rfl fun w0 K ac hK r => ?_
  exact toRet tb_ok mixed_ok hK rfl [] 2000 r (by kernel_rfl) (an ((by simp) : (1) = ([[.z p.node, .u p.inc]] : List (List DV)).length) (an ((by simp) : (1) = ([[.v (.int .u64 0)]] : List (List DV)).length) trivial))
set_option maxRecDepth 100000 in
theorem refFirst (p : Proc) : Con Try.prog 58 [.ag [.z p.node, .u p.inc]] (.ag [.v (.int .u64 0), .v (.int .i64 p.node), .v (.int .u64 ((p.inc : Nat) : Int)), .em 24 2 (procs [p]), .em 22 1 (nums [0])]) := by
  refine Con.intro (by kernel_rfl) rfl rfl 9 rfl rfl fun w0 K ac hK r => ?_
  exact toRet tb_ok mixed_ok hK rfl [] 2000 r (by kernel_rfl) (an ((by simp) : (1) = ([[.z p.node, .u p.inc]] : List (List DV)).length) (an ((by simp) : (1) = ([[.v (.int .u64 0)]] : List (List DV)).length) trivial))
end Go.Proofs.Ytoijfmfkkmbabaa
namespace Go.Proofs.Ytoijfmfkkmbabaa
open Go.RowKit
theorem View.eq_iff {v w : View} : v = w ↔ v.id = w.id ∧ v.members = w.members ∧ v.starts = w.starts := by cases v; cases w; simp
def placeN (l : List Proc) (p : Proc) : Nat := (idx l p 0).toNat
def placeB (l : List Proc) (p : Proc) : Bool := decide (0 ≤ idx l p 0)
def Lone (l : List Proc) (i : Nat) : Prop := ∀ a b p q, a < i → b < a → l[a]? = some p → l[b]? = some q → q.node ≠ p.node
def lone (l : List Proc) : Bool := (List.range l.length).all fun a => (List.range a).all fun b => match l[a]?, l[b]? with | some p, some q => decide (q.node ≠ p.node) | _, _ => true
theorem lone_iff (l : List Proc) : lone l = true ↔ Lone l l.length := by
  simp only [lone, List.all_eq_true, List.mem_range, Lone]
  constructor
  · intro h a b p q ha hb hp hq
    have := h a ha b hb; simpa [hp, hq] using this
  · intro h a ha b hb
    have e1 : l[a]? = some l[a] := List.getElem?_eq_getElem ha
    have e2 : l[b]? = some l[b] := List.getElem?_eq_getElem (by omega)
    simp only [e1, e2, decide_eq_true_eq]; exact h a b _ _ ha hb e1 e2
theorem lone_yes {l : List Proc} (h : Lone l l.length) : lone l = true := (lone_iff l).2 h
theorem lone_no {l : List Proc} {a b : Nat} {p q : Proc} (ha : a < l.length) (hb : b < a) (hp : l[a]? = some p) (hq : l[b]? = some q) (h : q.node = p.node) : lone l = false := by
  cases hs : lone l with
  | false => rfl
  | true => exact absurd h ((lone_iff l).1 hs a b p q ha hb hp hq)
set_option maxRecDepth 100000 in
theorem viewSame (v w : View) (hb : v.bounded) : Con Try.prog 50 [.ag [.u v.id.round, .z v.id.server.node, .u v.id.server.inc, .d (.ro 2 (procs v.members)), .d (.ro 1 (nums v.starts))], .ag [.u w.id.round, .z w.id.server.node, .u w.id.server.inc, .d (.ro 2 (procs w.members)), .d (.ro 1 (nums w.starts))]] (DV.v (.bool (decide (v = w)))) := by
  obtain ⟨hb1, hb2⟩ := hb
  refine Con.intro (by kernel_rfl) rfl rfl 20 rfl rfl fun w0 K ac hK r => ?_
  refine toHead (todo' := hd Try.f50 0) (E' := [(2, .pt 0 0), (3, .pt 1 0), (12, .ag [.fn 64 [.pt 0 0, .pt 1 0], .fn 65 [.pt 0 0, .pt 1 0], .fn 67 [.pt 0 0, .pt 1 0]]), (13, .z 0)]) (M' := [.bx 30 [.u v.id.round, .z v.id.server.node, .u v.id.server.inc, .d (.ro 2 (procs v.members)), .d (.ro 1 (nums v.starts))], .bx 30 [.u w.id.round, .z w.id.server.node, .u w.id.server.inc, .d (.ro 2 (procs w.members)), .d (.ro 1 (nums w.starts))], .bx 99 [.fn 64 [.pt 0 0, .pt 1 0], .fn 65 [.pt 0 0, .pt 1 0], .fn 67 [.pt 0 0, .pt 1 0]]]) tb_ok mixed_ok hK [] 2000 [0, 1, 2] [2, 3, 12, 13] r (by kernel_rfl) trivial fun ac wd r => ?_
  cases h0 : (decide (v.id = w.id)) with
  | false =>
    have qh0 := of_decide_eq_false h0
    rw [show (DV.v (.bool (decide (v = w))) : DV) = .v (.bool false) from (bv (by simp [View.eq_iff, *]))]
    exact toRet tb_ok mixed_ok hK rfl [(4, [(0, .n 0)]), (5, [(1, .into 200 [(1, [(4, .b false)])])])] 2000 r (by kernel_rfl) (an (rfl : (0 : Int) = ((0 : Nat) : Int)) (an ((by omega) : (0) < 3) (an ((eqT (eqVid _ _) h0) : EqAgg Try.prog 26 [(.int .u64 (((v.id.round : Nat) : Int))), (.int .i64 (v.id.server.node)), (.int .u64 (((v.id.server.inc : Nat) : Int)))] [(.int .u64 (((w.id.round : Nat) : Int))), (.int .i64 (w.id.server.node)), (.int .u64 (((w.id.server.inc : Nat) : Int)))] false) trivial)))
  | true =>
    have qh0 := of_decide_eq_true h0
    refine toHead (todo' := hd Try.f50 0) (E' := [(2, .pt 0 0), (3, .pt 1 0), (12, .ag [.fn 64 [.pt 0 0, .pt 1 0], .fn 65 [.pt 0 0, .pt 1 0], .fn 67 [.pt 0 0, .pt 1 0]]), (13, .z 1)]) (M' := [.bx 30 [.u v.id.round, .z v.id.server.node, .u v.id.server.inc, .d (.ro 2 (procs v.members)), .d (.ro 1 (nums v.starts))], .bx 30 [.u w.id.round, .z w.id.server.node, .u w.id.server.inc, .d (.ro 2 (procs w.members)), .d (.ro 1 (nums w.starts))], .bx 99 [.fn 64 [.pt 0 0, .pt 1 0], .fn 65 [.pt 0 0, .pt 1 0], .fn 67 [.pt 0 0, .pt 1 0]]]) tb_ok mixed_ok hK [(4, [(0, .n 0)]), (5, [(1, .into 200 [(1, [(4, .b true)])])]), (7, [(0, .z (1))])] 2000 [0, 1, 2] [2, 3, 12, 13] r (by kernel_rfl) (an (rfl : (0 : Int) = ((0 : Nat) : Int)) (an ((by omega) : (0) < 3) (an ((eqT (eqVid _ _) h0) : EqAgg Try.prog 26 [(.int .u64 (((v.id.round : Nat) : Int))), (.int .i64 (v.id.server.node)), (.int .u64 (((v.id.server.inc : Nat) : Int)))] [(.int .u64 (((w.id.round : Nat) : Int))), (.int .i64 (w.id.server.node)), (.int .u64 (((w.id.server.inc : Nat) : Int)))] true) (an ((wi (by omega)) : IntKind.i64.wrap ((0 : Int) + 1) = 1) trivial)))) fun ac wd r => ?_
    cases h1 : (decide (v.members = w.members)) with
    | false =>
      have qh1 := of_decide_eq_false h1
      rw [show (DV.v (.bool (decide (v = w))) : DV) = .v (.bool false) from (bv (by simp [View.eq_iff, *]))]
      exact toRet tb_ok mixed_ok hK rfl [(4, [(0, .n 1)]), (5, [(1, .into 200 [(1, [(4, .con (.v (.bool false)))])])])] 2000 r (by kernel_rfl) (an (rfl : (1 : Int) = ((1 : Nat) : Int)) (an ((by omega) : (1) < 3) (an ((by have k := equalProcs v.members w.members (by omega); rw [h1] at k; exact k) : Con Try.prog 66 [.d (.ro 2 (procs v.members)), .d (.ro 2 (procs w.members))] (.v (.bool false))) trivial)))
    | true =>
      have qh1 := of_decide_eq_true h1
      refine toHead (todo' := hd Try.f50 0) (E' := [(2, .pt 0 0), (3, .pt 1 0), (12, .ag [.fn 64 [.pt 0 0, .pt 1 0], .fn 65 [.pt 0 0, .pt 1 0], .fn 67 [.pt 0 0, .pt 1 0]]), (13, .z 2)]) (M' := [.bx 30 [.u v.id.round, .z v.id.server.node, .u v.id.server.inc, .d (.ro 2 (procs v.members)), .d (.ro 1 (nums v.starts))], .bx 30 [.u w.id.round, .z w.id.server.node, .u w.id.server.inc, .d (.ro 2 (procs w.members)), .d (.ro 1 (nums w.starts))], .bx 99 [.fn 64 [.pt 0 0, .pt 1 0], .fn 65 [.pt 0 0, .pt 1 0], .fn 67 [.pt 0 0, .pt 1 0]]]) tb_ok mixed_ok hK [(4, [(0, .n 1)]), (5, [(1, .into 200 [(1, [(4, .con (.v (.bool true)))])])]), (7, [(0, .z (2))])] 2000 [0, 1, 2] [2, 3, 12, 13] r (by kernel_rfl) (an (rfl : (1 : Int) = ((1 : Nat) : Int)) (an ((by omega) : (1) < 3) (an ((by have k := equalProcs v.members w.members (by omega); rw [h1] at k; exact k) : Con Try.prog 66 [.d (.ro 2 (procs v.members)), .d (.ro 2 (procs w.members))] (.v (.bool true))) (an ((wi (by omega)) : IntKind.i64.wrap ((1 : Int) + 1) = 2) trivial)))) fun ac wd r => ?_
      cases h2 : (decide (v.starts = w.starts)) with
      | false =>
        have qh2 := of_decide_eq_false h2
        rw [show (DV.v (.bool (decide (v = w))) : DV) = .v (.bool false) from (bv (by simp [View.eq_iff, *]))]
        exact toRet tb_ok mixed_ok hK rfl [(4, [(0, .n 2)]), (5, [(1, .into 200 [(1, [(4, .con (.v (.bool false)))])])])] 2000 r (by kernel_rfl) (an (rfl : (2 : Int) = ((2 : Nat) : Int)) (an ((by omega) : (2) < 3) (an ((by have k := equalNums v.starts w.starts (by omega); rw [h2] at k; exact k) : Con Try.prog 68 [.d (.ro 1 (nums v.starts)), .d (.ro 1 (nums w.starts))] (.v (.bool false))) trivial)))
      | true =>
        have qh2 := of_decide_eq_true h2
        refine toHead (todo' := hd Try.f50 0) (E' := [(2, .pt 0 0), (3, .pt 1 0), (12, .ag [.fn 64 [.pt 0 0, .pt 1 0], .fn 65 [.pt 0 0, .pt 1 0], .fn 67 [.pt 0 0, .pt 1 0]]), (13, .z 3)]) (M' := [.bx 30 [.u v.id.round, .z v.id.server.node, .u v.id.server.inc, .d (.ro 2 (procs v.members)), .d (.ro 1 (nums v.starts))], .bx 30 [.u w.id.round, .z w.id.server.node, .u w.id.server.inc, .d (.ro 2 (procs w.members)), .d (.ro 1 (nums w.starts))], .bx 99 [.fn 64 [.pt 0 0, .pt 1 0], .fn 65 [.pt 0 0, .pt 1 0], .fn 67 [.pt 0 0, .pt 1 0]]]) tb_ok mixed_ok hK [(4, [(0, .n 2)]), (5, [(1, .into 200 [(1, [(4, .con (.v (.bool true)))])])]), (7, [(0, .z (3))])] 2000 [0, 1, 2] [2, 3, 12, 13] r (by kernel_rfl) (an (rfl : (2 : Int) = ((2 : Nat) : Int)) (an ((by omega) : (2) < 3) (an ((by have k := equalNums v.starts w.starts (by omega); rw [h2] at k; exact k) : Con Try.prog 68 [.d (.ro 1 (nums v.starts)), .d (.ro 1 (nums w.starts))] (.v (.bool true))) (an ((wi (by omega)) : IntKind.i64.wrap ((2 : Int) + 1) = 3) trivial)))) fun ac wd r => ?_
        rw [show (DV.v (.bool (decide (v = w))) : DV) = .v (.bool true) from (bv (by simp [View.eq_iff, *]))]
        exact toRet tb_ok mixed_ok hK rfl [] 2000 r (by kernel_rfl) trivial
set_option maxRecDepth 100000 in
theorem refViewSame (v w : View) (hb : v.bounded) : Con Try.prog 35 [.ag [.u v.id.round, .z v.id.server.node, .u v.id.server.inc, .d (.ro 2 (procs v.members)), .d (.ro 1 (nums v.starts))], .ag [.u w.id.round, .z w.id.server.node, .u w.id.server.inc, .d (.ro 2 (procs w.members)), .d (.ro 1 (nums w.starts))]] (DV.v (.bool (decide (v = w)))) := by
  obtain ⟨hb1, hb2⟩ := hb
  refine Con.intro (by kernel_rfl) rfl rfl 46 rfl rfl fun w0 K ac hK r => ?_
  cases h0 : (decide (v.id = w.id)) with
  | false =>
    have qh0 := of_decide_eq_false h0
    rw [show (DV.v (.bool (decide (v = w))) : DV) = .v (.bool false) from (bv (by first | (simp [View.eq_iff, *]; done) | (apply decide_eq_false; rw [View.eq_iff]; rintro ⟨-, -, e⟩; first | (have := congrArg List.length e; omega) | (rw [e, ge_w_starts_i] at ge_v_starts_i; cases ge_v_starts_i; omega)) | (apply decide_eq_true; rw [View.eq_iff]; exact ⟨by simp_all, by simp_all, ext_of (by omega) fun j hj => hv0 j (by omega)⟩)))]
    exact toRet tb_ok mixed_ok hK rfl [(1, [(4, .b false)])] 2000 r (by kernel_rfl) (an ((eqT (eqVid _ _) h0) : EqAgg Try.prog 26 [(.int .u64 (((v.id.round : Nat) : Int))), (.int .i64 (v.id.server.node)), (.int .u64 (((v.id.server.inc : Nat) : Int)))] [(.int .u64 (((w.id.round : Nat) : Int))), (.int .i64 (w.id.server.node)), (.int .u64 (((w.id.server.inc : Nat) : Int)))] false) trivial)
  | true =>
    have qh0 := of_decide_eq_true h0
    cases h1 : (decide (v.members = w.members)) with
    | false =>
      have qh1 := of_decide_eq_false h1
      rw [show (DV.v (.bool (decide (v = w))) : DV) = .v (.bool false) from (bv (by first | (simp [View.eq_iff, *]; done) | (apply decide_eq_false; rw [View.eq_iff]; rintro ⟨-, -, e⟩; first | (have := congrArg List.length e; omega) | (rw [e, ge_w_starts_i] at ge_v_starts_i; cases ge_v_starts_i; omega)) | (apply decide_eq_true; rw [View.eq_iff]; exact ⟨by simp_all, by simp_all, ext_of (by omega) fun j hj => hv0 j (by omega)⟩)))]
      exact toRet tb_ok mixed_ok hK rfl [(1, [(4, .b true), (10, .con (.v (.bool false)))])] 2000 r (by kernel_rfl) (an ((eqT (eqVid _ _) h0) : EqAgg Try.prog 26 [(.int .u64 (((v.id.round : Nat) : Int))), (.int .i64 (v.id.server.node)), (.int .u64 (((v.id.server.inc : Nat) : Int)))] [(.int .u64 (((w.id.round : Nat) : Int))), (.int .i64 (w.id.server.node)), (.int .u64 (((w.id.server.inc : Nat) : Int)))] true) (an ((by have k := refEqual v.members w.members (by omega); rw [h1] at k; exact k) : Con Try.prog 48 [.d (.ro 2 (procs v.members)), .d (.ro 2 (procs w.members))] (.v (.bool false))) trivial))
    | true =>
      have qh1 := of_decide_eq_true h1
      cases h2 : ((((v.starts.length : Nat) : Int) : Int) != ((w.starts.length : Nat) : Int)) with
      | false =>
        have qh2 := eq_of_bne h2
        refine toHead (todo' := hd Try.f35 0) (E' := [(2, .pt 0 0), (3, .pt 1 0), (5, .n 0)]) (M' := [.bx 30 [.u v.id.round, .z v.id.server.node, .u v.id.server.inc, .d (.ro 2 (procs v.members)), .d (.ro 1 (nums v.starts))], .bx 30 [.u w.id.round, .z w.id.server.node, .u w.id.server.inc, .d (.ro 2 (procs w.members)), .d (.ro 1 (nums w.starts))]]) tb_ok mixed_ok hK [(1, [(4, .b true), (10, .con (.v (.bool true))), (16, .z (((v.starts.length : Nat) : Int))), (19, .z (((w.starts.length : Nat) : Int))), (20, .b false)])] 2000 [0, 1] [2, 3, 5] r (by kernel_rfl) (an ((eqT (eqVid _ _) h0) : EqAgg Try.prog 26 [(.int .u64 (((v.id.round : Nat) : Int))), (.int .i64 (v.id.server.node)), (.int .u64 (((v.id.server.inc : Nat) : Int)))] [(.int .u64 (((w.id.round : Nat) : Int))), (.int .i64 (w.id.server.node)), (.int .u64 (((w.id.server.inc : Nat) : Int)))] true) (an ((by have k := refEqual v.members w.members (by omega); rw [h1] at k; exact k) : Con Try.prog 48 [.d (.ro 2 (procs v.members)), .d (.ro 2 (procs w.members))] (.v (.bool true))) (an ((by simp) : (((nums v.starts).length : Nat) : Int) = ((v.starts.length : Nat) : Int)) (an ((by simp) : (((nums w.starts).length : Nat) : Int) = ((w.starts.length : Nat) : Int)) (an h2 trivial))))) fun ac wd r => ?_
        refine Goes.rounds (Φ := fun (i : Nat) ac wd => (i ≤ v.starts.length ∧ ∀ j, j < i → v.starts[j]? = w.starts[j]?) ∧ RE' [] w0 K 46 [(2, .pt 0 0), (3, .pt 1 0), (5, .n i)] [.bx 30 [.u v.id.round, .z v.id.server.node, .u v.id.server.inc, .d (.ro 2 (procs v.members)), .d (.ro 1 (nums v.starts))], .bx 30 [.u w.id.round, .z w.id.server.node, .u w.id.server.inc, .d (.ro 2 (procs w.members)), .d (.ro 1 (nums w.starts))]] ac wd) (v.starts.length) ?_ (Nat.zero_le _) ⟨⟨by omega, by omega⟩, r⟩
        clear r
        rintro i hi0 again0 ac wd ⟨hv0, r⟩
        obtain ⟨hi1, hv0⟩ := hv0
        cases h3 : (decide ((((i : Nat) : Int) : Int) < ((v.starts.length : Nat) : Int))) with
        | false =>
          have qh3 := of_decide_eq_false h3
          rw [show (DV.v (.bool (decide (v = w))) : DV) = .v (.bool true) from (bv (by first | (simp [View.eq_iff, *]; done) | (apply decide_eq_false; rw [View.eq_iff]; rintro ⟨-, -, e⟩; first | (have := congrArg List.length e; omega) | (rw [e, ge_w_starts_i] at ge_v_starts_i; cases ge_v_starts_i; omega)) | (apply decide_eq_true; rw [View.eq_iff]; exact ⟨by simp_all, by simp_all, ext_of (by omega) fun j hj => hv0 j (by omega)⟩)))]
          exact toRet tb_ok mixed_ok hK rfl [(4, [(3, .z (((v.starts.length : Nat) : Int))), (4, .b false)])] 2000 r (by kernel_rfl) (an ((by simp) : (((nums v.starts).length : Nat) : Int) = ((v.starts.length : Nat) : Int)) (an h3 trivial))
        | true =>
          have qh3 := of_decide_eq_true h3
          obtain ⟨e_v_starts_i, ge_v_starts_i⟩ : ∃ x, v.starts[i]? = some x := ⟨_, List.getElem?_eq_getElem (by omega)⟩
          obtain ⟨e_w_starts_i, ge_w_starts_i⟩ : ∃ x, w.starts[i]? = some x := ⟨_, List.getElem?_eq_getElem (by omega)⟩
          cases h4 : ((((e_v_starts_i : Nat) : Int) : Int) != ((e_w_starts_i : Nat) : Int)) with
          | false =>
            have qh4 := eq_of_bne h4
            exact toHead (todo' := hd Try.f35 0) tb_ok mixed_ok hK [(4, [(3, .z (((v.starts.length : Nat) : Int))), (4, .b true)]), (5, [(1, .z (((i + 1 : Nat) : Int)))]), (6, [(3, .ix (i) [.u e_v_starts_i]), (8, .ix (i) [.u e_w_starts_i]), (10, .b false)])] 2000 [0, 1] [2, 3, 5] r (by kernel_rfl) (an ((by simp) : (((nums v.starts).length : Nat) : Int) = ((v.starts.length : Nat) : Int)) (an h3 (an (rfI ((i : Nat) : Int)) (an (nums_at ge_v_starts_i) (an (rfI ((i : Nat) : Int)) (an (nums_at ge_w_starts_i) (an h4 (an ((wi (by omega)) : IntKind.i64.wrap ((((i : Nat) : Int) : Int) + 1) = ((i + 1 : Nat) : Int)) trivial)))))))) fun ac wd r => again0 (by omega) ac wd ⟨⟨by omega, fun j hj => by rcases Nat.lt_succ_iff_lt_or_eq.1 hj with h | rfl; exact hv0 j h; simp only [ge_v_starts_i, ge_w_starts_i, Option.some.injEq]; first | assumption | omega⟩, r⟩
          | true =>
            have qh4 : ¬ _ = _ := bne_iff_ne.1 h4
            rw [show (DV.v (.bool (decide (v = w))) : DV) = .v (.bool false) from (bv (by first | (simp [View.eq_iff, *]; done) | (apply decide_eq_false; rw [View.eq_iff]; rintro ⟨-, -, e⟩; first | (have := congrArg List.length e; omega) | (rw [e, ge_w_starts_i] at ge_v_starts_i; cases ge_v_starts_i; omega)) | (apply decide_eq_true; rw [View.eq_iff]; exact ⟨by simp_all, by simp_all, ext_of (by omega) fun j hj => hv0 j (by omega)⟩)))]
            exact toRet tb_ok mixed_ok hK rfl [(4, [(3, .z (((v.starts.length : Nat) : Int))), (4, .b true)]), (6, [(3, .ix (i) [.u e_v_starts_i]), (8, .ix (i) [.u e_w_starts_i]), (10, .b true)])] 2000 r (by kernel_rfl) (an ((by simp) : (((nums v.starts).length : Nat) : Int) = ((v.starts.length : Nat) : Int)) (an h3 (an (rfI ((i : Nat) : Int)) (an (nums_at ge_v_starts_i) (an (rfI ((i : Nat) : Int)) (an (nums_at ge_w_starts_i) (an h4 trivial)))))))
      | true =>
        have qh2 : ¬ _ = _ := bne_iff_ne.1 h2
        rw [show (DV.v (.bool (decide (v = w))) : DV) = .v (.bool false) from (bv (by first | (simp [View.eq_iff, *]; done) | (apply decide_eq_false; rw [View.eq_iff]; rintro ⟨-, -, e⟩; first | (have := congrArg List.length e; omega) | (rw [e, ge_w_starts_i] at ge_v_starts_i; cases ge_v_starts_i; omega)) | (apply decide_eq_true; rw [View.eq_iff]; exact ⟨by simp_all, by simp_all, ext_of (by omega) fun j hj => hv0 j (by omega)⟩)))]
        exact toRet tb_ok mixed_ok hK rfl [(1, [(4, .b true), (10, .con (.v (.bool true))), (16, .z (((v.starts.length : Nat) : Int))), (19, .z (((w.starts.length : Nat) : Int))), (20, .b true)])] 2000 r (by kernel_rfl) (an ((eqT (eqVid _ _) h0) : EqAgg Try.prog 26 [(.int .u64 (((v.id.round : Nat) : Int))), (.int .i64 (v.id.server.node)), (.int .u64 (((v.id.server.inc : Nat) : Int)))] [(.int .u64 (((w.id.round : Nat) : Int))), (.int .i64 (w.id.server.node)), (.int .u64 (((w.id.server.inc : Nat) : Int)))] true) (an ((by have k := refEqual v.members w.members (by omega); rw [h1] at k; exact k) : Con Try.prog 48 [.d (.ro 2 (procs v.members)), .d (.ro 2 (procs w.members))] (.v (.bool true))) (an ((by simp) : (((nums v.starts).length : Nat) : Int) = ((v.starts.length : Nat) : Int)) (an ((by simp) : (((nums w.starts).length : Nat) : Int) = ((w.starts.length : Nat) : Int)) (an h2 trivial)))))
set_option maxRecDepth 100000 in
theorem containsNum (l : List Nat) (x : Nat) (hb : l.length < 2147483648) : Con Try.prog 54 [.d (.ro 1 (nums l)), .u x] (DV.v (.bool (decide (0 ≤ idx l x 0)))) := by
  refine Con.intro (by kernel_rfl) rfl rfl 9 rfl rfl fun w0 K ac hK r => ?_
  cases h0 : (decide ((0 : Int) ≤ idx l x 0)) with
  | false =>
    have qh0 := of_decide_eq_false h0
    exact toRet tb_ok mixed_ok hK rfl [(1, [(2, .con (.z (idx l x 0))), (3, .b false)])] 2000 r (by kernel_rfl) (an (indexNums _ _ (by omega) : Con Try.prog 73 [.d (.ro 1 (nums l)), .u x] (.z (idx l x 0))) (an h0 trivial))
  | true =>
    have qh0 := of_decide_eq_true h0
    exact toRet tb_ok mixed_ok hK rfl [(1, [(2, .con (.z (idx l x 0))), (3, .b true)])] 2000 r (by kernel_rfl) (an (indexNums _ _ (by omega) : Con Try.prog 73 [.d (.ro 1 (nums l)), .u x] (.z (idx l x 0))) (an h0 trivial))
set_option maxRecDepth 100000 in
theorem viewPlace (v : View) (p : Proc) (hb : v.bounded) : Con Try.prog 28 [.ag [.u v.id.round, .z v.id.server.node, .u v.id.server.inc, .d (.ro 2 (procs v.members)), .d (.ro 1 (nums v.starts))], .ag [.z p.node, .u p.inc]] (.tu [.v (.int .i64 ((placeN v.members p : Nat) : Int)), .v (.bool (placeB v.members p))]) := by
  obtain ⟨hb1, hb2⟩ := hb
  refine Con.intro (by kernel_rfl) rfl rfl 14 rfl rfl fun w0 K ac hK r => ?_
  cases h0 : (decide ((idx v.members p 0 : Int) < 0)) with
  | false =>
    have qh0 := of_decide_eq_false h0
    rw [show (.tu [.v (.int .i64 ((placeN v.members p : Nat) : Int)), .v (.bool (placeB v.members p))] : DV) = .tu [.z (idx v.members p 0), .v (.bool true)] from (by unfold placeN placeB; simp; omega)]
    exact toRet tb_ok mixed_ok hK rfl [(1, [(3, .con (.z (idx v.members p 0)))]), (2, [(1, .b false)])] 2000 r (by kernel_rfl) (an (indexProcs _ _ (by omega) : Con Try.prog 44 [.d (.ro 2 (procs v.members)), .ag [.z p.node, .u p.inc]] (.z (idx v.members p 0))) (an h0 trivial))
  | true =>
    have qh0 := of_decide_eq_true h0
    rw [show (.tu [.v (.int .i64 ((placeN v.members p : Nat) : Int)), .v (.bool (placeB v.members p))] : DV) = .tu [.z 0, .v (.bool false)] from (by unfold placeN placeB; simp; omega)]
    exact toRet tb_ok mixed_ok hK rfl [(1, [(3, .con (.z (idx v.members p 0)))]), (2, [(1, .b true)])] 2000 r (by kernel_rfl) (an (indexProcs _ _ (by omega) : Con Try.prog 44 [.d (.ro 2 (procs v.members)), .ag [.z p.node, .u p.inc]] (.z (idx v.members p 0))) (an h0 trivial))
set_option maxRecDepth 100000 in
theorem refLives (l : List Proc) (hb : l.length < 2147483648) : Con Try.prog 61 [.d (.ro 2 (procs l))] (DV.v (.bool (lone l))) := by
  refine Con.intro (by kernel_rfl) rfl rfl 27 rfl rfl fun w0 K ac hK r => ?_
  refine toHead (todo' := hd Try.f61 0) (E' := [(0, .d (.ro 2 (procs l))), (3, .n 0)]) (M' := []) tb_ok mixed_ok hK [] 2000 [] [0, 3] r (by kernel_rfl) trivial fun ac wd r => ?_
  refine Goes.rounds (Φ := fun (i : Nat) ac wd => (i ≤ l.length ∧ Lone l i) ∧ RE' [] w0 K 27 [(0, .d (.ro 2 (procs l))), (3, .n i)] [] ac wd) (l.length) ?_ (Nat.zero_le _) ⟨⟨by omega, by simp [Lone]⟩, r⟩
  clear r
  rintro i hi0 again0 ac wd ⟨hv0, r⟩
  obtain ⟨hi1, hv0⟩ := hv0
  cases h0 : (decide ((((i : Nat) : Int) : Int) < ((l.length : Nat) : Int))) with
  | false =>
    have qh0 := of_decide_eq_false h0
    rw [show (DV.v (.bool (lone l)) : DV) = .v (.bool true) from (bv (by first | exact lone_yes (by rw [show l.length = i by omega]; exact hv0) | exact lone_no (a := i) (b := j) (by omega) (by omega) ge_l_i ge_l_j (by assumption)))]
    exact toRet tb_ok mixed_ok hK rfl [(2, [(2, .z (((l.length : Nat) : Int))), (3, .b false)])] 2000 r (by kernel_rfl) (an ((by simp) : (((procs l).length : Nat) : Int) = ((l.length : Nat) : Int)) (an h0 trivial))
  | true =>
    have qh0 := of_decide_eq_true h0
    obtain ⟨e_l_i, ge_l_i⟩ : ∃ x, l[i]? = some x := ⟨_, List.getElem?_eq_getElem (by omega)⟩
    refine toHead (todo' := hd Try.f61 1) (E' := [(0, .d (.ro 2 (procs l))), (3, .n i), (4, .n 0)]) (M' := []) tb_ok mixed_ok hK [(2, [(2, .z (((l.length : Nat) : Int))), (3, .b true)])] 2000 [] [0, 3, 4] r (by kernel_rfl) (an ((by simp) : (((procs l).length : Nat) : Int) = ((l.length : Nat) : Int)) (an h0 trivial)) fun ac wd r => ?_
    refine Goes.rounds (Φ := fun (j : Nat) ac wd => (j ≤ i ∧ ∀ b q, b < j → l[b]? = some q → q.node ≠ e_l_i.node) ∧ RE' [] w0 K 27 [(0, .d (.ro 2 (procs l))), (3, .n i), (4, .n j)] [] ac wd) (i) ?_ (Nat.zero_le _) ⟨⟨by omega, by omega⟩, r⟩
    clear r
    rintro j hi1 again1 ac wd ⟨hv1, r⟩
    obtain ⟨hj1, hv1⟩ := hv1
    cases h1 : (decide ((((j : Nat) : Int) : Int) < ((i : Nat) : Int))) with
    | false =>
      have qh1 := of_decide_eq_false h1
      exact toHead (todo' := hd Try.f61 0) tb_ok mixed_ok hK [(3, [(1, .z (((i + 1 : Nat) : Int)))]), (5, [(2, .b false)])] 2000 [] [0, 3] r (by kernel_rfl) (an h1 (an ((wi (by omega)) : IntKind.i64.wrap ((((i : Nat) : Int) : Int) + 1) = ((i + 1 : Nat) : Int)) trivial)) fun ac wd r => again0 (by omega) ac wd ⟨⟨by omega, fun a b p q ha hb hp hq => by rcases Nat.lt_succ_iff_lt_or_eq.1 ha with h | rfl; exact hv0 a b p q h hb hp hq; rw [ge_l_i] at hp; cases hp; exact hv1 b q (by omega) hq⟩, r⟩
    | true =>
      have qh1 := of_decide_eq_true h1
      obtain ⟨e_l_j, ge_l_j⟩ : ∃ x, l[j]? = some x := ⟨_, List.getElem?_eq_getElem (by omega)⟩
      cases h2 : ((e_l_j.node : Int) == e_l_i.node) with
      | false =>
        have qh2 := ne_of_beq_false h2
        exact toHead (todo' := hd Try.f61 1) tb_ok mixed_ok hK [(5, [(2, .b true)]), (6, [(1, .z (((j + 1 : Nat) : Int)))]), (7, [(2, .ix (j) [.z e_l_j.node, .u e_l_j.inc]), (7, .ix (i) [.z e_l_i.node, .u e_l_i.inc]), (10, .b false)])] 2000 [] [0, 3, 4] r (by kernel_rfl) (an h1 (an (rfI ((j : Nat) : Int)) (an (procs_at ge_l_j) (an (rfI ((i : Nat) : Int)) (an (procs_at ge_l_i) (an h2 (an ((wi (by omega)) : IntKind.i64.wrap ((((j : Nat) : Int) : Int) + 1) = ((j + 1 : Nat) : Int)) trivial))))))) fun ac wd r => again1 (by omega) ac wd ⟨⟨by omega, fun b q hb hq => by rcases Nat.lt_succ_iff_lt_or_eq.1 hb with h | rfl; exact hv1 b q h hq; rw [ge_l_j] at hq; cases hq; assumption⟩, r⟩
      | true =>
        have qh2 := eq_of_beq h2
        rw [show (DV.v (.bool (lone l)) : DV) = .v (.bool false) from (bv (by first | exact lone_yes (by rw [show l.length = i by omega]; exact hv0) | exact lone_no (a := i) (b := j) (by omega) (by omega) ge_l_i ge_l_j (by assumption)))]
        exact toRet tb_ok mixed_ok hK rfl [(5, [(2, .b true)]), (7, [(2, .ix (j) [.z e_l_j.node, .u e_l_j.inc]), (7, .ix (i) [.z e_l_i.node, .u e_l_i.inc]), (10, .b true)])] 2000 r (by kernel_rfl) (an h1 (an (rfI ((j : Nat) : Int)) (an (procs_at ge_l_j) (an (rfI ((i : Nat) : Int)) (an (procs_at ge_l_i) (an h2 trivial))))))
end Go.Proofs.Ytoijfmfkkmbabaa
namespace Go.Proofs.Ytoijfmfkkmbabaa
open Go.RowKit
structure Slot where
  n : Nat
  body : List UInt8
deriving DecidableEq
def Slot.row (s : Slot) : List DV := [.v (.int .u64 (s.n : Int)), .ro 1 (bytesR s.body)]
abbrev slots (l : List Slot) : List (List DV) := l.map Slot.row
theorem slots_at {l : List Slot} {i : Nat} {s : Slot} (h : l[i]? = some s) : (slots l)[i]? = some [.v (.int .u64 (s.n : Int)), .ro 1 (bytesR s.body)] := by simp [slots, h, Slot.row]
def findS (l : List Slot) (n : Nat) : Int := idx (l.map Slot.n) n 0
theorem findS_at {l : List Slot} {n i : Nat} {s : Slot} (h : l[i]? = some s) (e : s.n = n) (hb : ∀ j t, j < i → l[j]? = some t → t.n ≠ n) : findS l n = (i : Int) := by
  unfold findS
  rw [idx_at (i := i) (by simp [h, e]) fun j hj e2 => ?_]
  · simp
  · rw [List.getElem?_map, Option.map_eq_some_iff] at e2
    obtain ⟨t, h1, h2⟩ := e2
    exact hb j t hj h1 h2
theorem findS_none {l : List Slot} {n : Nat} (hb : ∀ j t, j < l.length → l[j]? = some t → t.n ≠ n) : findS l n = -1 := by
  unfold findS
  refine idx_none fun j hj e2 => ?_
  rw [List.getElem?_map, Option.map_eq_some_iff] at e2
  obtain ⟨t, h1, h2⟩ := e2
  exact hb j t (by simpa using hj) h1 h2
def nthN (l : List Nat) (i : Nat) : Nat := (l[i]?).getD 0
set_option maxRecDepth 100000 in
theorem nthOk (l : List Nat) (i : Nat) (hb : l.length < 2147483648) : Con Try.prog 43 [.d (.ro 1 (nums l)), .n i] (DV.v (.int .u64 ((nthN l i : Nat) : Int))) := by
  refine Con.intro (by kernel_rfl) rfl rfl 13 rfl rfl fun w0 K ac hK r => ?_
  cases h0 : (decide ((((l.length : Nat) : Int) : Int) ≤ ((i : Nat) : Int))) with
  | false =>
    have qh0 := of_decide_eq_false h0
    obtain ⟨e_l_i, ge_l_i⟩ : ∃ x, l[i]? = some x := ⟨_, List.getElem?_eq_getElem (by omega)⟩
    rw [show (DV.v (.int .u64 ((nthN l i : Nat) : Int)) : DV) = .u e_l_i from (iv (by unfold nthN; first | (rw [ge_l_i]; simp; done) | (rw [List.getElem?_eq_none (by omega)]; simp)))]
    exact toRet tb_ok mixed_ok hK rfl [(1, [(2, .z (((l.length : Nat) : Int))), (3, .b false)]), (3, [(2, .ix (i) [.u e_l_i])])] 2000 r (by kernel_rfl) (an ((by simp) : (((nums l).length : Nat) : Int) = ((l.length : Nat) : Int)) (an h0 (an (rfI ((i : Nat) : Int)) (an (nums_at ge_l_i) trivial))))
  | true =>
    have qh0 := of_decide_eq_true h0
    rw [show (DV.v (.int .u64 ((nthN l i : Nat) : Int)) : DV) = .v (.int .u64 0) from (iv (by unfold nthN; first | (rw [ge_l_i]; simp; done) | (rw [List.getElem?_eq_none (by omega)]; simp)))]
    exact toRet tb_ok mixed_ok hK rfl [(1, [(2, .z (((l.length : Nat) : Int))), (3, .b true)])] 2000 r (by kernel_rfl) (an ((by simp) : (((nums l).length : Nat) : Int) = ((l.length : Nat) : Int)) (an h0 trivial))
set_option maxRecDepth 100000 in
theorem findOk (l : List Slot) (n : Nat) (hb : l.length < 2147483648) : Con Try.prog 34 [.ag [.d (.ro 2 (slots l))], .u n] (DV.v (.int .i64 (findS l n))) := by
  refine Con.intro (by kernel_rfl) rfl rfl 22 rfl rfl fun w0 K ac hK r => ?_
  refine toHead (todo' := hd Try.f34 0) (E' := [(1, .u n), (2, .pt 0 0), (5, .n 0)]) (M' := [.bx 67 [.d (.ro 2 (slots l))]]) tb_ok mixed_ok hK [] 2000 [0] [1, 2, 5] r (by kernel_rfl) trivial fun ac wd r => ?_
  refine Goes.rounds (Φ := fun (i : Nat) ac wd => (i ≤ l.length ∧ ∀ j t, j < i → l[j]? = some t → t.n ≠ n) ∧ RE' [] w0 K 22 [(1, .u n), (2, .pt 0 0), (5, .n i)] [.bx 67 [.d (.ro 2 (slots l))]] ac wd) (l.length) ?_ (Nat.zero_le _) ⟨⟨by omega, by omega⟩, r⟩
  clear r
  rintro i hi0 again0 ac wd ⟨hv0, r⟩
  obtain ⟨hi1, hv0⟩ := hv0
  cases h0 : (decide ((((i : Nat) : Int) : Int) < ((l.length : Nat) : Int))) with
  | false =>
    have qh0 := of_decide_eq_false h0
    rw [show (DV.v (.int .i64 (findS l n)) : DV) = .z (-1) from (iv (by first | exact findS_at ge_l_i (by omega) hv0 | exact findS_none fun j t hj => hv0 j t (by omega)))]
    exact toRet tb_ok mixed_ok hK rfl [(2, [(3, .z (((l.length : Nat) : Int))), (4, .b false)])] 2000 r (by kernel_rfl) (an ((by simp) : (((slots l).length : Nat) : Int) = ((l.length : Nat) : Int)) (an h0 trivial))
  | true =>
    have qh0 := of_decide_eq_true h0
    obtain ⟨e_l_i, ge_l_i⟩ : ∃ x, l[i]? = some x := ⟨_, List.getElem?_eq_getElem (by omega)⟩
    cases h1 : ((((e_l_i.n : Nat) : Int) : Int) == ((n : Nat) : Int)) with
    | false =>
      have qh1 := ne_of_beq_false h1
      exact toHead (todo' := hd Try.f34 0) tb_ok mixed_ok hK [(2, [(3, .z (((l.length : Nat) : Int))), (4, .b true)]), (3, [(1, .z (((i + 1 : Nat) : Int)))]), (4, [(3, .ix (i) [.u e_l_i.n, .ro 1 (bytesR e_l_i.body)]), (7, .b false)])] 2000 [0] [1, 2, 5] r (by kernel_rfl) (an ((by simp) : (((slots l).length : Nat) : Int) = ((l.length : Nat) : Int)) (an h0 (an (rfI ((i : Nat) : Int)) (an (slots_at ge_l_i) (an h1 (an ((wi (by omega)) : IntKind.i64.wrap ((((i : Nat) : Int) : Int) + 1) = ((i + 1 : Nat) : Int)) trivial)))))) fun ac wd r => again0 (by omega) ac wd ⟨⟨by omega, fun j t hj ht => by rcases Nat.lt_succ_iff_lt_or_eq.1 hj with h | rfl; exact hv0 j t h ht; rw [ge_l_i] at ht; cases ht; omega⟩, r⟩
    | true =>
      have qh1 := eq_of_beq h1
      rw [show (DV.v (.int .i64 (findS l n)) : DV) = .n i from (iv (by first | exact findS_at ge_l_i (by omega) hv0 | exact findS_none fun j t hj => hv0 j t (by omega)))]
      exact toRet tb_ok mixed_ok hK rfl [(2, [(3, .z (((l.length : Nat) : Int))), (4, .b true)]), (4, [(3, .ix (i) [.u e_l_i.n, .ro 1 (bytesR e_l_i.body)]), (7, .b true)])] 2000 r (by kernel_rfl) (an ((by simp) : (((slots l).length : Nat) : Int) = ((l.length : Nat) : Int)) (an h0 (an (rfI ((i : Nat) : Int)) (an (slots_at ge_l_i) (an h1 trivial)))))
theorem findS_mem {l : List Slot} {n : Nat} (h : 0 ≤ findS l n) : n ∈ l.map Slot.n := by
  apply Decidable.byContradiction; intro hc
  have : findS l n = -1 := findS_none fun j t _ ht e => hc (e ▸ List.mem_map.2 ⟨t, List.mem_of_getElem? ht, rfl⟩)
  omega
theorem pig : ∀ {k : Nat} {l : List Nat}, (∀ j, j < k → j + 1 ∈ l) → k ≤ l.length
  | 0, _, _ => Nat.zero_le _
  | k + 1, l, h => by
    have h1 : k + 1 ∈ l := h k (by omega)
    have h2 := pig (k := k) (l := l.erase (k + 1)) fun j hj => (List.mem_erase_of_ne (by omega)).2 (h j (by omega))
    rw [List.length_erase_of_mem h1] at h2
    have := List.length_pos_of_mem h1
    omega
def countF (l : List Slot) : Nat → Nat → Nat
  | 0, k => k
  | f + 1, k => if 0 ≤ findS l (k + 1) then countF l f (k + 1) else k
def countS (l : List Slot) : Nat := countF l l.length 0
theorem upto_le {l : List Slot} {k : Nat} (h : ∀ j, j < k → 0 ≤ findS l (j + 1)) : k ≤ l.length := by
  have := pig (l := l.map Slot.n) fun j hj => findS_mem (h j hj)
  simpa using this
theorem countS_eq {l : List Slot} {k : Nat} (h : ∀ j, j < k → 0 ≤ findS l (j + 1)) (h1 : ¬ 0 ≤ findS l (k + 1)) : countS l = k := by
  have key : ∀ f i, i ≤ k → k ≤ i + f → countF l f i = k := by
    intro f
    induction f with
    | zero => intro i h2 h3; unfold countF; omega
    | succ f ih =>
      intro i h2 h3
      unfold countF
      rcases Nat.lt_or_ge i k with h4 | h4
      · rw [if_pos (h i h4), ih (i + 1) (by omega) (by omega)]
      · have : i = k := by omega
        subst this; rw [if_neg h1]
  exact key l.length 0 (by omega) (by have := upto_le h; omega)
theorem countS_le (l : List Slot) : countS l ≤ l.length := by
  have key : ∀ f i, countF l f i ≤ i + f := by
    intro f
    induction f with
    | zero => intro i; unfold countF; omega
    | succ f ih => intro i; unfold countF; have := ih (i + 1); split <;> omega
  simpa [countS] using key l.length 0
set_option maxRecDepth 100000 in
theorem countOk (l : List Slot) (hb : l.length < 2147483648) : Con Try.prog 39 [.ag [.d (.ro 2 (slots l))]] (DV.v (.int .u64 ((countS l : Nat) : Int))) := by
  refine Con.intro (by kernel_rfl) rfl rfl 12 rfl rfl fun w0 K ac hK r => ?_
  refine toHead (todo' := hd Try.f39 0) (E' := [(1, .pt 0 0), (3, .u 0)]) (M' := [.bx 67 [.d (.ro 2 (slots l))]]) tb_ok mixed_ok hK [] 2000 [0] [1, 3] r (by kernel_rfl) trivial fun ac wd r => ?_
  refine Goes.rounds (Φ := fun (k : Nat) ac wd => (k ≤ l.length ∧ ∀ j, j < k → 0 ≤ findS l (j + 1)) ∧ RE' [] w0 K 12 [(1, .pt 0 0), (3, .u k)] [.bx 67 [.d (.ro 2 (slots l))]] ac wd) (l.length) ?_ (Nat.zero_le _) ⟨⟨by omega, by omega⟩, r⟩
  clear r
  rintro k hi0 again0 ac wd ⟨hv0, r⟩
  obtain ⟨hi1, hv0⟩ := hv0
  cases h0 : (decide ((0 : Int) ≤ findS l (k + 1))) with
  | false =>
    have qh0 := of_decide_eq_false h0
    rw [show (DV.v (.int .u64 ((countS l : Nat) : Int)) : DV) = .u k from (iv (by rw [countS_eq (k := k) hv0 (by assumption)]))]
    exact toRet tb_ok mixed_ok hK rfl [(2, [(2, .z (((k + 1 : Nat) : Int))), (3, .con (.z (findS l (k + 1)))), (4, .b false)])] 2000 r (by kernel_rfl) (an ((wu (by omega)) : IntKind.u64.wrap ((((k : Nat) : Int) : Int) + 1) = ((k + 1 : Nat) : Int)) (an (findOk _ _ (by omega) : Con Try.prog 34 [.ag [.d (.ro 2 (slots l))], .u (k + 1)] (.z (findS l (k + 1)))) (an h0 trivial)))
  | true =>
    have qh0 := of_decide_eq_true h0
    have hk2 := upto_le (l := l) (k := k + 1) fun j hj => by rcases Nat.lt_succ_iff_lt_or_eq.1 hj with h | rfl; exact hv0 j h; assumption
    exact toHead (todo' := hd Try.f39 0) tb_ok mixed_ok hK [(2, [(2, .z (((k + 1 : Nat) : Int))), (3, .con (.z (findS l (k + 1)))), (4, .b true)]), (3, [(1, .z (((k + 1 : Nat) : Int)))])] 2000 [0] [1, 3] r (by kernel_rfl) (an ((wu (by omega)) : IntKind.u64.wrap ((((k : Nat) : Int) : Int) + 1) = ((k + 1 : Nat) : Int)) (an (findOk _ _ (by omega) : Con Try.prog 34 [.ag [.d (.ro 2 (slots l))], .u (k + 1)] (.z (findS l (k + 1)))) (an h0 (an ((wu (by omega)) : IntKind.u64.wrap ((((k : Nat) : Int) : Int) + 1) = ((k + 1 : Nat) : Int)) trivial)))) fun ac wd r => again0 (by omega) ac wd ⟨⟨by omega, fun j hj => by rcases Nat.lt_succ_iff_lt_or_eq.1 hj with h | rfl; exact hv0 j h; assumption⟩, r⟩
set_option maxRecDepth 100000 in
theorem cloneBytes_some (l : List UInt8) (h0 : 0 < l.length) (hb : l.length < 2147483648) : Con Try.prog 32 [.d (.ro 1 (bytesR l))] (DV.em 5 1 (bytesR l)) := by
  refine Con.intro (by kernel_rfl) rfl rfl 8 rfl rfl fun w0 K ac hK r => ?_
  rw [show (DV.em 5 1 (bytesR l) : DV) = .em 5 1 ([] ++ (bytesR l)) from rfl]
  exact toRet tb_ok mixed_ok hK rfl [] 2000 r (by kernel_rfl) (an ((by simpa [bytesR] using h0) : 0 < (bytesR l).length) (an ((by simp) : (0) = ([] : List (List DV)).length) (an ((by simp [bytesR]; omega) : (2 * ((0) + (bytesR l).length) + 192) * 1 ≤ 281474976710656) (an ((by simp [bytesR]; omega) : (0) + (bytesR l).length < 4611686018427387904) (an ((by simp [OneR, AV.one, oneC, bytesR]) : OneR (bytesR l)) (an ((by simp) : (0 + (bytesR l).length) = ([] ++ (bytesR l) : List (List DV)).length) trivial))))))
set_option maxRecDepth 100000 in
theorem cloneBytes_none (c : Nat) : Con Try.prog 32 [.d (.v (.slice none 0 c))] (DV.v (.slice none 0 0)) := by
  refine Con.intro (by kernel_rfl) rfl rfl 8 rfl rfl fun w0 K ac hK r => ?_
  exact toRet tb_ok mixed_ok hK rfl [] 2000 r (by kernel_rfl) trivial
set_option maxRecDepth 100000 in
theorem cloneBytes_no (a : Addr) (c : Nat) : Con Try.prog 32 [.d (.v (.slice (some a) 0 c))] (DV.em 5 1 ([] ++ [])) := by
  refine Con.intro (by kernel_rfl) rfl rfl 8 rfl rfl fun w0 K ac hK r => ?_
  exact toRet tb_ok mixed_ok hK rfl [] 2000 r (by kernel_rfl) (an ((by simp) : (0) = ([] : List (List DV)).length) (an ((by simp) : (2 * ((0) + 0) + 192) * 1 ≤ 281474976710656) (an ((by simp) : (0) + 0 < 4611686018427387904) (an ((by simp [OneR]) : OneR (([] : List (List DV)))) (an ((by simp) : (0 + 0) = ([] ++ ([] : List (List DV)) : List (List DV)).length) trivial)))))
theorem cloneBytes (l : List UInt8) (hb : l.length < 2147483648) : Con Try.prog 32 [.d (.ro 1 (bytesR l))] (.em 5 1 (bytesR l)) := by
  cases l with
  | nil =>
    refine Con.empty (pre := []) (post := []) fun a c => ?_
    cases a with
    | none => exact Con.nil 5 1 (cloneBytes_none c)
    | some a => exact cloneBytes_no a c
  | cons b l => exact cloneBytes_some (b :: l) (by simp) hb
set_option maxRecDepth 100000 in
theorem cloneProcs_some (l : List Proc) (h0 : 0 < l.length) (hb : l.length < 2147483648) : Con Try.prog 40 [.d (.ro 2 (procs l))] (DV.em 24 2 (procs l)) := by
  refine Con.intro (by kernel_rfl) rfl rfl 8 rfl rfl fun w0 K ac hK r => ?_
  rw [show (DV.em 24 2 (procs l) : DV) = .em 24 2 ([] ++ (procs l)) from rfl]
  exact toRet tb_ok mixed_ok hK rfl [] 2000 r (by kernel_rfl) (an ((by simpa using h0) : 0 < (procs l).length) (an ((by simp) : (0) = ([] : List (List DV)).length) (an ((by simp; omega) : (2 * ((0) + (procs l).length) + 192) * 16 ≤ 281474976710656) (an ((by simp; omega) : (0) + (procs l).length < 4611686018427387904) (an ((by simp [OneR, AV.one, oneC, Proc.row]) : OneR (procs l)) (an ((by simp) : (0 + (procs l).length) = ([] ++ (procs l) : List (List DV)).length) trivial))))))
set_option maxRecDepth 100000 in
theorem cloneProcs_none (c : Nat) : Con Try.prog 40 [.d (.v (.slice none 0 c))] (DV.v (.slice none 0 0)) := by
  refine Con.intro (by kernel_rfl) rfl rfl 8 rfl rfl fun w0 K ac hK r => ?_
  exact toRet tb_ok mixed_ok hK rfl [] 2000 r (by kernel_rfl) trivial
set_option maxRecDepth 100000 in
theorem cloneProcs_no (a : Addr) (c : Nat) : Con Try.prog 40 [.d (.v (.slice (some a) 0 c))] (DV.em 24 2 ([] ++ [])) := by
  refine Con.intro (by kernel_rfl) rfl rfl 8 rfl rfl fun w0 K ac hK r => ?_
  exact toRet tb_ok mixed_ok hK rfl [] 2000 r (by kernel_rfl) (an ((by simp) : (0) = ([] : List (List DV)).length) (an ((by simp) : (2 * ((0) + 0) + 192) * 16 ≤ 281474976710656) (an ((by simp) : (0) + 0 < 4611686018427387904) (an ((by simp [OneR]) : OneR (([] : List (List DV)))) (an ((by simp) : (0 + 0) = ([] ++ ([] : List (List DV)) : List (List DV)).length) trivial)))))
theorem cloneProcs (l : List Proc) (hb : l.length < 2147483648) : Con Try.prog 40 [.d (.ro 2 (procs l))] (.em 24 2 (procs l)) := by
  cases l with
  | nil =>
    refine Con.empty (pre := []) (post := []) fun a c => ?_
    cases a with
    | none => exact Con.nil 24 2 (cloneProcs_none c)
    | some a => exact cloneProcs_no a c
  | cons b l => exact cloneProcs_some (b :: l) (by simp) hb
set_option maxRecDepth 100000 in
theorem cloneNums_some (l : List Nat) (h0 : 0 < l.length) (hb : l.length < 2147483648) : Con Try.prog 41 [.d (.ro 1 (nums l))] (DV.em 22 1 (nums l)) := by
  refine Con.intro (by kernel_rfl) rfl rfl 8 rfl rfl fun w0 K ac hK r => ?_
  rw [show (DV.em 22 1 (nums l) : DV) = .em 22 1 ([] ++ (nums l)) from rfl]
  exact toRet tb_ok mixed_ok hK rfl [] 2000 r (by kernel_rfl) (an ((by simpa using h0) : 0 < (nums l).length) (an ((by simp) : (0) = ([] : List (List DV)).length) (an ((by simp; omega) : (2 * ((0) + (nums l).length) + 192) * 8 ≤ 281474976710656) (an ((by simp; omega) : (0) + (nums l).length < 4611686018427387904) (an ((by simp [OneR, AV.one, oneC]) : OneR (nums l)) (an ((by simp) : (0 + (nums l).length) = ([] ++ (nums l) : List (List DV)).length) trivial))))))
set_option maxRecDepth 100000 in
theorem cloneNums_none (c : Nat) : Con Try.prog 41 [.d (.v (.slice none 0 c))] (DV.v (.slice none 0 0)) := by
  refine Con.intro (by kernel_rfl) rfl rfl 8 rfl rfl fun w0 K ac hK r => ?_
  exact toRet tb_ok mixed_ok hK rfl [] 2000 r (by kernel_rfl) trivial
set_option maxRecDepth 100000 in
theorem cloneNums_no (a : Addr) (c : Nat) : Con Try.prog 41 [.d (.v (.slice (some a) 0 c))] (DV.em 22 1 ([] ++ [])) := by
  refine Con.intro (by kernel_rfl) rfl rfl 8 rfl rfl fun w0 K ac hK r => ?_
  exact toRet tb_ok mixed_ok hK rfl [] 2000 r (by kernel_rfl) (an ((by simp) : (0) = ([] : List (List DV)).length) (an ((by simp) : (2 * ((0) + 0) + 192) * 8 ≤ 281474976710656) (an ((by simp) : (0) + 0 < 4611686018427387904) (an ((by simp [OneR]) : OneR (([] : List (List DV)))) (an ((by simp) : (0 + 0) = ([] ++ ([] : List (List DV)) : List (List DV)).length) trivial)))))
theorem cloneNums (l : List Nat) (hb : l.length < 2147483648) : Con Try.prog 41 [.d (.ro 1 (nums l))] (.em 22 1 (nums l)) := by
  cases l with
  | nil =>
    refine Con.empty (pre := []) (post := []) fun a c => ?_
    cases a with
    | none => exact Con.nil 22 1 (cloneNums_none c)
    | some a => exact cloneNums_no a c
  | cons b l => exact cloneNums_some (b :: l) (by simp) hb
end Go.Proofs.Ytoijfmfkkmbabaa
namespace Go.Proofs.Ytoijfmfkkmbabaa
open Go.RowKit
variable {P : Program} {T : Tab} {f : FuncId} {R : Ending → World → Prop} {a : Act} {w : World} {D : List Nat} {w0 : World} {K0 : World → Prop} {E : List (Nat × AV)} {M : List Blk} {β : Beta} {F : Nat → Frag} {I X : Frag} {sz : Nat} {tb : Tbl} {todo todo' : List Item} {b : Base}
def RB (D : List Nat) (w0 : World) (K0 : World → Prop) (sz : Nat) (b : Base) (E : List (Nat × AV)) (M : List Blk) (a : Act) (w : World) : Prop :=
  b.β.length = b.m ∧ ∃ tc, REb D w0 K0 sz b ⟨[], E, M, tc, []⟩ a w
def RetM (D : List Nat) (w0 : World) (K0 : World → Prop) (b : Base) (x : AV) (M' : List Blk) : Ending → World → Prop :=
  fun e w' => ∃ v, e = .returned v ∧ ∃ β' F' I', RM D w0 K0 M' β' F' I' w' ∧ Ext b.β β' ∧ Grows b.I I' ∧ ARel (fun w => K0 w ∧ Holds w I') β' x v
theorem ConM.intro {fn : Func} {c : Code} {args : List AV} {x : AV} {M' : List Blk} (hcall : callable P f = true) (hf : P.funcs[f]? = some fn) (hb : fn.body = some c) (n : Nat) (hn : fn.ntmps = n) (hle : Nat.ble args.length n = true)
    (h : ∀ (D : List Nat) (w0 : World) (K0 : World → Prop) (b : Base) (a : Act) (w : World), (∀ w, Kp D w0 w → K0 w) → b.m = M.length → RB D w0 K0 n b (argsA args 0) M a w → Goes P f [.code c] (RetM D w0 K0 b x M') a w) : ConM P f args M x M' := by
  refine ⟨hcall, ?_⟩
  intro D w0 K0 β F I w ys Rm hK hl hr
  have hle := Nat.le_of_ble_eq_true hle
  refine calls_of_goes hf hb (h D w0 K0 ⟨β, F, I, M.length⟩ _ w hK rfl ⟨Rm.len, [], by simp; omega, rfl, Nat.le_refl _, β, F, I, Rm, ⟨fun _ _ _ h => h, Grows.refl _, fun _ _ _ => rfl⟩, ?_⟩)
  intro t v hv
  obtain ⟨y, rfl, rfl, hy⟩ : ∃ y : Nat × AV, y.1 = t ∧ y.2 = v ∧ y ∈ argsA args 0 := ⟨(t, v), rfl, rfl, lookA_mem hv⟩
  obtain ⟨-, h2⟩ := argsA_mem args 0 y hy
  simp only [Nat.sub_zero] at h2
  obtain ⟨hlt, -⟩ := List.getElem?_eq_some_iff.1 h2
  have hys : ys[y.1]? = some ys[y.1] := List.getElem?_eq_getElem (by omega)
  have he : ({ tmps := ys.toArray ++ Array.replicate (fn.ntmps - ys.toArray.size) undef, defers := [] } : Act).eval (.tmp y.1) = ys[y.1] := by
    have : y.1 < ys.length := by omega
    simp [Act.eval, Array.getD_eq_getD_getElem?, Array.getElem?_append, this]
  rw [he]
  exact hr y.1 y.2 _ h2 hys
def startsB (m : Nat) (l : List Nat) : Bool := (List.range m).all fun i => match l[i]? with | some u => u.beq i | none => false
theorem startsB_at {m : Nat} {l : List Nat} (h : startsB m l = true) {i : Nat} (hi : i < m) : l[i]? = some i := by
  have := List.all_eq_true.1 h i (List.mem_range.2 hi)
  split at this
  · rename_i u hu; rw [hu, Nat.eq_of_beq_eq_true this]
  · simp at this
def farB (m : Nat) (mv : List Nat) : Bool := mv.all fun u => Nat.ble m u
theorem farB_at {m : Nat} {mv : List Nat} (h : farB m mv = true) {u : Nat} (hu : u < m) : u ∉ mv := fun hm => by
  have := Nat.le_of_ble_eq_true (List.all_eq_true.1 h u hm); omega
theorem ren_parts {l : List Nat} {M' : List Blk} (hn : nodupB l = true) (hM : renM l M l = some M') (Rm : RM D w0 K0 M β F I w) : RM D w0 K0 M' (renBeta β l) (pickF F l) I w := by
  obtain ⟨e1, e2⟩ := renM_at hM
  have hlt : ∀ u ∈ l, u < M.length := by
    intro u hu
    obtain ⟨i, hi, rfl⟩ := List.getElem_of_mem hu
    obtain ⟨u', b0, g1, g2, -⟩ := e2 i M'[i] (List.getElem?_eq_getElem (by omega))
    rw [List.getElem?_eq_getElem hi, Option.some.injEq] at g1
    rw [g1]; exact lt_of_some g2
  obtain ⟨rest, hst⟩ := give_all (nodupB_ok hn) hlt Rm.x
  refine ⟨by rw [renBeta_len, e1], ?_, ?_⟩
  · intro i b hb
    obtain ⟨u, b0, g1, g2, g3⟩ := e2 i b hb
    rw [pickF_at g1]; exact renB_ok g1 g3 (Rm.blk u b0 g2)
  · rw [e1, flat_idx]
    have := hst.app_right
    exact this.perm (by classical rw [List.perm_iff_count]; intro z; simp only [List.count_append, List.count_nil]; omega)
theorem ext_ren {l mv tc : List Nat} (hb : b.β.length = b.m) (hs : startsB b.m l = true) (hf : farB b.m mv = true) (h : Since b mv tc β F I) : Ext b.β (renBeta β l) := by
  intro u x hx
  have hu : u < b.m := by rw [← hb]; exact (List.getElem?_eq_some_iff.1 hx).1
  exact renBeta_at (startsB_at hs hu) (h.1 u x (farB_at hf hu) hx)
theorem REb.ren {s : RS} (hb : b.β.length = b.m) (r : REb D w0 K0 sz b s a w) {l ts : List Nat} {M' : List Blk} {E' : List (Nat × AV)} (hn : nodupB l = true) (hs : startsB b.m l = true) (hf : farB b.m s.mv = true) (hM : renM l s.M l = some M') (hE : renE l s.E ts = some E') : RB D w0 K0 sz b E' M' a w := by
  obtain ⟨h1, h2, h3, β, F, I, Rm, hsn, hsl⟩ := r
  refine ⟨hb, List.range b.m, h1, h2, ?_, renBeta β l, pickF F l, I, ren_parts hn hM Rm, ⟨(ext_ren hb hs hf hsn).b _, hsn.2.1, fun u hu hn => absurd (List.mem_range.2 hu) hn⟩, renE_ok hsl hE⟩
  rw [(renM_at hM).1]
  rcases Nat.lt_or_ge l.length b.m with hl | hl
  · have := startsB_at hs (i := l.length) hl
    rw [List.getElem?_eq_none (Nat.le_refl _)] at this; cases this
  · exact hl
def outToM (P : Program) (T : Tab) (sz : Nat) (m : Nat) (tb : Tbl) (n : Nat) (l ts : List Nat) (todo : List Item) (E : List (Nat × AV)) (M : List Blk) : Option (List Item × Prop × List (Nat × AV) × List Blk) :=
  bif nodupB l && startsB m l then (match runC P T (walk P T 3) sz tb n todo ⟨[], E, M, [], []⟩ with
  | some (.code (.loop c) :: k, s) => bif farB m s.mv then anewA l ts (.code c :: .inLoop c :: k) s else none
  | some (.inLoop c :: k, s) => bif farB m s.mv then anewA l ts (.code c :: .inLoop c :: k) s else none
  | _ => none) else none
theorem RB.re (r : RB D w0 K0 sz b E M a w) : ∃ b', REb D w0 K0 sz b' ⟨[], E, M, [], []⟩ a w ∧ b'.β.length = b.m ∧ Ext b.β b'.β ∧ Grows b.I b'.I ∧ b'.m = b.m := by
  obtain ⟨hb, tc, h1, h2, h3, β, F, I, Rm, hsn, hsl⟩ := r
  refine ⟨⟨β.take b.m, F, I, b.m⟩, ⟨h1, h2, h3, β, F, I, Rm, ⟨fun u x _ hx => ?_, Grows.refl _, fun _ _ _ => rfl⟩, hsl⟩, ?_, fun u x hx => ?_, hsn.2.1, rfl⟩
  · rw [List.getElem?_take] at hx
    split at hx
    · exact hx
    · simp at hx
  · rw [List.length_take, Rm.len]; have h3' : b.m ≤ M.length := h3; omega
  · have hu : u < b.m := by rw [← hb]; exact (List.getElem?_eq_some_iff.1 hx).1
    rw [List.getElem?_take, if_pos hu]
    exact hsn.1 u x (by simp) hx
theorem RB.from {b' : Base} (hbm : b'.m = b.m) (hb : b.β.length = b.m) (hE : Ext b.β b'.β) (hG : Grows b.I b'.I) (r : RB D w0 K0 sz b' E M a w) : RB D w0 K0 sz b E M a w := by
  obtain ⟨-, tc, h1, h2, h3, β, F, I, Rm, hsn, hsl⟩ := r
  refine ⟨hb, List.range b.m, h1, h2, by rw [← hbm]; exact h3, β, F, I, Rm, ⟨fun u x _ hx => hsn.1 u x (by simp) (hE u x hx), hG.trans hsn.2.1, fun u hu hn => absurd (List.mem_range.2 hu) hn⟩, hsl⟩
theorem toHeadM (hT : tabB P T = true) (hm : P.follows .mixedOrders = true) (hK : ∀ w, Kp D w0 w → K0 w) {m : Nat} (hbm : b.m = m) (tb : Tbl) (n : Nat) (l ts : List Nat) {A : Prop} {E' : List (Nat × AV)} {M' : List Blk} (r : RB D w0 K0 sz b E M a w)
    (h : outToM P T sz m tb n l ts todo E M = some (todo', A, E', M')) (hA : A) (k : ∀ a' w', RB D w0 K0 sz b E' M' a' w' → Goes P f todo' R a' w') : Goes P f todo R a w := by
  subst hbm
  have hb := r.1
  obtain ⟨b', rb, hb', hE, hG, hm'⟩ := r.re
  unfold outToM at h
  cases hn : (nodupB l && startsB b.m l) with
  | false => simp [hn] at h
  | true =>
    simp only [hn, cond_true] at h
    simp only [Bool.and_eq_true] at hn
    have key : ∀ {s : RS} {a' : Act} {w' : World} {M' : List Blk} {E' : List (Nat × AV)}, farB b.m s.mv = true → renM l s.M l = some M' → renE l s.E ts = some E' → REb D w0 K0 sz b' s a' w' → RB D w0 K0 sz b E' M' a' w' := fun hf h3 h4 r' =>
      RB.from hm' hb hE hG (r'.ren (by rw [hb', hm']) hn.1 (by rw [hm']; exact hn.2) (by rw [hm']; exact hf) h3 h4)
    split at h
    · rename_i c k' s hr
      cases hf : farB b.m s.mv with
      | false => simp [hf] at h
      | true =>
        simp only [hf, cond_true] at h
        obtain ⟨rfl, rfl, h3, h4⟩ := anewA_ok h
        exact segb hT (walk_ok hT hm 3) hm hK n hr rb hA fun a' w' r' => Goes.loop (k a' w' (key hf h3 h4 r'))
    · rename_i c k' s hr
      cases hf : farB b.m s.mv with
      | false => simp [hf] at h
      | true =>
        simp only [hf, cond_true] at h
        obtain ⟨rfl, rfl, h3, h4⟩ := anewA_ok h
        exact segb hT (walk_ok hT hm 3) hm hK n hr rb hA fun a' w' r' => Goes.again (k a' w' (key hf h3 h4 r'))
    · simp at h
def finM (T : Tab) (m : Nat) (keep : List Nat) (rs : List ResultVar) (s : RS) : Option (Prop × AV × List Blk) :=
  bif nodupB keep && startsB m keep && farB m s.mv then (match resA T s.E s.M rs with
  | some l => (match renM keep s.M keep, ren3 keep (oneA l) with
    | some M', some x => some (AllP s.vc, x, M')
    | _, _ => none)
  | none => none) else none
def outRetM (P : Program) (T : Tab) (sz : Nat) (m : Nat) (rs : List ResultVar) (tb : Tbl) (n : Nat) (keep : List Nat) (todo : List Item) (E : List (Nat × AV)) (M : List Blk) : Option (Prop × AV × List Blk) :=
  match runC P T (walk P T 3) sz tb n todo ⟨[], E, M, [], []⟩ with
  | some (.code .ret :: _, s) => finM T m keep rs s
  | some ([], s) => finM T m keep rs s
  | _ => none
theorem toRetM (hT : tabB P T = true) (hm : P.follows .mixedOrders = true) (hK : ∀ w, Kp D w0 w → K0 w) {fn : Func} (hf : P.funcs[f]? = some fn) {m : Nat} (hbm : b.m = m) (tb : Tbl) (n : Nat) (keep : List Nat) {x : AV} {M' : List Blk} {A : Prop} (r : RB D w0 K0 sz b E M a w)
    (h : outRetM P T sz m fn.results.toList tb n keep todo E M = some (A, x, M')) (hA : A) : Goes P f todo (RetM D w0 K0 b x M') a w := by
  subst hbm
  have hb := r.1
  obtain ⟨b', rb, hb', hE, hG, hm'⟩ := r.re
  have key : ∀ {s : RS} {a' : Act} {w' : World}, finM T b.m keep fn.results.toList s = some (A, x, M') → REb D w0 K0 sz b' s a' w' → AllP s.vc = A ∧ ∃ v, (results fn a'.tmps).run P w' = .ok v w' ∧ RetM D w0 K0 b x M' (.returned v) w' := by
    intro s a' w' hfin r'
    unfold finM at hfin
    cases hc : (nodupB keep && startsB b.m keep && farB b.m s.mv) with
    | false => simp only [hc, cond_false, reduceCtorEq] at hfin
    | true =>
      simp only [hc, cond_true] at hfin
      simp only [Bool.and_eq_true] at hc
      split at hfin
      · rename_i l hl
        split at hfin
        · rename_i M1 x1 hM hx
          simp only [Option.some.injEq, Prod.mk.injEq] at hfin
          obtain ⟨hA', rfl, rfl⟩ := hfin
          refine ⟨hA', ?_⟩
          obtain ⟨-, -, -, β, F, I, Rm, hsn, hs⟩ := r'
          obtain ⟨ys, e1, e2, e3⟩ := resA_ok hT Rm hs hl
          refine ⟨_, res_run rfl e1, _, rfl, renBeta β keep, pickF F keep, I, ren_parts hc.1.1 hM Rm, ?_, hG.trans hsn.2.1, ren3_ok hx ?_⟩
          · have := ext_ren (b := b') (by rw [hb', hm']) (by rw [hm']; exact hc.1.2) (by rw [hm']; exact hc.2) hsn
            exact fun u q hq => this u q (hE u q hq)
          · match ys, l, e2, e3 with
            | [], [], _, _ => exact .tu [] rfl (by simp)
            | [y], [v], _, e3 => exact e3 0 v y rfl rfl
            | y :: y' :: ys, v :: v' :: l, e2, e3 => exact .tu _ e2 e3
        · simp at hfin
      · simp at hfin
  unfold outRetM at h
  have hvc : ∀ {s : RS}, finM T b.m keep fn.results.toList s = some (A, x, M') → AllP s.vc := by
    intro s hfin
    unfold finM at hfin
    cases hc : (nodupB keep && startsB b.m keep && farB b.m s.mv) with
    | false => simp only [hc, cond_false, reduceCtorEq] at hfin
    | true =>
      simp only [hc, cond_true] at hfin
      split at hfin
      · split at hfin
        · simp only [Option.some.injEq, Prod.mk.injEq] at hfin
          rw [hfin.1]; exact hA
        · simp at hfin
      · simp at hfin
  split at h
  · rename_i k s hr
    refine segb hT (walk_ok hT hm 3) hm hK n hr rb (hvc h) fun a' w' r' => ?_
    obtain ⟨-, v, h1, h2⟩ := key h r'
    exact Goes.ret hf r'.2.1 h1 h2
  · rename_i s hr
    refine segb hT (walk_ok hT hm 3) hm hK n hr rb (hvc h) fun a' w' r' => ?_
    obtain ⟨-, v, h1, h2⟩ := key h r'
    exact Goes.fin hf r'.2.1 h1 h2
  · simp at h
theorem castM {x y : AV} {N N' : List Blk} {todo : List Item} (e1 : x = y) (e2 : N = N') (h : Goes P f todo (RetM D w0 K0 b y N') a w) : Goes P f todo (RetM D w0 K0 b x N) a w := e1 ▸ e2 ▸ h
end Go.Proofs.Ytoijfmfkkmbabaa
namespace Go.Proofs.Ytoijfmfkkmbabaa
open Go.RowKit
def gapF : List Slot → Nat → Int
  | [], _ => -1
  | s :: r, k => if s.n ≠ k + 1 then (k : Int) else gapF r (k + 1)
theorem gapF_at : ∀ {l : List Slot} {k i : Nat} {s : Slot}, l[i]? = some s → s.n ≠ k + i + 1 → (∀ j t, j < i → l[j]? = some t → t.n = k + j + 1) → gapF l k = ((k + i : Nat) : Int)
  | [], _, _, _, h, _, _ => by simp at h
  | x :: r, k, 0, s, h, hn, _ => by simp at h; subst h; simp [gapF]; omega
  | x :: r, k, i + 1, s, h, hn, hb => by
    have h0 : x.n = k + 1 := by have := hb 0 x (by omega) rfl; simpa using this
    rw [gapF, if_neg (by omega), gapF_at (i := i) (s := s) (by simpa using h) (by omega) fun j t hj ht => by have := hb (j + 1) t (by omega) (by simpa using ht); omega]
    congr 1; omega
theorem gapF_none : ∀ {l : List Slot} {k : Nat}, (∀ j t, j < l.length → l[j]? = some t → t.n = k + j + 1) → gapF l k = -1
  | [], _, _ => rfl
  | x :: r, k, h => by
    have h0 : x.n = k + 1 := by have := h 0 x (by simp) rfl; simpa using this
    rw [gapF, if_neg (by omega)]
    exact gapF_none fun j t hj ht => by have := h (j + 1) t (by simpa using hj) (by simpa using ht); omega
def askF : List Slot → Nat → Nat
  | [], k => k
  | s :: r, k => if s.n ≠ k + 1 then k + 1 else askF r (k + 1)
theorem askF_at : ∀ {l : List Slot} {k i : Nat} {s : Slot}, l[i]? = some s → s.n ≠ k + i + 1 → (∀ j t, j < i → l[j]? = some t → t.n = k + j + 1) → askF l k = k + i + 1
  | [], _, _, _, h, _, _ => by simp at h
  | x :: r, k, 0, s, h, hn, _ => by simp at h; subst h; simp [askF]; omega
  | x :: r, k, i + 1, s, h, hn, hb => by
    have h0 : x.n = k + 1 := by have := hb 0 x (by omega) rfl; simpa using this
    rw [askF, if_neg (by omega), askF_at (i := i) (s := s) (by simpa using h) (by omega) fun j t hj ht => by have := hb (j + 1) t (by omega) (by simpa using ht); omega]
    omega
theorem askF_none : ∀ {l : List Slot} {k : Nat}, (∀ j t, j < l.length → l[j]? = some t → t.n = k + j + 1) → askF l k = k + l.length
  | [], _, _ => rfl
  | x :: r, k, h => by
    have h0 : x.n = k + 1 := by have := h 0 x (by simp) rfl; simpa using this
    rw [askF, if_neg (by omega)]
    rw [askF_none fun j t hj ht => by have := h (j + 1) t (by simpa using hj) (by simpa using ht); omega]
    simp; omega
def fromF : List Slot → Nat → Nat → Int
  | [], _, _ => -1
  | s :: r, n, k => if n ≤ s.n then (k : Int) else fromF r n (k + 1)
theorem fromF_at : ∀ {l : List Slot} {n k i : Nat} {s : Slot}, l[i]? = some s → n ≤ s.n → (∀ j t, j < i → l[j]? = some t → t.n < n) → fromF l n k = ((k + i : Nat) : Int)
  | [], _, _, _, _, h, _, _ => by simp at h
  | x :: r, n, k, 0, s, h, hn, _ => by simp at h; subst h; simp [fromF, hn]
  | x :: r, n, k, i + 1, s, h, hn, hb => by
    have h0 : x.n < n := hb 0 x (by omega) rfl
    rw [fromF, if_neg (by omega), fromF_at (i := i) (s := s) (by simpa using h) hn fun j t hj ht => hb (j + 1) t (by omega) (by simpa using ht)]
    congr 1; omega
theorem fromF_none : ∀ {l : List Slot} {n k : Nat}, (∀ j t, j < l.length → l[j]? = some t → t.n < n) → fromF l n k = -1
  | [], _, _, _ => rfl
  | x :: r, n, k, h => by
    have h0 : x.n < n := h 0 x (by simp) rfl
    rw [fromF, if_neg (by omega)]
    exact fromF_none fun j t hj ht => h (j + 1) t (by simpa using hj) (by simpa using ht)
theorem ivA {k : IntKind} {a b : Int} (h : a = b) : AV.d (.v (.int k a)) = .d (.v (.int k b)) := by rw [h]
theorem bxU {T : TypeId} {k : IntKind} {a b : Int} (h : a = b) : [Blk.bx T [.d (.v (.int k a))]] = [.bx T [.d (.v (.int k b))]] := by rw [h]
set_option maxRecDepth 100000 in
theorem indexGap (l : List Slot) (hb : l.length < 2147483648) : ConM Try.prog 45 [.d (.ro 2 (slots l)), .fn 56 [.pt 0 0]] [.bx 22 [.d (.v (.int .u64 0))]] (.d (.v (.int .i64 (gapF l 0)))) ([.bx 22 [.d (.v (.int .u64 ((askF l 0 : Nat) : Int)))]]) := by
  refine ConM.intro (by kernel_rfl) rfl rfl 19 rfl rfl fun D w0 K b ac wd hK (hbm : b.m = 1) r => ?_
  refine toHeadM (todo' := hd Try.f45 0) (E' := [(0, .d (.ro 2 (slots l))), (7, .n l.length), (8, .n 0), (1, .fn 56 [.pt 0 0])]) (M' := [.bx 22 [.u 0]]) tb_ok mixed_ok hK hbm [(1, [(1, .z (((l.length : Nat) : Int)))])] 2000 [0] [0, 7, 8, 1] r (by kernel_rfl) (an ((by simp) : (((slots l).length : Nat) : Int) = ((l.length : Nat) : Int)) trivial) fun ac wd r => ?_
  refine Goes.rounds (Φ := fun (i : Nat) ac wd => (i ≤ l.length ∧ ∀ j t, j < i → l[j]? = some t → t.n = j + 1) ∧ RB D w0 K 19 b [(0, .d (.ro 2 (slots l))), (7, .n l.length), (8, .n i), (1, .fn 56 [.pt 0 0])] [.bx 22 [.u i]] ac wd) (l.length) ?_ (Nat.zero_le _) ⟨⟨by omega, by omega⟩, r⟩
  clear r
  rintro i hi0 again0 ac wd ⟨hv0, r⟩
  obtain ⟨hi1, hv0⟩ := hv0
  cases h0 : (decide ((((i : Nat) : Int) : Int) < ((l.length : Nat) : Int))) with
  | false =>
    have qh0 := of_decide_eq_false h0
    refine castM (y := .z (-1)) (N' := [.bx 22 [.u i]]) ((ivA (by first | (rw [gapF_at ge_l_i (by omega) (fun j t hj ht => by have := hv0 j t hj ht; omega)]; simp; done) | exact gapF_none fun j t hj ht => by have := hv0 j t (by omega) ht; omega))) ((bxU (by first | (rw [askF_at ge_l_i (by omega) (fun j t hj ht => by have := hv0 j t hj ht; omega)]; simp; done) | (rw [askF_none (fun j t hj ht => by have := hv0 j t (by omega) ht; omega)]; simp; omega)))) ?_
    exact toRetM tb_ok mixed_ok hK rfl hbm [(2, [(0, .b false)])] 2000 [0] r (by kernel_rfl) (an h0 trivial)
  | true =>
    have qh0 := of_decide_eq_true h0
    obtain ⟨e_l_i, ge_l_i⟩ : ∃ x, l[i]? = some x := ⟨_, List.getElem?_eq_getElem (by omega)⟩
    cases h1 : ((((e_l_i.n : Nat) : Int) : Int) != ((i + 1 : Nat) : Int)) with
    | false =>
      have qh1 := eq_of_bne h1
      exact toHeadM (todo' := hd Try.f45 0) tb_ok mixed_ok hK hbm [(2, [(0, .b true)]), (4, [(3, .ix (i) [.u e_l_i.n, .ro 1 (bytesR e_l_i.body)]), (5, .into 200 [(1, [(1, .z (((i + 1 : Nat) : Int)))]), (2, [(3, .b false)])])]), (6, [(0, .z (((i + 1 : Nat) : Int)))])] 2000 [0] [0, 7, 8, 1] r (by kernel_rfl) (an h0 (an (rfI ((i : Nat) : Int)) (an (slots_at ge_l_i) (an ((wu (by omega)) : IntKind.u64.wrap ((((i : Nat) : Int) : Int) + 1) = ((i + 1 : Nat) : Int)) (an h1 (an ((wi (by omega)) : IntKind.i64.wrap ((((i : Nat) : Int) : Int) + 1) = ((i + 1 : Nat) : Int)) trivial)))))) fun ac wd r => again0 (by omega) ac wd ⟨⟨by omega, fun j t hj ht => by rcases Nat.lt_succ_iff_lt_or_eq.1 hj with h | rfl; exact hv0 j t h ht; rw [ge_l_i] at ht; cases ht; omega⟩, r⟩
    | true =>
      have qh1 : ¬ _ = _ := bne_iff_ne.1 h1
      refine castM (y := .n i) (N' := [.bx 22 [.u (i + 1)]]) ((ivA (by first | (rw [gapF_at ge_l_i (by omega) (fun j t hj ht => by have := hv0 j t hj ht; omega)]; simp; done) | exact gapF_none fun j t hj ht => by have := hv0 j t (by omega) ht; omega))) ((bxU (by first | (rw [askF_at ge_l_i (by omega) (fun j t hj ht => by have := hv0 j t hj ht; omega)]; simp; done) | (rw [askF_none (fun j t hj ht => by have := hv0 j t (by omega) ht; omega)]; simp; omega)))) ?_
      exact toRetM tb_ok mixed_ok hK rfl hbm [(2, [(0, .b true)]), (4, [(3, .ix (i) [.u e_l_i.n, .ro 1 (bytesR e_l_i.body)]), (5, .into 200 [(1, [(1, .z (((i + 1 : Nat) : Int)))]), (2, [(3, .b true)])])])] 2000 [0] r (by kernel_rfl) (an h0 (an (rfI ((i : Nat) : Int)) (an (slots_at ge_l_i) (an ((wu (by omega)) : IntKind.u64.wrap ((((i : Nat) : Int) : Int) + 1) = ((i + 1 : Nat) : Int)) (an h1 trivial)))))
structure Msg where
  src : Proc
  n : Nat
  body : List UInt8
deriving DecidableEq
def Msg.row (m : Msg) : List DV := [.v (.int .i64 m.src.node), .v (.int .u64 (m.src.inc : Int)), .v (.int .u64 (m.n : Int)), .ro 1 (bytesR m.body)]
abbrev msgs (l : List Msg) : List (List DV) := l.map Msg.row
theorem msgs_at {l : List Msg} {i : Nat} {m : Msg} (h : l[i]? = some m) : (msgs l)[i]? = some [.v (.int .i64 m.src.node), .v (.int .u64 (m.src.inc : Int)), .v (.int .u64 (m.n : Int)), .ro 1 (bytesR m.body)] := by simp [msgs, h, Msg.row]
def gapN (l : List Slot) : Nat := if 0 ≤ gapF l 0 then (gapF l 0).toNat else l.length
def fromN (l : List Slot) (n : Nat) : Nat := if 0 ≤ fromF l n 0 then (fromF l n 0).toNat else l.length
set_option maxRecDepth 100000 in
theorem placeGap (l : List Slot) (hb : l.length < 2147483648) : ConM Try.prog 29 [.d (.ro 2 (slots l)), .fn 56 [.pt 0 0]] [.bx 22 [.d (.v (.int .u64 0))]] (.d (.v (.int .i64 ((gapN l : Nat) : Int)))) ([.bx 22 [.u (askF l 0)]]) := by
  refine ConM.intro (by kernel_rfl) rfl rfl 14 rfl rfl fun D w0 K b ac wd hK (hbm : b.m = 1) r => ?_
  cases h0 : (decide ((0 : Int) ≤ gapF l 0)) with
  | false =>
    have qh0 := of_decide_eq_false h0
    refine castM (y := .n l.length) (N' := [.bx 22 [.u (askF l 0)]]) ((ivA (by unfold gapN; split <;> omega))) (rfl) ?_
    exact toRetM tb_ok mixed_ok hK rfl hbm [(1, [(2, .mem [0] (.z (gapF l 0)) [.bx 22 [.u (askF l 0)]])]), (2, [(1, .b false)]), (4, [(1, .z (((l.length : Nat) : Int)))])] 2000 [0] r (by kernel_rfl) (an (indexGap l (by omega)) (an h0 (an ((by simp) : (((slots l).length : Nat) : Int) = ((l.length : Nat) : Int)) trivial)))
  | true =>
    have qh0 := of_decide_eq_true h0
    refine castM (y := .z (gapF l 0)) (N' := [.bx 22 [.u (askF l 0)]]) ((ivA (by unfold gapN; split <;> omega))) (rfl) ?_
    exact toRetM tb_ok mixed_ok hK rfl hbm [(1, [(2, .mem [0] (.z (gapF l 0)) [.bx 22 [.u (askF l 0)]])]), (2, [(1, .b true)])] 2000 [0] r (by kernel_rfl) (an (indexGap l (by omega)) (an h0 trivial))
theorem gapF_le : ∀ (l : List Slot) (k : Nat), gapF l k < ((k + l.length : Nat) : Int)
  | [], k => by simp [gapF]; omega
  | s :: r, k => by
    unfold gapF; have := gapF_le r (k + 1); split
    · simp; omega
    · simp at this ⊢; omega
theorem gapN_le (l : List Slot) : gapN l ≤ l.length := by
  unfold gapN; have := gapF_le l 0; split <;> omega
theorem fromF_le : ∀ (l : List Slot) (n k : Nat), fromF l n k < ((k + l.length : Nat) : Int)
  | [], n, k => by simp [fromF]; omega
  | s :: r, n, k => by
    unfold fromF; have := fromF_le r n (k + 1); split
    · simp; omega
    · simp at this ⊢; omega
theorem fromN_le (l : List Slot) (n : Nat) : fromN l n ≤ l.length := by
  unfold fromN; have := fromF_le l n 0; split <;> omega
set_option maxRecDepth 100000 in
theorem streamCount (l : List Slot) (hb : l.length < 2147483648) : Con Try.prog 37 [.ag [.d (.ro 2 (slots l))]] (DV.v (.int .u64 ((gapN l : Nat) : Int))) := by
  have hg := gapN_le l
  refine Con.intro (by kernel_rfl) rfl rfl 10 rfl rfl fun w0 K ac hK r => ?_
  rw [show (DV.v (.int .u64 ((gapN l : Nat) : Int)) : DV) = .u (gapN l) from rfl]
  exact toRet tb_ok mixed_ok hK rfl [(1, [(2, .into 200 []), (3, .mem [1] (.n (gapN l)) [.bx 22 [.u (askF l 0)]])]), (2, [(1, .z (((gapN l : Nat) : Int)))])] 2000 r (by kernel_rfl) (an (placeGap l (by omega)) (an ((wu (by omega)) : IntKind.u64.wrap (((gapN l : Nat) : Int)) = ((gapN l : Nat) : Int)) trivial))
end Go.Proofs.Ytoijfmfkkmbabaa
namespace Go.Proofs.Ytoijfmfkkmbabaa
open Go.RowKit
theorem ind_v (x : Value) : Ind (.v x) := by intro K K2 y H h; cases h; exact .v _
def View.may (v : View) : Bool :=
  if v.id.round = 0 then v.id.server.may && decide (v = View.first v.id.server)
  else v.id.may && decide (1 ≤ v.members.length) && decide (v.members.length ≤ 6) && decide (v.starts.length = v.members.length) && isSet v.members && lone v.members && v.starts.all fun n => decide (n ≠ 0)
theorem all_yes {l : List Nat} {q : Nat → Bool} (h : ∀ (j x : Nat), j < l.length → l[j]? = some x → q x = true) : l.all q = true := by
  rw [List.all_eq_true]; intro x hx
  obtain ⟨j, hj, rfl⟩ := List.getElem_of_mem hx
  exact h j _ hj (List.getElem?_eq_getElem hj)
theorem all_no {l : List Nat} {q : Nat → Bool} {j x : Nat} (h : l[j]? = some x) (hq : q x = false) : l.all q = false := by
  cases ha : l.all q with
  | false => rfl
  | true => rw [List.all_eq_true] at ha; have := ha x (List.mem_of_getElem? h); rw [hq] at this; cases this
theorem View.may_no {v : View} {i x : Nat} (h : v.id.round ≠ 0) (hx : v.starts[i]? = some x) (h0 : x = 0) : v.may = false := by
  unfold View.may; rw [if_neg h, all_no hx (by simp [h0])]; simp
theorem View.may_yes {v : View} {i : Nat} (h : v.id.round ≠ 0) (h1 : v.id.may = true) (h2 : 1 ≤ v.members.length) (h3 : v.members.length ≤ 6) (h4 : v.starts.length = v.members.length) (h5 : isSet v.members = true) (h6 : lone v.members = true) (hi : v.starts.length ≤ i) (hs : ∀ (j x : Nat), j < i → v.starts[j]? = some x → x ≠ 0) : v.may = true := by
  unfold View.may; rw [if_neg h, all_yes fun j x hj hx => decide_eq_true (hs j x (Nat.lt_of_lt_of_le hj hi) hx)]; simp [*]
theorem View.may_first {v : View} (h : v.id.round = 0) : v.may = (v.id.server.may && decide (v = View.first v.id.server)) := by unfold View.may; rw [if_pos h]
theorem View.may_first0 {v : View} (h : v.id.round = 0) (h1 : v.id.server.may = false) : v.may = false := by rw [View.may_first h, h1]; rfl
theorem View.may_first1 {v : View} {c : Bool} (h : v.id.round = 0) (h1 : v.id.server.may = true) (h2 : decide (v = View.first v.id.server) = c) : v.may = c := by rw [View.may_first h, h1, h2]; rfl
theorem View.may_bad {v : View} (h : v.id.round ≠ 0) (hb : v.id.may = false ∨ v.members.length < 1 ∨ 6 < v.members.length ∨ v.starts.length ≠ v.members.length ∨ isSet v.members = false ∨ lone v.members = false) : v.may = false := by
  unfold View.may; rw [if_neg h]
  rcases hb with h | h | h | h | h | h
  · simp [h]
  · rw [decide_eq_false (by omega : ¬ 1 ≤ v.members.length)]; simp
  · rw [decide_eq_false (by omega : ¬ v.members.length ≤ 6)]; simp
  · simp [h]
  · simp [h]
  · simp [h]
set_option maxRecDepth 100000 in
theorem refViewMay (v : View) (hb : v.bounded) : Con Try.prog 38 [.ag [.u v.id.round, .z v.id.server.node, .u v.id.server.inc, .d (.ro 2 (procs v.members)), .d (.ro 1 (nums v.starts))]] (DV.v (.bool v.may)) := by
  obtain ⟨hb1, hb2⟩ := id hb
  refine Con.intro (by kernel_rfl) rfl rfl 70 rfl rfl fun w0 K ac hK r => ?_
  cases h0 : ((((v.id.round : Nat) : Int) : Int) == 0) with
  | false =>
    have qh0 := ne_of_beq_false h0
    cases h1 : (v.id.may) with
    | false =>
      rw [show (DV.v (.bool v.may) : DV) = .v (.bool false) from (bv (by first | exact View.may_no (by omega) ge_v_starts_i (by omega) | exact View.may_yes (by omega) (by assumption) (by omega) (by omega) (by omega) (by assumption) (by assumption) (by omega) hv0 | exact View.may_first0 (by omega) (by assumption) | exact View.may_first1 (by omega) (by assumption) (by assumption) | exact View.may_bad (by omega) (by first | (left; assumption) | (right; left; omega) | (right; right; left; omega) | (right; right; right; left; omega) | (right; right; right; right; left; assumption) | (right; right; right; right; right; assumption))))]
      exact toRet tb_ok mixed_ok hK rfl [(1, [(3, .b false)]), (3, [(2, .con (.v (.bool false)))])] 2000 r (by kernel_rfl) (an h0 (an ((by have k := refMayId v.id; rw [h1] at k; exact k) : Con Try.prog 59 [.ag [.u v.id.round, .z v.id.server.node, .u v.id.server.inc]] (.v (.bool false))) trivial))
    | true =>
      cases h2 : (decide ((((v.members.length : Nat) : Int) : Int) < 1)) with
      | false =>
        have qh2 := of_decide_eq_false h2
        cases h3 : (decide ((6 : Int) < ((v.members.length : Nat) : Int))) with
        | false =>
          have qh3 := of_decide_eq_false h3
          cases h4 : ((((v.starts.length : Nat) : Int) : Int) != ((v.members.length : Nat) : Int)) with
          | false =>
            have qh4 := eq_of_bne h4
            cases h5 : (isSet v.members) with
            | false =>
              rw [show (DV.v (.bool v.may) : DV) = .v (.bool false) from (bv (by first | exact View.may_no (by omega) ge_v_starts_i (by omega) | exact View.may_yes (by omega) (by assumption) (by omega) (by omega) (by omega) (by assumption) (by assumption) (by omega) hv0 | exact View.may_first0 (by omega) (by assumption) | exact View.may_first1 (by omega) (by assumption) (by assumption) | exact View.may_bad (by omega) (by first | (left; assumption) | (right; left; omega) | (right; right; left; omega) | (right; right; right; left; omega) | (right; right; right; right; left; assumption) | (right; right; right; right; right; assumption))))]
              exact toRet tb_ok mixed_ok hK rfl [(1, [(3, .b false)]), (3, [(2, .con (.v (.bool true))), (7, .z (((v.members.length : Nat) : Int))), (8, .b false), (13, .z (((v.members.length : Nat) : Int))), (14, .b false), (19, .z (((v.starts.length : Nat) : Int))), (22, .z (((v.members.length : Nat) : Int))), (23, .b false), (28, .con (.v (.bool false)))])] 2000 r (by kernel_rfl) (an h0 (an ((by have k := refMayId v.id; rw [h1] at k; exact k) : Con Try.prog 59 [.ag [.u v.id.round, .z v.id.server.node, .u v.id.server.inc]] (.v (.bool true))) (an ((by simp) : (((procs v.members).length : Nat) : Int) = ((v.members.length : Nat) : Int)) (an h2 (an ((by simp) : (((procs v.members).length : Nat) : Int) = ((v.members.length : Nat) : Int)) (an h3 (an ((by simp) : (((nums v.starts).length : Nat) : Int) = ((v.starts.length : Nat) : Int)) (an ((by simp) : (((procs v.members).length : Nat) : Int) = ((v.members.length : Nat) : Int)) (an h4 (an ((by have k := refSet v.members (by omega); rw [h5] at k; exact k) : Con Try.prog 60 [.d (.ro 2 (procs v.members))] (.v (.bool false))) trivial))))))))))
            | true =>
              cases h6 : (lone v.members) with
              | false =>
                rw [show (DV.v (.bool v.may) : DV) = .v (.bool false) from (bv (by first | exact View.may_no (by omega) ge_v_starts_i (by omega) | exact View.may_yes (by omega) (by assumption) (by omega) (by omega) (by omega) (by assumption) (by assumption) (by omega) hv0 | exact View.may_first0 (by omega) (by assumption) | exact View.may_first1 (by omega) (by assumption) (by assumption) | exact View.may_bad (by omega) (by first | (left; assumption) | (right; left; omega) | (right; right; left; omega) | (right; right; right; left; omega) | (right; right; right; right; left; assumption) | (right; right; right; right; right; assumption))))]
                exact toRet tb_ok mixed_ok hK rfl [(1, [(3, .b false)]), (3, [(2, .con (.v (.bool true))), (7, .z (((v.members.length : Nat) : Int))), (8, .b false), (13, .z (((v.members.length : Nat) : Int))), (14, .b false), (19, .z (((v.starts.length : Nat) : Int))), (22, .z (((v.members.length : Nat) : Int))), (23, .b false), (28, .con (.v (.bool true))), (34, .con (.v (.bool false)))])] 2000 r (by kernel_rfl) (an h0 (an ((by have k := refMayId v.id; rw [h1] at k; exact k) : Con Try.prog 59 [.ag [.u v.id.round, .z v.id.server.node, .u v.id.server.inc]] (.v (.bool true))) (an ((by simp) : (((procs v.members).length : Nat) : Int) = ((v.members.length : Nat) : Int)) (an h2 (an ((by simp) : (((procs v.members).length : Nat) : Int) = ((v.members.length : Nat) : Int)) (an h3 (an ((by simp) : (((nums v.starts).length : Nat) : Int) = ((v.starts.length : Nat) : Int)) (an ((by simp) : (((procs v.members).length : Nat) : Int) = ((v.members.length : Nat) : Int)) (an h4 (an ((by have k := refSet v.members (by omega); rw [h5] at k; exact k) : Con Try.prog 60 [.d (.ro 2 (procs v.members))] (.v (.bool true))) (an ((by have k := refLives v.members (by omega); rw [h6] at k; exact k) : Con Try.prog 61 [.d (.ro 2 (procs v.members))] (.v (.bool false))) trivial)))))))))))
              | true =>
                refine toHead (todo' := hd Try.f38 0) (E' := [(1, .pt 0 0), (3, .n 0)]) (M' := [.bx 30 [.u v.id.round, .z v.id.server.node, .u v.id.server.inc, .d (.ro 2 (procs v.members)), .d (.ro 1 (nums v.starts))]]) tb_ok mixed_ok hK [(1, [(3, .b false)]), (3, [(2, .con (.v (.bool true))), (7, .z (((v.members.length : Nat) : Int))), (8, .b false), (13, .z (((v.members.length : Nat) : Int))), (14, .b false), (19, .z (((v.starts.length : Nat) : Int))), (22, .z (((v.members.length : Nat) : Int))), (23, .b false), (28, .con (.v (.bool true))), (34, .con (.v (.bool true)))])] 2000 [0] [1, 3] r (by kernel_rfl) (an h0 (an ((by have k := refMayId v.id; rw [h1] at k; exact k) : Con Try.prog 59 [.ag [.u v.id.round, .z v.id.server.node, .u v.id.server.inc]] (.v (.bool true))) (an ((by simp) : (((procs v.members).length : Nat) : Int) = ((v.members.length : Nat) : Int)) (an h2 (an ((by simp) : (((procs v.members).length : Nat) : Int) = ((v.members.length : Nat) : Int)) (an h3 (an ((by simp) : (((nums v.starts).length : Nat) : Int) = ((v.starts.length : Nat) : Int)) (an ((by simp) : (((procs v.members).length : Nat) : Int) = ((v.members.length : Nat) : Int)) (an h4 (an ((by have k := refSet v.members (by omega); rw [h5] at k; exact k) : Con Try.prog 60 [.d (.ro 2 (procs v.members))] (.v (.bool true))) (an ((by have k := refLives v.members (by omega); rw [h6] at k; exact k) : Con Try.prog 61 [.d (.ro 2 (procs v.members))] (.v (.bool true))) trivial))))))))))) fun ac wd r => ?_
                refine Goes.rounds (Φ := fun (i : Nat) ac wd => (i ≤ v.starts.length ∧ ∀ (j x : Nat), j < i → v.starts[j]? = some x → x ≠ 0) ∧ RE' [] w0 K 70 [(1, .pt 0 0), (3, .n i)] [.bx 30 [.u v.id.round, .z v.id.server.node, .u v.id.server.inc, .d (.ro 2 (procs v.members)), .d (.ro 1 (nums v.starts))]] ac wd) (v.starts.length) ?_ (Nat.zero_le _) ⟨⟨by omega, by omega⟩, r⟩
                clear r
                rintro i hi0 again0 ac wd ⟨hv0, r⟩
                obtain ⟨hi1, hv0⟩ := hv0
                cases h7 : (decide ((((i : Nat) : Int) : Int) < ((v.starts.length : Nat) : Int))) with
                | false =>
                  have qh7 := of_decide_eq_false h7
                  rw [show (DV.v (.bool v.may) : DV) = .v (.bool true) from (bv (by first | exact View.may_no (by omega) ge_v_starts_i (by omega) | exact View.may_yes (by omega) (by assumption) (by omega) (by omega) (by omega) (by assumption) (by assumption) (by omega) hv0 | exact View.may_first0 (by omega) (by assumption) | exact View.may_first1 (by omega) (by assumption) (by assumption) | exact View.may_bad (by omega) (by first | (left; assumption) | (right; left; omega) | (right; right; left; omega) | (right; right; right; left; omega) | (right; right; right; right; left; assumption) | (right; right; right; right; right; assumption))))]
                  exact toRet tb_ok mixed_ok hK rfl [(6, [(3, .z (((v.starts.length : Nat) : Int))), (4, .b false)])] 2000 r (by kernel_rfl) (an ((by simp) : (((nums v.starts).length : Nat) : Int) = ((v.starts.length : Nat) : Int)) (an h7 trivial))
                | true =>
                  have qh7 := of_decide_eq_true h7
                  obtain ⟨e_v_starts_i, ge_v_starts_i⟩ : ∃ x, v.starts[i]? = some x := ⟨_, List.getElem?_eq_getElem (by omega)⟩
                  cases h8 : ((((e_v_starts_i : Nat) : Int) : Int) == 0) with
                  | false =>
                    have qh8 := ne_of_beq_false h8
                    exact toHead (todo' := hd Try.f38 0) tb_ok mixed_ok hK [(6, [(3, .z (((v.starts.length : Nat) : Int))), (4, .b true)]), (7, [(1, .z (((i + 1 : Nat) : Int)))]), (8, [(3, .ix (i) [.u e_v_starts_i]), (5, .b false)])] 2000 [0] [1, 3] r (by kernel_rfl) (an ((by simp) : (((nums v.starts).length : Nat) : Int) = ((v.starts.length : Nat) : Int)) (an h7 (an (rfI ((i : Nat) : Int)) (an (nums_at ge_v_starts_i) (an h8 (an ((wi (by omega)) : IntKind.i64.wrap ((((i : Nat) : Int) : Int) + 1) = ((i + 1 : Nat) : Int)) trivial)))))) fun ac wd r => again0 (by omega) ac wd ⟨⟨by omega, fun j x hj hx => by rcases Nat.lt_succ_iff_lt_or_eq.1 hj with h | rfl; exact hv0 j x h hx; rw [ge_v_starts_i] at hx; cases hx; omega⟩, r⟩
                  | true =>
                    have qh8 := eq_of_beq h8
                    rw [show (DV.v (.bool v.may) : DV) = .v (.bool false) from (bv (by first | exact View.may_no (by omega) ge_v_starts_i (by omega) | exact View.may_yes (by omega) (by assumption) (by omega) (by omega) (by omega) (by assumption) (by assumption) (by omega) hv0 | exact View.may_first0 (by omega) (by assumption) | exact View.may_first1 (by omega) (by assumption) (by assumption) | exact View.may_bad (by omega) (by first | (left; assumption) | (right; left; omega) | (right; right; left; omega) | (right; right; right; left; omega) | (right; right; right; right; left; assumption) | (right; right; right; right; right; assumption))))]
                    exact toRet tb_ok mixed_ok hK rfl [(6, [(3, .z (((v.starts.length : Nat) : Int))), (4, .b true)]), (8, [(3, .ix (i) [.u e_v_starts_i]), (5, .b true)])] 2000 r (by kernel_rfl) (an ((by simp) : (((nums v.starts).length : Nat) : Int) = ((v.starts.length : Nat) : Int)) (an h7 (an (rfI ((i : Nat) : Int)) (an (nums_at ge_v_starts_i) (an h8 trivial)))))
          | true =>
            have qh4 : ¬ _ = _ := bne_iff_ne.1 h4
            rw [show (DV.v (.bool v.may) : DV) = .v (.bool false) from (bv (by first | exact View.may_no (by omega) ge_v_starts_i (by omega) | exact View.may_yes (by omega) (by assumption) (by omega) (by omega) (by omega) (by assumption) (by assumption) (by omega) hv0 | exact View.may_first0 (by omega) (by assumption) | exact View.may_first1 (by omega) (by assumption) (by assumption) | exact View.may_bad (by omega) (by first | (left; assumption) | (right; left; omega) | (right; right; left; omega) | (right; right; right; left; omega) | (right; right; right; right; left; assumption) | (right; right; right; right; right; assumption))))]
            exact toRet tb_ok mixed_ok hK rfl [(1, [(3, .b false)]), (3, [(2, .con (.v (.bool true))), (7, .z (((v.members.length : Nat) : Int))), (8, .b false), (13, .z (((v.members.length : Nat) : Int))), (14, .b false), (19, .z (((v.starts.length : Nat) : Int))), (22, .z (((v.members.length : Nat) : Int))), (23, .b true)])] 2000 r (by kernel_rfl) (an h0 (an ((by have k := refMayId v.id; rw [h1] at k; exact k) : Con Try.prog 59 [.ag [.u v.id.round, .z v.id.server.node, .u v.id.server.inc]] (.v (.bool true))) (an ((by simp) : (((procs v.members).length : Nat) : Int) = ((v.members.length : Nat) : Int)) (an h2 (an ((by simp) : (((procs v.members).length : Nat) : Int) = ((v.members.length : Nat) : Int)) (an h3 (an ((by simp) : (((nums v.starts).length : Nat) : Int) = ((v.starts.length : Nat) : Int)) (an ((by simp) : (((procs v.members).length : Nat) : Int) = ((v.members.length : Nat) : Int)) (an h4 trivial)))))))))
        | true =>
          have qh3 := of_decide_eq_true h3
          rw [show (DV.v (.bool v.may) : DV) = .v (.bool false) from (bv (by first | exact View.may_no (by omega) ge_v_starts_i (by omega) | exact View.may_yes (by omega) (by assumption) (by omega) (by omega) (by omega) (by assumption) (by assumption) (by omega) hv0 | exact View.may_first0 (by omega) (by assumption) | exact View.may_first1 (by omega) (by assumption) (by assumption) | exact View.may_bad (by omega) (by first | (left; assumption) | (right; left; omega) | (right; right; left; omega) | (right; right; right; left; omega) | (right; right; right; right; left; assumption) | (right; right; right; right; right; assumption))))]
          exact toRet tb_ok mixed_ok hK rfl [(1, [(3, .b false)]), (3, [(2, .con (.v (.bool true))), (7, .z (((v.members.length : Nat) : Int))), (8, .b false), (13, .z (((v.members.length : Nat) : Int))), (14, .b true)])] 2000 r (by kernel_rfl) (an h0 (an ((by have k := refMayId v.id; rw [h1] at k; exact k) : Con Try.prog 59 [.ag [.u v.id.round, .z v.id.server.node, .u v.id.server.inc]] (.v (.bool true))) (an ((by simp) : (((procs v.members).length : Nat) : Int) = ((v.members.length : Nat) : Int)) (an h2 (an ((by simp) : (((procs v.members).length : Nat) : Int) = ((v.members.length : Nat) : Int)) (an h3 trivial))))))
      | true =>
        have qh2 := of_decide_eq_true h2
        rw [show (DV.v (.bool v.may) : DV) = .v (.bool false) from (bv (by first | exact View.may_no (by omega) ge_v_starts_i (by omega) | exact View.may_yes (by omega) (by assumption) (by omega) (by omega) (by omega) (by assumption) (by assumption) (by omega) hv0 | exact View.may_first0 (by omega) (by assumption) | exact View.may_first1 (by omega) (by assumption) (by assumption) | exact View.may_bad (by omega) (by first | (left; assumption) | (right; left; omega) | (right; right; left; omega) | (right; right; right; left; omega) | (right; right; right; right; left; assumption) | (right; right; right; right; right; assumption))))]
        exact toRet tb_ok mixed_ok hK rfl [(1, [(3, .b false)]), (3, [(2, .con (.v (.bool true))), (7, .z (((v.members.length : Nat) : Int))), (8, .b true)])] 2000 r (by kernel_rfl) (an h0 (an ((by have k := refMayId v.id; rw [h1] at k; exact k) : Con Try.prog 59 [.ag [.u v.id.round, .z v.id.server.node, .u v.id.server.inc]] (.v (.bool true))) (an ((by simp) : (((procs v.members).length : Nat) : Int) = ((v.members.length : Nat) : Int)) (an h2 trivial))))
  | true =>
    have qh0 := eq_of_beq h0
    cases h9 : (v.id.server.may) with
    | false =>
      rw [show (DV.v (.bool v.may) : DV) = .v (.bool false) from (bv (by first | exact View.may_no (by omega) ge_v_starts_i (by omega) | exact View.may_yes (by omega) (by assumption) (by omega) (by omega) (by omega) (by assumption) (by assumption) (by omega) hv0 | exact View.may_first0 (by omega) (by assumption) | exact View.may_first1 (by omega) (by assumption) (by assumption) | exact View.may_bad (by omega) (by first | (left; assumption) | (right; left; omega) | (right; right; left; omega) | (right; right; right; left; omega) | (right; right; right; right; left; assumption) | (right; right; right; right; right; assumption))))]
      exact toRet tb_ok mixed_ok hK rfl [(1, [(3, .b true)]), (2, [(3, .con (.v (.bool false)))])] 2000 r (by kernel_rfl) (an h0 (an ((by have k := refProcMay v.id.server; rw [h9] at k; exact k) : Con Try.prog 57 [.ag [.z v.id.server.node, .u v.id.server.inc]] (.v (.bool false))) trivial))
    | true =>
      cases h10 : (decide (v = View.first v.id.server)) with
      | false =>
        have qh10 := of_decide_eq_false h10
        rw [show (DV.v (.bool v.may) : DV) = .v (.bool false) from (bv (by first | exact View.may_no (by omega) ge_v_starts_i (by omega) | exact View.may_yes (by omega) (by assumption) (by omega) (by omega) (by omega) (by assumption) (by assumption) (by omega) hv0 | exact View.may_first0 (by omega) (by assumption) | exact View.may_first1 (by omega) (by assumption) (by assumption) | exact View.may_bad (by omega) (by first | (left; assumption) | (right; left; omega) | (right; right; left; omega) | (right; right; right; left; omega) | (right; right; right; right; left; assumption) | (right; right; right; right; right; assumption))))]
        exact toRet tb_ok mixed_ok hK rfl [(1, [(3, .b true)]), (2, [(3, .con (.v (.bool true))), (9, .con (.ag [.v (.int .u64 0), .z v.id.server.node, .u v.id.server.inc, .em 24 2 (procs [v.id.server]), .em 22 1 (nums [0])])), (10, .call [.ag [.u v.id.round, .z v.id.server.node, .u v.id.server.inc, .d (.ro 2 (procs v.members)), .d (.ro 1 (nums v.starts))], .ag [.d (.v (.int .u64 0)), .z v.id.server.node, .u v.id.server.inc, .d (.ro 2 (procs [v.id.server])), .d (.ro 1 (nums [0]))]] (.v (.bool false)))])] 2000 r (by kernel_rfl) (an h0 (an ((by have k := refProcMay v.id.server; rw [h9] at k; exact k) : Con Try.prog 57 [.ag [.z v.id.server.node, .u v.id.server.inc]] (.v (.bool true))) (an (refFirst v.id.server) (an ((by have k := refViewSame v (View.first v.id.server) hb; rw [h10] at k; exact k) : Con Try.prog 35 [.ag [.u v.id.round, .z v.id.server.node, .u v.id.server.inc, .d (.ro 2 (procs v.members)), .d (.ro 1 (nums v.starts))], .ag [.d (.v (.int .u64 0)), .z v.id.server.node, .u v.id.server.inc, .d (.ro 2 (procs [v.id.server])), .d (.ro 1 (nums [0]))]] (.v (.bool false))) (an ((ind_v _) : Ind (.v (.bool false))) (an (rfD (.u v.id.round)) (an (rfD (.z v.id.server.node)) (an (rfD (.u v.id.server.inc)) (an (rfD (.ro 2 (procs v.members))) (an (rfD (.ro 1 (nums v.starts))) (an (rfD (.v (.int .u64 0))) (an (rfD (.z v.id.server.node)) (an (rfD (.u v.id.server.inc)) (an (rfN (2)) (an (rfN ((procs [v.id.server]).length)) (an ((by simp [frozR_map, froz, Proc.row]) : frozR (procs [v.id.server]) = procs [v.id.server]) (an (rfN (1)) (an (rfN ((nums [0]).length)) (an ((by simp [frozR_map, froz, Proc.row]) : frozR (nums [0]) = nums [0]) trivial)))))))))))))))))))
      | true =>
        have qh10 := of_decide_eq_true h10
        rw [show (DV.v (.bool v.may) : DV) = .v (.bool true) from (bv (by first | exact View.may_no (by omega) ge_v_starts_i (by omega) | exact View.may_yes (by omega) (by assumption) (by omega) (by omega) (by omega) (by assumption) (by assumption) (by omega) hv0 | exact View.may_first0 (by omega) (by assumption) | exact View.may_first1 (by omega) (by assumption) (by assumption) | exact View.may_bad (by omega) (by first | (left; assumption) | (right; left; omega) | (right; right; left; omega) | (right; right; right; left; omega) | (right; right; right; right; left; assumption) | (right; right; right; right; right; assumption))))]
        exact toRet tb_ok mixed_ok hK rfl [(1, [(3, .b true)]), (2, [(3, .con (.v (.bool true))), (9, .con (.ag [.v (.int .u64 0), .z v.id.server.node, .u v.id.server.inc, .em 24 2 (procs [v.id.server]), .em 22 1 (nums [0])])), (10, .call [.ag [.u v.id.round, .z v.id.server.node, .u v.id.server.inc, .d (.ro 2 (procs v.members)), .d (.ro 1 (nums v.starts))], .ag [.d (.v (.int .u64 0)), .z v.id.server.node, .u v.id.server.inc, .d (.ro 2 (procs [v.id.server])), .d (.ro 1 (nums [0]))]] (.v (.bool true)))])] 2000 r (by kernel_rfl) (an h0 (an ((by have k := refProcMay v.id.server; rw [h9] at k; exact k) : Con Try.prog 57 [.ag [.z v.id.server.node, .u v.id.server.inc]] (.v (.bool true))) (an (refFirst v.id.server) (an ((by have k := refViewSame v (View.first v.id.server) hb; rw [h10] at k; exact k) : Con Try.prog 35 [.ag [.u v.id.round, .z v.id.server.node, .u v.id.server.inc, .d (.ro 2 (procs v.members)), .d (.ro 1 (nums v.starts))], .ag [.d (.v (.int .u64 0)), .z v.id.server.node, .u v.id.server.inc, .d (.ro 2 (procs [v.id.server])), .d (.ro 1 (nums [0]))]] (.v (.bool true))) (an ((ind_v _) : Ind (.v (.bool true))) (an (rfD (.u v.id.round)) (an (rfD (.z v.id.server.node)) (an (rfD (.u v.id.server.inc)) (an (rfD (.ro 2 (procs v.members))) (an (rfD (.ro 1 (nums v.starts))) (an (rfD (.v (.int .u64 0))) (an (rfD (.z v.id.server.node)) (an (rfD (.u v.id.server.inc)) (an (rfN (2)) (an (rfN ((procs [v.id.server]).length)) (an ((by simp [frozR_map, froz, Proc.row]) : frozR (procs [v.id.server]) = procs [v.id.server]) (an (rfN (1)) (an (rfN ((nums [0]).length)) (an ((by simp [frozR_map, froz, Proc.row]) : frozR (nums [0]) = nums [0]) trivial)))))))))))))))))))
end Go.Proofs.Ytoijfmfkkmbabaa
namespace Go.Proofs.Ytoijfmfkkmbabaa
open Go.RowKit
abbrev streams (l : List (List Slot)) : List (List DV) := l.map fun s => [.ro 2 (slots s)]
theorem streams_at {l : List (List Slot)} {i : Nat} {s : List Slot} (h : l[i]? = some s) : (streams l)[i]? = some [.ro 2 (slots s)] := by simp [streams, h]
structure Flow where
  view : View
  streams : List (List Slot)
  handed : List Nat
deriving DecidableEq
def boundS (l : List Slot) : Prop := l.length < 1073741824 ∧ ∀ x ∈ l, x.body.length < 1073741824
def Flow.bounded (f : Flow) : Prop := f.view.bounded ∧ f.streams.length < 1073741824 ∧ f.handed.length < 1073741824 ∧ ∀ l ∈ f.streams, boundS l
theorem boundS.at {l : List Slot} (h : boundS l) {i : Nat} {x : Slot} (g : l[i]? = some x) : x.body.length < 1073741824 := h.2 x (List.mem_of_getElem? g)
theorem Flow.bounded.at {f : Flow} (h : f.bounded) {i : Nat} {l : List Slot} (g : f.streams[i]? = some l) : boundS l := h.2.2.2 l (List.mem_of_getElem? g)
def Good (l : List Slot) (n : Nat) : Prop := ∀ (k : Nat) x, k < n → l[k]? = some x → 1 ≤ x.n ∧ x.n ≤ 16 ∧ x.body.length ≤ 64 ∧ ∀ y, 0 < k → l[k - 1]? = some y → y.n < x.n
def Flow.Ok (f : Flow) : Prop := f.view.may = true ∧ f.streams.length = f.view.members.length ∧ f.handed.length = f.view.members.length ∧ ∀ (i : Nat) l h, f.streams[i]? = some l → f.handed[i]? = some h → Good l l.length ∧ h ≤ countS l
open Classical in
noncomputable def Flow.may (f : Flow) : Bool := decide f.Ok
theorem Flow.yes {f : Flow} {i : Nat} (h1 : f.view.may = true) (h2 : f.streams.length = f.view.members.length) (h3 : f.handed.length = f.view.members.length) (hi : f.streams.length ≤ i) (h4 : ∀ (j : Nat) l h, j < i → f.streams[j]? = some l → f.handed[j]? = some h → Good l l.length ∧ h ≤ countS l) : f.may = true := by
  unfold Flow.may
  exact @decide_eq_true _ (Classical.propDecidable _) ⟨h1, h2, h3, fun j l h hl hh => h4 j l h (Nat.lt_of_lt_of_le (List.getElem?_eq_some_iff.1 hl).1 hi) hl hh⟩
theorem Flow.no {f : Flow} (h : ¬ f.Ok) : f.may = false := by unfold Flow.may; exact @decide_eq_false _ (Classical.propDecidable _) h
theorem Flow.no_view {f : Flow} (h : f.view.may = false) : f.may = false := Flow.no fun ok => by rw [ok.1] at h; cases h
theorem Flow.no_len {f : Flow} (h : f.streams.length ≠ f.view.members.length ∨ f.handed.length ≠ f.view.members.length) : f.may = false := Flow.no fun ok => by have h1 := ok.2.1; have h2 := ok.2.2.1; omega
theorem Flow.no_slot {f : Flow} {i k : Nat} {l : List Slot} {x : Slot} (hl : f.streams[i]? = some l) (hx : l[k]? = some x) (h : x.n < 1 ∨ 16 < x.n ∨ 64 < x.body.length ∨ ∃ y, 0 < k ∧ l[k - 1]? = some y ∧ x.n ≤ y.n) : f.may = false := Flow.no fun ok => by
  obtain ⟨-, h1, h2, h3⟩ := ok
  have hi := (List.getElem?_eq_some_iff.1 hl).1
  obtain ⟨g1, g2, g3, g4⟩ := (h3 i l _ hl (List.getElem?_eq_getElem (by omega))).1 k x (List.getElem?_eq_some_iff.1 hx).1 hx
  rcases h with h | h | h | ⟨y, hk, hy, h⟩
  · omega
  · omega
  · omega
  · have := g4 y hk hy; omega
theorem Flow.no_hand {f : Flow} {i h : Nat} {l : List Slot} (hl : f.streams[i]? = some l) (hh : f.handed[i]? = some h) (hc : countS l < h) : f.may = false := Flow.no fun ok => by
  have := (ok.2.2.2 i l h hl hh).2; omega
theorem Good.next {l : List Slot} {k : Nat} {x : Slot} (h : Good l k) (hx : l[k]? = some x) (h1 : 1 ≤ x.n) (h2 : x.n ≤ 16) (h3 : x.body.length ≤ 64) (h4 : ∀ y, 0 < k → l[k - 1]? = some y → y.n < x.n) : Good l (k + 1) := by
  intro j y hj hy
  rcases Nat.lt_succ_iff_lt_or_eq.1 hj with h' | rfl
  · exact h j y h' hy
  · rw [hx] at hy; cases hy; exact ⟨h1, h2, h3, h4⟩
def Flow.heavy (f : Flow) : Prop := 100 < f.view.members.length ∨ 100 < f.view.starts.length ∨ 100 < f.streams.length ∨ 100 < f.handed.length ∨ ∃ l ∈ f.streams, 100 < l.length ∨ ∃ x ∈ l, 500 < x.body.length
set_option maxRecDepth 100000 in
theorem refFlowMay (f : Flow) (hb : f.bounded) : Con Try.prog 13 [.ag [.u f.view.id.round, .z f.view.id.server.node, .u f.view.id.server.inc, .d (.ro 2 (procs f.view.members)), .d (.ro 1 (nums f.view.starts)), .d (.ro 1 (streams f.streams)), .d (.ro 1 (nums f.handed))]] (DV.v (.bool f.may)) := by
  obtain ⟨hbv, hb1, hb2, hb3⟩ := id hb
  have hbw := hbv.1
  refine Con.intro (by kernel_rfl) rfl rfl 102 rfl rfl fun w0 K ac hK r => ?_
  cases h0 : (f.view.may) with
  | false =>
    rw [show (DV.v (.bool f.may) : DV) = .v (.bool false) from (bv (by first | exact Flow.no_view (by assumption) | exact Flow.no_len (by omega) | exact Flow.yes (by assumption) (by omega) (by omega) (by omega) hv0 | exact Flow.no_slot ge_f_streams_i ge_c8f2d (by omega) | exact Flow.no_slot ge_f_streams_i ge_c8f2d (.inr (.inr (.inr ⟨_, by omega, ge_28dee, by omega⟩))) | exact Flow.no_hand ge_f_streams_i ge_f_handed_i (by omega)))]
    exact toRet tb_ok mixed_ok hK rfl [(1, [(2, .con (.v (.bool false)))])] 2000 r (by kernel_rfl) (an ((by have k := refViewMay f.view (by assumption); rw [h0] at k; exact k) : Con Try.prog 38 [.ag [.u f.view.id.round, .z f.view.id.server.node, .u f.view.id.server.inc, .d (.ro 2 (procs f.view.members)), .d (.ro 1 (nums f.view.starts))]] (.v (.bool false))) trivial)
  | true =>
    cases h1 : ((((f.streams.length : Nat) : Int) : Int) != ((f.view.members.length : Nat) : Int)) with
    | false =>
      have qh1 := eq_of_bne h1
      cases h2 : ((((f.handed.length : Nat) : Int) : Int) != ((f.view.members.length : Nat) : Int)) with
      | false =>
        have qh2 := eq_of_bne h2
        refine toHead (todo' := hd Try.f13 0) (E' := [(1, .pt 0 0), (3, .n 0)]) (M' := [.bx 33 [.u f.view.id.round, .z f.view.id.server.node, .u f.view.id.server.inc, .d (.ro 2 (procs f.view.members)), .d (.ro 1 (nums f.view.starts)), .d (.ro 1 (streams f.streams)), .d (.ro 1 (nums f.handed))]]) tb_ok mixed_ok hK [(1, [(2, .con (.v (.bool true))), (7, .z (((f.streams.length : Nat) : Int))), (11, .z (((f.view.members.length : Nat) : Int))), (12, .b false), (17, .z (((f.handed.length : Nat) : Int))), (21, .z (((f.view.members.length : Nat) : Int))), (22, .b false)])] 2000 [0] [1, 3] r (by kernel_rfl) (an ((by have k := refViewMay f.view (by assumption); rw [h0] at k; exact k) : Con Try.prog 38 [.ag [.u f.view.id.round, .z f.view.id.server.node, .u f.view.id.server.inc, .d (.ro 2 (procs f.view.members)), .d (.ro 1 (nums f.view.starts))]] (.v (.bool true))) (an ((by simp [bytesR]) : (((streams f.streams).length : Nat) : Int) = ((f.streams.length : Nat) : Int)) (an ((by simp [bytesR]) : (((procs f.view.members).length : Nat) : Int) = ((f.view.members.length : Nat) : Int)) (an h1 (an ((by simp [bytesR]) : (((nums f.handed).length : Nat) : Int) = ((f.handed.length : Nat) : Int)) (an ((by simp [bytesR]) : (((procs f.view.members).length : Nat) : Int) = ((f.view.members.length : Nat) : Int)) (an h2 trivial))))))) fun ac wd r => ?_
        refine Goes.rounds (Φ := fun (i : Nat) ac wd => (i ≤ f.streams.length ∧ ∀ (j : Nat) l h, j < i → f.streams[j]? = some l → f.handed[j]? = some h → Good l l.length ∧ h ≤ countS l) ∧ RE' [] w0 K 102 [(1, .pt 0 0), (3, .n i)] [.bx 33 [.u f.view.id.round, .z f.view.id.server.node, .u f.view.id.server.inc, .d (.ro 2 (procs f.view.members)), .d (.ro 1 (nums f.view.starts)), .d (.ro 1 (streams f.streams)), .d (.ro 1 (nums f.handed))]] ac wd) (f.streams.length) ?_ (Nat.zero_le _) ⟨⟨by omega, by omega⟩, r⟩
        clear r
        rintro i hi0 again0 ac wd ⟨hv0, r⟩
        obtain ⟨hi1, hv0⟩ := hv0
        cases h3 : (decide ((((i : Nat) : Int) : Int) < ((f.streams.length : Nat) : Int))) with
        | false =>
          have qh3 := of_decide_eq_false h3
          rw [show (DV.v (.bool f.may) : DV) = .v (.bool true) from (bv (by first | exact Flow.no_view (by assumption) | exact Flow.no_len (by omega) | exact Flow.yes (by assumption) (by omega) (by omega) (by omega) hv0 | exact Flow.no_slot ge_f_streams_i ge_c8f2d (by omega) | exact Flow.no_slot ge_f_streams_i ge_c8f2d (.inr (.inr (.inr ⟨_, by omega, ge_28dee, by omega⟩))) | exact Flow.no_hand ge_f_streams_i ge_f_handed_i (by omega)))]
          exact toRet tb_ok mixed_ok hK rfl [(4, [(3, .z (((f.streams.length : Nat) : Int))), (4, .b false)])] 2000 r (by kernel_rfl) (an ((by simp [bytesR]) : (((streams f.streams).length : Nat) : Int) = ((f.streams.length : Nat) : Int)) (an h3 trivial))
        | true =>
          have qh3 := of_decide_eq_true h3
          obtain ⟨e_f_streams_i, ge_f_streams_i⟩ : ∃ x, f.streams[i]? = some x := ⟨_, List.getElem?_eq_getElem (by omega)⟩
          have be_f_streams_i := (hb.at ge_f_streams_i).1
          have ce_f_streams_i := hb.at ge_f_streams_i
          obtain ⟨e_f_handed_i, ge_f_handed_i⟩ : ∃ x, f.handed[i]? = some x := ⟨_, List.getElem?_eq_getElem (by omega)⟩
          refine toHead (todo' := hd Try.f13 1) (E' := [(1, .pt 0 0), (3, .n i), (4, .d (.ro 2 (slots e_f_streams_i))), (5, .n 0)]) (M' := [.bx 33 [.u f.view.id.round, .z f.view.id.server.node, .u f.view.id.server.inc, .d (.ro 2 (procs f.view.members)), .d (.ro 1 (nums f.view.starts)), .d (.ro 1 (streams f.streams)), .d (.ro 1 (nums f.handed))]]) tb_ok mixed_ok hK [(4, [(3, .z (((f.streams.length : Nat) : Int))), (4, .b true)]), (6, [(3, .ix (i) [.ro 2 (slots e_f_streams_i)])])] 2000 [0] [1, 3, 4, 5] r (by kernel_rfl) (an ((by simp [bytesR]) : (((streams f.streams).length : Nat) : Int) = ((f.streams.length : Nat) : Int)) (an h3 (an (rfI ((i : Nat) : Int)) (an (streams_at ge_f_streams_i) trivial)))) fun ac wd r => ?_
          refine Goes.rounds (Φ := fun (k : Nat) ac wd => (k ≤ e_f_streams_i.length ∧ Good e_f_streams_i k) ∧ RE' [] w0 K 102 [(1, .pt 0 0), (3, .n i), (4, .d (.ro 2 (slots e_f_streams_i))), (5, .n k)] [.bx 33 [.u f.view.id.round, .z f.view.id.server.node, .u f.view.id.server.inc, .d (.ro 2 (procs f.view.members)), .d (.ro 1 (nums f.view.starts)), .d (.ro 1 (streams f.streams)), .d (.ro 1 (nums f.handed))]] ac wd) (e_f_streams_i.length) ?_ (Nat.zero_le _) ⟨⟨by omega, fun k x hk => by omega⟩, r⟩
          clear r
          rintro k hi1 again1 ac wd ⟨hv1, r⟩
          obtain ⟨hk1, hv1⟩ := hv1
          cases h4 : (decide ((((k : Nat) : Int) : Int) < ((e_f_streams_i.length : Nat) : Int))) with
          | false =>
            have qh4 := of_decide_eq_false h4
            cases h5 : (decide ((((countS e_f_streams_i : Nat) : Int) : Int) < ((e_f_handed_i : Nat) : Int))) with
            | false =>
              have qh5 := of_decide_eq_false h5
              exact toHead (todo' := hd Try.f13 0) tb_ok mixed_ok hK [(5, [(1, .z (((i + 1 : Nat) : Int)))]), (8, [(2, .z (((e_f_streams_i.length : Nat) : Int))), (3, .b false)]), (12, [(3, .ix (i) [.u e_f_handed_i]), (8, .ix (i) [.ro 2 (slots e_f_streams_i)]), (10, .con (.u (countS e_f_streams_i))), (11, .b false)])] 2000 [0] [1, 3] r (by kernel_rfl) (an ((by simp [bytesR]) : (((slots e_f_streams_i).length : Nat) : Int) = ((e_f_streams_i.length : Nat) : Int)) (an h4 (an (rfI ((i : Nat) : Int)) (an (nums_at ge_f_handed_i) (an (rfI ((i : Nat) : Int)) (an (streams_at ge_f_streams_i) (an (countOk e_f_streams_i (by omega)) (an h5 (an ((wi (by omega)) : IntKind.i64.wrap ((((i : Nat) : Int) : Int) + 1) = ((i + 1 : Nat) : Int)) trivial))))))))) fun ac wd r => again0 (by omega) ac wd ⟨⟨by omega, fun j l h hj hl hh => by rcases Nat.lt_succ_iff_lt_or_eq.1 hj with h' | rfl; exact hv0 j l h h' hl hh; rw [ge_f_streams_i] at hl; rw [ge_f_handed_i] at hh; cases hl; cases hh; exact ⟨by rw [show e_f_streams_i.length = k by omega]; exact hv1, by omega⟩⟩, r⟩
            | true =>
              have qh5 := of_decide_eq_true h5
              rw [show (DV.v (.bool f.may) : DV) = .v (.bool false) from (bv (by first | exact Flow.no_view (by assumption) | exact Flow.no_len (by omega) | exact Flow.yes (by assumption) (by omega) (by omega) (by omega) hv0 | exact Flow.no_slot ge_f_streams_i ge_c8f2d (by omega) | exact Flow.no_slot ge_f_streams_i ge_c8f2d (.inr (.inr (.inr ⟨_, by omega, ge_28dee, by omega⟩))) | exact Flow.no_hand ge_f_streams_i ge_f_handed_i (by omega)))]
              exact toRet tb_ok mixed_ok hK rfl [(8, [(2, .z (((e_f_streams_i.length : Nat) : Int))), (3, .b false)]), (12, [(3, .ix (i) [.u e_f_handed_i]), (8, .ix (i) [.ro 2 (slots e_f_streams_i)]), (10, .con (.u (countS e_f_streams_i))), (11, .b true)])] 2000 r (by kernel_rfl) (an ((by simp [bytesR]) : (((slots e_f_streams_i).length : Nat) : Int) = ((e_f_streams_i.length : Nat) : Int)) (an h4 (an (rfI ((i : Nat) : Int)) (an (nums_at ge_f_handed_i) (an (rfI ((i : Nat) : Int)) (an (streams_at ge_f_streams_i) (an (countOk e_f_streams_i (by omega)) (an h5 trivial))))))))
          | true =>
            have qh4 := of_decide_eq_true h4
            obtain ⟨e_c8f2d, ge_c8f2d⟩ : ∃ x, e_f_streams_i[k]? = some x := ⟨_, List.getElem?_eq_getElem (by omega)⟩
            have be_c8f2d := ce_f_streams_i.at ge_c8f2d
            cases h6 : (decide ((((e_c8f2d.n : Nat) : Int) : Int) < 1)) with
            | false =>
              have qh6 := of_decide_eq_false h6
              cases h7 : (decide ((16 : Int) < ((e_c8f2d.n : Nat) : Int))) with
              | false =>
                have qh7 := of_decide_eq_false h7
                cases h8 : (decide ((64 : Int) < ((e_c8f2d.body.length : Nat) : Int))) with
                | false =>
                  have qh8 := of_decide_eq_false h8
                  cases h9 : (decide ((0 : Int) < ((k : Nat) : Int))) with
                  | false =>
                    have qh9 := of_decide_eq_false h9
                    exact toHead (todo' := hd Try.f13 1) tb_ok mixed_ok hK [(8, [(2, .z (((e_f_streams_i.length : Nat) : Int))), (3, .b true)]), (9, [(1, .z (((k + 1 : Nat) : Int)))]), (10, [(2, .ix (k) [.u e_c8f2d.n, .ro 1 (bytesR e_c8f2d.body)]), (5, .b false), (9, .ix (k) [.u e_c8f2d.n, .ro 1 (bytesR e_c8f2d.body)]), (12, .b false), (17, .ix (k) [.u e_c8f2d.n, .ro 1 (bytesR e_c8f2d.body)]), (20, .z (((e_c8f2d.body.length : Nat) : Int))), (21, .b false), (25, .b false)])] 2000 [0] [1, 3, 4, 5] r (by kernel_rfl) (an ((by simp [bytesR]) : (((slots e_f_streams_i).length : Nat) : Int) = ((e_f_streams_i.length : Nat) : Int)) (an h4 (an (rfI ((k : Nat) : Int)) (an (slots_at ge_c8f2d) (an h6 (an (rfI ((k : Nat) : Int)) (an (slots_at ge_c8f2d) (an h7 (an (rfI ((k : Nat) : Int)) (an (slots_at ge_c8f2d) (an ((by simp [bytesR]) : (((bytesR e_c8f2d.body).length : Nat) : Int) = ((e_c8f2d.body.length : Nat) : Int)) (an h8 (an h9 (an ((wi (by omega)) : IntKind.i64.wrap ((((k : Nat) : Int) : Int) + 1) = ((k + 1 : Nat) : Int)) trivial)))))))))))))) fun ac wd r => again1 (by omega) ac wd ⟨⟨by omega, hv1.next ge_c8f2d (by omega) (by omega) (by omega) (fun y hk hy => by first | omega | (rw [ge_28dee] at hy; cases hy; omega))⟩, r⟩
                  | true =>
                    have qh9 := of_decide_eq_true h9
                    obtain ⟨e_28dee, ge_28dee⟩ : ∃ x, e_f_streams_i[k - 1]? = some x := ⟨_, List.getElem?_eq_getElem (by omega)⟩
                    cases h10 : (decide ((((e_c8f2d.n : Nat) : Int) : Int) ≤ ((e_28dee.n : Nat) : Int))) with
                    | false =>
                      have qh10 := of_decide_eq_false h10
                      exact toHead (todo' := hd Try.f13 1) tb_ok mixed_ok hK [(8, [(2, .z (((e_f_streams_i.length : Nat) : Int))), (3, .b true)]), (9, [(1, .z (((k + 1 : Nat) : Int)))]), (10, [(2, .ix (k) [.u e_c8f2d.n, .ro 1 (bytesR e_c8f2d.body)]), (5, .b false), (9, .ix (k) [.u e_c8f2d.n, .ro 1 (bytesR e_c8f2d.body)]), (12, .b false), (17, .ix (k) [.u e_c8f2d.n, .ro 1 (bytesR e_c8f2d.body)]), (20, .z (((e_c8f2d.body.length : Nat) : Int))), (21, .b false), (25, .b true), (29, .z (((k - 1 : Nat) : Int))), (30, .ix (k - 1) [.u e_28dee.n, .ro 1 (bytesR e_28dee.body)]), (35, .ix (k) [.u e_c8f2d.n, .ro 1 (bytesR e_c8f2d.body)]), (38, .b false)])] 2000 [0] [1, 3, 4, 5] r (by kernel_rfl) (an ((by simp [bytesR]) : (((slots e_f_streams_i).length : Nat) : Int) = ((e_f_streams_i.length : Nat) : Int)) (an h4 (an (rfI ((k : Nat) : Int)) (an (slots_at ge_c8f2d) (an h6 (an (rfI ((k : Nat) : Int)) (an (slots_at ge_c8f2d) (an h7 (an (rfI ((k : Nat) : Int)) (an (slots_at ge_c8f2d) (an ((by simp [bytesR]) : (((bytesR e_c8f2d.body).length : Nat) : Int) = ((e_c8f2d.body.length : Nat) : Int)) (an h8 (an h9 (an ((wi (by omega)) : IntKind.i64.wrap ((((k : Nat) : Int) : Int) - 1) = ((k - 1 : Nat) : Int)) (an (rfI ((k - 1 : Nat) : Int)) (an (slots_at ge_28dee) (an (rfI ((k : Nat) : Int)) (an (slots_at ge_c8f2d) (an h10 (an ((wi (by omega)) : IntKind.i64.wrap ((((k : Nat) : Int) : Int) + 1) = ((k + 1 : Nat) : Int)) trivial)))))))))))))))))))) fun ac wd r => again1 (by omega) ac wd ⟨⟨by omega, hv1.next ge_c8f2d (by omega) (by omega) (by omega) (fun y hk hy => by first | omega | (rw [ge_28dee] at hy; cases hy; omega))⟩, r⟩
                    | true =>
                      have qh10 := of_decide_eq_true h10
                      rw [show (DV.v (.bool f.may) : DV) = .v (.bool false) from (bv (by first | exact Flow.no_view (by assumption) | exact Flow.no_len (by omega) | exact Flow.yes (by assumption) (by omega) (by omega) (by omega) hv0 | exact Flow.no_slot ge_f_streams_i ge_c8f2d (by omega) | exact Flow.no_slot ge_f_streams_i ge_c8f2d (.inr (.inr (.inr ⟨_, by omega, ge_28dee, by omega⟩))) | exact Flow.no_hand ge_f_streams_i ge_f_handed_i (by omega)))]
                      exact toRet tb_ok mixed_ok hK rfl [(8, [(2, .z (((e_f_streams_i.length : Nat) : Int))), (3, .b true)]), (10, [(2, .ix (k) [.u e_c8f2d.n, .ro 1 (bytesR e_c8f2d.body)]), (5, .b false), (9, .ix (k) [.u e_c8f2d.n, .ro 1 (bytesR e_c8f2d.body)]), (12, .b false), (17, .ix (k) [.u e_c8f2d.n, .ro 1 (bytesR e_c8f2d.body)]), (20, .z (((e_c8f2d.body.length : Nat) : Int))), (21, .b false), (25, .b true), (29, .z (((k - 1 : Nat) : Int))), (30, .ix (k - 1) [.u e_28dee.n, .ro 1 (bytesR e_28dee.body)]), (35, .ix (k) [.u e_c8f2d.n, .ro 1 (bytesR e_c8f2d.body)]), (38, .b true)])] 2000 r (by kernel_rfl) (an ((by simp [bytesR]) : (((slots e_f_streams_i).length : Nat) : Int) = ((e_f_streams_i.length : Nat) : Int)) (an h4 (an (rfI ((k : Nat) : Int)) (an (slots_at ge_c8f2d) (an h6 (an (rfI ((k : Nat) : Int)) (an (slots_at ge_c8f2d) (an h7 (an (rfI ((k : Nat) : Int)) (an (slots_at ge_c8f2d) (an ((by simp [bytesR]) : (((bytesR e_c8f2d.body).length : Nat) : Int) = ((e_c8f2d.body.length : Nat) : Int)) (an h8 (an h9 (an ((wi (by omega)) : IntKind.i64.wrap ((((k : Nat) : Int) : Int) - 1) = ((k - 1 : Nat) : Int)) (an (rfI ((k - 1 : Nat) : Int)) (an (slots_at ge_28dee) (an (rfI ((k : Nat) : Int)) (an (slots_at ge_c8f2d) (an h10 trivial)))))))))))))))))))
                | true =>
                  have qh8 := of_decide_eq_true h8
                  rw [show (DV.v (.bool f.may) : DV) = .v (.bool false) from (bv (by first | exact Flow.no_view (by assumption) | exact Flow.no_len (by omega) | exact Flow.yes (by assumption) (by omega) (by omega) (by omega) hv0 | exact Flow.no_slot ge_f_streams_i ge_c8f2d (by omega) | exact Flow.no_slot ge_f_streams_i ge_c8f2d (.inr (.inr (.inr ⟨_, by omega, ge_28dee, by omega⟩))) | exact Flow.no_hand ge_f_streams_i ge_f_handed_i (by omega)))]
                  exact toRet tb_ok mixed_ok hK rfl [(8, [(2, .z (((e_f_streams_i.length : Nat) : Int))), (3, .b true)]), (10, [(2, .ix (k) [.u e_c8f2d.n, .ro 1 (bytesR e_c8f2d.body)]), (5, .b false), (9, .ix (k) [.u e_c8f2d.n, .ro 1 (bytesR e_c8f2d.body)]), (12, .b false), (17, .ix (k) [.u e_c8f2d.n, .ro 1 (bytesR e_c8f2d.body)]), (20, .z (((e_c8f2d.body.length : Nat) : Int))), (21, .b true)])] 2000 r (by kernel_rfl) (an ((by simp [bytesR]) : (((slots e_f_streams_i).length : Nat) : Int) = ((e_f_streams_i.length : Nat) : Int)) (an h4 (an (rfI ((k : Nat) : Int)) (an (slots_at ge_c8f2d) (an h6 (an (rfI ((k : Nat) : Int)) (an (slots_at ge_c8f2d) (an h7 (an (rfI ((k : Nat) : Int)) (an (slots_at ge_c8f2d) (an ((by simp [bytesR]) : (((bytesR e_c8f2d.body).length : Nat) : Int) = ((e_c8f2d.body.length : Nat) : Int)) (an h8 trivial))))))))))))
              | true =>
                have qh7 := of_decide_eq_true h7
                rw [show (DV.v (.bool f.may) : DV) = .v (.bool false) from (bv (by first | exact Flow.no_view (by assumption) | exact Flow.no_len (by omega) | exact Flow.yes (by assumption) (by omega) (by omega) (by omega) hv0 | exact Flow.no_slot ge_f_streams_i ge_c8f2d (by omega) | exact Flow.no_slot ge_f_streams_i ge_c8f2d (.inr (.inr (.inr ⟨_, by omega, ge_28dee, by omega⟩))) | exact Flow.no_hand ge_f_streams_i ge_f_handed_i (by omega)))]
                exact toRet tb_ok mixed_ok hK rfl [(8, [(2, .z (((e_f_streams_i.length : Nat) : Int))), (3, .b true)]), (10, [(2, .ix (k) [.u e_c8f2d.n, .ro 1 (bytesR e_c8f2d.body)]), (5, .b false), (9, .ix (k) [.u e_c8f2d.n, .ro 1 (bytesR e_c8f2d.body)]), (12, .b true)])] 2000 r (by kernel_rfl) (an ((by simp [bytesR]) : (((slots e_f_streams_i).length : Nat) : Int) = ((e_f_streams_i.length : Nat) : Int)) (an h4 (an (rfI ((k : Nat) : Int)) (an (slots_at ge_c8f2d) (an h6 (an (rfI ((k : Nat) : Int)) (an (slots_at ge_c8f2d) (an h7 trivial))))))))
            | true =>
              have qh6 := of_decide_eq_true h6
              rw [show (DV.v (.bool f.may) : DV) = .v (.bool false) from (bv (by first | exact Flow.no_view (by assumption) | exact Flow.no_len (by omega) | exact Flow.yes (by assumption) (by omega) (by omega) (by omega) hv0 | exact Flow.no_slot ge_f_streams_i ge_c8f2d (by omega) | exact Flow.no_slot ge_f_streams_i ge_c8f2d (.inr (.inr (.inr ⟨_, by omega, ge_28dee, by omega⟩))) | exact Flow.no_hand ge_f_streams_i ge_f_handed_i (by omega)))]
              exact toRet tb_ok mixed_ok hK rfl [(8, [(2, .z (((e_f_streams_i.length : Nat) : Int))), (3, .b true)]), (10, [(2, .ix (k) [.u e_c8f2d.n, .ro 1 (bytesR e_c8f2d.body)]), (5, .b true)])] 2000 r (by kernel_rfl) (an ((by simp [bytesR]) : (((slots e_f_streams_i).length : Nat) : Int) = ((e_f_streams_i.length : Nat) : Int)) (an h4 (an (rfI ((k : Nat) : Int)) (an (slots_at ge_c8f2d) (an h6 trivial)))))
      | true =>
        have qh2 : ¬ _ = _ := bne_iff_ne.1 h2
        rw [show (DV.v (.bool f.may) : DV) = .v (.bool false) from (bv (by first | exact Flow.no_view (by assumption) | exact Flow.no_len (by omega) | exact Flow.yes (by assumption) (by omega) (by omega) (by omega) hv0 | exact Flow.no_slot ge_f_streams_i ge_c8f2d (by omega) | exact Flow.no_slot ge_f_streams_i ge_c8f2d (.inr (.inr (.inr ⟨_, by omega, ge_28dee, by omega⟩))) | exact Flow.no_hand ge_f_streams_i ge_f_handed_i (by omega)))]
        exact toRet tb_ok mixed_ok hK rfl [(1, [(2, .con (.v (.bool true))), (7, .z (((f.streams.length : Nat) : Int))), (11, .z (((f.view.members.length : Nat) : Int))), (12, .b false), (17, .z (((f.handed.length : Nat) : Int))), (21, .z (((f.view.members.length : Nat) : Int))), (22, .b true)])] 2000 r (by kernel_rfl) (an ((by have k := refViewMay f.view (by assumption); rw [h0] at k; exact k) : Con Try.prog 38 [.ag [.u f.view.id.round, .z f.view.id.server.node, .u f.view.id.server.inc, .d (.ro 2 (procs f.view.members)), .d (.ro 1 (nums f.view.starts))]] (.v (.bool true))) (an ((by simp [bytesR]) : (((streams f.streams).length : Nat) : Int) = ((f.streams.length : Nat) : Int)) (an ((by simp [bytesR]) : (((procs f.view.members).length : Nat) : Int) = ((f.view.members.length : Nat) : Int)) (an h1 (an ((by simp [bytesR]) : (((nums f.handed).length : Nat) : Int) = ((f.handed.length : Nat) : Int)) (an ((by simp [bytesR]) : (((procs f.view.members).length : Nat) : Int) = ((f.view.members.length : Nat) : Int)) (an h2 trivial)))))))
    | true =>
      have qh1 : ¬ _ = _ := bne_iff_ne.1 h1
      rw [show (DV.v (.bool f.may) : DV) = .v (.bool false) from (bv (by first | exact Flow.no_view (by assumption) | exact Flow.no_len (by omega) | exact Flow.yes (by assumption) (by omega) (by omega) (by omega) hv0 | exact Flow.no_slot ge_f_streams_i ge_c8f2d (by omega) | exact Flow.no_slot ge_f_streams_i ge_c8f2d (.inr (.inr (.inr ⟨_, by omega, ge_28dee, by omega⟩))) | exact Flow.no_hand ge_f_streams_i ge_f_handed_i (by omega)))]
      exact toRet tb_ok mixed_ok hK rfl [(1, [(2, .con (.v (.bool true))), (7, .z (((f.streams.length : Nat) : Int))), (11, .z (((f.view.members.length : Nat) : Int))), (12, .b true)])] 2000 r (by kernel_rfl) (an ((by have k := refViewMay f.view (by assumption); rw [h0] at k; exact k) : Con Try.prog 38 [.ag [.u f.view.id.round, .z f.view.id.server.node, .u f.view.id.server.inc, .d (.ro 2 (procs f.view.members)), .d (.ro 1 (nums f.view.starts))]] (.v (.bool true))) (an ((by simp [bytesR]) : (((streams f.streams).length : Nat) : Int) = ((f.streams.length : Nat) : Int)) (an ((by simp [bytesR]) : (((procs f.view.members).length : Nat) : Int) = ((f.view.members.length : Nat) : Int)) (an h1 trivial))))
end Go.Proofs.Ytoijfmfkkmbabaa
namespace Go.Proofs.Ytoijfmfkkmbabaa
open Go.RowKit
theorem Flow.eq_iff {f g : Flow} : f = g ↔ f.view = g.view ∧ f.streams = g.streams ∧ f.handed = g.handed := by cases f; cases g; simp
theorem Slot.eq_iff {x y : Slot} : x = y ↔ x.n = y.n ∧ x.body = y.body := by cases x; cases y; simp
theorem Msg.eq_iff {x y : Msg} : x = y ↔ x.src = y.src ∧ x.n = y.n ∧ x.body = y.body := by cases x; cases y; simp
open Classical in
noncomputable def Flow.heavyB (f : Flow) : Bool := decide f.heavy
theorem Flow.heavy_yes {f : Flow} (h : f.heavy) : f.heavyB = true := by unfold Flow.heavyB; exact @decide_eq_true _ (Classical.propDecidable _) h
theorem Flow.heavy_no {f : Flow} {i : Nat} (h1 : ¬ 100 < f.view.members.length) (h2 : ¬ 100 < f.view.starts.length) (h3 : ¬ 100 < f.streams.length) (h4 : ¬ 100 < f.handed.length) (hi : f.streams.length ≤ i) (h5 : ∀ (j : Nat) l, j < i → f.streams[j]? = some l → ¬ 100 < l.length ∧ ∀ (k : Nat) x, k < l.length → l[k]? = some x → ¬ 500 < x.body.length) : f.heavyB = false := by
  unfold Flow.heavyB
  refine @decide_eq_false _ (Classical.propDecidable _) ?_
  rintro (h | h | h | h | ⟨l, hl, h⟩)
  · exact h1 h
  · exact h2 h
  · exact h3 h
  · exact h4 h
  · obtain ⟨j, hj, rfl⟩ := List.getElem_of_mem hl
    obtain ⟨g1, g2⟩ := h5 j _ (by omega) (List.getElem?_eq_getElem hj)
    rcases h with h | ⟨x, hx, h⟩
    · exact g1 h
    · obtain ⟨k, hk, rfl⟩ := List.getElem_of_mem hx
      exact g2 k _ hk (List.getElem?_eq_getElem hk) h
theorem Flow.heavy_slot {f : Flow} {i k : Nat} {l : List Slot} {x : Slot} (hl : f.streams[i]? = some l) (hx : l[k]? = some x) (h : 500 < x.body.length) : f.heavyB = true := Flow.heavy_yes (.inr (.inr (.inr (.inr ⟨l, List.mem_of_getElem? hl, .inr ⟨x, List.mem_of_getElem? hx, h⟩⟩))))
theorem Flow.heavy_stream {f : Flow} {i : Nat} {l : List Slot} (hl : f.streams[i]? = some l) (h : 100 < l.length) : f.heavyB = true := Flow.heavy_yes (.inr (.inr (.inr (.inr ⟨l, List.mem_of_getElem? hl, .inl h⟩))))
theorem Flow.heavy_len {f : Flow} (h : 100 < f.view.members.length ∨ 100 < f.view.starts.length ∨ 100 < f.streams.length ∨ 100 < f.handed.length) : f.heavyB = true := Flow.heavy_yes (by rcases h with h | h | h | h; exact .inl h; exact .inr (.inl h); exact .inr (.inr (.inl h)); exact .inr (.inr (.inr (.inl h))))
def bigS (l : List Slot) : Prop := l.length ≤ 9223372036854775807 ∧ ∀ x ∈ l, x.body.length ≤ 9223372036854775807
def Flow.big (f : Flow) : Prop := f.view.members.length ≤ 9223372036854775807 ∧ f.view.starts.length ≤ 9223372036854775807 ∧ f.streams.length ≤ 9223372036854775807 ∧ f.handed.length ≤ 9223372036854775807 ∧ ∀ l ∈ f.streams, bigS l
theorem bigS.at {l : List Slot} (h : bigS l) {i : Nat} {x : Slot} (g : l[i]? = some x) : x.body.length ≤ 9223372036854775807 := h.2 x (List.mem_of_getElem? g)
theorem Flow.big.at {f : Flow} (h : f.big) {i : Nat} {l : List Slot} (g : f.streams[i]? = some l) : bigS l := h.2.2.2.2 l (List.mem_of_getElem? g)
theorem Flow.light {f : Flow} (h : f.heavyB = false) : f.bounded := by
  have n : ¬ f.heavy := fun k => by rw [Flow.heavy_yes k] at h; cases h
  unfold Flow.heavy at n; simp only [not_or, not_exists, not_and] at n
  obtain ⟨h1, h2, h3, h4, h5⟩ := n
  exact ⟨⟨by omega, by omega⟩, by omega, by omega, fun l hl => ⟨by have := (h5 l hl).1; omega, fun x hx => by have := (h5 l hl).2 x hx; omega⟩⟩
set_option maxRecDepth 100000 in
theorem heavyOk (f : Flow) (hb : f.big) : Con Try.prog 6 [.ag [.u f.view.id.round, .z f.view.id.server.node, .u f.view.id.server.inc, .d (.ro 2 (procs f.view.members)), .d (.ro 1 (nums f.view.starts)), .d (.ro 1 (streams f.streams)), .d (.ro 1 (nums f.handed))]] (DV.v (.bool f.heavyB)) := by
  obtain ⟨hbv, hbw, hb1, hb2, hb3⟩ := id hb
  refine Con.intro (by kernel_rfl) rfl rfl 67 rfl rfl fun w0 K ac hK r => ?_
  cases h0 : (decide ((100 : Int) < ((f.view.members.length : Nat) : Int))) with
  | false =>
    have qh0 := of_decide_eq_false h0
    cases h1 : (decide ((100 : Int) < ((f.view.starts.length : Nat) : Int))) with
    | false =>
      have qh1 := of_decide_eq_false h1
      cases h2 : (decide ((100 : Int) < ((f.streams.length : Nat) : Int))) with
      | false =>
        have qh2 := of_decide_eq_false h2
        cases h3 : (decide ((100 : Int) < ((f.handed.length : Nat) : Int))) with
        | false =>
          have qh3 := of_decide_eq_false h3
          refine toHead (todo' := hd Try.f6 0) (E' := [(1, .pt 0 0), (3, .n 0)]) (M' := [.bx 33 [.u f.view.id.round, .z f.view.id.server.node, .u f.view.id.server.inc, .d (.ro 2 (procs f.view.members)), .d (.ro 1 (nums f.view.starts)), .d (.ro 1 (streams f.streams)), .d (.ro 1 (nums f.handed))]]) tb_ok mixed_ok hK [(1, [(3, .z (((f.view.members.length : Nat) : Int))), (4, .b false), (9, .z (((f.view.starts.length : Nat) : Int))), (10, .b false), (15, .z (((f.streams.length : Nat) : Int))), (16, .b false), (21, .z (((f.handed.length : Nat) : Int))), (22, .b false)])] 2000 [0] [1, 3] r (by kernel_rfl) (an ((by simp [bytesR]) : (((procs f.view.members).length : Nat) : Int) = ((f.view.members.length : Nat) : Int)) (an h0 (an ((by simp [bytesR]) : (((nums f.view.starts).length : Nat) : Int) = ((f.view.starts.length : Nat) : Int)) (an h1 (an ((by simp [bytesR]) : (((streams f.streams).length : Nat) : Int) = ((f.streams.length : Nat) : Int)) (an h2 (an ((by simp [bytesR]) : (((nums f.handed).length : Nat) : Int) = ((f.handed.length : Nat) : Int)) (an h3 trivial)))))))) fun ac wd r => ?_
          refine Goes.rounds (Φ := fun (i : Nat) ac wd => (i ≤ f.streams.length ∧ ∀ (j : Nat) l, j < i → f.streams[j]? = some l → ¬ 100 < l.length ∧ ∀ (k : Nat) x, k < l.length → l[k]? = some x → ¬ 500 < x.body.length) ∧ RE' [] w0 K 67 [(1, .pt 0 0), (3, .n i)] [.bx 33 [.u f.view.id.round, .z f.view.id.server.node, .u f.view.id.server.inc, .d (.ro 2 (procs f.view.members)), .d (.ro 1 (nums f.view.starts)), .d (.ro 1 (streams f.streams)), .d (.ro 1 (nums f.handed))]] ac wd) (f.streams.length) ?_ (Nat.zero_le _) ⟨⟨by omega, by omega⟩, r⟩
          clear r
          rintro i hi0 again0 ac wd ⟨hv0, r⟩
          obtain ⟨hi1, hv0⟩ := hv0
          cases h4 : (decide ((((i : Nat) : Int) : Int) < ((f.streams.length : Nat) : Int))) with
          | false =>
            have qh4 := of_decide_eq_false h4
            rw [show (DV.v (.bool f.heavyB) : DV) = .v (.bool false) from (bv (by first | exact Flow.heavy_len (by omega) | exact Flow.heavy_no (by omega) (by omega) (by omega) (by omega) (by omega) hv0 | exact Flow.heavy_slot ge_f_streams_i ge_c8f2d (by omega) | exact Flow.heavy_stream ge_f_streams_i (by omega)))]
            exact toRet tb_ok mixed_ok hK rfl [(4, [(3, .z (((f.streams.length : Nat) : Int))), (4, .b false)])] 2000 r (by kernel_rfl) (an ((by simp [bytesR]) : (((streams f.streams).length : Nat) : Int) = ((f.streams.length : Nat) : Int)) (an h4 trivial))
          | true =>
            have qh4 := of_decide_eq_true h4
            obtain ⟨e_f_streams_i, ge_f_streams_i⟩ : ∃ x, f.streams[i]? = some x := ⟨_, List.getElem?_eq_getElem (by omega)⟩
            have be_f_streams_i := (hb.at ge_f_streams_i).1
            have ce_f_streams_i := hb.at ge_f_streams_i
            cases h5 : (decide ((100 : Int) < ((e_f_streams_i.length : Nat) : Int))) with
            | false =>
              have qh5 := of_decide_eq_false h5
              refine toHead (todo' := hd Try.f6 1) (E' := [(1, .pt 0 0), (3, .n i), (4, .n 0)]) (M' := [.bx 33 [.u f.view.id.round, .z f.view.id.server.node, .u f.view.id.server.inc, .d (.ro 2 (procs f.view.members)), .d (.ro 1 (nums f.view.starts)), .d (.ro 1 (streams f.streams)), .d (.ro 1 (nums f.handed))]]) tb_ok mixed_ok hK [(4, [(3, .z (((f.streams.length : Nat) : Int))), (4, .b true)]), (6, [(3, .ix (i) [.ro 2 (slots e_f_streams_i)]), (6, .z (((e_f_streams_i.length : Nat) : Int))), (7, .b false)])] 2000 [0] [1, 3, 4] r (by kernel_rfl) (an ((by simp [bytesR]) : (((streams f.streams).length : Nat) : Int) = ((f.streams.length : Nat) : Int)) (an h4 (an (rfI ((i : Nat) : Int)) (an (streams_at ge_f_streams_i) (an ((by simp [bytesR]) : (((slots e_f_streams_i).length : Nat) : Int) = ((e_f_streams_i.length : Nat) : Int)) (an h5 trivial)))))) fun ac wd r => ?_
              refine Goes.rounds (Φ := fun (k : Nat) ac wd => (k ≤ e_f_streams_i.length ∧ ∀ (j : Nat) x, j < k → e_f_streams_i[j]? = some x → ¬ 500 < x.body.length) ∧ RE' [] w0 K 67 [(1, .pt 0 0), (3, .n i), (4, .n k)] [.bx 33 [.u f.view.id.round, .z f.view.id.server.node, .u f.view.id.server.inc, .d (.ro 2 (procs f.view.members)), .d (.ro 1 (nums f.view.starts)), .d (.ro 1 (streams f.streams)), .d (.ro 1 (nums f.handed))]] ac wd) (e_f_streams_i.length) ?_ (Nat.zero_le _) ⟨⟨by omega, by omega⟩, r⟩
              clear r
              rintro k hi1 again1 ac wd ⟨hv1, r⟩
              obtain ⟨hk1, hv1⟩ := hv1
              cases h6 : (decide ((((k : Nat) : Int) : Int) < ((e_f_streams_i.length : Nat) : Int))) with
              | false =>
                have qh6 := of_decide_eq_false h6
                exact toHead (todo' := hd Try.f6 0) tb_ok mixed_ok hK [(5, [(1, .z (((i + 1 : Nat) : Int)))]), (9, [(4, .ix (i) [.ro 2 (slots e_f_streams_i)]), (7, .z (((e_f_streams_i.length : Nat) : Int))), (8, .b false)])] 2000 [0] [1, 3] r (by kernel_rfl) (an (rfI ((i : Nat) : Int)) (an (streams_at ge_f_streams_i) (an ((by simp [bytesR]) : (((slots e_f_streams_i).length : Nat) : Int) = ((e_f_streams_i.length : Nat) : Int)) (an h6 (an ((wi (by omega)) : IntKind.i64.wrap ((((i : Nat) : Int) : Int) + 1) = ((i + 1 : Nat) : Int)) trivial))))) fun ac wd r => again0 (by omega) ac wd ⟨⟨by omega, fun j l hj hl => by rcases Nat.lt_succ_iff_lt_or_eq.1 hj with h' | rfl; exact hv0 j l h' hl; rw [ge_f_streams_i] at hl; cases hl; exact ⟨by omega, fun j x hj hx => hv1 j x (by omega) hx⟩⟩, r⟩
              | true =>
                have qh6 := of_decide_eq_true h6
                obtain ⟨e_c8f2d, ge_c8f2d⟩ : ∃ x, e_f_streams_i[k]? = some x := ⟨_, List.getElem?_eq_getElem (by omega)⟩
                have be_c8f2d := ce_f_streams_i.at ge_c8f2d
                cases h7 : (decide ((500 : Int) < ((e_c8f2d.body.length : Nat) : Int))) with
                | false =>
                  have qh7 := of_decide_eq_false h7
                  exact toHead (todo' := hd Try.f6 1) tb_ok mixed_ok hK [(9, [(4, .ix (i) [.ro 2 (slots e_f_streams_i)]), (7, .z (((e_f_streams_i.length : Nat) : Int))), (8, .b true)]), (10, [(1, .z (((k + 1 : Nat) : Int)))]), (11, [(3, .ix (i) [.ro 2 (slots e_f_streams_i)]), (7, .ix (k) [.u e_c8f2d.n, .ro 1 (bytesR e_c8f2d.body)]), (10, .z (((e_c8f2d.body.length : Nat) : Int))), (11, .b false)])] 2000 [0] [1, 3, 4] r (by kernel_rfl) (an (rfI ((i : Nat) : Int)) (an (streams_at ge_f_streams_i) (an ((by simp [bytesR]) : (((slots e_f_streams_i).length : Nat) : Int) = ((e_f_streams_i.length : Nat) : Int)) (an h6 (an (rfI ((i : Nat) : Int)) (an (streams_at ge_f_streams_i) (an (rfI ((k : Nat) : Int)) (an (slots_at ge_c8f2d) (an ((by simp [bytesR]) : (((bytesR e_c8f2d.body).length : Nat) : Int) = ((e_c8f2d.body.length : Nat) : Int)) (an h7 (an ((wi (by omega)) : IntKind.i64.wrap ((((k : Nat) : Int) : Int) + 1) = ((k + 1 : Nat) : Int)) trivial))))))))))) fun ac wd r => again1 (by omega) ac wd ⟨⟨by omega, fun j x hj hx => by rcases Nat.lt_succ_iff_lt_or_eq.1 hj with h' | rfl; exact hv1 j x h' hx; rw [ge_c8f2d] at hx; cases hx; omega⟩, r⟩
                | true =>
                  have qh7 := of_decide_eq_true h7
                  rw [show (DV.v (.bool f.heavyB) : DV) = .v (.bool true) from (bv (by first | exact Flow.heavy_len (by omega) | exact Flow.heavy_no (by omega) (by omega) (by omega) (by omega) (by omega) hv0 | exact Flow.heavy_slot ge_f_streams_i ge_c8f2d (by omega) | exact Flow.heavy_stream ge_f_streams_i (by omega)))]
                  exact toRet tb_ok mixed_ok hK rfl [(9, [(4, .ix (i) [.ro 2 (slots e_f_streams_i)]), (7, .z (((e_f_streams_i.length : Nat) : Int))), (8, .b true)]), (11, [(3, .ix (i) [.ro 2 (slots e_f_streams_i)]), (7, .ix (k) [.u e_c8f2d.n, .ro 1 (bytesR e_c8f2d.body)]), (10, .z (((e_c8f2d.body.length : Nat) : Int))), (11, .b true)])] 2000 r (by kernel_rfl) (an (rfI ((i : Nat) : Int)) (an (streams_at ge_f_streams_i) (an ((by simp [bytesR]) : (((slots e_f_streams_i).length : Nat) : Int) = ((e_f_streams_i.length : Nat) : Int)) (an h6 (an (rfI ((i : Nat) : Int)) (an (streams_at ge_f_streams_i) (an (rfI ((k : Nat) : Int)) (an (slots_at ge_c8f2d) (an ((by simp [bytesR]) : (((bytesR e_c8f2d.body).length : Nat) : Int) = ((e_c8f2d.body.length : Nat) : Int)) (an h7 trivial))))))))))
            | true =>
              have qh5 := of_decide_eq_true h5
              rw [show (DV.v (.bool f.heavyB) : DV) = .v (.bool true) from (bv (by first | exact Flow.heavy_len (by omega) | exact Flow.heavy_no (by omega) (by omega) (by omega) (by omega) (by omega) hv0 | exact Flow.heavy_slot ge_f_streams_i ge_c8f2d (by omega) | exact Flow.heavy_stream ge_f_streams_i (by omega)))]
              exact toRet tb_ok mixed_ok hK rfl [(4, [(3, .z (((f.streams.length : Nat) : Int))), (4, .b true)]), (6, [(3, .ix (i) [.ro 2 (slots e_f_streams_i)]), (6, .z (((e_f_streams_i.length : Nat) : Int))), (7, .b true)])] 2000 r (by kernel_rfl) (an ((by simp [bytesR]) : (((streams f.streams).length : Nat) : Int) = ((f.streams.length : Nat) : Int)) (an h4 (an (rfI ((i : Nat) : Int)) (an (streams_at ge_f_streams_i) (an ((by simp [bytesR]) : (((slots e_f_streams_i).length : Nat) : Int) = ((e_f_streams_i.length : Nat) : Int)) (an h5 trivial))))))
        | true =>
          have qh3 := of_decide_eq_true h3
          rw [show (DV.v (.bool f.heavyB) : DV) = .v (.bool true) from (bv (by first | exact Flow.heavy_len (by omega) | exact Flow.heavy_no (by omega) (by omega) (by omega) (by omega) (by omega) hv0 | exact Flow.heavy_slot ge_f_streams_i ge_c8f2d (by omega) | exact Flow.heavy_stream ge_f_streams_i (by omega)))]
          exact toRet tb_ok mixed_ok hK rfl [(1, [(3, .z (((f.view.members.length : Nat) : Int))), (4, .b false), (9, .z (((f.view.starts.length : Nat) : Int))), (10, .b false), (15, .z (((f.streams.length : Nat) : Int))), (16, .b false), (21, .z (((f.handed.length : Nat) : Int))), (22, .b true)])] 2000 r (by kernel_rfl) (an ((by simp [bytesR]) : (((procs f.view.members).length : Nat) : Int) = ((f.view.members.length : Nat) : Int)) (an h0 (an ((by simp [bytesR]) : (((nums f.view.starts).length : Nat) : Int) = ((f.view.starts.length : Nat) : Int)) (an h1 (an ((by simp [bytesR]) : (((streams f.streams).length : Nat) : Int) = ((f.streams.length : Nat) : Int)) (an h2 (an ((by simp [bytesR]) : (((nums f.handed).length : Nat) : Int) = ((f.handed.length : Nat) : Int)) (an h3 trivial))))))))
      | true =>
        have qh2 := of_decide_eq_true h2
        rw [show (DV.v (.bool f.heavyB) : DV) = .v (.bool true) from (bv (by first | exact Flow.heavy_len (by omega) | exact Flow.heavy_no (by omega) (by omega) (by omega) (by omega) (by omega) hv0 | exact Flow.heavy_slot ge_f_streams_i ge_c8f2d (by omega) | exact Flow.heavy_stream ge_f_streams_i (by omega)))]
        exact toRet tb_ok mixed_ok hK rfl [(1, [(3, .z (((f.view.members.length : Nat) : Int))), (4, .b false), (9, .z (((f.view.starts.length : Nat) : Int))), (10, .b false), (15, .z (((f.streams.length : Nat) : Int))), (16, .b true)])] 2000 r (by kernel_rfl) (an ((by simp [bytesR]) : (((procs f.view.members).length : Nat) : Int) = ((f.view.members.length : Nat) : Int)) (an h0 (an ((by simp [bytesR]) : (((nums f.view.starts).length : Nat) : Int) = ((f.view.starts.length : Nat) : Int)) (an h1 (an ((by simp [bytesR]) : (((streams f.streams).length : Nat) : Int) = ((f.streams.length : Nat) : Int)) (an h2 trivial))))))
    | true =>
      have qh1 := of_decide_eq_true h1
      rw [show (DV.v (.bool f.heavyB) : DV) = .v (.bool true) from (bv (by first | exact Flow.heavy_len (by omega) | exact Flow.heavy_no (by omega) (by omega) (by omega) (by omega) (by omega) hv0 | exact Flow.heavy_slot ge_f_streams_i ge_c8f2d (by omega) | exact Flow.heavy_stream ge_f_streams_i (by omega)))]
      exact toRet tb_ok mixed_ok hK rfl [(1, [(3, .z (((f.view.members.length : Nat) : Int))), (4, .b false), (9, .z (((f.view.starts.length : Nat) : Int))), (10, .b true)])] 2000 r (by kernel_rfl) (an ((by simp [bytesR]) : (((procs f.view.members).length : Nat) : Int) = ((f.view.members.length : Nat) : Int)) (an h0 (an ((by simp [bytesR]) : (((nums f.view.starts).length : Nat) : Int) = ((f.view.starts.length : Nat) : Int)) (an h1 trivial))))
  | true =>
    have qh0 := of_decide_eq_true h0
    rw [show (DV.v (.bool f.heavyB) : DV) = .v (.bool true) from (bv (by first | exact Flow.heavy_len (by omega) | exact Flow.heavy_no (by omega) (by omega) (by omega) (by omega) (by omega) hv0 | exact Flow.heavy_slot ge_f_streams_i ge_c8f2d (by omega) | exact Flow.heavy_stream ge_f_streams_i (by omega)))]
    exact toRet tb_ok mixed_ok hK rfl [(1, [(3, .z (((f.view.members.length : Nat) : Int))), (4, .b true)])] 2000 r (by kernel_rfl) (an ((by simp [bytesR]) : (((procs f.view.members).length : Nat) : Int) = ((f.view.members.length : Nat) : Int)) (an h0 trivial))
set_option maxRecDepth 100000 in
theorem sameMsgs (a b : List Msg) (hb : a.length < 1073741824) : Con Try.prog 18 [.d (.ro 4 (msgs a)), .d (.ro 4 (msgs b))] (DV.v (.bool (decide (a = b)))) := by
  refine Con.intro (by kernel_rfl) rfl rfl 56 rfl rfl fun w0 K ac hK r => ?_
  cases h0 : ((((a.length : Nat) : Int) : Int) != ((b.length : Nat) : Int)) with
  | false =>
    have qh0 := eq_of_bne h0
    refine toHead (todo' := hd Try.f18 0) (E' := [(0, .d (.ro 4 (msgs a))), (1, .d (.ro 4 (msgs b))), (5, .n 0)]) (M' := []) tb_ok mixed_ok hK [(1, [(1, .z (((a.length : Nat) : Int))), (3, .z (((b.length : Nat) : Int))), (4, .b false)])] 2000 [] [0, 1, 5] r (by kernel_rfl) (an ((by simp) : (((msgs a).length : Nat) : Int) = ((a.length : Nat) : Int)) (an ((by simp) : (((msgs b).length : Nat) : Int) = ((b.length : Nat) : Int)) (an h0 trivial))) fun ac wd r => ?_
    refine Goes.rounds (Φ := fun (i : Nat) ac wd => (i ≤ a.length ∧ ∀ j, j < i → a[j]? = b[j]?) ∧ RE' [] w0 K 56 [(0, .d (.ro 4 (msgs a))), (1, .d (.ro 4 (msgs b))), (5, .n i)] [] ac wd) (a.length) ?_ (Nat.zero_le _) ⟨⟨by omega, by omega⟩, r⟩
    clear r
    rintro i hi0 again0 ac wd ⟨hv0, r⟩
    obtain ⟨hi1, hv0⟩ := hv0
    cases h1 : (decide ((((i : Nat) : Int) : Int) < ((a.length : Nat) : Int))) with
    | false =>
      have qh1 := of_decide_eq_false h1
      rw [show (DV.v (.bool (decide (a = b))) : DV) = .v (.bool true) from (bv (by first | (apply decide_eq_true; exact ext_of (by omega) fun j hj => hv0 j (by omega)) | (apply decide_eq_false; intro e; subst e; first | omega | (simp_all; done))))]
      exact toRet tb_ok mixed_ok hK rfl [(4, [(2, .z (((a.length : Nat) : Int))), (3, .b false)])] 2000 r (by kernel_rfl) (an ((by simp) : (((msgs a).length : Nat) : Int) = ((a.length : Nat) : Int)) (an h1 trivial))
    | true =>
      have qh1 := of_decide_eq_true h1
      obtain ⟨e_a_i, ge_a_i⟩ : ∃ x, a[i]? = some x := ⟨_, List.getElem?_eq_getElem (by omega)⟩
      obtain ⟨e_b_i, ge_b_i⟩ : ∃ x, b[i]? = some x := ⟨_, List.getElem?_eq_getElem (by omega)⟩
      cases h2 : (decide (e_a_i.src = e_b_i.src)) with
      | false =>
        have qh2 := of_decide_eq_false h2
        rw [show (DV.v (.bool (decide (a = b))) : DV) = .v (.bool false) from (bv (by first | (apply decide_eq_true; exact ext_of (by omega) fun j hj => hv0 j (by omega)) | (apply decide_eq_false; intro e; subst e; first | omega | (simp_all; done))))]
        exact toRet tb_ok mixed_ok hK rfl [(4, [(2, .z (((a.length : Nat) : Int))), (3, .b true)]), (6, [(2, .ix (i) [.z e_a_i.src.node, .u e_a_i.src.inc, .u e_a_i.n, .ro 1 (bytesR e_a_i.body)]), (7, .ix (i) [.z e_b_i.src.node, .u e_b_i.src.inc, .u e_b_i.n, .ro 1 (bytesR e_b_i.body)]), (10, .b false)])] 2000 r (by kernel_rfl) (an ((by simp) : (((msgs a).length : Nat) : Int) = ((a.length : Nat) : Int)) (an h1 (an (rfI ((i : Nat) : Int)) (an (msgs_at ge_a_i) (an (rfI ((i : Nat) : Int)) (an (msgs_at ge_b_i) (an ((eqT (eqProcD _ _) h2) : EqAgg Try.prog 24 [(.int .i64 (e_a_i.src.node)), (.int .u64 (((e_a_i.src.inc : Nat) : Int)))] [(.int .i64 (e_b_i.src.node)), (.int .u64 (((e_b_i.src.inc : Nat) : Int)))] false) trivial)))))))
      | true =>
        have qh2 := of_decide_eq_true h2
        cases h3 : ((((e_a_i.n : Nat) : Int) : Int) != ((e_b_i.n : Nat) : Int)) with
        | false =>
          have qh3 := eq_of_bne h3
          cases h4 : (e_a_i.body == e_b_i.body) with
          | false =>
            have qh4 : e_a_i.body ≠ e_b_i.body := by simpa using h4
            rw [show (DV.v (.bool (decide (a = b))) : DV) = .v (.bool false) from (bv (by first | (apply decide_eq_true; exact ext_of (by omega) fun j hj => hv0 j (by omega)) | (apply decide_eq_false; intro e; subst e; first | omega | (simp_all; done))))]
            exact toRet tb_ok mixed_ok hK rfl [(4, [(2, .z (((a.length : Nat) : Int))), (3, .b true)]), (6, [(2, .ix (i) [.z e_a_i.src.node, .u e_a_i.src.inc, .u e_a_i.n, .ro 1 (bytesR e_a_i.body)]), (7, .ix (i) [.z e_b_i.src.node, .u e_b_i.src.inc, .u e_b_i.n, .ro 1 (bytesR e_b_i.body)]), (10, .b true), (14, .ix (i) [.z e_a_i.src.node, .u e_a_i.src.inc, .u e_a_i.n, .ro 1 (bytesR e_a_i.body)]), (19, .ix (i) [.z e_b_i.src.node, .u e_b_i.src.inc, .u e_b_i.n, .ro 1 (bytesR e_b_i.body)]), (22, .b false), (27, .ix (i) [.z e_a_i.src.node, .u e_a_i.src.inc, .u e_a_i.n, .ro 1 (bytesR e_a_i.body)]), (30, .res (.v (.string ⟨(e_a_i.body).toArray⟩))), (33, .ix (i) [.z e_b_i.src.node, .u e_b_i.src.inc, .u e_b_i.n, .ro 1 (bytesR e_b_i.body)]), (36, .res (.v (.string ⟨(e_b_i.body).toArray⟩))), (37, .b true)])] 2000 r (by kernel_rfl) (an ((by simp) : (((msgs a).length : Nat) : Int) = ((a.length : Nat) : Int)) (an h1 (an (rfI ((i : Nat) : Int)) (an (msgs_at ge_a_i) (an (rfI ((i : Nat) : Int)) (an (msgs_at ge_b_i) (an ((eqT (eqProcD _ _) h2) : EqAgg Try.prog 24 [(.int .i64 (e_a_i.src.node)), (.int .u64 (((e_a_i.src.inc : Nat) : Int)))] [(.int .i64 (e_b_i.src.node)), (.int .u64 (((e_b_i.src.inc : Nat) : Int)))] true) (an (rfI ((i : Nat) : Int)) (an (msgs_at ge_a_i) (an (rfI ((i : Nat) : Int)) (an (msgs_at ge_b_i) (an h3 (an (rfI ((i : Nat) : Int)) (an (msgs_at ge_a_i) (an (rfl : bytesR e_a_i.body = bytesR (e_a_i.body)) (an (rfI ((i : Nat) : Int)) (an (msgs_at ge_b_i) (an (rfl : bytesR e_b_i.body = bytesR (e_b_i.body)) (an ((by simpa [bne] using h4) : (e_a_i.body != e_b_i.body) = true) trivial)))))))))))))))))))
          | true =>
            have qh4 : e_a_i.body = e_b_i.body := by simpa using h4
            exact toHead (todo' := hd Try.f18 0) tb_ok mixed_ok hK [(4, [(2, .z (((a.length : Nat) : Int))), (3, .b true)]), (5, [(1, .z (((i + 1 : Nat) : Int)))]), (6, [(2, .ix (i) [.z e_a_i.src.node, .u e_a_i.src.inc, .u e_a_i.n, .ro 1 (bytesR e_a_i.body)]), (7, .ix (i) [.z e_b_i.src.node, .u e_b_i.src.inc, .u e_b_i.n, .ro 1 (bytesR e_b_i.body)]), (10, .b true), (14, .ix (i) [.z e_a_i.src.node, .u e_a_i.src.inc, .u e_a_i.n, .ro 1 (bytesR e_a_i.body)]), (19, .ix (i) [.z e_b_i.src.node, .u e_b_i.src.inc, .u e_b_i.n, .ro 1 (bytesR e_b_i.body)]), (22, .b false), (27, .ix (i) [.z e_a_i.src.node, .u e_a_i.src.inc, .u e_a_i.n, .ro 1 (bytesR e_a_i.body)]), (30, .res (.v (.string ⟨(e_a_i.body).toArray⟩))), (33, .ix (i) [.z e_b_i.src.node, .u e_b_i.src.inc, .u e_b_i.n, .ro 1 (bytesR e_b_i.body)]), (36, .res (.v (.string ⟨(e_b_i.body).toArray⟩))), (37, .b false)])] 2000 [] [0, 1, 5] r (by kernel_rfl) (an ((by simp) : (((msgs a).length : Nat) : Int) = ((a.length : Nat) : Int)) (an h1 (an (rfI ((i : Nat) : Int)) (an (msgs_at ge_a_i) (an (rfI ((i : Nat) : Int)) (an (msgs_at ge_b_i) (an ((eqT (eqProcD _ _) h2) : EqAgg Try.prog 24 [(.int .i64 (e_a_i.src.node)), (.int .u64 (((e_a_i.src.inc : Nat) : Int)))] [(.int .i64 (e_b_i.src.node)), (.int .u64 (((e_b_i.src.inc : Nat) : Int)))] true) (an (rfI ((i : Nat) : Int)) (an (msgs_at ge_a_i) (an (rfI ((i : Nat) : Int)) (an (msgs_at ge_b_i) (an h3 (an (rfI ((i : Nat) : Int)) (an (msgs_at ge_a_i) (an (rfl : bytesR e_a_i.body = bytesR (e_a_i.body)) (an (rfI ((i : Nat) : Int)) (an (msgs_at ge_b_i) (an (rfl : bytesR e_b_i.body = bytesR (e_b_i.body)) (an ((by simpa [bne] using h4) : (e_a_i.body != e_b_i.body) = false) (an ((wi (by omega)) : IntKind.i64.wrap ((((i : Nat) : Int) : Int) + 1) = ((i + 1 : Nat) : Int)) trivial)))))))))))))))))))) fun ac wd r => again0 (by omega) ac wd ⟨⟨by omega, fun j hj => by rcases Nat.lt_succ_iff_lt_or_eq.1 hj with h | rfl; exact hv0 j h; rw [ge_a_i, ge_b_i, Option.some.injEq, Msg.eq_iff]; exact ⟨by assumption, by omega, by assumption⟩⟩, r⟩
        | true =>
          have qh3 : ¬ _ = _ := bne_iff_ne.1 h3
          rw [show (DV.v (.bool (decide (a = b))) : DV) = .v (.bool false) from (bv (by first | (apply decide_eq_true; exact ext_of (by omega) fun j hj => hv0 j (by omega)) | (apply decide_eq_false; intro e; subst e; first | omega | (simp_all; done))))]
          exact toRet tb_ok mixed_ok hK rfl [(4, [(2, .z (((a.length : Nat) : Int))), (3, .b true)]), (6, [(2, .ix (i) [.z e_a_i.src.node, .u e_a_i.src.inc, .u e_a_i.n, .ro 1 (bytesR e_a_i.body)]), (7, .ix (i) [.z e_b_i.src.node, .u e_b_i.src.inc, .u e_b_i.n, .ro 1 (bytesR e_b_i.body)]), (10, .b true), (14, .ix (i) [.z e_a_i.src.node, .u e_a_i.src.inc, .u e_a_i.n, .ro 1 (bytesR e_a_i.body)]), (19, .ix (i) [.z e_b_i.src.node, .u e_b_i.src.inc, .u e_b_i.n, .ro 1 (bytesR e_b_i.body)]), (22, .b true)])] 2000 r (by kernel_rfl) (an ((by simp) : (((msgs a).length : Nat) : Int) = ((a.length : Nat) : Int)) (an h1 (an (rfI ((i : Nat) : Int)) (an (msgs_at ge_a_i) (an (rfI ((i : Nat) : Int)) (an (msgs_at ge_b_i) (an ((eqT (eqProcD _ _) h2) : EqAgg Try.prog 24 [(.int .i64 (e_a_i.src.node)), (.int .u64 (((e_a_i.src.inc : Nat) : Int)))] [(.int .i64 (e_b_i.src.node)), (.int .u64 (((e_b_i.src.inc : Nat) : Int)))] true) (an (rfI ((i : Nat) : Int)) (an (msgs_at ge_a_i) (an (rfI ((i : Nat) : Int)) (an (msgs_at ge_b_i) (an h3 trivial))))))))))))
  | true =>
    have qh0 : ¬ _ = _ := bne_iff_ne.1 h0
    rw [show (DV.v (.bool (decide (a = b))) : DV) = .v (.bool false) from (bv (by first | (apply decide_eq_true; exact ext_of (by omega) fun j hj => hv0 j (by omega)) | (apply decide_eq_false; intro e; subst e; first | omega | (simp_all; done))))]
    exact toRet tb_ok mixed_ok hK rfl [(1, [(1, .z (((a.length : Nat) : Int))), (3, .z (((b.length : Nat) : Int))), (4, .b true)])] 2000 r (by kernel_rfl) (an ((by simp) : (((msgs a).length : Nat) : Int) = ((a.length : Nat) : Int)) (an ((by simp) : (((msgs b).length : Nat) : Int) = ((b.length : Nat) : Int)) (an h0 trivial)))
set_option maxRecDepth 100000 in
theorem sameFlows (a b : Flow) (ha : a.bounded) : Con Try.prog 11 [.ag [.u a.view.id.round, .z a.view.id.server.node, .u a.view.id.server.inc, .d (.ro 2 (procs a.view.members)), .d (.ro 1 (nums a.view.starts)), .d (.ro 1 (streams a.streams)), .d (.ro 1 (nums a.handed))], .ag [.u b.view.id.round, .z b.view.id.server.node, .u b.view.id.server.inc, .d (.ro 2 (procs b.view.members)), .d (.ro 1 (nums b.view.starts)), .d (.ro 1 (streams b.streams)), .d (.ro 1 (nums b.handed))]] (DV.v (.bool (decide (a = b)))) := by
  obtain ⟨hbv, hb1, hb2, hb3⟩ := id ha
  refine Con.intro (by kernel_rfl) rfl rfl 108 rfl rfl fun w0 K ac hK r => ?_
  cases h0 : (decide (a.view = b.view)) with
  | false =>
    have qh0 := of_decide_eq_false h0
    rw [show (DV.v (.bool (decide (a = b))) : DV) = .v (.bool false) from (bv (by first | (apply decide_eq_true; exact Flow.eq_iff.2 ⟨by assumption, ext_of (by omega) fun j hj => hv1 j (by omega), ext_of (by omega) fun j hj => hv0 j (by omega)⟩) | (apply decide_eq_false; intro e; subst e; first | omega | (simp_all; done))))]
    exact toRet tb_ok mixed_ok hK rfl [(1, [(4, .con (.v (.bool false)))])] 2000 r (by kernel_rfl) (an ((by have k := refViewSame a.view b.view hbv; rw [h0] at k; exact k) : Con Try.prog 35 [.ag [.u a.view.id.round, .z a.view.id.server.node, .u a.view.id.server.inc, .d (.ro 2 (procs a.view.members)), .d (.ro 1 (nums a.view.starts))], .ag [.u b.view.id.round, .z b.view.id.server.node, .u b.view.id.server.inc, .d (.ro 2 (procs b.view.members)), .d (.ro 1 (nums b.view.starts))]] (.v (.bool false))) trivial)
  | true =>
    have qh0 := of_decide_eq_true h0
    cases h1 : ((((a.streams.length : Nat) : Int) : Int) != ((b.streams.length : Nat) : Int)) with
    | false =>
      have qh1 := eq_of_bne h1
      cases h2 : ((((a.handed.length : Nat) : Int) : Int) != ((b.handed.length : Nat) : Int)) with
      | false =>
        have qh2 := eq_of_bne h2
        refine toHead (todo' := hd Try.f11 0) (E' := [(2, .pt 0 0), (3, .pt 1 0), (5, .n 0)]) (M' := [.bx 33 [.u a.view.id.round, .z a.view.id.server.node, .u a.view.id.server.inc, .d (.ro 2 (procs a.view.members)), .d (.ro 1 (nums a.view.starts)), .d (.ro 1 (streams a.streams)), .d (.ro 1 (nums a.handed))], .bx 33 [.u b.view.id.round, .z b.view.id.server.node, .u b.view.id.server.inc, .d (.ro 2 (procs b.view.members)), .d (.ro 1 (nums b.view.starts)), .d (.ro 1 (streams b.streams)), .d (.ro 1 (nums b.handed))]]) tb_ok mixed_ok hK [(1, [(4, .con (.v (.bool true))), (9, .z (((a.streams.length : Nat) : Int))), (12, .z (((b.streams.length : Nat) : Int))), (13, .b false), (18, .z (((a.handed.length : Nat) : Int))), (21, .z (((b.handed.length : Nat) : Int))), (22, .b false)])] 2000 [0, 1] [2, 3, 5] r (by kernel_rfl) (an ((by have k := refViewSame a.view b.view hbv; rw [h0] at k; exact k) : Con Try.prog 35 [.ag [.u a.view.id.round, .z a.view.id.server.node, .u a.view.id.server.inc, .d (.ro 2 (procs a.view.members)), .d (.ro 1 (nums a.view.starts))], .ag [.u b.view.id.round, .z b.view.id.server.node, .u b.view.id.server.inc, .d (.ro 2 (procs b.view.members)), .d (.ro 1 (nums b.view.starts))]] (.v (.bool true))) (an ((by simp) : (((streams a.streams).length : Nat) : Int) = ((a.streams.length : Nat) : Int)) (an ((by simp) : (((streams b.streams).length : Nat) : Int) = ((b.streams.length : Nat) : Int)) (an h1 (an ((by simp) : (((nums a.handed).length : Nat) : Int) = ((a.handed.length : Nat) : Int)) (an ((by simp) : (((nums b.handed).length : Nat) : Int) = ((b.handed.length : Nat) : Int)) (an h2 trivial))))))) fun ac wd r => ?_
        refine Goes.rounds (Φ := fun (i : Nat) ac wd => (i ≤ a.handed.length ∧ ∀ j, j < i → a.handed[j]? = b.handed[j]?) ∧ RE' [] w0 K 108 [(2, .pt 0 0), (3, .pt 1 0), (5, .n i)] [.bx 33 [.u a.view.id.round, .z a.view.id.server.node, .u a.view.id.server.inc, .d (.ro 2 (procs a.view.members)), .d (.ro 1 (nums a.view.starts)), .d (.ro 1 (streams a.streams)), .d (.ro 1 (nums a.handed))], .bx 33 [.u b.view.id.round, .z b.view.id.server.node, .u b.view.id.server.inc, .d (.ro 2 (procs b.view.members)), .d (.ro 1 (nums b.view.starts)), .d (.ro 1 (streams b.streams)), .d (.ro 1 (nums b.handed))]] ac wd) (a.handed.length) ?_ (Nat.zero_le _) ⟨⟨by omega, by omega⟩, r⟩
        clear r
        rintro i hi0 again0 ac wd ⟨hv0, r⟩
        obtain ⟨hi1, hv0⟩ := hv0
        cases h3 : (decide ((((i : Nat) : Int) : Int) < ((a.handed.length : Nat) : Int))) with
        | false =>
          have qh3 := of_decide_eq_false h3
          refine toHead (todo' := hd Try.f11 1) (E' := [(2, .pt 0 0), (3, .pt 1 0), (6, .n 0)]) (M' := [.bx 33 [.u a.view.id.round, .z a.view.id.server.node, .u a.view.id.server.inc, .d (.ro 2 (procs a.view.members)), .d (.ro 1 (nums a.view.starts)), .d (.ro 1 (streams a.streams)), .d (.ro 1 (nums a.handed))], .bx 33 [.u b.view.id.round, .z b.view.id.server.node, .u b.view.id.server.inc, .d (.ro 2 (procs b.view.members)), .d (.ro 1 (nums b.view.starts)), .d (.ro 1 (streams b.streams)), .d (.ro 1 (nums b.handed))]]) tb_ok mixed_ok hK [(4, [(3, .z (((a.handed.length : Nat) : Int))), (4, .b false)])] 2000 [0, 1] [2, 3, 6] r (by kernel_rfl) (an ((by simp) : (((nums a.handed).length : Nat) : Int) = ((a.handed.length : Nat) : Int)) (an h3 trivial)) fun ac wd r => ?_
          refine Goes.rounds (Φ := fun (u : Nat) ac wd => (u ≤ a.streams.length ∧ ∀ j, j < u → a.streams[j]? = b.streams[j]?) ∧ RE' [] w0 K 108 [(2, .pt 0 0), (3, .pt 1 0), (6, .n u)] [.bx 33 [.u a.view.id.round, .z a.view.id.server.node, .u a.view.id.server.inc, .d (.ro 2 (procs a.view.members)), .d (.ro 1 (nums a.view.starts)), .d (.ro 1 (streams a.streams)), .d (.ro 1 (nums a.handed))], .bx 33 [.u b.view.id.round, .z b.view.id.server.node, .u b.view.id.server.inc, .d (.ro 2 (procs b.view.members)), .d (.ro 1 (nums b.view.starts)), .d (.ro 1 (streams b.streams)), .d (.ro 1 (nums b.handed))]] ac wd) (a.streams.length) ?_ (Nat.zero_le _) ⟨⟨by omega, by omega⟩, r⟩
          clear r
          rintro u hi1 again1 ac wd ⟨hv1, r⟩
          obtain ⟨hu1, hv1⟩ := hv1
          cases h4 : (decide ((((u : Nat) : Int) : Int) < ((a.streams.length : Nat) : Int))) with
          | false =>
            have qh4 := of_decide_eq_false h4
            rw [show (DV.v (.bool (decide (a = b))) : DV) = .v (.bool true) from (bv (by first | (apply decide_eq_true; exact Flow.eq_iff.2 ⟨by assumption, ext_of (by omega) fun j hj => hv1 j (by omega), ext_of (by omega) fun j hj => hv0 j (by omega)⟩) | (apply decide_eq_false; intro e; subst e; first | omega | (simp_all; done))))]
            exact toRet tb_ok mixed_ok hK rfl [(9, [(3, .z (((a.streams.length : Nat) : Int))), (4, .b false)])] 2000 r (by kernel_rfl) (an ((by simp) : (((streams a.streams).length : Nat) : Int) = ((a.streams.length : Nat) : Int)) (an h4 trivial))
          | true =>
            have qh4 := of_decide_eq_true h4
            obtain ⟨e_a_streams_u, ge_a_streams_u⟩ : ∃ x, a.streams[u]? = some x := ⟨_, List.getElem?_eq_getElem (by omega)⟩
            have be_a_streams_u := (ha.at ge_a_streams_u).1
            obtain ⟨e_b_streams_u, ge_b_streams_u⟩ : ∃ x, b.streams[u]? = some x := ⟨_, List.getElem?_eq_getElem (by omega)⟩
            cases h5 : ((((e_a_streams_u.length : Nat) : Int) : Int) != ((e_b_streams_u.length : Nat) : Int)) with
            | false =>
              have qh5 := eq_of_bne h5
              refine toHead (todo' := hd Try.f11 2) (E' := [(2, .pt 0 0), (3, .pt 1 0), (6, .n u), (7, .d (.ro 2 (slots e_a_streams_u))), (8, .d (.ro 2 (slots e_b_streams_u))), (9, .n 0)]) (M' := [.bx 33 [.u a.view.id.round, .z a.view.id.server.node, .u a.view.id.server.inc, .d (.ro 2 (procs a.view.members)), .d (.ro 1 (nums a.view.starts)), .d (.ro 1 (streams a.streams)), .d (.ro 1 (nums a.handed))], .bx 33 [.u b.view.id.round, .z b.view.id.server.node, .u b.view.id.server.inc, .d (.ro 2 (procs b.view.members)), .d (.ro 1 (nums b.view.starts)), .d (.ro 1 (streams b.streams)), .d (.ro 1 (nums b.handed))]]) tb_ok mixed_ok hK [(9, [(3, .z (((a.streams.length : Nat) : Int))), (4, .b true)]), (11, [(3, .ix (u) [.ro 2 (slots e_a_streams_u)]), (9, .ix (u) [.ro 2 (slots e_b_streams_u)])]), (12, [(1, .z (((e_a_streams_u.length : Nat) : Int))), (3, .z (((e_b_streams_u.length : Nat) : Int))), (4, .b false)])] 2000 [0, 1] [2, 3, 6, 7, 8, 9] r (by kernel_rfl) (an ((by simp) : (((streams a.streams).length : Nat) : Int) = ((a.streams.length : Nat) : Int)) (an h4 (an (rfI ((u : Nat) : Int)) (an (streams_at ge_a_streams_u) (an (rfI ((u : Nat) : Int)) (an (streams_at ge_b_streams_u) (an ((by simp) : (((slots e_a_streams_u).length : Nat) : Int) = ((e_a_streams_u.length : Nat) : Int)) (an ((by simp) : (((slots e_b_streams_u).length : Nat) : Int) = ((e_b_streams_u.length : Nat) : Int)) (an h5 trivial))))))))) fun ac wd r => ?_
              refine Goes.rounds (Φ := fun (k : Nat) ac wd => (k ≤ e_a_streams_u.length ∧ ∀ j, j < k → e_a_streams_u[j]? = e_b_streams_u[j]?) ∧ RE' [] w0 K 108 [(2, .pt 0 0), (3, .pt 1 0), (6, .n u), (7, .d (.ro 2 (slots e_a_streams_u))), (8, .d (.ro 2 (slots e_b_streams_u))), (9, .n k)] [.bx 33 [.u a.view.id.round, .z a.view.id.server.node, .u a.view.id.server.inc, .d (.ro 2 (procs a.view.members)), .d (.ro 1 (nums a.view.starts)), .d (.ro 1 (streams a.streams)), .d (.ro 1 (nums a.handed))], .bx 33 [.u b.view.id.round, .z b.view.id.server.node, .u b.view.id.server.inc, .d (.ro 2 (procs b.view.members)), .d (.ro 1 (nums b.view.starts)), .d (.ro 1 (streams b.streams)), .d (.ro 1 (nums b.handed))]] ac wd) (e_a_streams_u.length) ?_ (Nat.zero_le _) ⟨⟨by omega, by omega⟩, r⟩
              clear r
              rintro k hi2 again2 ac wd ⟨hv2, r⟩
              obtain ⟨hk1, hv2⟩ := hv2
              cases h6 : (decide ((((k : Nat) : Int) : Int) < ((e_a_streams_u.length : Nat) : Int))) with
              | false =>
                have qh6 := of_decide_eq_false h6
                exact toHead (todo' := hd Try.f11 1) tb_ok mixed_ok hK [(10, [(1, .z (((u + 1 : Nat) : Int)))]), (15, [(2, .z (((e_a_streams_u.length : Nat) : Int))), (3, .b false)])] 2000 [0, 1] [2, 3, 6] r (by kernel_rfl) (an ((by simp) : (((slots e_a_streams_u).length : Nat) : Int) = ((e_a_streams_u.length : Nat) : Int)) (an h6 (an ((wi (by omega)) : IntKind.i64.wrap ((((u : Nat) : Int) : Int) + 1) = ((u + 1 : Nat) : Int)) trivial))) fun ac wd r => again1 (by omega) ac wd ⟨⟨by omega, fun j hj => by rcases Nat.lt_succ_iff_lt_or_eq.1 hj with h | rfl; exact hv1 j h; rw [ge_a_streams_u, ge_b_streams_u, Option.some.injEq]; exact ext_of (by omega) fun j hj => hv2 j (by omega)⟩, r⟩
              | true =>
                have qh6 := of_decide_eq_true h6
                obtain ⟨e_68c0c, ge_68c0c⟩ : ∃ x, e_a_streams_u[k]? = some x := ⟨_, List.getElem?_eq_getElem (by omega)⟩
                obtain ⟨e_4031a, ge_4031a⟩ : ∃ x, e_b_streams_u[k]? = some x := ⟨_, List.getElem?_eq_getElem (by omega)⟩
                cases h7 : ((((e_68c0c.n : Nat) : Int) : Int) != ((e_4031a.n : Nat) : Int)) with
                | false =>
                  have qh7 := eq_of_bne h7
                  cases h8 : (e_68c0c.body == e_4031a.body) with
                  | false =>
                    have qh8 : e_68c0c.body ≠ e_4031a.body := by simpa using h8
                    rw [show (DV.v (.bool (decide (a = b))) : DV) = .v (.bool false) from (bv (by first | (apply decide_eq_true; exact Flow.eq_iff.2 ⟨by assumption, ext_of (by omega) fun j hj => hv1 j (by omega), ext_of (by omega) fun j hj => hv0 j (by omega)⟩) | (apply decide_eq_false; intro e; subst e; first | omega | (simp_all; done))))]
                    exact toRet tb_ok mixed_ok hK rfl [(15, [(2, .z (((e_a_streams_u.length : Nat) : Int))), (3, .b true)]), (17, [(2, .ix (k) [.u e_68c0c.n, .ro 1 (bytesR e_68c0c.body)]), (7, .ix (k) [.u e_4031a.n, .ro 1 (bytesR e_4031a.body)]), (10, .b false), (14, .ix (k) [.u e_68c0c.n, .ro 1 (bytesR e_68c0c.body)]), (17, .res (.v (.string ⟨(e_68c0c.body).toArray⟩))), (20, .ix (k) [.u e_4031a.n, .ro 1 (bytesR e_4031a.body)]), (23, .res (.v (.string ⟨(e_4031a.body).toArray⟩))), (24, .b true)])] 2000 r (by kernel_rfl) (an ((by simp) : (((slots e_a_streams_u).length : Nat) : Int) = ((e_a_streams_u.length : Nat) : Int)) (an h6 (an (rfI ((k : Nat) : Int)) (an (slots_at ge_68c0c) (an (rfI ((k : Nat) : Int)) (an (slots_at ge_4031a) (an h7 (an (rfI ((k : Nat) : Int)) (an (slots_at ge_68c0c) (an (rfl : bytesR e_68c0c.body = bytesR (e_68c0c.body)) (an (rfI ((k : Nat) : Int)) (an (slots_at ge_4031a) (an (rfl : bytesR e_4031a.body = bytesR (e_4031a.body)) (an ((by simpa [bne] using h8) : (e_68c0c.body != e_4031a.body) = true) trivial))))))))))))))
                  | true =>
                    have qh8 : e_68c0c.body = e_4031a.body := by simpa using h8
                    exact toHead (todo' := hd Try.f11 2) tb_ok mixed_ok hK [(15, [(2, .z (((e_a_streams_u.length : Nat) : Int))), (3, .b true)]), (16, [(1, .z (((k + 1 : Nat) : Int)))]), (17, [(2, .ix (k) [.u e_68c0c.n, .ro 1 (bytesR e_68c0c.body)]), (7, .ix (k) [.u e_4031a.n, .ro 1 (bytesR e_4031a.body)]), (10, .b false), (14, .ix (k) [.u e_68c0c.n, .ro 1 (bytesR e_68c0c.body)]), (17, .res (.v (.string ⟨(e_68c0c.body).toArray⟩))), (20, .ix (k) [.u e_4031a.n, .ro 1 (bytesR e_4031a.body)]), (23, .res (.v (.string ⟨(e_4031a.body).toArray⟩))), (24, .b false)])] 2000 [0, 1] [2, 3, 6, 7, 8, 9] r (by kernel_rfl) (an ((by simp) : (((slots e_a_streams_u).length : Nat) : Int) = ((e_a_streams_u.length : Nat) : Int)) (an h6 (an (rfI ((k : Nat) : Int)) (an (slots_at ge_68c0c) (an (rfI ((k : Nat) : Int)) (an (slots_at ge_4031a) (an h7 (an (rfI ((k : Nat) : Int)) (an (slots_at ge_68c0c) (an (rfl : bytesR e_68c0c.body = bytesR (e_68c0c.body)) (an (rfI ((k : Nat) : Int)) (an (slots_at ge_4031a) (an (rfl : bytesR e_4031a.body = bytesR (e_4031a.body)) (an ((by simpa [bne] using h8) : (e_68c0c.body != e_4031a.body) = false) (an ((wi (by omega)) : IntKind.i64.wrap ((((k : Nat) : Int) : Int) + 1) = ((k + 1 : Nat) : Int)) trivial))))))))))))))) fun ac wd r => again2 (by omega) ac wd ⟨⟨by omega, fun j hj => by rcases Nat.lt_succ_iff_lt_or_eq.1 hj with h | rfl; exact hv2 j h; rw [ge_68c0c, ge_4031a, Option.some.injEq, Slot.eq_iff]; exact ⟨by omega, by assumption⟩⟩, r⟩
                | true =>
                  have qh7 : ¬ _ = _ := bne_iff_ne.1 h7
                  rw [show (DV.v (.bool (decide (a = b))) : DV) = .v (.bool false) from (bv (by first | (apply decide_eq_true; exact Flow.eq_iff.2 ⟨by assumption, ext_of (by omega) fun j hj => hv1 j (by omega), ext_of (by omega) fun j hj => hv0 j (by omega)⟩) | (apply decide_eq_false; intro e; subst e; first | omega | (simp_all; done))))]
                  exact toRet tb_ok mixed_ok hK rfl [(15, [(2, .z (((e_a_streams_u.length : Nat) : Int))), (3, .b true)]), (17, [(2, .ix (k) [.u e_68c0c.n, .ro 1 (bytesR e_68c0c.body)]), (7, .ix (k) [.u e_4031a.n, .ro 1 (bytesR e_4031a.body)]), (10, .b true)])] 2000 r (by kernel_rfl) (an ((by simp) : (((slots e_a_streams_u).length : Nat) : Int) = ((e_a_streams_u.length : Nat) : Int)) (an h6 (an (rfI ((k : Nat) : Int)) (an (slots_at ge_68c0c) (an (rfI ((k : Nat) : Int)) (an (slots_at ge_4031a) (an h7 trivial)))))))
            | true =>
              have qh5 : ¬ _ = _ := bne_iff_ne.1 h5
              rw [show (DV.v (.bool (decide (a = b))) : DV) = .v (.bool false) from (bv (by first | (apply decide_eq_true; exact Flow.eq_iff.2 ⟨by assumption, ext_of (by omega) fun j hj => hv1 j (by omega), ext_of (by omega) fun j hj => hv0 j (by omega)⟩) | (apply decide_eq_false; intro e; subst e; first | omega | (simp_all; done))))]
              exact toRet tb_ok mixed_ok hK rfl [(9, [(3, .z (((a.streams.length : Nat) : Int))), (4, .b true)]), (11, [(3, .ix (u) [.ro 2 (slots e_a_streams_u)]), (9, .ix (u) [.ro 2 (slots e_b_streams_u)])]), (12, [(1, .z (((e_a_streams_u.length : Nat) : Int))), (3, .z (((e_b_streams_u.length : Nat) : Int))), (4, .b true)])] 2000 r (by kernel_rfl) (an ((by simp) : (((streams a.streams).length : Nat) : Int) = ((a.streams.length : Nat) : Int)) (an h4 (an (rfI ((u : Nat) : Int)) (an (streams_at ge_a_streams_u) (an (rfI ((u : Nat) : Int)) (an (streams_at ge_b_streams_u) (an ((by simp) : (((slots e_a_streams_u).length : Nat) : Int) = ((e_a_streams_u.length : Nat) : Int)) (an ((by simp) : (((slots e_b_streams_u).length : Nat) : Int) = ((e_b_streams_u.length : Nat) : Int)) (an h5 trivial)))))))))
        | true =>
          have qh3 := of_decide_eq_true h3
          obtain ⟨e_a_handed_i, ge_a_handed_i⟩ : ∃ x, a.handed[i]? = some x := ⟨_, List.getElem?_eq_getElem (by omega)⟩
          obtain ⟨e_b_handed_i, ge_b_handed_i⟩ : ∃ x, b.handed[i]? = some x := ⟨_, List.getElem?_eq_getElem (by omega)⟩
          cases h9 : ((((e_a_handed_i : Nat) : Int) : Int) != ((e_b_handed_i : Nat) : Int)) with
          | false =>
            have qh9 := eq_of_bne h9
            exact toHead (todo' := hd Try.f11 0) tb_ok mixed_ok hK [(4, [(3, .z (((a.handed.length : Nat) : Int))), (4, .b true)]), (5, [(1, .z (((i + 1 : Nat) : Int)))]), (6, [(3, .ix (i) [.u e_a_handed_i]), (8, .ix (i) [.u e_b_handed_i]), (10, .b false)])] 2000 [0, 1] [2, 3, 5] r (by kernel_rfl) (an ((by simp) : (((nums a.handed).length : Nat) : Int) = ((a.handed.length : Nat) : Int)) (an h3 (an (rfI ((i : Nat) : Int)) (an (nums_at ge_a_handed_i) (an (rfI ((i : Nat) : Int)) (an (nums_at ge_b_handed_i) (an h9 (an ((wi (by omega)) : IntKind.i64.wrap ((((i : Nat) : Int) : Int) + 1) = ((i + 1 : Nat) : Int)) trivial)))))))) fun ac wd r => again0 (by omega) ac wd ⟨⟨by omega, fun j hj => by rcases Nat.lt_succ_iff_lt_or_eq.1 hj with h | rfl; exact hv0 j h; rw [ge_a_handed_i, ge_b_handed_i, Option.some.injEq]; omega⟩, r⟩
          | true =>
            have qh9 : ¬ _ = _ := bne_iff_ne.1 h9
            rw [show (DV.v (.bool (decide (a = b))) : DV) = .v (.bool false) from (bv (by first | (apply decide_eq_true; exact Flow.eq_iff.2 ⟨by assumption, ext_of (by omega) fun j hj => hv1 j (by omega), ext_of (by omega) fun j hj => hv0 j (by omega)⟩) | (apply decide_eq_false; intro e; subst e; first | omega | (simp_all; done))))]
            exact toRet tb_ok mixed_ok hK rfl [(4, [(3, .z (((a.handed.length : Nat) : Int))), (4, .b true)]), (6, [(3, .ix (i) [.u e_a_handed_i]), (8, .ix (i) [.u e_b_handed_i]), (10, .b true)])] 2000 r (by kernel_rfl) (an ((by simp) : (((nums a.handed).length : Nat) : Int) = ((a.handed.length : Nat) : Int)) (an h3 (an (rfI ((i : Nat) : Int)) (an (nums_at ge_a_handed_i) (an (rfI ((i : Nat) : Int)) (an (nums_at ge_b_handed_i) (an h9 trivial)))))))
      | true =>
        have qh2 : ¬ _ = _ := bne_iff_ne.1 h2
        rw [show (DV.v (.bool (decide (a = b))) : DV) = .v (.bool false) from (bv (by first | (apply decide_eq_true; exact Flow.eq_iff.2 ⟨by assumption, ext_of (by omega) fun j hj => hv1 j (by omega), ext_of (by omega) fun j hj => hv0 j (by omega)⟩) | (apply decide_eq_false; intro e; subst e; first | omega | (simp_all; done))))]
        exact toRet tb_ok mixed_ok hK rfl [(1, [(4, .con (.v (.bool true))), (9, .z (((a.streams.length : Nat) : Int))), (12, .z (((b.streams.length : Nat) : Int))), (13, .b false), (18, .z (((a.handed.length : Nat) : Int))), (21, .z (((b.handed.length : Nat) : Int))), (22, .b true)])] 2000 r (by kernel_rfl) (an ((by have k := refViewSame a.view b.view hbv; rw [h0] at k; exact k) : Con Try.prog 35 [.ag [.u a.view.id.round, .z a.view.id.server.node, .u a.view.id.server.inc, .d (.ro 2 (procs a.view.members)), .d (.ro 1 (nums a.view.starts))], .ag [.u b.view.id.round, .z b.view.id.server.node, .u b.view.id.server.inc, .d (.ro 2 (procs b.view.members)), .d (.ro 1 (nums b.view.starts))]] (.v (.bool true))) (an ((by simp) : (((streams a.streams).length : Nat) : Int) = ((a.streams.length : Nat) : Int)) (an ((by simp) : (((streams b.streams).length : Nat) : Int) = ((b.streams.length : Nat) : Int)) (an h1 (an ((by simp) : (((nums a.handed).length : Nat) : Int) = ((a.handed.length : Nat) : Int)) (an ((by simp) : (((nums b.handed).length : Nat) : Int) = ((b.handed.length : Nat) : Int)) (an h2 trivial)))))))
    | true =>
      have qh1 : ¬ _ = _ := bne_iff_ne.1 h1
      rw [show (DV.v (.bool (decide (a = b))) : DV) = .v (.bool false) from (bv (by first | (apply decide_eq_true; exact Flow.eq_iff.2 ⟨by assumption, ext_of (by omega) fun j hj => hv1 j (by omega), ext_of (by omega) fun j hj => hv0 j (by omega)⟩) | (apply decide_eq_false; intro e; subst e; first | omega | (simp_all; done))))]
      exact toRet tb_ok mixed_ok hK rfl [(1, [(4, .con (.v (.bool true))), (9, .z (((a.streams.length : Nat) : Int))), (12, .z (((b.streams.length : Nat) : Int))), (13, .b true)])] 2000 r (by kernel_rfl) (an ((by have k := refViewSame a.view b.view hbv; rw [h0] at k; exact k) : Con Try.prog 35 [.ag [.u a.view.id.round, .z a.view.id.server.node, .u a.view.id.server.inc, .d (.ro 2 (procs a.view.members)), .d (.ro 1 (nums a.view.starts))], .ag [.u b.view.id.round, .z b.view.id.server.node, .u b.view.id.server.inc, .d (.ro 2 (procs b.view.members)), .d (.ro 1 (nums b.view.starts))]] (.v (.bool true))) (an ((by simp) : (((streams a.streams).length : Nat) : Int) = ((a.streams.length : Nat) : Int)) (an ((by simp) : (((streams b.streams).length : Nat) : Int) = ((b.streams.length : Nat) : Int)) (an h1 trivial))))
end Go.Proofs.Ytoijfmfkkmbabaa
namespace Go.Proofs.Ytoijfmfkkmbabaa
open Go.RowKit
variable {P : Program} {T : Tab} {f : FuncId} {R : Ending → World → Prop} {a : Act} {w : World} {D : List Nat} {w0 : World} {K0 : World → Prop} {E E1 : List (Nat × AV)} {M M1 M2 : List Blk} {β : Beta} {F : Nat → Frag} {I X : Frag} {sz : Nat} {b : Base}
theorem RM.nil (h : RM D w0 K0 M β F I w) (T k : Nat) : RM D w0 K0 (M ++ [.rw T k []]) (β ++ [(none, 0)]) (updF F M.length []) I w := by
  refine h.new (Gr.refl w) (NewF.nil w w) ?_
  have : BRel (fun w => K0 w ∧ Holds w I) (β ++ [(none, 0)]) M.length (.rw T k []) ([] ++ layF ([] : List (List DV)).length k fun _ _ => []) :=
    .rw (c := 0) (a := none) (by rw [List.getElem?_append_right (by rw [h.len]; exact Nat.le_refl _), h.len]; simp) (fun _ => []) (fun _ _ => []) (by simp) (by simpa [lay] using SlRep.nil T k none) (by simp)
  simpa [layF] using this
theorem RM.cells (h : RM D w0 K0 M β F I w) {u Tb : Nat} {cells cells' : List AV} (hu : M[u]? = some (.bx Tb cells)) (hl : cells'.length = cells.length)
    (hc : ∀ (j : Nat) c c0 y, cells'[j]? = some c → cells[j]? = some c0 → ARel (fun w => K0 w ∧ Holds w I) β c0 y → ARel (fun w => K0 w ∧ Holds w I) β c y) : RM D w0 K0 (M.set u (.bx Tb cells')) β F I w where
  len := by rw [h.len, List.length_set]
  blk := by
    intro v bl hv
    rw [List.getElem?_set] at hv
    split at hv
    · rename_i hvu; subst hvu
      split at hv
      · simp only [Option.some.injEq] at hv; subst hv
        have hr := h.blk _ _ hu
        generalize F _ = H at hr ⊢
        cases hr with
        | bx hb ys hl' hr =>
          refine .bx hb ys (by omega) fun j c y h1 h2 => ?_
          have hj : j < cells.length := by rw [← hl]; exact (List.getElem?_eq_some_iff.1 h1).1
          exact hc j c _ y h1 (List.getElem?_eq_getElem hj) (hr j _ y (List.getElem?_eq_getElem hj) h2)
      · cases hv
    · exact h.blk v bl hv
  st := by rw [List.length_set]; exact h.st
def repA (E : List (Nat × AV)) (t : Nat) (v : AV) : List (Nat × AV) := E.map fun x => bif x.1.beq t then (x.1, v) else x
theorem repA_at {t : Nat} {v : AV} : ∀ {E : List (Nat × AV)} {s : Nat} {u : AV}, lookA (repA E t v) s = some u → (s = t ∧ u = v ∧ ∃ u0, lookA E t = some u0) ∨ (s ≠ t ∧ lookA E s = some u)
  | [], s, u, h => by simp [repA, lookA] at h
  | (k, x) :: r, s, u, h => by
    have ih := repA_at (t := t) (v := v) (E := r) (s := s) (u := u)
    unfold repA at ih h
    rw [List.map_cons] at h
    cases hk : k.beq t with
    | true =>
      have hkt := Nat.eq_of_beq_eq_true hk; subst hkt
      simp only [Nat.beq_refl, cond_true, lookA] at h ⊢
      cases hs : k.beq s with
      | true =>
        have := Nat.eq_of_beq_eq_true hs; subst this
        rw [hs, cond_true, Option.some.injEq] at h
        exact Or.inl ⟨rfl, h.symm, x, rfl⟩
      | false =>
        rw [hs, cond_false] at h
        rcases ih h with ⟨rfl, -, -⟩ | h2
        · rw [Nat.beq_refl] at hs; cases hs
        · exact Or.inr h2
    | false =>
      simp only [hk, cond_false, lookA] at h ⊢
      cases hs : k.beq s with
      | true =>
        have := Nat.eq_of_beq_eq_true hs; subst this
        rw [hs, cond_true] at h
        refine Or.inr ⟨?_, h⟩
        rintro rfl; rw [Nat.beq_refl] at hk; cases hk
      | false =>
        rw [hs, cond_false] at h
        exact ih h
def adS : List (Nat × Nat × Nat) → List (Nat × AV) → List Blk → Option (List (Nat × AV) × List Blk)
  | [], E, M => some (E, M)
  | (t, T, k) :: r, E, M => match lookA E t with
    | some (.d (.v (.slice none 0 0))) => adS r (repA E t (.sl M.length 0)) (M ++ [.rw T k []])
    | _ => none
def adC : List (Nat × Nat × Nat × Nat) → List Blk → Option (List Blk)
  | [], M => some M
  | (u, o, T, k) :: r, M => match M[u]? with
    | some (.bx Tb cells) => (match cells[o]? with
      | some (.d (.v (.slice none 0 0))) => adC r ((M ++ [Blk.rw T k []]).set u (.bx Tb (cells.set o (.sl M.length 0))))
      | _ => none)
    | _ => none
theorem nil_at (h : RM D w0 K0 M β F I w) : (β ++ [((none : Option Addr), 0)])[M.length]? = some (none, 0) := by rw [List.getElem?_append_right (by rw [h.len]; exact Nat.le_refl _), h.len]; simp
theorem adS_ok {ev : Nat → Value} {n : Nat} : ∀ {ls : List (Nat × Nat × Nat)} {E : List (Nat × AV)} {M : List Blk} {β : Beta} {F : Nat → Frag}, adS ls E M = some (E1, M1) → n ≤ M.length → RM D w0 K0 M β F I w → (∀ t v, lookA E t = some v → ARel (fun w => K0 w ∧ Holds w I) β v (ev t)) →
    ∃ β' F', RM D w0 K0 M1 β' F' I w ∧ Ext β β' ∧ (∀ u, u < n → F' u = F u) ∧ n ≤ M1.length ∧ ∀ t v, lookA E1 t = some v → ARel (fun w => K0 w ∧ Holds w I) β' v (ev t)
  | [], E, M, β, F, h, hn, hR, hs => by
    simp only [adS, Option.some.injEq, Prod.mk.injEq] at h; obtain ⟨rfl, rfl⟩ := h
    exact ⟨β, F, hR, fun _ _ h => h, fun _ _ => rfl, hn, hs⟩
  | (t, T, k) :: r, E, M, β, F, h, hn, hR, hs => by
    unfold adS at h
    split at h
    · rename_i ht
      obtain ⟨β', F', h1, h2, h3, h4, h5⟩ := adS_ok h (n := n) (ev := ev) (by simp; omega) (hR.nil T k) fun s v hv => by
        rcases repA_at hv with ⟨rfl, rfl, -⟩ | ⟨-, h2⟩
        · have := hs s _ ht
          generalize ev s = y at this
          cases this with | d h => cases h; exact .sl (nil_at hR)
        · exact (hs s v h2).mono (fun _ h => h) (Ext.app β [((none : Option Addr), 0)])
      exact ⟨β', F', h1, fun u x hx => h2 u x (Ext.app β [((none : Option Addr), 0)] u x hx), fun u hu => (h3 u hu).trans (updF_ne (tc := []) F [] u (by omega) (by simp)), h4, h5⟩
    · cases h
theorem adC_ok {ev : Nat → Value} {n : Nat} : ∀ {lc : List (Nat × Nat × Nat × Nat)} {M : List Blk} {β : Beta} {F : Nat → Frag}, adC lc M = some M1 → n ≤ M.length → RM D w0 K0 M β F I w → (∀ t v, lookA E t = some v → ARel (fun w => K0 w ∧ Holds w I) β v (ev t)) →
    ∃ β' F', RM D w0 K0 M1 β' F' I w ∧ Ext β β' ∧ (∀ u, u < n → F' u = F u) ∧ n ≤ M1.length ∧ ∀ t v, lookA E t = some v → ARel (fun w => K0 w ∧ Holds w I) β' v (ev t)
  | [], M, β, F, h, hn, hR, hs => by
    simp only [adC, Option.some.injEq] at h; subst h
    exact ⟨β, F, hR, fun _ _ h => h, fun _ _ => rfl, hn, hs⟩
  | (u, o, T, k) :: r, M, β, F, h, hn, hR, hs => by
    unfold adC at h
    split at h
    · rename_i Tb cells hu
      split at h
      · rename_i ho
        have hR1 := hR.nil T k
        have hR2 := hR1.cells (cells' := cells.set o (.sl M.length 0)) (by rw [List.getElem?_append_left (List.getElem?_eq_some_iff.1 hu).1]; exact hu) (by simp) fun j c c0 y h1 h2 h3 => by
          rw [List.getElem?_set] at h1
          split at h1
          · rename_i hj; subst hj
            split at h1
            · simp only [Option.some.injEq] at h1; subst h1
              rw [ho, Option.some.injEq] at h2; subst h2
              cases h3 with | d h => cases h; exact .sl (nil_at hR)
            · cases h1
          · rw [h1, Option.some.injEq] at h2; subst h2; exact h3
        obtain ⟨β', F', h1, h2, h3, h4, h5⟩ := adC_ok h (n := n) (ev := ev) (by simp; omega) hR2 fun s v hv => (hs s v hv).mono (fun _ h => h) (Ext.app β [((none : Option Addr), 0)])
        exact ⟨β', F', h1, fun u x hx => h2 u x (Ext.app β [((none : Option Addr), 0)] u x hx), fun u hu => (h3 u hu).trans (updF_ne (tc := []) F [] u (by omega) (by simp)), h4, h5⟩
      · cases h
    · cases h
theorem RE'.adopt (r : RE' D w0 K0 sz E M a w) (ls : List (Nat × Nat × Nat)) (lc : List (Nat × Nat × Nat × Nat)) (h : adS ls E M = some (E1, M1)) (h2 : adC lc M1 = some M2) : RE' D w0 K0 sz E1 M2 a w := by
  obtain ⟨g1, g2, β, F, I, hR, hs⟩ := r
  obtain ⟨β1, F1, r1, -, -, -, s1⟩ := adS_ok (ev := fun t => a.eval (.tmp t)) (n := 0) h (Nat.zero_le _) hR hs
  obtain ⟨β2, F2, r2, -, -, -, s2⟩ := adC_ok (ev := fun t => a.eval (.tmp t)) (n := 0) h2 (Nat.zero_le _) r1 s1
  exact ⟨g1, g2, β2, F2, I, r2, s2⟩
theorem RE'.cast {E' : List (Nat × AV)} {M' : List Blk} (r : RE' D w0 K0 sz E M a w) (hE : E = E') (hM : M = M') : RE' D w0 K0 sz E' M' a w := hE ▸ hM ▸ r
theorem RB.cast {E' : List (Nat × AV)} {M' : List Blk} (r : RB D w0 K0 sz b E M a w) (hE : E = E') (hM : M = M') : RB D w0 K0 sz b E' M' a w := hE ▸ hM ▸ r
theorem RB.adopt (r : RB D w0 K0 sz b E M a w) (ls : List (Nat × Nat × Nat)) (lc : List (Nat × Nat × Nat × Nat)) (h : adS ls E M = some (E1, M1)) (h2 : adC lc M1 = some M2) : RB D w0 K0 sz b E1 M2 a w := by
  obtain ⟨hb, tc, g1, g2, g3, β, F, I, hR, hsn, hs⟩ := r
  obtain ⟨β1, F1, r1, e1, f1, l1, s1⟩ := adS_ok (ev := fun t => a.eval (.tmp t)) (n := b.m) h g3 hR hs
  obtain ⟨β2, F2, r2, e2, f2, l2, s2⟩ := adC_ok (ev := fun t => a.eval (.tmp t)) (n := b.m) h2 l1 r1 s1
  exact ⟨hb, tc, g1, g2, l2, β2, F2, I, r2, ⟨fun u x hu hx => e2 u x (e1 u x (hsn.1 u x hu hx)), hsn.2.1, fun u hu hn => (f2 u hu).trans ((f1 u hu).trans (hsn.2.2 u hu hn))⟩, s2⟩
end Go.Proofs.Ytoijfmfkkmbabaa
namespace Go.Proofs.Ytoijfmfkkmbabaa
open Go.RowKit
variable {P : Program} {T : Tab} {cl : Walker} {f : FuncId} {R : Ending → World → Prop} {a : Act} {w : World} {D : List Nat} {w0 : World} {K0 : World → Prop} {E : List (Nat × AV)} {M : List Blk} {sz : Nat} {tb : Tbl} {todo todo' : List Item} {ops : Array Oper} {Q : Exit → Act → World → Prop}
def lookD (P : Program) (T : Tab) (cl : Walker) (sz : Nat) (ops : Array Oper) (oc : List (Nat × Orc)) (rd : List Nat) (i : Nat) : RS → Option (List Nat × RS)
  | ⟨vc, E, M, tc, mv⟩ => match ops[i]? with
    | some o => (bif dstB sz o.dst then (match wantA sz ops E o.guard with
      | some true => (match step P T cl E M (getO oc i) o.op with
        | some ⟨vc', av, _, _, _, some rd'⟩ => some (rd' ++ rd, ⟨vc ++ vc', putA E o.dst av, M, tc, mv⟩)
        | _ => none)
      | some false => some (rd, ⟨vc, putA E o.dst (.d (.v undef)), M, tc, mv⟩)
      | none => none) else none)
    | none => none
def oneD (P : Program) (T : Tab) (cl : Walker) (sz : Nat) (ops : Array Oper) (oc : List (Nat × Orc)) (rd : List Nat) (i : Nat) : RS → Option RS
  | ⟨vc, E, M, tc, mv⟩ => match ops[i]? with
    | some o => (bif dstB sz o.dst then (match wantA sz ops E o.guard with
      | some true => (match step P T cl E M (getO oc i) o.op with
        | some out => (bif away rd out.tc && Nat.ble M.length out.M.length then some ⟨vc ++ out.vc, putA (keepA out.mv E) o.dst out.av, out.M, out.tc ++ tc, out.mv ++ mv⟩ else none)
        | none => none)
      | some false => some ⟨vc, putA E o.dst (.d (.v undef)), M, tc, mv⟩
      | none => none) else none)
    | none => none
def allJ (g : Nat → Option (List RS)) : List Nat → Option (List RS)
  | [] => some []
  | j :: r => match g j, allJ g r with | some l, some l' => some (l ++ l') | _, _ => none
theorem allJ_at {g : Nat → Option (List RS)} : ∀ {r : List Nat} {l : List RS}, allJ g r = some l → ∀ j ∈ r, ∃ l', g j = some l' ∧ ∀ s ∈ l', s ∈ l
  | [], _, _, j, hj => by cases hj
  | i :: r, l, h, j, hj => by
    unfold allJ at h
    split at h
    · rename_i l1 l2 h1 h2
      simp only [Option.some.injEq] at h; subst h
      rcases List.mem_cons.1 hj with rfl | hj
      · exact ⟨l1, h1, fun s hs => List.mem_append_left _ hs⟩
      · obtain ⟨l', h3, h4⟩ := allJ_at h2 j hj
        exact ⟨l', h3, fun s hs => List.mem_append_right _ (h4 s hs)⟩
    · cases h
def nxtT (ops : Array Oper) (nl : List Nat) (L : Array Bool) : Nxt := match Region.ready .any ops L with
  | [] => .fin
  | i :: r => match firstPure ops L ((i :: r).filter fun j => !(nl.elem j)) with
    | some j => .look j
    | none => .bad
theorem nxtT_fin {nl : List Nat} {L : Array Bool} (h : nxtT ops nl L = .fin) : Region.ready .any ops L = [] := by
  unfold nxtT at h
  split at h
  · assumption
  · split at h <;> cases h
theorem nxtT_look {nl : List Nat} {L : Array Bool} {i : Nat} (h : nxtT ops nl L = .look i) : i ∈ Region.ready .any ops L ∧ ∃ o, ops[i]? = some o ∧ Region.free .any ops L i = true := by
  unfold nxtT at h
  split at h
  · cases h
  · rename_i k r hr
    split at h
    · rename_i j hj
      simp only [Nxt.look.injEq] at h; subst h
      obtain ⟨h1, h2⟩ := firstPure_ok hj
      exact ⟨by rw [hr]; exact (List.mem_filter.1 h1).1, h2⟩
    · cases h
def runDT (P : Program) (T : Tab) (cl : Walker) (sz : Nat) (ops : Array Oper) (oc : List (Nat × Orc)) (nl : List Nat) : Nat → Array Bool → List Nat → RS → Option (List RS)
  | 0, L, _, s => (match nxtT ops nl L with | .fin => some [s] | _ => none)
  | fuel + 1, L, rd, s => match nxtT ops nl L with
    | .fin => some [s]
    | .look i => (match lookD P T cl sz ops oc rd i s with
      | some (rd', s1) => runDT P T cl sz ops oc nl fuel (L.setIfInBounds i true) rd' s1
      | none => none)
    | _ => allJ (fun j => match oneD P T cl sz ops oc rd j s with
      | some s1 => runDT P T cl sz ops oc nl fuel (L.setIfInBounds j true) rd s1
      | none => none) (Region.ready .any ops L)
theorem lookD_vc {oc : List (Nat × Orc)} {rd rd' : List Nat} {i : Nat} {s s1 : RS} (h : lookD P T cl sz ops oc rd i s = some (rd', s1)) (hv : AllP s1.vc) : AllP s.vc := by
  obtain ⟨vc, E, M, tc, mv⟩ := s
  unfold lookD at h
  dsimp only at h
  split at h
  · rename_i o ho
    cases hd : dstB sz o.dst with
    | false => simp [hd] at h
    | true =>
      simp only [hd, cond_true] at h
      split at h
      · split at h
        · simp only [Option.some.injEq, Prod.mk.injEq] at h; obtain ⟨-, rfl⟩ := h; exact (AllP.app.1 hv).1
        · cases h
      · simp only [Option.some.injEq, Prod.mk.injEq] at h; obtain ⟨-, rfl⟩ := h; exact hv
      · cases h
  · cases h
theorem oneD_vc {oc : List (Nat × Orc)} {rd : List Nat} {i : Nat} {s s1 : RS} (h : oneD P T cl sz ops oc rd i s = some s1) (hv : AllP s1.vc) : AllP s.vc := by
  obtain ⟨vc, E, M, tc, mv⟩ := s
  unfold oneD at h
  dsimp only at h
  split at h
  · rename_i o ho
    cases hd : dstB sz o.dst with
    | false => simp [hd] at h
    | true =>
      simp only [hd, cond_true] at h
      split at h
      · split at h
        · rename_i out _
          cases hc : (away rd out.tc && Nat.ble M.length out.M.length) with
          | false => simp [hc] at h
          | true => simp only [hc, cond_true, Option.some.injEq] at h; subst h; exact (AllP.app.1 hv).1
        · cases h
      · simp only [Option.some.injEq] at h; subst h; exact hv
      · cases h
  · cases h
theorem ready_some {nl : List Nat} {L : Array Bool} (h : nxtT ops nl L ≠ .fin) : ∃ j r, Region.ready .any ops L = j :: r := by
  unfold nxtT at h
  cases hr : Region.ready .any ops L with
  | nil => rw [hr] at h; exact absurd rfl h
  | cons j r => exact ⟨j, r, rfl⟩
theorem runDT_vc {oc : List (Nat × Orc)} {nl : List Nat} : ∀ (fuel : Nat) (L : Array Bool) (rd : List Nat) (s : RS) {l : List RS}, runDT P T cl sz ops oc nl fuel L rd s = some l → ∃ s' ∈ l, AllP s'.vc → AllP s.vc := by
  intro fuel
  induction fuel with
  | zero =>
    intro L rd s l h
    unfold runDT at h
    split at h
    · simp only [Option.some.injEq] at h; subst h; exact ⟨s, by simp, id⟩
    · cases h
  | succ fuel ih =>
    intro L rd s l h
    unfold runDT at h
    split at h
    · simp only [Option.some.injEq] at h; subst h; exact ⟨s, by simp, id⟩
    · split at h
      · rename_i hl
        obtain ⟨s', h1, h2⟩ := ih _ _ _ h
        exact ⟨s', h1, fun hv => lookD_vc hl (h2 hv)⟩
      · cases h
    · rename_i hn _
      obtain ⟨j, r, hr⟩ := ready_some (ops := ops) (nl := nl) (L := L) (by intro hf; exact hn hf)
      obtain ⟨l', h1, h2⟩ := allJ_at h j (by rw [hr]; exact List.mem_cons_self)
      split at h1
      · rename_i ho
        obtain ⟨s', h3, h4⟩ := ih _ _ _ h1
        exact ⟨s', h2 s' h3, fun hv => oneD_vc ho (h4 hv)⟩
      · cases h1
theorem runDT_ok (hT : tabB P T = true) (hcl : ClOk P cl) {b : Base} (hK : ∀ w, Kp D w0 w → K0 w) (hsel : Region.noSelect ops = true) (hQ : ∀ d v c a w, Q (.panic c) (Act.put a d v) w → Q (.panic c) a w) {oc : List (Nat × Orc)} {nl : List Nat} :
    ∀ (fuel : Nat) (L : Array Bool) (rd : List Nat) (s : RS) {l : List RS} (Rk : World → Prop) (β : Beta) (F : Nat → Frag) (I : Frag) (a : Act) (w : World), runDT P T cl sz ops oc nl fuel L rd s = some l → a.tmps.size = sz → a.defers = [] → b.m ≤ s.M.length → RM D w0 K0 s.M β F I w → Since b s.mv s.tc β F I →
      (∀ t v, lookA s.E t = some v → ARel (fun w => K0 w ∧ Holds w I) β v (a.eval (.tmp t))) → (∀ u ∈ rd, u < s.M.length) → (∀ w, Sees K0 I F rd w → Rk w) → (∀ s' ∈ l, AllP s'.vc ∧ ∀ a' w', REb D w0 K0 sz b s' a' w' → Q .normal a' w') → wpAnyR P ops Q Rk fuel L a w := by
  intro fuel
  induction fuel with
  | zero =>
    intro L rd s l Rk β F I a w h size defers hm Rm hsn hs hrd hRk k
    have C : Ctx D w0 K0 s.E s.M β F I a.eval w := ⟨Rm, hs, fun _ => rfl, fun _ => rfl, hK⟩
    have hR := hRk w (C.sees hrd)
    unfold runDT at h
    split at h
    · rename_i hn
      simp only [Option.some.injEq] at h; subst h
      exact ⟨hR, nxtT_fin hn, (k s (by simp)).2 a w ⟨size, defers, hm, β, F, I, Rm, hsn, hs⟩⟩
    · cases h
  | succ fuel ih =>
    intro L rd s l Rk β F I a w h size defers hm Rm hsn hs hrd hRk k
    have C : Ctx D w0 K0 s.E s.M β F I a.eval w := ⟨Rm, hs, fun _ => rfl, fun _ => rfl, hK⟩
    have hR := hRk w (C.sees hrd)
    unfold runDT at h
    split at h
    · rename_i hn
      simp only [Option.some.injEq] at h; subst h
      have hn := nxtT_fin hn
      exact ⟨hR, fun _ => (k s (by simp)).2 a w ⟨size, defers, hm, β, F, I, Rm, hsn, hs⟩, fun i hi => by rw [hn] at hi; cases hi⟩
    · rename_i i hn
      obtain ⟨hir, o', ho', hfree⟩ := nxtT_look hn
      split at h
      · rename_i rd1 s1 hl
        obtain ⟨s', hs', hvc⟩ := runDT_vc _ _ _ _ h
        have hv1 := hvc (k s' hs').1
        obtain ⟨vc, E, M, tc, mv⟩ := s
        dsimp only at hm Rm hsn hs hrd hRk C
        unfold lookD at hl
        dsimp only at hl
        split at hl
        · rename_i o ho
          cases hd : dstB sz o.dst with
          | false => simp [hd] at hl
          | true =>
            simp only [hd, cond_true] at hl
            have hfr := fun j oj hj hne hun hno => Region.free_spec ho hfree j oj hj hne hun hno
            split at hl
            · rename_i hw
              have hwant := wantA_ok (ops := ops) size hs hw
              split at hl
              · rename_i vc' av _ _ _ rd' hst
                simp only [Option.some.injEq, Prod.mk.injEq] at hl; obtain ⟨rfl, rfl⟩ := hl
                have hdo := step_ok (P := P) hT hcl (d := o.dst) (ty := o.type) (pos := o.pos) (aft := o.after) (gd := o.guard) hst
                obtain ⟨hpur, rfl, -, hlt⟩ := hdo
                have hout := (AllP.app.1 hv1).2
                obtain ⟨v, hrel, hval⟩ := hpur C hout
                obtain ⟨e1, e2, e3⟩ := RE.put (E := E) size defers hs hd hrel
                have hstep := ih (L.setIfInBounds i true) _ _ (fun w => Rk w ∧ Sees K0 I F rd' w) β F I (a.put o.dst v) w h e1 e2 hm Rm hsn e3 (fun u hu => by rcases List.mem_append.1 hu with e | e; exact hlt u e; exact hrd u e)
                  (fun w hw => ⟨hRk w ⟨hw.1, fun u hu => hw.2 u (List.mem_append_right _ hu)⟩, hw.1, fun u hu => hw.2 u (List.mem_append_left _ hu)⟩) k
                exact wpAnyR_weak (fun w hw => hw.1) (wpAnyR_firstG ho (Region.noSelect_spec hsel) (hQ o.dst v) _ L a w hfr hir (Or.inl ⟨hwant, fun w' hw' => hval w' hw'.2⟩) hstep)
              · cases hl
            · rename_i hw
              simp only [Option.some.injEq, Prod.mk.injEq] at hl; obtain ⟨rfl, rfl⟩ := hl
              have hwant := wantA_ok (ops := ops) size hs hw
              obtain ⟨e1, e2, e3⟩ := RE.put (E := E) size defers hs hd (.d (.v undef))
              have hstep := ih (L.setIfInBounds i true) _ _ Rk β F I (a.put o.dst undef) w h e1 e2 hm Rm hsn e3 hrd hRk k
              exact wpAnyR_firstG ho (Region.noSelect_spec hsel) (hQ o.dst undef) _ L a w hfr hir (Or.inr ⟨hwant, rfl⟩) hstep
            · cases hl
        · cases hl
      · cases h
    · rename_i hn _
      obtain ⟨j0, r0, hr0⟩ := ready_some (ops := ops) (nl := nl) (L := L) (by intro hf; exact hn hf)
      refine ⟨hR, fun h0 => (by rw [hr0] at h0; cases h0), fun j hj => ?_⟩
      obtain ⟨l', h1, h2⟩ := allJ_at h j hj
      split at h1
      · rename_i s1 ho1
        obtain ⟨s', hs', hvc⟩ := runDT_vc _ _ _ _ h1
        have hv1 := hvc (k s' (h2 s' hs')).1
        obtain ⟨vc, E, M, tc, mv⟩ := s
        dsimp only at hm Rm hsn hs hrd hRk C
        unfold oneD at ho1
        dsimp only at ho1
        unfold wpOp
        split at ho1
        · rename_i o ho
          simp only [ho]
          cases hd : dstB sz o.dst with
          | false => simp [hd] at ho1
          | true =>
            simp only [hd, cond_true] at ho1
            split at ho1
            · rename_i hw
              have hwant := wantA_ok (ops := ops) size hs hw
              simp only [hwant, if_true]
              split at ho1
              · rename_i out hst
                cases hc : (away rd out.tc && Nat.ble M.length out.M.length) with
                | false => simp [hc] at ho1
                | true =>
                  simp only [hc, cond_true, Option.some.injEq] at ho1; subst ho1
                  simp only [Bool.and_eq_true] at hc
                  have hlen := Nat.le_of_ble_eq_true hc.2
                  have hout := (AllP.app.1 hv1).2
                  have hdo := (step_ok (P := P) hT hcl (d := o.dst) (ty := o.type) (pos := o.pos) (aft := o.after) (gd := o.guard) hst).eff C hout
                  refine Or.inl (OpY.wp hdo ?_)
                  rintro v w' ⟨β', F', I', R', e, hI, hF, hr'⟩
                  have hk := keepA_ok (ρ := a.eval) e hs
                  obtain ⟨e1, e2, e3⟩ := RE.put size defers (fun t v hx => (hk t v hx).mono (fun w hw => ⟨hw.1, hI.holds w hw.2⟩) (Ext.refl _)) hd hr'
                  refine ih (L.setIfInBounds j true) _ _ Rk β' F' I' (a.put o.dst v) w' h1 e1 e2 (Nat.le_trans hm hlen) R' (hsn.step hm e hI hF) e3 (fun u hu => Nat.lt_of_lt_of_le (hrd u hu) hlen) (fun w hw => hRk w ⟨⟨hw.1.1, hI.holds w hw.1.2⟩, fun u hu => ?_⟩) fun s' hs' => k s' (h2 s' hs')
                  have hnt : u ∉ out.tc := by
                    have := List.all_eq_true.1 hc.1 u hu
                    simpa using this
                  rw [← hF u (hrd u hu) hnt]; exact hw.2 u hu
              · cases ho1
            · rename_i hw
              simp only [Option.some.injEq] at ho1; subst ho1
              have hwant := wantA_ok (ops := ops) size hs hw
              simp only [hwant, Bool.false_eq_true, if_false]
              obtain ⟨e1, e2, e3⟩ := RE.put (E := E) size defers hs hd (.d (.v undef))
              exact ih (L.setIfInBounds j true) _ _ Rk β F I (a.put o.dst undef) w h1 e1 e2 hm Rm hsn e3 hrd hRk fun s' hs' => k s' (h2 s' hs')
            · cases ho1
        · cases ho1
      · cases h1
theorem regT (hT : tabB P T = true) (hcl : ClOk P cl) (hm : P.follows .mixedOrders = true) (hK : ∀ w, Kp D w0 w → K0 w) (hQ : ∀ d v c a w, Q (.panic c) (Act.put a d v) w → Q (.panic c) a w) {b : Base} {s : RS} (R : REb D w0 K0 sz b s a w) (oc : List (Nat × Orc)) {nl : List Nat} {id : Nat} {l : List RS} (hsel : Region.noSelect ops = true)
    (h : runDT P T cl sz ops oc nl ops.size (Array.replicate ops.size false) [] s = some l) (k : ∀ s' ∈ l, AllP s'.vc ∧ ∀ a' w', REb D w0 K0 sz b s' a' w' → Q .normal a' w') : (Code.region id ops true).wp P Q a w := by
  refine wp_region_any hm ?_
  obtain ⟨size, defers, hb, β, F, I, Rm, hsn, hs⟩ := R
  have hg := Gr.drew w
  exact (runDT_ok hT hcl hK hsel hQ ops.size _ [] s (fun _ => True) β F I a w.drew h size defers hb (Rm.gr hg) hsn hs (by simp) (fun _ _ => trivial) k).to
def leavesA (ts : List Nat) : List (List Nat) → List RS → Option (List Prop × List (List (Nat × AV) × List Blk))
  | [], [] => some ([], [])
  | l :: ls, s :: r => bif nodupB l then (match renM l s.M l, renE l s.E ts, leavesA ts ls r with
    | some M', some E', some (A, r') => some (AllP s.vc :: A, (E', M') :: r')
    | _, _, _ => none) else none
  | _, _ => none
theorem leavesA_at {ts : List Nat} {E' : List (Nat × AV)} {M' : List Blk} : ∀ {ls : List (List Nat)} {r : List RS} {A : List Prop} {o : List (List (Nat × AV) × List Blk)}, leavesA ts ls r = some (A, o) → (∀ x ∈ o, x = (E', M')) → AllP A → ∀ s ∈ r, AllP s.vc ∧ ∃ l, nodupB l = true ∧ renM l s.M l = some M' ∧ renE l s.E ts = some E'
  | [], [], _, _, _, _, _, s, hs => by cases hs
  | [], _ :: _, _, _, h, _, _, _, _ => by simp [leavesA] at h
  | _ :: _, [], _, _, h, _, _, _, _ => by simp [leavesA] at h
  | l :: ls, s :: r, A, o, h, ho, hA, s', hs' => by
    unfold leavesA at h
    cases hn : nodupB l with
    | false => simp [hn] at h
    | true =>
      simp only [hn, cond_true] at h
      split at h
      · rename_i M1 E1 A1 r1 h1 h2 h3
        simp only [Option.some.injEq, Prod.mk.injEq] at h; obtain ⟨rfl, rfl⟩ := h
        have e := ho _ List.mem_cons_self
        simp only [Prod.mk.injEq] at e; obtain ⟨rfl, rfl⟩ := e
        rcases List.mem_cons.1 hs' with rfl | hs'
        · exact ⟨hA.1, l, hn, h1, h2⟩
        · exact leavesA_at h3 (fun x hx => ho x (List.mem_cons_of_mem _ hx)) hA.2 s' hs'
      · cases h
def outDraw (P : Program) (T : Tab) (sz : Nat) (tb : Tbl) (n : Nat) (nl : List Nat) (lls : List (List Nat)) (ts : List Nat) (todo : List Item) (E : List (Nat × AV)) (M : List Blk) : Option (List Item × Prop × List (List (Nat × AV) × List Blk)) :=
  match runC P T (walk P T 3) sz tb n todo ⟨[], E, M, [], []⟩ with
  | some (.code (.region id ops true) :: k, s) => bif Region.noSelect ops then (match runDT P T (walk P T 3) sz ops (getT tb id) nl ops.size (Array.replicate ops.size false) [] s with
    | some Ls => (match leavesA ts lls Ls with | some (A, o) => some (k, AllP A, o) | none => none)
    | none => none) else none
  | _ => none
theorem toDraw (hT : tabB P T = true) (hm : P.follows .mixedOrders = true) (hK : ∀ w, Kp D w0 w → K0 w) (tb : Tbl) (n m : Nat) (nl : List Nat) (lls : List (List Nat)) (ts : List Nat) {A : Prop} {E' : List (Nat × AV)} {M' : List Blk} (r : RE' D w0 K0 sz E M a w)
    (h : outDraw P T sz tb n nl lls ts todo E M = some (todo', A, List.replicate m (E', M'))) (hA : A) (k : ∀ a' w', RE' D w0 K0 sz E' M' a' w' → Goes P f todo' R a' w') : Goes P f todo R a w := by
  unfold outDraw at h
  split at h
  · rename_i id ops k0 s hr
    cases hs : Region.noSelect ops with
    | false => simp [hs] at h
    | true =>
      simp only [hs, cond_true] at h
      split at h
      · rename_i Ls hL
        split at h
        · rename_i A1 o ho
          simp only [Option.some.injEq, Prod.mk.injEq] at h; obtain ⟨rfl, rfl, rfl⟩ := h
          have hl := leavesA_at ho (fun x hx => List.eq_of_mem_replicate hx) hA
          obtain ⟨s1, h1, h2⟩ := runDT_vc _ _ _ _ hL
          obtain ⟨b, rb⟩ := r.b []
          refine segb hT (walk_ok hT hm 3) hm hK n hr rb (h2 (hl s1 h1).1) fun a1 w1 r1 => Goes.code ?_
          refine regT hT (walk_ok hT hm 3) hm hK (by rintro d v c a w ⟨h, -⟩; cases h) r1 _ hs hL fun s' hs' => ⟨(hl s' hs').1, fun a' w' r' => ⟨rfl, ?_⟩⟩
          obtain ⟨-, l, g1, g2, g3⟩ := hl s' hs'
          exact k a' w' (r'.re.ren g1 g2 g3)
        · cases h
      · cases h
  · cases h
def outAt (P : Program) (T : Tab) (sz : Nat) (tb : Tbl) (n : Nat) (l ts : List Nat) (todo : List Item) (E : List (Nat × AV)) (M : List Blk) : Option (List Item × Prop × List (Nat × AV) × List Blk) :=
  bif nodupB l then (match runC P T (walk P T 3) sz tb n todo ⟨[], E, M, [], []⟩ with
  | some (t, s) => anewA l ts t s
  | none => none) else none
theorem toAt (hT : tabB P T = true) (hm : P.follows .mixedOrders = true) (hK : ∀ w, Kp D w0 w → K0 w) (tb : Tbl) (n : Nat) (l ts : List Nat) {A : Prop} {E' : List (Nat × AV)} {M' : List Blk} (r : RE' D w0 K0 sz E M a w)
    (h : outAt P T sz tb n l ts todo E M = some (todo', A, E', M')) (hA : A) (k : ∀ a' w', RE' D w0 K0 sz E' M' a' w' → Goes P f todo' R a' w') : Goes P f todo R a w := by
  unfold outAt at h
  cases hn : nodupB l with
  | false => simp [hn] at h
  | true =>
    simp only [hn, cond_true] at h
    split at h
    · rename_i t s hr
      unfold anewA at h
      split at h
      · rename_i M1 E1 hM hE
        simp only [Option.some.injEq, Prod.mk.injEq] at h
        obtain ⟨rfl, rfl, rfl, rfl⟩ := h
        exact seg hT (walk_ok hT hm 3) hm hK n hr r hA fun a' w' r' => k a' w' (r'.ren hn hM hE)
      · cases h
    · cases h
def aftR (id : Nat) : Code → List Item → List (List Item)
  | .seq x y, k => aftR id x (.code y :: k) ++ aftR id y k
  | .cond _ x y, k => aftR id x k ++ aftR id y k
  | .block i c, k => aftR id c (.inBlock i :: k)
  | .loop c, k => aftR id c (.inLoop c :: k)
  | .region i _ _, k => bif i.beq id then [k] else []
  | _, _ => []
def aft (fn : Func) (id : Nat) : List Item :=
  match fn.body with
  | some c => (match aftR id c [] with | t :: _ => t | [] => [])
  | none => []
end Go.Proofs.Ytoijfmfkkmbabaa
