/-
  streamOnce_holds, part 3 of 5: merged by program from the texts that it needs.
-/
import Derived.Test.YtoijfmfkkmbabaaOnceB
set_option linter.unusedSimpArgs false
set_option linter.unusedVariables false
set_option linter.unnecessarySimpa false
namespace Go.Proofs.Ytoijfmfkkmbabaa
open Go.RowKit
structure Vid where
  round : Nat
  server : Proc
deriving DecidableEq
structure View where
  id : Vid
  members : List Proc
  starts : List Nat
deriving DecidableEq
def Vid.may (v : Vid) : Bool := decide (v.server.may = true ∧ (v.round = 0 ∨ v.server.node ≤ 4))
def View.first (p : Proc) : View := ⟨⟨0, p⟩, [p], [0]⟩
theorem eqVid (v w : Vid) : EqAgg Try.prog 26 [.int .u64 (v.round : Int), .int .i64 v.server.node, .int .u64 (v.server.inc : Int)] [.int .u64 (w.round : Int), .int .i64 w.server.node, .int .u64 (w.server.inc : Int)] (decide (v = w)) := by
  have h : EqAgg Try.prog 26 [.int .u64 (v.round : Int), .int .i64 v.server.node, .int .u64 (v.server.inc : Int)] [.int .u64 (w.round : Int), .int .i64 w.server.node, .int .u64 (w.server.inc : Int)] (((v.round : Int) == w.round) && (v.server.node == w.server.node && (v.server.inc : Int) == w.server.inc)) :=
    ⟨by kernel_rfl, fun wd => run_eqTwo (d := 9999) (f0 := ⟨"Round", 22, 0, false, "", "", 0⟩) (f1 := ⟨"Server", 24, 1, false, "", "", 8⟩) (by kernel_rfl) (by kernel_rfl) (by decide) (by decide) (run_partS wd (by kernel_rfl) rfl) (run_partS wd (by kernel_rfl) rfl) (run_partA (n := 2) wd (by kernel_rfl)) (run_partA (n := 2) wd (by kernel_rfl))
      (run_eqInt wd 9998 (by kernel_rfl)) (eqProcIn 9997 v.server.node v.server.inc w.server.node w.server.inc wd)⟩
  refine eqT h ?_
  cases v with | mk a p => cases w with | mk b q =>
  cases p with | mk x y => cases q with | mk z u =>
  rw [Bool.eq_iff_iff]
  simp only [Bool.and_eq_true, beq_iff_eq, decide_eq_true_eq, Vid.mk.injEq, Proc.mk.injEq]
  omega
def View.bounded (v : View) : Prop := v.members.length < 1073741824 ∧ v.starts.length < 1073741824
set_option maxRecDepth 100000 in
theorem viewMayId (v : Vid) : Con Try.prog 49 [.ag [.u v.round, .z v.server.node, .u v.server.inc]] (DV.v (.bool v.may)) := by
  refine Con.intro (by kernel_rfl) rfl rfl 17 rfl rfl fun w0 K ac hK r => ?_
  cases h0 : (v.server.may) with
  | false =>
    rw [show (DV.v (.bool v.may) : DV) = .v (.bool false) from (bv (by simp [Vid.may, *]; try omega))]
    exact toRet tb_ok mixed_ok hK rfl [(1, [(2, .con (.v (.bool false)))])] 2000 r (by kernel_rfl) (an ((by have k := procMay v.server; rw [h0] at k; exact k) : Con Try.prog 63 [.ag [.z v.server.node, .u v.server.inc]] (.v (.bool false))) trivial)
  | true =>
    cases h1 : ((((v.round : Nat) : Int) : Int) == 0) with
    | false =>
      have qh1 := ne_of_beq_false h1
      cases h2 : (decide ((v.server.node : Int) ≤ 4)) with
      | false =>
        have qh2 := of_decide_eq_false h2
        rw [show (DV.v (.bool v.may) : DV) = .v (.bool false) from (bv (by simp [Vid.may, *]; try omega))]
        exact toRet tb_ok mixed_ok hK rfl [(1, [(2, .con (.v (.bool true))), (6, .b false), (11, .b false)])] 2000 r (by kernel_rfl) (an ((by have k := procMay v.server; rw [h0] at k; exact k) : Con Try.prog 63 [.ag [.z v.server.node, .u v.server.inc]] (.v (.bool true))) (an h1 (an h2 trivial)))
      | true =>
        have qh2 := of_decide_eq_true h2
        rw [show (DV.v (.bool v.may) : DV) = .v (.bool true) from (bv (by simp [Vid.may, *]; try omega))]
        exact toRet tb_ok mixed_ok hK rfl [(1, [(2, .con (.v (.bool true))), (6, .b false), (11, .b true)])] 2000 r (by kernel_rfl) (an ((by have k := procMay v.server; rw [h0] at k; exact k) : Con Try.prog 63 [.ag [.z v.server.node, .u v.server.inc]] (.v (.bool true))) (an h1 (an h2 trivial)))
    | true =>
      have qh1 := eq_of_beq h1
      rw [show (DV.v (.bool v.may) : DV) = .v (.bool true) from (bv (by simp [Vid.may, *]; try omega))]
      exact toRet tb_ok mixed_ok hK rfl [(1, [(2, .con (.v (.bool true))), (6, .b true)])] 2000 r (by kernel_rfl) (an ((by have k := procMay v.server; rw [h0] at k; exact k) : Con Try.prog 63 [.ag [.z v.server.node, .u v.server.inc]] (.v (.bool true))) (an h1 trivial))
set_option maxRecDepth 100000 in
theorem viewFirst (p : Proc) : Con Try.prog 51 [.ag [.z p.node, .u p.inc]] (.ag [.v (.int .u64 0), .v (.int .i64 p.node), .v (.int .u64 ((p.inc : Nat) : Int)), .em 24 2 (procs [p]), .em 22 1 (nums [0])]) := by
  refine Con.intro (by kernel_rfl) rfl rfl 9 rfl rfl fun w0 K ac hK r => ?_
  exact toRet tb_ok mixed_ok hK rfl [] 2000 r (by kernel_rfl) (an ((by simp) : (1) = ([[.z p.node, .u p.inc]] : List (List DV)).length) (an ((by simp) : (1) = ([[.v (.int .u64 0)]] : List (List DV)).length) trivial))
end Go.Proofs.Ytoijfmfkkmbabaa
namespace Go.Proofs.Ytoijfmfkkmbabaa
open Go.RowKit
theorem View.eq_iff {v w : View} : v = w ↔ v.id = w.id ∧ v.members = w.members ∧ v.starts = w.starts := by cases v; cases w; simp
def placeN (l : List Proc) (p : Proc) : Nat := (idx l p 0).toNat
def placeB (l : List Proc) (p : Proc) : Bool := decide (0 ≤ idx l p 0)
def Lone (l : List Proc) (i : Nat) : Prop := ∀ a b p q, a < i → b < a → l[a]? = some p → l[b]? = some q → q.node ≠ p.node
def lone (l : List Proc) : Bool := (List.range l.length).all fun a => (List.range a).all fun b => match l[a]?, l[b]? with | some p, some q => decide (q.node ≠ p.node) | _, _ => true
theorem lone_iff (l : List Proc) : lone l = true ↔ Lone l l.length := by
  simp only [lone, List.all_eq_true, List.mem_range, Lone]
  constructor
  · intro h a b p q ha hb hp hq
    have := h a ha b hb; simpa [hp, hq] using this
  · intro h a ha b hb
    have e1 : l[a]? = some l[a] := List.getElem?_eq_getElem ha
    have e2 : l[b]? = some l[b] := List.getElem?_eq_getElem (by omega)
    simp only [e1, e2, decide_eq_true_eq]; exact h a b _ _ ha hb e1 e2
theorem lone_yes {l : List Proc} (h : Lone l l.length) : lone l = true := (lone_iff l).2 h
set_option maxRecDepth 100000 in
theorem viewSame (v w : View) (hb : v.bounded) : Con Try.prog 50 [.ag [.u v.id.round, .z v.id.server.node, .u v.id.server.inc, .d (.ro 2 (procs v.members)), .d (.ro 1 (nums v.starts))], .ag [.u w.id.round, .z w.id.server.node, .u w.id.server.inc, .d (.ro 2 (procs w.members)), .d (.ro 1 (nums w.starts))]] (DV.v (.bool (decide (v = w)))) := by
  obtain ⟨hb1, hb2⟩ := hb
  refine Con.intro (by kernel_rfl) rfl rfl 20 rfl rfl fun w0 K ac hK r => ?_
  refine toHead (todo' := hd Try.f50 0) (E' := [(2, .pt 0 0), (3, .pt 1 0), (12, .ag [.fn 64 [.pt 0 0, .pt 1 0], .fn 65 [.pt 0 0, .pt 1 0], .fn 67 [.pt 0 0, .pt 1 0]]), (13, .z 0)]) (M' := [.bx 30 [.u v.id.round, .z v.id.server.node, .u v.id.server.inc, .d (.ro 2 (procs v.members)), .d (.ro 1 (nums v.starts))], .bx 30 [.u w.id.round, .z w.id.server.node, .u w.id.server.inc, .d (.ro 2 (procs w.members)), .d (.ro 1 (nums w.starts))], .bx 99 [.fn 64 [.pt 0 0, .pt 1 0], .fn 65 [.pt 0 0, .pt 1 0], .fn 67 [.pt 0 0, .pt 1 0]]]) tb_ok mixed_ok hK [] 2000 [0, 1, 2] [2, 3, 12, 13] r (by kernel_rfl) trivial fun ac wd r => ?_
  cases h0 : (decide (v.id = w.id)) with
  | false =>
    have qh0 := of_decide_eq_false h0
    rw [show (DV.v (.bool (decide (v = w))) : DV) = .v (.bool false) from (bv (by simp [View.eq_iff, *]))]
    exact toRet tb_ok mixed_ok hK rfl [(4, [(0, .n 0)]), (5, [(1, .into 200 [(1, [(4, .b false)])])])] 2000 r (by kernel_rfl) (an (rfl : (0 : Int) = ((0 : Nat) : Int)) (an ((by omega) : (0) < 3) (an ((eqT (eqVid _ _) h0) : EqAgg Try.prog 26 [(.int .u64 (((v.id.round : Nat) : Int))), (.int .i64 (v.id.server.node)), (.int .u64 (((v.id.server.inc : Nat) : Int)))] [(.int .u64 (((w.id.round : Nat) : Int))), (.int .i64 (w.id.server.node)), (.int .u64 (((w.id.server.inc : Nat) : Int)))] false) trivial)))
  | true =>
    have qh0 := of_decide_eq_true h0
    refine toHead (todo' := hd Try.f50 0) (E' := [(2, .pt 0 0), (3, .pt 1 0), (12, .ag [.fn 64 [.pt 0 0, .pt 1 0], .fn 65 [.pt 0 0, .pt 1 0], .fn 67 [.pt 0 0, .pt 1 0]]), (13, .z 1)]) (M' := [.bx 30 [.u v.id.round, .z v.id.server.node, .u v.id.server.inc, .d (.ro 2 (procs v.members)), .d (.ro 1 (nums v.starts))], .bx 30 [.u w.id.round, .z w.id.server.node, .u w.id.server.inc, .d (.ro 2 (procs w.members)), .d (.ro 1 (nums w.starts))], .bx 99 [.fn 64 [.pt 0 0, .pt 1 0], .fn 65 [.pt 0 0, .pt 1 0], .fn 67 [.pt 0 0, .pt 1 0]]]) tb_ok mixed_ok hK [(4, [(0, .n 0)]), (5, [(1, .into 200 [(1, [(4, .b true)])])]), (7, [(0, .z (1))])] 2000 [0, 1, 2] [2, 3, 12, 13] r (by kernel_rfl) (an (rfl : (0 : Int) = ((0 : Nat) : Int)) (an ((by omega) : (0) < 3) (an ((eqT (eqVid _ _) h0) : EqAgg Try.prog 26 [(.int .u64 (((v.id.round : Nat) : Int))), (.int .i64 (v.id.server.node)), (.int .u64 (((v.id.server.inc : Nat) : Int)))] [(.int .u64 (((w.id.round : Nat) : Int))), (.int .i64 (w.id.server.node)), (.int .u64 (((w.id.server.inc : Nat) : Int)))] true) (an ((wi (by omega)) : IntKind.i64.wrap ((0 : Int) + 1) = 1) trivial)))) fun ac wd r => ?_
    cases h1 : (decide (v.members = w.members)) with
    | false =>
      have qh1 := of_decide_eq_false h1
      rw [show (DV.v (.bool (decide (v = w))) : DV) = .v (.bool false) from (bv (by simp [View.eq_iff, *]))]
      exact toRet tb_ok mixed_ok hK rfl [(4, [(0, .n 1)]), (5, [(1, .into 200 [(1, [(4, .con (.v (.bool false)))])])])] 2000 r (by kernel_rfl) (an (rfl : (1 : Int) = ((1 : Nat) : Int)) (an ((by omega) : (1) < 3) (an ((by have k := equalProcs v.members w.members (by omega); rw [h1] at k; exact k) : Con Try.prog 66 [.d (.ro 2 (procs v.members)), .d (.ro 2 (procs w.members))] (.v (.bool false))) trivial)))
    | true =>
      have qh1 := of_decide_eq_true h1
      refine toHead (todo' := hd Try.f50 0) (E' := [(2, .pt 0 0), (3, .pt 1 0), (12, .ag [.fn 64 [.pt 0 0, .pt 1 0], .fn 65 [.pt 0 0, .pt 1 0], .fn 67 [.pt 0 0, .pt 1 0]]), (13, .z 2)]) (M' := [.bx 30 [.u v.id.round, .z v.id.server.node, .u v.id.server.inc, .d (.ro 2 (procs v.members)), .d (.ro 1 (nums v.starts))], .bx 30 [.u w.id.round, .z w.id.server.node, .u w.id.server.inc, .d (.ro 2 (procs w.members)), .d (.ro 1 (nums w.starts))], .bx 99 [.fn 64 [.pt 0 0, .pt 1 0], .fn 65 [.pt 0 0, .pt 1 0], .fn 67 [.pt 0 0, .pt 1 0]]]) tb_ok mixed_ok hK [(4, [(0, .n 1)]), (5, [(1, .into 200 [(1, [(4, .con (.v (.bool true)))])])]), (7, [(0, .z (2))])] 2000 [0, 1, 2] [2, 3, 12, 13] r (by kernel_rfl) (an (rfl : (1 : Int) = ((1 : Nat) : Int)) (an ((by omega) : (1) < 3) (an ((by have k := equalProcs v.members w.members (by omega); rw [h1] at k; exact k) : Con Try.prog 66 [.d (.ro 2 (procs v.members)), .d (.ro 2 (procs w.members))] (.v (.bool true))) (an ((wi (by omega)) : IntKind.i64.wrap ((1 : Int) + 1) = 2) trivial)))) fun ac wd r => ?_
      cases h2 : (decide (v.starts = w.starts)) with
      | false =>
        have qh2 := of_decide_eq_false h2
        rw [show (DV.v (.bool (decide (v = w))) : DV) = .v (.bool false) from (bv (by simp [View.eq_iff, *]))]
        exact toRet tb_ok mixed_ok hK rfl [(4, [(0, .n 2)]), (5, [(1, .into 200 [(1, [(4, .con (.v (.bool false)))])])])] 2000 r (by kernel_rfl) (an (rfl : (2 : Int) = ((2 : Nat) : Int)) (an ((by omega) : (2) < 3) (an ((by have k := equalNums v.starts w.starts (by omega); rw [h2] at k; exact k) : Con Try.prog 68 [.d (.ro 1 (nums v.starts)), .d (.ro 1 (nums w.starts))] (.v (.bool false))) trivial)))
      | true =>
        have qh2 := of_decide_eq_true h2
        refine toHead (todo' := hd Try.f50 0) (E' := [(2, .pt 0 0), (3, .pt 1 0), (12, .ag [.fn 64 [.pt 0 0, .pt 1 0], .fn 65 [.pt 0 0, .pt 1 0], .fn 67 [.pt 0 0, .pt 1 0]]), (13, .z 3)]) (M' := [.bx 30 [.u v.id.round, .z v.id.server.node, .u v.id.server.inc, .d (.ro 2 (procs v.members)), .d (.ro 1 (nums v.starts))], .bx 30 [.u w.id.round, .z w.id.server.node, .u w.id.server.inc, .d (.ro 2 (procs w.members)), .d (.ro 1 (nums w.starts))], .bx 99 [.fn 64 [.pt 0 0, .pt 1 0], .fn 65 [.pt 0 0, .pt 1 0], .fn 67 [.pt 0 0, .pt 1 0]]]) tb_ok mixed_ok hK [(4, [(0, .n 2)]), (5, [(1, .into 200 [(1, [(4, .con (.v (.bool true)))])])]), (7, [(0, .z (3))])] 2000 [0, 1, 2] [2, 3, 12, 13] r (by kernel_rfl) (an (rfl : (2 : Int) = ((2 : Nat) : Int)) (an ((by omega) : (2) < 3) (an ((by have k := equalNums v.starts w.starts (by omega); rw [h2] at k; exact k) : Con Try.prog 68 [.d (.ro 1 (nums v.starts)), .d (.ro 1 (nums w.starts))] (.v (.bool true))) (an ((wi (by omega)) : IntKind.i64.wrap ((2 : Int) + 1) = 3) trivial)))) fun ac wd r => ?_
        rw [show (DV.v (.bool (decide (v = w))) : DV) = .v (.bool true) from (bv (by simp [View.eq_iff, *]))]
        exact toRet tb_ok mixed_ok hK rfl [] 2000 r (by kernel_rfl) trivial
set_option maxRecDepth 100000 in
theorem containsNum (l : List Nat) (x : Nat) (hb : l.length < 2147483648) : Con Try.prog 54 [.d (.ro 1 (nums l)), .u x] (DV.v (.bool (decide (0 ≤ idx l x 0)))) := by
  refine Con.intro (by kernel_rfl) rfl rfl 9 rfl rfl fun w0 K ac hK r => ?_
  cases h0 : (decide ((0 : Int) ≤ idx l x 0)) with
  | false =>
    have qh0 := of_decide_eq_false h0
    exact toRet tb_ok mixed_ok hK rfl [(1, [(2, .con (.z (idx l x 0))), (3, .b false)])] 2000 r (by kernel_rfl) (an (indexNums _ _ (by omega) : Con Try.prog 73 [.d (.ro 1 (nums l)), .u x] (.z (idx l x 0))) (an h0 trivial))
  | true =>
    have qh0 := of_decide_eq_true h0
    exact toRet tb_ok mixed_ok hK rfl [(1, [(2, .con (.z (idx l x 0))), (3, .b true)])] 2000 r (by kernel_rfl) (an (indexNums _ _ (by omega) : Con Try.prog 73 [.d (.ro 1 (nums l)), .u x] (.z (idx l x 0))) (an h0 trivial))
set_option maxRecDepth 100000 in
theorem viewPlace (v : View) (p : Proc) (hb : v.bounded) : Con Try.prog 28 [.ag [.u v.id.round, .z v.id.server.node, .u v.id.server.inc, .d (.ro 2 (procs v.members)), .d (.ro 1 (nums v.starts))], .ag [.z p.node, .u p.inc]] (.tu [.v (.int .i64 ((placeN v.members p : Nat) : Int)), .v (.bool (placeB v.members p))]) := by
  obtain ⟨hb1, hb2⟩ := hb
  refine Con.intro (by kernel_rfl) rfl rfl 14 rfl rfl fun w0 K ac hK r => ?_
  cases h0 : (decide ((idx v.members p 0 : Int) < 0)) with
  | false =>
    have qh0 := of_decide_eq_false h0
    rw [show (.tu [.v (.int .i64 ((placeN v.members p : Nat) : Int)), .v (.bool (placeB v.members p))] : DV) = .tu [.z (idx v.members p 0), .v (.bool true)] from (by unfold placeN placeB; simp; omega)]
    exact toRet tb_ok mixed_ok hK rfl [(1, [(3, .con (.z (idx v.members p 0)))]), (2, [(1, .b false)])] 2000 r (by kernel_rfl) (an (indexProcs _ _ (by omega) : Con Try.prog 44 [.d (.ro 2 (procs v.members)), .ag [.z p.node, .u p.inc]] (.z (idx v.members p 0))) (an h0 trivial))
  | true =>
    have qh0 := of_decide_eq_true h0
    rw [show (.tu [.v (.int .i64 ((placeN v.members p : Nat) : Int)), .v (.bool (placeB v.members p))] : DV) = .tu [.z 0, .v (.bool false)] from (by unfold placeN placeB; simp; omega)]
    exact toRet tb_ok mixed_ok hK rfl [(1, [(3, .con (.z (idx v.members p 0)))]), (2, [(1, .b true)])] 2000 r (by kernel_rfl) (an (indexProcs _ _ (by omega) : Con Try.prog 44 [.d (.ro 2 (procs v.members)), .ag [.z p.node, .u p.inc]] (.z (idx v.members p 0))) (an h0 trivial))
set_option maxRecDepth 100000 in
theorem refPlace (v : View) (p : Proc) (hb : v.bounded) : Con Try.prog 25 [.ag [.u v.id.round, .z v.id.server.node, .u v.id.server.inc, .d (.ro 2 (procs v.members)), .d (.ro 1 (nums v.starts))], .ag [.z p.node, .u p.inc]] (.tu [.v (.int .i64 ((placeN v.members p : Nat) : Int)), .v (.bool (placeB v.members p))]) := by
  obtain ⟨hb1, hb2⟩ := hb
  refine Con.intro (by kernel_rfl) rfl rfl 22 rfl rfl fun w0 K ac hK r => ?_
  refine toHead (todo' := hd Try.f25 0) (E' := [(2, .pt 0 0), (3, .pt 1 0), (6, .n 0)]) (M' := [.bx 30 [.u v.id.round, .z v.id.server.node, .u v.id.server.inc, .d (.ro 2 (procs v.members)), .d (.ro 1 (nums v.starts))], .bx 24 [.z p.node, .u p.inc]]) tb_ok mixed_ok hK [] 2000 [0, 1] [2, 3, 6] r (by kernel_rfl) trivial fun ac wd r => ?_
  refine Goes.rounds (Φ := fun (i : Nat) ac wd => (i ≤ v.members.length ∧ ∀ j, j < i → v.members[j]? ≠ some p) ∧ RE' [] w0 K 22 [(2, .pt 0 0), (3, .pt 1 0), (6, .n i)] [.bx 30 [.u v.id.round, .z v.id.server.node, .u v.id.server.inc, .d (.ro 2 (procs v.members)), .d (.ro 1 (nums v.starts))], .bx 24 [.z p.node, .u p.inc]] ac wd) (v.members.length) ?_ (Nat.zero_le _) ⟨⟨by omega, by omega⟩, r⟩
  clear r
  rintro i hi0 again0 ac wd ⟨hv0, r⟩
  obtain ⟨hi1, hv0⟩ := hv0
  cases h0 : (decide ((((i : Nat) : Int) : Int) < ((v.members.length : Nat) : Int))) with
  | false =>
    have qh0 := of_decide_eq_false h0
    rw [show (.tu [.v (.int .i64 ((placeN v.members p : Nat) : Int)), .v (.bool (placeB v.members p))] : DV) = .tu [.z 0, .v (.bool false)] from (by unfold placeN placeB; first | (rw [idx_at (i := i) (by rw [ge_v_members_i]; congr 1) (fun j hj => hv0 j hj)]; simp; done) | (rw [idx_none fun j hj => hv0 j (by omega)]; simp))]
    exact toRet tb_ok mixed_ok hK rfl [(2, [(3, .z (((v.members.length : Nat) : Int))), (4, .b false)])] 2000 r (by kernel_rfl) (an ((by simp) : (((procs v.members).length : Nat) : Int) = ((v.members.length : Nat) : Int)) (an h0 trivial))
  | true =>
    have qh0 := of_decide_eq_true h0
    obtain ⟨e_v_members_i, ge_v_members_i⟩ : ∃ x, v.members[i]? = some x := ⟨_, List.getElem?_eq_getElem (by omega)⟩
    cases h1 : (decide (e_v_members_i = p)) with
    | false =>
      have qh1 := of_decide_eq_false h1
      exact toHead (todo' := hd Try.f25 0) tb_ok mixed_ok hK [(2, [(3, .z (((v.members.length : Nat) : Int))), (4, .b true)]), (3, [(1, .z (((i + 1 : Nat) : Int)))]), (4, [(3, .ix (i) [.z e_v_members_i.node, .u e_v_members_i.inc]), (6, .b false)])] 2000 [0, 1] [2, 3, 6] r (by kernel_rfl) (an ((by simp) : (((procs v.members).length : Nat) : Int) = ((v.members.length : Nat) : Int)) (an h0 (an (rfI ((i : Nat) : Int)) (an (procs_at ge_v_members_i) (an ((eqT (eqProcD _ _) h1) : EqAgg Try.prog 24 [(.int .i64 (e_v_members_i.node)), (.int .u64 (((e_v_members_i.inc : Nat) : Int)))] [(.int .i64 (p.node)), (.int .u64 (((p.inc : Nat) : Int)))] false) (an ((wi (by omega)) : IntKind.i64.wrap ((((i : Nat) : Int) : Int) + 1) = ((i + 1 : Nat) : Int)) trivial)))))) fun ac wd r => again0 (by omega) ac wd ⟨⟨by omega, fun j hj => by rcases Nat.lt_succ_iff_lt_or_eq.1 hj with h | rfl; exact hv0 j h; simp only [ge_v_members_i, Option.some.injEq, ne_eq]; assumption⟩, r⟩
    | true =>
      have qh1 := of_decide_eq_true h1
      rw [show (.tu [.v (.int .i64 ((placeN v.members p : Nat) : Int)), .v (.bool (placeB v.members p))] : DV) = .tu [.n i, .v (.bool true)] from (by unfold placeN placeB; first | (rw [idx_at (i := i) (by rw [ge_v_members_i]; congr 1) (fun j hj => hv0 j hj)]; simp; done) | (rw [idx_none fun j hj => hv0 j (by omega)]; simp))]
      exact toRet tb_ok mixed_ok hK rfl [(2, [(3, .z (((v.members.length : Nat) : Int))), (4, .b true)]), (4, [(3, .ix (i) [.z e_v_members_i.node, .u e_v_members_i.inc]), (6, .b true)])] 2000 r (by kernel_rfl) (an ((by simp) : (((procs v.members).length : Nat) : Int) = ((v.members.length : Nat) : Int)) (an h0 (an (rfI ((i : Nat) : Int)) (an (procs_at ge_v_members_i) (an ((eqT (eqProcD _ _) h1) : EqAgg Try.prog 24 [(.int .i64 (e_v_members_i.node)), (.int .u64 (((e_v_members_i.inc : Nat) : Int)))] [(.int .i64 (p.node)), (.int .u64 (((p.inc : Nat) : Int)))] true) trivial)))))
end Go.Proofs.Ytoijfmfkkmbabaa
namespace Go.Proofs.Ytoijfmfkkmbabaa
open Go.RowKit
structure Slot where
  n : Nat
  body : List UInt8
deriving DecidableEq
def Slot.row (s : Slot) : List DV := [.v (.int .u64 (s.n : Int)), .ro 1 (bytesR s.body)]
abbrev slots (l : List Slot) : List (List DV) := l.map Slot.row
theorem slots_at {l : List Slot} {i : Nat} {s : Slot} (h : l[i]? = some s) : (slots l)[i]? = some [.v (.int .u64 (s.n : Int)), .ro 1 (bytesR s.body)] := by simp [slots, h, Slot.row]
def findS (l : List Slot) (n : Nat) : Int := idx (l.map Slot.n) n 0
theorem findS_at {l : List Slot} {n i : Nat} {s : Slot} (h : l[i]? = some s) (e : s.n = n) (hb : ∀ j t, j < i → l[j]? = some t → t.n ≠ n) : findS l n = (i : Int) := by
  unfold findS
  rw [idx_at (i := i) (by simp [h, e]) fun j hj e2 => ?_]
  · simp
  · rw [List.getElem?_map, Option.map_eq_some_iff] at e2
    obtain ⟨t, h1, h2⟩ := e2
    exact hb j t hj h1 h2
theorem findS_none {l : List Slot} {n : Nat} (hb : ∀ j t, j < l.length → l[j]? = some t → t.n ≠ n) : findS l n = -1 := by
  unfold findS
  refine idx_none fun j hj e2 => ?_
  rw [List.getElem?_map, Option.map_eq_some_iff] at e2
  obtain ⟨t, h1, h2⟩ := e2
  exact hb j t (by simpa using hj) h1 h2
def nthN (l : List Nat) (i : Nat) : Nat := (l[i]?).getD 0
theorem findS_mem {l : List Slot} {n : Nat} (h : 0 ≤ findS l n) : n ∈ l.map Slot.n := by
  apply Decidable.byContradiction; intro hc
  have : findS l n = -1 := findS_none fun j t _ ht e => hc (e ▸ List.mem_map.2 ⟨t, List.mem_of_getElem? ht, rfl⟩)
  omega
theorem pig : ∀ {k : Nat} {l : List Nat}, (∀ j, j < k → j + 1 ∈ l) → k ≤ l.length
  | 0, _, _ => Nat.zero_le _
  | k + 1, l, h => by
    have h1 : k + 1 ∈ l := h k (by omega)
    have h2 := pig (k := k) (l := l.erase (k + 1)) fun j hj => (List.mem_erase_of_ne (by omega)).2 (h j (by omega))
    rw [List.length_erase_of_mem h1] at h2
    have := List.length_pos_of_mem h1
    omega
def countF (l : List Slot) : Nat → Nat → Nat
  | 0, k => k
  | f + 1, k => if 0 ≤ findS l (k + 1) then countF l f (k + 1) else k
def countS (l : List Slot) : Nat := countF l l.length 0
theorem upto_le {l : List Slot} {k : Nat} (h : ∀ j, j < k → 0 ≤ findS l (j + 1)) : k ≤ l.length := by
  have := pig (l := l.map Slot.n) fun j hj => findS_mem (h j hj)
  simpa using this
theorem countS_eq {l : List Slot} {k : Nat} (h : ∀ j, j < k → 0 ≤ findS l (j + 1)) (h1 : ¬ 0 ≤ findS l (k + 1)) : countS l = k := by
  have key : ∀ f i, i ≤ k → k ≤ i + f → countF l f i = k := by
    intro f
    induction f with
    | zero => intro i h2 h3; unfold countF; omega
    | succ f ih =>
      intro i h2 h3
      unfold countF
      rcases Nat.lt_or_ge i k with h4 | h4
      · rw [if_pos (h i h4), ih (i + 1) (by omega) (by omega)]
      · have : i = k := by omega
        subst this; rw [if_neg h1]
  exact key l.length 0 (by omega) (by have := upto_le h; omega)
theorem countS_le (l : List Slot) : countS l ≤ l.length := by
  have key : ∀ f i, countF l f i ≤ i + f := by
    intro f
    induction f with
    | zero => intro i; unfold countF; omega
    | succ f ih => intro i; unfold countF; have := ih (i + 1); split <;> omega
  simpa [countS] using key l.length 0
set_option maxRecDepth 100000 in
theorem cloneBytes_some (l : List UInt8) (h0 : 0 < l.length) (hb : l.length < 2147483648) : Con Try.prog 32 [.d (.ro 1 (bytesR l))] (DV.em 5 1 (bytesR l)) := by
  refine Con.intro (by kernel_rfl) rfl rfl 8 rfl rfl fun w0 K ac hK r => ?_
  rw [show (DV.em 5 1 (bytesR l) : DV) = .em 5 1 ([] ++ (bytesR l)) from rfl]
  exact toRet tb_ok mixed_ok hK rfl [] 2000 r (by kernel_rfl) (an ((by simpa [bytesR] using h0) : 0 < (bytesR l).length) (an ((by simp) : (0) = ([] : List (List DV)).length) (an ((by simp [bytesR]; omega) : (2 * ((0) + (bytesR l).length) + 192) * 1 ≤ 281474976710656) (an ((by simp [bytesR]; omega) : (0) + (bytesR l).length < 4611686018427387904) (an ((by simp [OneR, AV.one, oneC, bytesR]) : OneR (bytesR l)) (an ((by simp) : (0 + (bytesR l).length) = ([] ++ (bytesR l) : List (List DV)).length) trivial))))))
set_option maxRecDepth 100000 in
theorem cloneBytes_none (c : Nat) : Con Try.prog 32 [.d (.v (.slice none 0 c))] (DV.v (.slice none 0 0)) := by
  refine Con.intro (by kernel_rfl) rfl rfl 8 rfl rfl fun w0 K ac hK r => ?_
  exact toRet tb_ok mixed_ok hK rfl [] 2000 r (by kernel_rfl) trivial
set_option maxRecDepth 100000 in
theorem cloneBytes_no (a : Addr) (c : Nat) : Con Try.prog 32 [.d (.v (.slice (some a) 0 c))] (DV.em 5 1 ([] ++ [])) := by
  refine Con.intro (by kernel_rfl) rfl rfl 8 rfl rfl fun w0 K ac hK r => ?_
  exact toRet tb_ok mixed_ok hK rfl [] 2000 r (by kernel_rfl) (an ((by simp) : (0) = ([] : List (List DV)).length) (an ((by simp) : (2 * ((0) + 0) + 192) * 1 ≤ 281474976710656) (an ((by simp) : (0) + 0 < 4611686018427387904) (an ((by simp [OneR]) : OneR (([] : List (List DV)))) (an ((by simp) : (0 + 0) = ([] ++ ([] : List (List DV)) : List (List DV)).length) trivial)))))
theorem cloneBytes (l : List UInt8) (hb : l.length < 2147483648) : Con Try.prog 32 [.d (.ro 1 (bytesR l))] (.em 5 1 (bytesR l)) := by
  cases l with
  | nil =>
    refine Con.empty (pre := []) (post := []) fun a c => ?_
    cases a with
    | none => exact Con.nil 5 1 (cloneBytes_none c)
    | some a => exact cloneBytes_no a c
  | cons b l => exact cloneBytes_some (b :: l) (by simp) hb
set_option maxRecDepth 100000 in
theorem cloneProcs_some (l : List Proc) (h0 : 0 < l.length) (hb : l.length < 2147483648) : Con Try.prog 40 [.d (.ro 2 (procs l))] (DV.em 24 2 (procs l)) := by
  refine Con.intro (by kernel_rfl) rfl rfl 8 rfl rfl fun w0 K ac hK r => ?_
  rw [show (DV.em 24 2 (procs l) : DV) = .em 24 2 ([] ++ (procs l)) from rfl]
  exact toRet tb_ok mixed_ok hK rfl [] 2000 r (by kernel_rfl) (an ((by simpa using h0) : 0 < (procs l).length) (an ((by simp) : (0) = ([] : List (List DV)).length) (an ((by simp; omega) : (2 * ((0) + (procs l).length) + 192) * 16 ≤ 281474976710656) (an ((by simp; omega) : (0) + (procs l).length < 4611686018427387904) (an ((by simp [OneR, AV.one, oneC, Proc.row]) : OneR (procs l)) (an ((by simp) : (0 + (procs l).length) = ([] ++ (procs l) : List (List DV)).length) trivial))))))
set_option maxRecDepth 100000 in
theorem cloneProcs_none (c : Nat) : Con Try.prog 40 [.d (.v (.slice none 0 c))] (DV.v (.slice none 0 0)) := by
  refine Con.intro (by kernel_rfl) rfl rfl 8 rfl rfl fun w0 K ac hK r => ?_
  exact toRet tb_ok mixed_ok hK rfl [] 2000 r (by kernel_rfl) trivial
set_option maxRecDepth 100000 in
theorem cloneProcs_no (a : Addr) (c : Nat) : Con Try.prog 40 [.d (.v (.slice (some a) 0 c))] (DV.em 24 2 ([] ++ [])) := by
  refine Con.intro (by kernel_rfl) rfl rfl 8 rfl rfl fun w0 K ac hK r => ?_
  exact toRet tb_ok mixed_ok hK rfl [] 2000 r (by kernel_rfl) (an ((by simp) : (0) = ([] : List (List DV)).length) (an ((by simp) : (2 * ((0) + 0) + 192) * 16 ≤ 281474976710656) (an ((by simp) : (0) + 0 < 4611686018427387904) (an ((by simp [OneR]) : OneR (([] : List (List DV)))) (an ((by simp) : (0 + 0) = ([] ++ ([] : List (List DV)) : List (List DV)).length) trivial)))))
theorem cloneProcs (l : List Proc) (hb : l.length < 2147483648) : Con Try.prog 40 [.d (.ro 2 (procs l))] (.em 24 2 (procs l)) := by
  cases l with
  | nil =>
    refine Con.empty (pre := []) (post := []) fun a c => ?_
    cases a with
    | none => exact Con.nil 24 2 (cloneProcs_none c)
    | some a => exact cloneProcs_no a c
  | cons b l => exact cloneProcs_some (b :: l) (by simp) hb
set_option maxRecDepth 100000 in
theorem cloneNums_some (l : List Nat) (h0 : 0 < l.length) (hb : l.length < 2147483648) : Con Try.prog 41 [.d (.ro 1 (nums l))] (DV.em 22 1 (nums l)) := by
  refine Con.intro (by kernel_rfl) rfl rfl 8 rfl rfl fun w0 K ac hK r => ?_
  rw [show (DV.em 22 1 (nums l) : DV) = .em 22 1 ([] ++ (nums l)) from rfl]
  exact toRet tb_ok mixed_ok hK rfl [] 2000 r (by kernel_rfl) (an ((by simpa using h0) : 0 < (nums l).length) (an ((by simp) : (0) = ([] : List (List DV)).length) (an ((by simp; omega) : (2 * ((0) + (nums l).length) + 192) * 8 ≤ 281474976710656) (an ((by simp; omega) : (0) + (nums l).length < 4611686018427387904) (an ((by simp [OneR, AV.one, oneC]) : OneR (nums l)) (an ((by simp) : (0 + (nums l).length) = ([] ++ (nums l) : List (List DV)).length) trivial))))))
set_option maxRecDepth 100000 in
theorem cloneNums_none (c : Nat) : Con Try.prog 41 [.d (.v (.slice none 0 c))] (DV.v (.slice none 0 0)) := by
  refine Con.intro (by kernel_rfl) rfl rfl 8 rfl rfl fun w0 K ac hK r => ?_
  exact toRet tb_ok mixed_ok hK rfl [] 2000 r (by kernel_rfl) trivial
set_option maxRecDepth 100000 in
theorem cloneNums_no (a : Addr) (c : Nat) : Con Try.prog 41 [.d (.v (.slice (some a) 0 c))] (DV.em 22 1 ([] ++ [])) := by
  refine Con.intro (by kernel_rfl) rfl rfl 8 rfl rfl fun w0 K ac hK r => ?_
  exact toRet tb_ok mixed_ok hK rfl [] 2000 r (by kernel_rfl) (an ((by simp) : (0) = ([] : List (List DV)).length) (an ((by simp) : (2 * ((0) + 0) + 192) * 8 ≤ 281474976710656) (an ((by simp) : (0) + 0 < 4611686018427387904) (an ((by simp [OneR]) : OneR (([] : List (List DV)))) (an ((by simp) : (0 + 0) = ([] ++ ([] : List (List DV)) : List (List DV)).length) trivial)))))
theorem cloneNums (l : List Nat) (hb : l.length < 2147483648) : Con Try.prog 41 [.d (.ro 1 (nums l))] (.em 22 1 (nums l)) := by
  cases l with
  | nil =>
    refine Con.empty (pre := []) (post := []) fun a c => ?_
    cases a with
    | none => exact Con.nil 22 1 (cloneNums_none c)
    | some a => exact cloneNums_no a c
  | cons b l => exact cloneNums_some (b :: l) (by simp) hb
end Go.Proofs.Ytoijfmfkkmbabaa
namespace Go.Proofs.Ytoijfmfkkmbabaa
open Go.RowKit
variable {P : Program} {T : Tab} {f : FuncId} {R : Ending → World → Prop} {a : Act} {w : World} {D : List Nat} {w0 : World} {K0 : World → Prop} {E : List (Nat × AV)} {M : List Blk} {β : Beta} {F : Nat → Frag} {I X : Frag} {sz : Nat} {tb : Tbl} {todo todo' : List Item} {b : Base}
def RB (D : List Nat) (w0 : World) (K0 : World → Prop) (sz : Nat) (b : Base) (E : List (Nat × AV)) (M : List Blk) (a : Act) (w : World) : Prop :=
  b.β.length = b.m ∧ ∃ tc, REb D w0 K0 sz b ⟨[], E, M, tc, []⟩ a w
def RetM (D : List Nat) (w0 : World) (K0 : World → Prop) (b : Base) (x : AV) (M' : List Blk) : Ending → World → Prop :=
  fun e w' => ∃ v, e = .returned v ∧ ∃ β' F' I', RM D w0 K0 M' β' F' I' w' ∧ Ext b.β β' ∧ Grows b.I I' ∧ ARel (fun w => K0 w ∧ Holds w I') β' x v
theorem ConM.intro {fn : Func} {c : Code} {args : List AV} {x : AV} {M' : List Blk} (hcall : callable P f = true) (hf : P.funcs[f]? = some fn) (hb : fn.body = some c) (n : Nat) (hn : fn.ntmps = n) (hle : Nat.ble args.length n = true)
    (h : ∀ (D : List Nat) (w0 : World) (K0 : World → Prop) (b : Base) (a : Act) (w : World), (∀ w, Kp D w0 w → K0 w) → b.m = M.length → RB D w0 K0 n b (argsA args 0) M a w → Goes P f [.code c] (RetM D w0 K0 b x M') a w) : ConM P f args M x M' := by
  refine ⟨hcall, ?_⟩
  intro D w0 K0 β F I w ys Rm hK hl hr
  have hle := Nat.le_of_ble_eq_true hle
  refine calls_of_goes hf hb (h D w0 K0 ⟨β, F, I, M.length⟩ _ w hK rfl ⟨Rm.len, [], by simp; omega, rfl, Nat.le_refl _, β, F, I, Rm, ⟨fun _ _ _ h => h, Grows.refl _, fun _ _ _ => rfl⟩, ?_⟩)
  intro t v hv
  obtain ⟨y, rfl, rfl, hy⟩ : ∃ y : Nat × AV, y.1 = t ∧ y.2 = v ∧ y ∈ argsA args 0 := ⟨(t, v), rfl, rfl, lookA_mem hv⟩
  obtain ⟨-, h2⟩ := argsA_mem args 0 y hy
  simp only [Nat.sub_zero] at h2
  obtain ⟨hlt, -⟩ := List.getElem?_eq_some_iff.1 h2
  have hys : ys[y.1]? = some ys[y.1] := List.getElem?_eq_getElem (by omega)
  have he : ({ tmps := ys.toArray ++ Array.replicate (fn.ntmps - ys.toArray.size) undef, defers := [] } : Act).eval (.tmp y.1) = ys[y.1] := by
    have : y.1 < ys.length := by omega
    simp [Act.eval, Array.getD_eq_getD_getElem?, Array.getElem?_append, this]
  rw [he]
  exact hr y.1 y.2 _ h2 hys
def startsB (m : Nat) (l : List Nat) : Bool := (List.range m).all fun i => match l[i]? with | some u => u.beq i | none => false
theorem startsB_at {m : Nat} {l : List Nat} (h : startsB m l = true) {i : Nat} (hi : i < m) : l[i]? = some i := by
  have := List.all_eq_true.1 h i (List.mem_range.2 hi)
  split at this
  · rename_i u hu; rw [hu, Nat.eq_of_beq_eq_true this]
  · simp at this
def farB (m : Nat) (mv : List Nat) : Bool := mv.all fun u => Nat.ble m u
theorem farB_at {m : Nat} {mv : List Nat} (h : farB m mv = true) {u : Nat} (hu : u < m) : u ∉ mv := fun hm => by
  have := Nat.le_of_ble_eq_true (List.all_eq_true.1 h u hm); omega
theorem ren_parts {l : List Nat} {M' : List Blk} (hn : nodupB l = true) (hM : renM l M l = some M') (Rm : RM D w0 K0 M β F I w) : RM D w0 K0 M' (renBeta β l) (pickF F l) I w := by
  obtain ⟨e1, e2⟩ := renM_at hM
  have hlt : ∀ u ∈ l, u < M.length := by
    intro u hu
    obtain ⟨i, hi, rfl⟩ := List.getElem_of_mem hu
    obtain ⟨u', b0, g1, g2, -⟩ := e2 i M'[i] (List.getElem?_eq_getElem (by omega))
    rw [List.getElem?_eq_getElem hi, Option.some.injEq] at g1
    rw [g1]; exact lt_of_some g2
  obtain ⟨rest, hst⟩ := give_all (nodupB_ok hn) hlt Rm.x
  refine ⟨by rw [renBeta_len, e1], ?_, ?_⟩
  · intro i b hb
    obtain ⟨u, b0, g1, g2, g3⟩ := e2 i b hb
    rw [pickF_at g1]; exact renB_ok g1 g3 (Rm.blk u b0 g2)
  · rw [e1, flat_idx]
    have := hst.app_right
    exact this.perm (by classical rw [List.perm_iff_count]; intro z; simp only [List.count_append, List.count_nil]; omega)
theorem ext_ren {l mv tc : List Nat} (hb : b.β.length = b.m) (hs : startsB b.m l = true) (hf : farB b.m mv = true) (h : Since b mv tc β F I) : Ext b.β (renBeta β l) := by
  intro u x hx
  have hu : u < b.m := by rw [← hb]; exact (List.getElem?_eq_some_iff.1 hx).1
  exact renBeta_at (startsB_at hs hu) (h.1 u x (farB_at hf hu) hx)
theorem REb.ren {s : RS} (hb : b.β.length = b.m) (r : REb D w0 K0 sz b s a w) {l ts : List Nat} {M' : List Blk} {E' : List (Nat × AV)} (hn : nodupB l = true) (hs : startsB b.m l = true) (hf : farB b.m s.mv = true) (hM : renM l s.M l = some M') (hE : renE l s.E ts = some E') : RB D w0 K0 sz b E' M' a w := by
  obtain ⟨h1, h2, h3, β, F, I, Rm, hsn, hsl⟩ := r
  refine ⟨hb, List.range b.m, h1, h2, ?_, renBeta β l, pickF F l, I, ren_parts hn hM Rm, ⟨(ext_ren hb hs hf hsn).b _, hsn.2.1, fun u hu hn => absurd (List.mem_range.2 hu) hn⟩, renE_ok hsl hE⟩
  rw [(renM_at hM).1]
  rcases Nat.lt_or_ge l.length b.m with hl | hl
  · have := startsB_at hs (i := l.length) hl
    rw [List.getElem?_eq_none (Nat.le_refl _)] at this; cases this
  · exact hl
def outToM (P : Program) (T : Tab) (sz : Nat) (m : Nat) (tb : Tbl) (n : Nat) (l ts : List Nat) (todo : List Item) (E : List (Nat × AV)) (M : List Blk) : Option (List Item × Prop × List (Nat × AV) × List Blk) :=
  bif nodupB l && startsB m l then (match runC P T (walk P T 3) sz tb n todo ⟨[], E, M, [], []⟩ with
  | some (.code (.loop c) :: k, s) => bif farB m s.mv then anewA l ts (.code c :: .inLoop c :: k) s else none
  | some (.inLoop c :: k, s) => bif farB m s.mv then anewA l ts (.code c :: .inLoop c :: k) s else none
  | _ => none) else none
theorem RB.re (r : RB D w0 K0 sz b E M a w) : ∃ b', REb D w0 K0 sz b' ⟨[], E, M, [], []⟩ a w ∧ b'.β.length = b.m ∧ Ext b.β b'.β ∧ Grows b.I b'.I ∧ b'.m = b.m := by
  obtain ⟨hb, tc, h1, h2, h3, β, F, I, Rm, hsn, hsl⟩ := r
  refine ⟨⟨β.take b.m, F, I, b.m⟩, ⟨h1, h2, h3, β, F, I, Rm, ⟨fun u x _ hx => ?_, Grows.refl _, fun _ _ _ => rfl⟩, hsl⟩, ?_, fun u x hx => ?_, hsn.2.1, rfl⟩
  · rw [List.getElem?_take] at hx
    split at hx
    · exact hx
    · simp at hx
  · rw [List.length_take, Rm.len]; have h3' : b.m ≤ M.length := h3; omega
  · have hu : u < b.m := by rw [← hb]; exact (List.getElem?_eq_some_iff.1 hx).1
    rw [List.getElem?_take, if_pos hu]
    exact hsn.1 u x (by simp) hx
theorem RB.from {b' : Base} (hbm : b'.m = b.m) (hb : b.β.length = b.m) (hE : Ext b.β b'.β) (hG : Grows b.I b'.I) (r : RB D w0 K0 sz b' E M a w) : RB D w0 K0 sz b E M a w := by
  obtain ⟨-, tc, h1, h2, h3, β, F, I, Rm, hsn, hsl⟩ := r
  refine ⟨hb, List.range b.m, h1, h2, by rw [← hbm]; exact h3, β, F, I, Rm, ⟨fun u x _ hx => hsn.1 u x (by simp) (hE u x hx), hG.trans hsn.2.1, fun u hu hn => absurd (List.mem_range.2 hu) hn⟩, hsl⟩
theorem toHeadM (hT : tabB P T = true) (hm : P.follows .mixedOrders = true) (hK : ∀ w, Kp D w0 w → K0 w) {m : Nat} (hbm : b.m = m) (tb : Tbl) (n : Nat) (l ts : List Nat) {A : Prop} {E' : List (Nat × AV)} {M' : List Blk} (r : RB D w0 K0 sz b E M a w)
    (h : outToM P T sz m tb n l ts todo E M = some (todo', A, E', M')) (hA : A) (k : ∀ a' w', RB D w0 K0 sz b E' M' a' w' → Goes P f todo' R a' w') : Goes P f todo R a w := by
  subst hbm
  have hb := r.1
  obtain ⟨b', rb, hb', hE, hG, hm'⟩ := r.re
  unfold outToM at h
  cases hn : (nodupB l && startsB b.m l) with
  | false => simp [hn] at h
  | true =>
    simp only [hn, cond_true] at h
    simp only [Bool.and_eq_true] at hn
    have key : ∀ {s : RS} {a' : Act} {w' : World} {M' : List Blk} {E' : List (Nat × AV)}, farB b.m s.mv = true → renM l s.M l = some M' → renE l s.E ts = some E' → REb D w0 K0 sz b' s a' w' → RB D w0 K0 sz b E' M' a' w' := fun hf h3 h4 r' =>
      RB.from hm' hb hE hG (r'.ren (by rw [hb', hm']) hn.1 (by rw [hm']; exact hn.2) (by rw [hm']; exact hf) h3 h4)
    split at h
    · rename_i c k' s hr
      cases hf : farB b.m s.mv with
      | false => simp [hf] at h
      | true =>
        simp only [hf, cond_true] at h
        obtain ⟨rfl, rfl, h3, h4⟩ := anewA_ok h
        exact segb hT (walk_ok hT hm 3) hm hK n hr rb hA fun a' w' r' => Goes.loop (k a' w' (key hf h3 h4 r'))
    · rename_i c k' s hr
      cases hf : farB b.m s.mv with
      | false => simp [hf] at h
      | true =>
        simp only [hf, cond_true] at h
        obtain ⟨rfl, rfl, h3, h4⟩ := anewA_ok h
        exact segb hT (walk_ok hT hm 3) hm hK n hr rb hA fun a' w' r' => Goes.again (k a' w' (key hf h3 h4 r'))
    · simp at h
def finM (T : Tab) (m : Nat) (keep : List Nat) (rs : List ResultVar) (s : RS) : Option (Prop × AV × List Blk) :=
  bif nodupB keep && startsB m keep && farB m s.mv then (match resA T s.E s.M rs with
  | some l => (match renM keep s.M keep, ren3 keep (oneA l) with
    | some M', some x => some (AllP s.vc, x, M')
    | _, _ => none)
  | none => none) else none
def outRetM (P : Program) (T : Tab) (sz : Nat) (m : Nat) (rs : List ResultVar) (tb : Tbl) (n : Nat) (keep : List Nat) (todo : List Item) (E : List (Nat × AV)) (M : List Blk) : Option (Prop × AV × List Blk) :=
  match runC P T (walk P T 3) sz tb n todo ⟨[], E, M, [], []⟩ with
  | some (.code .ret :: _, s) => finM T m keep rs s
  | some ([], s) => finM T m keep rs s
  | _ => none
theorem toRetM (hT : tabB P T = true) (hm : P.follows .mixedOrders = true) (hK : ∀ w, Kp D w0 w → K0 w) {fn : Func} (hf : P.funcs[f]? = some fn) {m : Nat} (hbm : b.m = m) (tb : Tbl) (n : Nat) (keep : List Nat) {x : AV} {M' : List Blk} {A : Prop} (r : RB D w0 K0 sz b E M a w)
    (h : outRetM P T sz m fn.results.toList tb n keep todo E M = some (A, x, M')) (hA : A) : Goes P f todo (RetM D w0 K0 b x M') a w := by
  subst hbm
  have hb := r.1
  obtain ⟨b', rb, hb', hE, hG, hm'⟩ := r.re
  have key : ∀ {s : RS} {a' : Act} {w' : World}, finM T b.m keep fn.results.toList s = some (A, x, M') → REb D w0 K0 sz b' s a' w' → AllP s.vc = A ∧ ∃ v, (results fn a'.tmps).run P w' = .ok v w' ∧ RetM D w0 K0 b x M' (.returned v) w' := by
    intro s a' w' hfin r'
    unfold finM at hfin
    cases hc : (nodupB keep && startsB b.m keep && farB b.m s.mv) with
    | false => simp only [hc, cond_false, reduceCtorEq] at hfin
    | true =>
      simp only [hc, cond_true] at hfin
      simp only [Bool.and_eq_true] at hc
      split at hfin
      · rename_i l hl
        split at hfin
        · rename_i M1 x1 hM hx
          simp only [Option.some.injEq, Prod.mk.injEq] at hfin
          obtain ⟨hA', rfl, rfl⟩ := hfin
          refine ⟨hA', ?_⟩
          obtain ⟨-, -, -, β, F, I, Rm, hsn, hs⟩ := r'
          obtain ⟨ys, e1, e2, e3⟩ := resA_ok hT Rm hs hl
          refine ⟨_, res_run rfl e1, _, rfl, renBeta β keep, pickF F keep, I, ren_parts hc.1.1 hM Rm, ?_, hG.trans hsn.2.1, ren3_ok hx ?_⟩
          · have := ext_ren (b := b') (by rw [hb', hm']) (by rw [hm']; exact hc.1.2) (by rw [hm']; exact hc.2) hsn
            exact fun u q hq => this u q (hE u q hq)
          · match ys, l, e2, e3 with
            | [], [], _, _ => exact .tu [] rfl (by simp)
            | [y], [v], _, e3 => exact e3 0 v y rfl rfl
            | y :: y' :: ys, v :: v' :: l, e2, e3 => exact .tu _ e2 e3
        · simp at hfin
      · simp at hfin
  unfold outRetM at h
  have hvc : ∀ {s : RS}, finM T b.m keep fn.results.toList s = some (A, x, M') → AllP s.vc := by
    intro s hfin
    unfold finM at hfin
    cases hc : (nodupB keep && startsB b.m keep && farB b.m s.mv) with
    | false => simp only [hc, cond_false, reduceCtorEq] at hfin
    | true =>
      simp only [hc, cond_true] at hfin
      split at hfin
      · split at hfin
        · simp only [Option.some.injEq, Prod.mk.injEq] at hfin
          rw [hfin.1]; exact hA
        · simp at hfin
      · simp at hfin
  split at h
  · rename_i k s hr
    refine segb hT (walk_ok hT hm 3) hm hK n hr rb (hvc h) fun a' w' r' => ?_
    obtain ⟨-, v, h1, h2⟩ := key h r'
    exact Goes.ret hf r'.2.1 h1 h2
  · rename_i s hr
    refine segb hT (walk_ok hT hm 3) hm hK n hr rb (hvc h) fun a' w' r' => ?_
    obtain ⟨-, v, h1, h2⟩ := key h r'
    exact Goes.fin hf r'.2.1 h1 h2
  · simp at h
theorem castM {x y : AV} {N N' : List Blk} {todo : List Item} (e1 : x = y) (e2 : N = N') (h : Goes P f todo (RetM D w0 K0 b y N') a w) : Goes P f todo (RetM D w0 K0 b x N) a w := e1 ▸ e2 ▸ h
end Go.Proofs.Ytoijfmfkkmbabaa
namespace Go.Proofs.Ytoijfmfkkmbabaa
open Go.RowKit
def gapF : List Slot → Nat → Int
  | [], _ => -1
  | s :: r, k => if s.n ≠ k + 1 then (k : Int) else gapF r (k + 1)
theorem gapF_at : ∀ {l : List Slot} {k i : Nat} {s : Slot}, l[i]? = some s → s.n ≠ k + i + 1 → (∀ j t, j < i → l[j]? = some t → t.n = k + j + 1) → gapF l k = ((k + i : Nat) : Int)
  | [], _, _, _, h, _, _ => by simp at h
  | x :: r, k, 0, s, h, hn, _ => by simp at h; subst h; simp [gapF]; omega
  | x :: r, k, i + 1, s, h, hn, hb => by
    have h0 : x.n = k + 1 := by have := hb 0 x (by omega) rfl; simpa using this
    rw [gapF, if_neg (by omega), gapF_at (i := i) (s := s) (by simpa using h) (by omega) fun j t hj ht => by have := hb (j + 1) t (by omega) (by simpa using ht); omega]
    congr 1; omega
theorem gapF_none : ∀ {l : List Slot} {k : Nat}, (∀ j t, j < l.length → l[j]? = some t → t.n = k + j + 1) → gapF l k = -1
  | [], _, _ => rfl
  | x :: r, k, h => by
    have h0 : x.n = k + 1 := by have := h 0 x (by simp) rfl; simpa using this
    rw [gapF, if_neg (by omega)]
    exact gapF_none fun j t hj ht => by have := h (j + 1) t (by simpa using hj) (by simpa using ht); omega
def askF : List Slot → Nat → Nat
  | [], k => k
  | s :: r, k => if s.n ≠ k + 1 then k + 1 else askF r (k + 1)
theorem askF_at : ∀ {l : List Slot} {k i : Nat} {s : Slot}, l[i]? = some s → s.n ≠ k + i + 1 → (∀ j t, j < i → l[j]? = some t → t.n = k + j + 1) → askF l k = k + i + 1
  | [], _, _, _, h, _, _ => by simp at h
  | x :: r, k, 0, s, h, hn, _ => by simp at h; subst h; simp [askF]; omega
  | x :: r, k, i + 1, s, h, hn, hb => by
    have h0 : x.n = k + 1 := by have := hb 0 x (by omega) rfl; simpa using this
    rw [askF, if_neg (by omega), askF_at (i := i) (s := s) (by simpa using h) (by omega) fun j t hj ht => by have := hb (j + 1) t (by omega) (by simpa using ht); omega]
    omega
theorem askF_none : ∀ {l : List Slot} {k : Nat}, (∀ j t, j < l.length → l[j]? = some t → t.n = k + j + 1) → askF l k = k + l.length
  | [], _, _ => rfl
  | x :: r, k, h => by
    have h0 : x.n = k + 1 := by have := h 0 x (by simp) rfl; simpa using this
    rw [askF, if_neg (by omega)]
    rw [askF_none fun j t hj ht => by have := h (j + 1) t (by simpa using hj) (by simpa using ht); omega]
    simp; omega
def fromF : List Slot → Nat → Nat → Int
  | [], _, _ => -1
  | s :: r, n, k => if n ≤ s.n then (k : Int) else fromF r n (k + 1)
theorem fromF_at : ∀ {l : List Slot} {n k i : Nat} {s : Slot}, l[i]? = some s → n ≤ s.n → (∀ j t, j < i → l[j]? = some t → t.n < n) → fromF l n k = ((k + i : Nat) : Int)
  | [], _, _, _, _, h, _, _ => by simp at h
  | x :: r, n, k, 0, s, h, hn, _ => by simp at h; subst h; simp [fromF, hn]
  | x :: r, n, k, i + 1, s, h, hn, hb => by
    have h0 : x.n < n := hb 0 x (by omega) rfl
    rw [fromF, if_neg (by omega), fromF_at (i := i) (s := s) (by simpa using h) hn fun j t hj ht => hb (j + 1) t (by omega) (by simpa using ht)]
    congr 1; omega
theorem fromF_none : ∀ {l : List Slot} {n k : Nat}, (∀ j t, j < l.length → l[j]? = some t → t.n < n) → fromF l n k = -1
  | [], _, _, _ => rfl
  | x :: r, n, k, h => by
    have h0 : x.n < n := h 0 x (by simp) rfl
    rw [fromF, if_neg (by omega)]
    exact fromF_none fun j t hj ht => h (j + 1) t (by simpa using hj) (by simpa using ht)
theorem ivA {k : IntKind} {a b : Int} (h : a = b) : AV.d (.v (.int k a)) = .d (.v (.int k b)) := by rw [h]
theorem bxU {T : TypeId} {k : IntKind} {a b : Int} (h : a = b) : [Blk.bx T [.d (.v (.int k a))]] = [.bx T [.d (.v (.int k b))]] := by rw [h]
set_option maxRecDepth 100000 in
theorem indexGap (l : List Slot) (hb : l.length < 2147483648) : ConM Try.prog 45 [.d (.ro 2 (slots l)), .fn 56 [.pt 0 0]] [.bx 22 [.d (.v (.int .u64 0))]] (.d (.v (.int .i64 (gapF l 0)))) ([.bx 22 [.d (.v (.int .u64 ((askF l 0 : Nat) : Int)))]]) := by
  refine ConM.intro (by kernel_rfl) rfl rfl 19 rfl rfl fun D w0 K b ac wd hK (hbm : b.m = 1) r => ?_
  refine toHeadM (todo' := hd Try.f45 0) (E' := [(0, .d (.ro 2 (slots l))), (7, .n l.length), (8, .n 0), (1, .fn 56 [.pt 0 0])]) (M' := [.bx 22 [.u 0]]) tb_ok mixed_ok hK hbm [(1, [(1, .z (((l.length : Nat) : Int)))])] 2000 [0] [0, 7, 8, 1] r (by kernel_rfl) (an ((by simp) : (((slots l).length : Nat) : Int) = ((l.length : Nat) : Int)) trivial) fun ac wd r => ?_
  refine Goes.rounds (Φ := fun (i : Nat) ac wd => (i ≤ l.length ∧ ∀ j t, j < i → l[j]? = some t → t.n = j + 1) ∧ RB D w0 K 19 b [(0, .d (.ro 2 (slots l))), (7, .n l.length), (8, .n i), (1, .fn 56 [.pt 0 0])] [.bx 22 [.u i]] ac wd) (l.length) ?_ (Nat.zero_le _) ⟨⟨by omega, by omega⟩, r⟩
  clear r
  rintro i hi0 again0 ac wd ⟨hv0, r⟩
  obtain ⟨hi1, hv0⟩ := hv0
  cases h0 : (decide ((((i : Nat) : Int) : Int) < ((l.length : Nat) : Int))) with
  | false =>
    have qh0 := of_decide_eq_false h0
    refine castM (y := .z (-1)) (N' := [.bx 22 [.u i]]) ((ivA (by first | (rw [gapF_at ge_l_i (by omega) (fun j t hj ht => by have := hv0 j t hj ht; omega)]; simp; done) | exact gapF_none fun j t hj ht => by have := hv0 j t (by omega) ht; omega))) ((bxU (by first | (rw [askF_at ge_l_i (by omega) (fun j t hj ht => by have := hv0 j t hj ht; omega)]; simp; done) | (rw [askF_none (fun j t hj ht => by have := hv0 j t (by omega) ht; omega)]; simp; omega)))) ?_
    exact toRetM tb_ok mixed_ok hK rfl hbm [(2, [(0, .b false)])] 2000 [0] r (by kernel_rfl) (an h0 trivial)
  | true =>
    have qh0 := of_decide_eq_true h0
    obtain ⟨e_l_i, ge_l_i⟩ : ∃ x, l[i]? = some x := ⟨_, List.getElem?_eq_getElem (by omega)⟩
    cases h1 : ((((e_l_i.n : Nat) : Int) : Int) != ((i + 1 : Nat) : Int)) with
    | false =>
      have qh1 := eq_of_bne h1
      exact toHeadM (todo' := hd Try.f45 0) tb_ok mixed_ok hK hbm [(2, [(0, .b true)]), (4, [(3, .ix (i) [.u e_l_i.n, .ro 1 (bytesR e_l_i.body)]), (5, .into 200 [(1, [(1, .z (((i + 1 : Nat) : Int)))]), (2, [(3, .b false)])])]), (6, [(0, .z (((i + 1 : Nat) : Int)))])] 2000 [0] [0, 7, 8, 1] r (by kernel_rfl) (an h0 (an (rfI ((i : Nat) : Int)) (an (slots_at ge_l_i) (an ((wu (by omega)) : IntKind.u64.wrap ((((i : Nat) : Int) : Int) + 1) = ((i + 1 : Nat) : Int)) (an h1 (an ((wi (by omega)) : IntKind.i64.wrap ((((i : Nat) : Int) : Int) + 1) = ((i + 1 : Nat) : Int)) trivial)))))) fun ac wd r => again0 (by omega) ac wd ⟨⟨by omega, fun j t hj ht => by rcases Nat.lt_succ_iff_lt_or_eq.1 hj with h | rfl; exact hv0 j t h ht; rw [ge_l_i] at ht; cases ht; omega⟩, r⟩
    | true =>
      have qh1 : ¬ _ = _ := bne_iff_ne.1 h1
      refine castM (y := .n i) (N' := [.bx 22 [.u (i + 1)]]) ((ivA (by first | (rw [gapF_at ge_l_i (by omega) (fun j t hj ht => by have := hv0 j t hj ht; omega)]; simp; done) | exact gapF_none fun j t hj ht => by have := hv0 j t (by omega) ht; omega))) ((bxU (by first | (rw [askF_at ge_l_i (by omega) (fun j t hj ht => by have := hv0 j t hj ht; omega)]; simp; done) | (rw [askF_none (fun j t hj ht => by have := hv0 j t (by omega) ht; omega)]; simp; omega)))) ?_
      exact toRetM tb_ok mixed_ok hK rfl hbm [(2, [(0, .b true)]), (4, [(3, .ix (i) [.u e_l_i.n, .ro 1 (bytesR e_l_i.body)]), (5, .into 200 [(1, [(1, .z (((i + 1 : Nat) : Int)))]), (2, [(3, .b true)])])])] 2000 [0] r (by kernel_rfl) (an h0 (an (rfI ((i : Nat) : Int)) (an (slots_at ge_l_i) (an ((wu (by omega)) : IntKind.u64.wrap ((((i : Nat) : Int) : Int) + 1) = ((i + 1 : Nat) : Int)) (an h1 trivial)))))
structure Msg where
  src : Proc
  n : Nat
  body : List UInt8
deriving DecidableEq
def Msg.row (m : Msg) : List DV := [.v (.int .i64 m.src.node), .v (.int .u64 (m.src.inc : Int)), .v (.int .u64 (m.n : Int)), .ro 1 (bytesR m.body)]
abbrev msgs (l : List Msg) : List (List DV) := l.map Msg.row
theorem msgs_at {l : List Msg} {i : Nat} {m : Msg} (h : l[i]? = some m) : (msgs l)[i]? = some [.v (.int .i64 m.src.node), .v (.int .u64 (m.src.inc : Int)), .v (.int .u64 (m.n : Int)), .ro 1 (bytesR m.body)] := by simp [msgs, h, Msg.row]
def gapN (l : List Slot) : Nat := if 0 ≤ gapF l 0 then (gapF l 0).toNat else l.length
def fromN (l : List Slot) (n : Nat) : Nat := if 0 ≤ fromF l n 0 then (fromF l n 0).toNat else l.length
set_option maxRecDepth 100000 in
theorem placeGap (l : List Slot) (hb : l.length < 2147483648) : ConM Try.prog 29 [.d (.ro 2 (slots l)), .fn 56 [.pt 0 0]] [.bx 22 [.d (.v (.int .u64 0))]] (.d (.v (.int .i64 ((gapN l : Nat) : Int)))) ([.bx 22 [.u (askF l 0)]]) := by
  refine ConM.intro (by kernel_rfl) rfl rfl 14 rfl rfl fun D w0 K b ac wd hK (hbm : b.m = 1) r => ?_
  cases h0 : (decide ((0 : Int) ≤ gapF l 0)) with
  | false =>
    have qh0 := of_decide_eq_false h0
    refine castM (y := .n l.length) (N' := [.bx 22 [.u (askF l 0)]]) ((ivA (by unfold gapN; split <;> omega))) (rfl) ?_
    exact toRetM tb_ok mixed_ok hK rfl hbm [(1, [(2, .mem [0] (.z (gapF l 0)) [.bx 22 [.u (askF l 0)]])]), (2, [(1, .b false)]), (4, [(1, .z (((l.length : Nat) : Int)))])] 2000 [0] r (by kernel_rfl) (an (indexGap l (by omega)) (an h0 (an ((by simp) : (((slots l).length : Nat) : Int) = ((l.length : Nat) : Int)) trivial)))
  | true =>
    have qh0 := of_decide_eq_true h0
    refine castM (y := .z (gapF l 0)) (N' := [.bx 22 [.u (askF l 0)]]) ((ivA (by unfold gapN; split <;> omega))) (rfl) ?_
    exact toRetM tb_ok mixed_ok hK rfl hbm [(1, [(2, .mem [0] (.z (gapF l 0)) [.bx 22 [.u (askF l 0)]])]), (2, [(1, .b true)])] 2000 [0] r (by kernel_rfl) (an (indexGap l (by omega)) (an h0 trivial))
theorem gapF_le : ∀ (l : List Slot) (k : Nat), gapF l k < ((k + l.length : Nat) : Int)
  | [], k => by simp [gapF]; omega
  | s :: r, k => by
    unfold gapF; have := gapF_le r (k + 1); split
    · simp; omega
    · simp at this ⊢; omega
theorem gapN_le (l : List Slot) : gapN l ≤ l.length := by
  unfold gapN; have := gapF_le l 0; split <;> omega
theorem fromF_le : ∀ (l : List Slot) (n k : Nat), fromF l n k < ((k + l.length : Nat) : Int)
  | [], n, k => by simp [fromF]; omega
  | s :: r, n, k => by
    unfold fromF; have := fromF_le r n (k + 1); split
    · simp; omega
    · simp at this ⊢; omega
theorem fromN_le (l : List Slot) (n : Nat) : fromN l n ≤ l.length := by
  unfold fromN; have := fromF_le l n 0; split <;> omega
set_option maxRecDepth 100000 in
theorem streamCount (l : List Slot) (hb : l.length < 2147483648) : Con Try.prog 37 [.ag [.d (.ro 2 (slots l))]] (DV.v (.int .u64 ((gapN l : Nat) : Int))) := by
  have hg := gapN_le l
  refine Con.intro (by kernel_rfl) rfl rfl 10 rfl rfl fun w0 K ac hK r => ?_
  rw [show (DV.v (.int .u64 ((gapN l : Nat) : Int)) : DV) = .u (gapN l) from rfl]
  exact toRet tb_ok mixed_ok hK rfl [(1, [(2, .into 200 []), (3, .mem [1] (.n (gapN l)) [.bx 22 [.u (askF l 0)]])]), (2, [(1, .z (((gapN l : Nat) : Int)))])] 2000 r (by kernel_rfl) (an (placeGap l (by omega)) (an ((wu (by omega)) : IntKind.u64.wrap (((gapN l : Nat) : Int)) = ((gapN l : Nat) : Int)) trivial))
end Go.Proofs.Ytoijfmfkkmbabaa
namespace Go.Proofs.Ytoijfmfkkmbabaa
open Go.RowKit
theorem ind_v (x : Value) : Ind (.v x) := by intro K K2 y H h; cases h; exact .v _
def View.may (v : View) : Bool :=
  if v.id.round = 0 then v.id.server.may && decide (v = View.first v.id.server)
  else v.id.may && decide (1 ≤ v.members.length) && decide (v.members.length ≤ 6) && decide (v.starts.length = v.members.length) && isSet v.members && lone v.members && v.starts.all fun n => decide (n ≠ 0)
theorem all_yes {l : List Nat} {q : Nat → Bool} (h : ∀ (j x : Nat), j < l.length → l[j]? = some x → q x = true) : l.all q = true := by
  rw [List.all_eq_true]; intro x hx
  obtain ⟨j, hj, rfl⟩ := List.getElem_of_mem hx
  exact h j _ hj (List.getElem?_eq_getElem hj)
theorem all_no {l : List Nat} {q : Nat → Bool} {j x : Nat} (h : l[j]? = some x) (hq : q x = false) : l.all q = false := by
  cases ha : l.all q with
  | false => rfl
  | true => rw [List.all_eq_true] at ha; have := ha x (List.mem_of_getElem? h); rw [hq] at this; cases this
theorem View.may_no {v : View} {i x : Nat} (h : v.id.round ≠ 0) (hx : v.starts[i]? = some x) (h0 : x = 0) : v.may = false := by
  unfold View.may; rw [if_neg h, all_no hx (by simp [h0])]; simp
theorem View.may_yes {v : View} {i : Nat} (h : v.id.round ≠ 0) (h1 : v.id.may = true) (h2 : 1 ≤ v.members.length) (h3 : v.members.length ≤ 6) (h4 : v.starts.length = v.members.length) (h5 : isSet v.members = true) (h6 : lone v.members = true) (hi : v.starts.length ≤ i) (hs : ∀ (j x : Nat), j < i → v.starts[j]? = some x → x ≠ 0) : v.may = true := by
  unfold View.may; rw [if_neg h, all_yes fun j x hj hx => decide_eq_true (hs j x (Nat.lt_of_lt_of_le hj hi) hx)]; simp [*]
theorem View.may_first {v : View} (h : v.id.round = 0) : v.may = (v.id.server.may && decide (v = View.first v.id.server)) := by unfold View.may; rw [if_pos h]
theorem View.may_first1 {v : View} {c : Bool} (h : v.id.round = 0) (h1 : v.id.server.may = true) (h2 : decide (v = View.first v.id.server) = c) : v.may = c := by rw [View.may_first h, h1, h2]; rfl
theorem View.may_bad {v : View} (h : v.id.round ≠ 0) (hb : v.id.may = false ∨ v.members.length < 1 ∨ 6 < v.members.length ∨ v.starts.length ≠ v.members.length ∨ isSet v.members = false ∨ lone v.members = false) : v.may = false := by
  unfold View.may; rw [if_neg h]
  rcases hb with h | h | h | h | h | h
  · simp [h]
  · rw [decide_eq_false (by omega : ¬ 1 ≤ v.members.length)]; simp
  · rw [decide_eq_false (by omega : ¬ v.members.length ≤ 6)]; simp
  · simp [h]
  · simp [h]
  · simp [h]
end Go.Proofs.Ytoijfmfkkmbabaa
namespace Go.Proofs.Ytoijfmfkkmbabaa
open Go.RowKit
abbrev streams (l : List (List Slot)) : List (List DV) := l.map fun s => [.ro 2 (slots s)]
theorem streams_at {l : List (List Slot)} {i : Nat} {s : List Slot} (h : l[i]? = some s) : (streams l)[i]? = some [.ro 2 (slots s)] := by simp [streams, h]
structure Flow where
  view : View
  streams : List (List Slot)
  handed : List Nat
deriving DecidableEq
def boundS (l : List Slot) : Prop := l.length < 1073741824 ∧ ∀ x ∈ l, x.body.length < 1073741824
def Flow.bounded (f : Flow) : Prop := f.view.bounded ∧ f.streams.length < 1073741824 ∧ f.handed.length < 1073741824 ∧ ∀ l ∈ f.streams, boundS l
theorem boundS.at {l : List Slot} (h : boundS l) {i : Nat} {x : Slot} (g : l[i]? = some x) : x.body.length < 1073741824 := h.2 x (List.mem_of_getElem? g)
theorem Flow.bounded.at {f : Flow} (h : f.bounded) {i : Nat} {l : List Slot} (g : f.streams[i]? = some l) : boundS l := h.2.2.2 l (List.mem_of_getElem? g)
def Good (l : List Slot) (n : Nat) : Prop := ∀ (k : Nat) x, k < n → l[k]? = some x → 1 ≤ x.n ∧ x.n ≤ 16 ∧ x.body.length ≤ 64 ∧ ∀ y, 0 < k → l[k - 1]? = some y → y.n < x.n
def Flow.Ok (f : Flow) : Prop := f.view.may = true ∧ f.streams.length = f.view.members.length ∧ f.handed.length = f.view.members.length ∧ ∀ (i : Nat) l h, f.streams[i]? = some l → f.handed[i]? = some h → Good l l.length ∧ h ≤ countS l
open Classical in
noncomputable def Flow.may (f : Flow) : Bool := decide f.Ok
theorem Flow.yes {f : Flow} {i : Nat} (h1 : f.view.may = true) (h2 : f.streams.length = f.view.members.length) (h3 : f.handed.length = f.view.members.length) (hi : f.streams.length ≤ i) (h4 : ∀ (j : Nat) l h, j < i → f.streams[j]? = some l → f.handed[j]? = some h → Good l l.length ∧ h ≤ countS l) : f.may = true := by
  unfold Flow.may
  exact @decide_eq_true _ (Classical.propDecidable _) ⟨h1, h2, h3, fun j l h hl hh => h4 j l h (Nat.lt_of_lt_of_le (List.getElem?_eq_some_iff.1 hl).1 hi) hl hh⟩
theorem Flow.no {f : Flow} (h : ¬ f.Ok) : f.may = false := by unfold Flow.may; exact @decide_eq_false _ (Classical.propDecidable _) h
theorem Flow.no_view {f : Flow} (h : f.view.may = false) : f.may = false := Flow.no fun ok => by rw [ok.1] at h; cases h
theorem Flow.no_len {f : Flow} (h : f.streams.length ≠ f.view.members.length ∨ f.handed.length ≠ f.view.members.length) : f.may = false := Flow.no fun ok => by have h1 := ok.2.1; have h2 := ok.2.2.1; omega
theorem Flow.no_slot {f : Flow} {i k : Nat} {l : List Slot} {x : Slot} (hl : f.streams[i]? = some l) (hx : l[k]? = some x) (h : x.n < 1 ∨ 16 < x.n ∨ 64 < x.body.length ∨ ∃ y, 0 < k ∧ l[k - 1]? = some y ∧ x.n ≤ y.n) : f.may = false := Flow.no fun ok => by
  obtain ⟨-, h1, h2, h3⟩ := ok
  have hi := (List.getElem?_eq_some_iff.1 hl).1
  obtain ⟨g1, g2, g3, g4⟩ := (h3 i l _ hl (List.getElem?_eq_getElem (by omega))).1 k x (List.getElem?_eq_some_iff.1 hx).1 hx
  rcases h with h | h | h | ⟨y, hk, hy, h⟩
  · omega
  · omega
  · omega
  · have := g4 y hk hy; omega
theorem Flow.no_hand {f : Flow} {i h : Nat} {l : List Slot} (hl : f.streams[i]? = some l) (hh : f.handed[i]? = some h) (hc : countS l < h) : f.may = false := Flow.no fun ok => by
  have := (ok.2.2.2 i l h hl hh).2; omega
theorem Good.next {l : List Slot} {k : Nat} {x : Slot} (h : Good l k) (hx : l[k]? = some x) (h1 : 1 ≤ x.n) (h2 : x.n ≤ 16) (h3 : x.body.length ≤ 64) (h4 : ∀ y, 0 < k → l[k - 1]? = some y → y.n < x.n) : Good l (k + 1) := by
  intro j y hj hy
  rcases Nat.lt_succ_iff_lt_or_eq.1 hj with h' | rfl
  · exact h j y h' hy
  · rw [hx] at hy; cases hy; exact ⟨h1, h2, h3, h4⟩
end Go.Proofs.Ytoijfmfkkmbabaa
namespace Go.Proofs.Ytoijfmfkkmbabaa
open Go.RowKit
theorem Flow.eq_iff {f g : Flow} : f = g ↔ f.view = g.view ∧ f.streams = g.streams ∧ f.handed = g.handed := by cases f; cases g; simp
theorem Slot.eq_iff {x y : Slot} : x = y ↔ x.n = y.n ∧ x.body = y.body := by cases x; cases y; simp
theorem Msg.eq_iff {x y : Msg} : x = y ↔ x.src = y.src ∧ x.n = y.n ∧ x.body = y.body := by cases x; cases y; simp
def bigS (l : List Slot) : Prop := l.length ≤ 9223372036854775807 ∧ ∀ x ∈ l, x.body.length ≤ 9223372036854775807
def Flow.big (f : Flow) : Prop := f.view.members.length ≤ 9223372036854775807 ∧ f.view.starts.length ≤ 9223372036854775807 ∧ f.streams.length ≤ 9223372036854775807 ∧ f.handed.length ≤ 9223372036854775807 ∧ ∀ l ∈ f.streams, bigS l
theorem bigS.at {l : List Slot} (h : bigS l) {i : Nat} {x : Slot} (g : l[i]? = some x) : x.body.length ≤ 9223372036854775807 := h.2 x (List.mem_of_getElem? g)
theorem Flow.big.at {f : Flow} (h : f.big) {i : Nat} {l : List Slot} (g : f.streams[i]? = some l) : bigS l := h.2.2.2.2 l (List.mem_of_getElem? g)
end Go.Proofs.Ytoijfmfkkmbabaa
namespace Go.Proofs.Ytoijfmfkkmbabaa
open Go.RowKit
variable {P : Program} {T : Tab} {f : FuncId} {R : Ending → World → Prop} {a : Act} {w : World} {D : List Nat} {w0 : World} {K0 : World → Prop} {E E1 : List (Nat × AV)} {M M1 M2 : List Blk} {β : Beta} {F : Nat → Frag} {I X : Frag} {sz : Nat} {b : Base}
theorem RM.nil (h : RM D w0 K0 M β F I w) (T k : Nat) : RM D w0 K0 (M ++ [.rw T k []]) (β ++ [(none, 0)]) (updF F M.length []) I w := by
  refine h.new (Gr.refl w) (NewF.nil w w) ?_
  have : BRel (fun w => K0 w ∧ Holds w I) (β ++ [(none, 0)]) M.length (.rw T k []) ([] ++ layF ([] : List (List DV)).length k fun _ _ => []) :=
    .rw (c := 0) (a := none) (by rw [List.getElem?_append_right (by rw [h.len]; exact Nat.le_refl _), h.len]; simp) (fun _ => []) (fun _ _ => []) (by simp) (by simpa [lay] using SlRep.nil T k none) (by simp)
  simpa [layF] using this
theorem RM.cells (h : RM D w0 K0 M β F I w) {u Tb : Nat} {cells cells' : List AV} (hu : M[u]? = some (.bx Tb cells)) (hl : cells'.length = cells.length)
    (hc : ∀ (j : Nat) c c0 y, cells'[j]? = some c → cells[j]? = some c0 → ARel (fun w => K0 w ∧ Holds w I) β c0 y → ARel (fun w => K0 w ∧ Holds w I) β c y) : RM D w0 K0 (M.set u (.bx Tb cells')) β F I w where
  len := by rw [h.len, List.length_set]
  blk := by
    intro v bl hv
    rw [List.getElem?_set] at hv
    split at hv
    · rename_i hvu; subst hvu
      split at hv
      · simp only [Option.some.injEq] at hv; subst hv
        have hr := h.blk _ _ hu
        generalize F _ = H at hr ⊢
        cases hr with
        | bx hb ys hl' hr =>
          refine .bx hb ys (by omega) fun j c y h1 h2 => ?_
          have hj : j < cells.length := by rw [← hl]; exact (List.getElem?_eq_some_iff.1 h1).1
          exact hc j c _ y h1 (List.getElem?_eq_getElem hj) (hr j _ y (List.getElem?_eq_getElem hj) h2)
      · cases hv
    · exact h.blk v bl hv
  st := by rw [List.length_set]; exact h.st
def repA (E : List (Nat × AV)) (t : Nat) (v : AV) : List (Nat × AV) := E.map fun x => bif x.1.beq t then (x.1, v) else x
theorem repA_at {t : Nat} {v : AV} : ∀ {E : List (Nat × AV)} {s : Nat} {u : AV}, lookA (repA E t v) s = some u → (s = t ∧ u = v ∧ ∃ u0, lookA E t = some u0) ∨ (s ≠ t ∧ lookA E s = some u)
  | [], s, u, h => by simp [repA, lookA] at h
  | (k, x) :: r, s, u, h => by
    have ih := repA_at (t := t) (v := v) (E := r) (s := s) (u := u)
    unfold repA at ih h
    rw [List.map_cons] at h
    cases hk : k.beq t with
    | true =>
      have hkt := Nat.eq_of_beq_eq_true hk; subst hkt
      simp only [Nat.beq_refl, cond_true, lookA] at h ⊢
      cases hs : k.beq s with
      | true =>
        have := Nat.eq_of_beq_eq_true hs; subst this
        rw [hs, cond_true, Option.some.injEq] at h
        exact Or.inl ⟨rfl, h.symm, x, rfl⟩
      | false =>
        rw [hs, cond_false] at h
        rcases ih h with ⟨rfl, -, -⟩ | h2
        · rw [Nat.beq_refl] at hs; cases hs
        · exact Or.inr h2
    | false =>
      simp only [hk, cond_false, lookA] at h ⊢
      cases hs : k.beq s with
      | true =>
        have := Nat.eq_of_beq_eq_true hs; subst this
        rw [hs, cond_true] at h
        refine Or.inr ⟨?_, h⟩
        rintro rfl; rw [Nat.beq_refl] at hk; cases hk
      | false =>
        rw [hs, cond_false] at h
        exact ih h
def adS : List (Nat × Nat × Nat) → List (Nat × AV) → List Blk → Option (List (Nat × AV) × List Blk)
  | [], E, M => some (E, M)
  | (t, T, k) :: r, E, M => match lookA E t with
    | some (.d (.v (.slice none 0 0))) => adS r (repA E t (.sl M.length 0)) (M ++ [.rw T k []])
    | _ => none
def adC : List (Nat × Nat × Nat × Nat) → List Blk → Option (List Blk)
  | [], M => some M
  | (u, o, T, k) :: r, M => match M[u]? with
    | some (.bx Tb cells) => (match cells[o]? with
      | some (.d (.v (.slice none 0 0))) => adC r ((M ++ [Blk.rw T k []]).set u (.bx Tb (cells.set o (.sl M.length 0))))
      | _ => none)
    | _ => none
theorem nil_at (h : RM D w0 K0 M β F I w) : (β ++ [((none : Option Addr), 0)])[M.length]? = some (none, 0) := by rw [List.getElem?_append_right (by rw [h.len]; exact Nat.le_refl _), h.len]; simp
theorem adS_ok {ev : Nat → Value} {n : Nat} : ∀ {ls : List (Nat × Nat × Nat)} {E : List (Nat × AV)} {M : List Blk} {β : Beta} {F : Nat → Frag}, adS ls E M = some (E1, M1) → n ≤ M.length → RM D w0 K0 M β F I w → (∀ t v, lookA E t = some v → ARel (fun w => K0 w ∧ Holds w I) β v (ev t)) →
    ∃ β' F', RM D w0 K0 M1 β' F' I w ∧ Ext β β' ∧ (∀ u, u < n → F' u = F u) ∧ n ≤ M1.length ∧ ∀ t v, lookA E1 t = some v → ARel (fun w => K0 w ∧ Holds w I) β' v (ev t)
  | [], E, M, β, F, h, hn, hR, hs => by
    simp only [adS, Option.some.injEq, Prod.mk.injEq] at h; obtain ⟨rfl, rfl⟩ := h
    exact ⟨β, F, hR, fun _ _ h => h, fun _ _ => rfl, hn, hs⟩
  | (t, T, k) :: r, E, M, β, F, h, hn, hR, hs => by
    unfold adS at h
    split at h
    · rename_i ht
      obtain ⟨β', F', h1, h2, h3, h4, h5⟩ := adS_ok h (n := n) (ev := ev) (by simp; omega) (hR.nil T k) fun s v hv => by
        rcases repA_at hv with ⟨rfl, rfl, -⟩ | ⟨-, h2⟩
        · have := hs s _ ht
          generalize ev s = y at this
          cases this with | d h => cases h; exact .sl (nil_at hR)
        · exact (hs s v h2).mono (fun _ h => h) (Ext.app β [((none : Option Addr), 0)])
      exact ⟨β', F', h1, fun u x hx => h2 u x (Ext.app β [((none : Option Addr), 0)] u x hx), fun u hu => (h3 u hu).trans (updF_ne (tc := []) F [] u (by omega) (by simp)), h4, h5⟩
    · cases h
theorem adC_ok {ev : Nat → Value} {n : Nat} : ∀ {lc : List (Nat × Nat × Nat × Nat)} {M : List Blk} {β : Beta} {F : Nat → Frag}, adC lc M = some M1 → n ≤ M.length → RM D w0 K0 M β F I w → (∀ t v, lookA E t = some v → ARel (fun w => K0 w ∧ Holds w I) β v (ev t)) →
    ∃ β' F', RM D w0 K0 M1 β' F' I w ∧ Ext β β' ∧ (∀ u, u < n → F' u = F u) ∧ n ≤ M1.length ∧ ∀ t v, lookA E t = some v → ARel (fun w => K0 w ∧ Holds w I) β' v (ev t)
  | [], M, β, F, h, hn, hR, hs => by
    simp only [adC, Option.some.injEq] at h; subst h
    exact ⟨β, F, hR, fun _ _ h => h, fun _ _ => rfl, hn, hs⟩
  | (u, o, T, k) :: r, M, β, F, h, hn, hR, hs => by
    unfold adC at h
    split at h
    · rename_i Tb cells hu
      split at h
      · rename_i ho
        have hR1 := hR.nil T k
        have hR2 := hR1.cells (cells' := cells.set o (.sl M.length 0)) (by rw [List.getElem?_append_left (List.getElem?_eq_some_iff.1 hu).1]; exact hu) (by simp) fun j c c0 y h1 h2 h3 => by
          rw [List.getElem?_set] at h1
          split at h1
          · rename_i hj; subst hj
            split at h1
            · simp only [Option.some.injEq] at h1; subst h1
              rw [ho, Option.some.injEq] at h2; subst h2
              cases h3 with | d h => cases h; exact .sl (nil_at hR)
            · cases h1
          · rw [h1, Option.some.injEq] at h2; subst h2; exact h3
        obtain ⟨β', F', h1, h2, h3, h4, h5⟩ := adC_ok h (n := n) (ev := ev) (by simp; omega) hR2 fun s v hv => (hs s v hv).mono (fun _ h => h) (Ext.app β [((none : Option Addr), 0)])
        exact ⟨β', F', h1, fun u x hx => h2 u x (Ext.app β [((none : Option Addr), 0)] u x hx), fun u hu => (h3 u hu).trans (updF_ne (tc := []) F [] u (by omega) (by simp)), h4, h5⟩
      · cases h
    · cases h
theorem RE'.adopt (r : RE' D w0 K0 sz E M a w) (ls : List (Nat × Nat × Nat)) (lc : List (Nat × Nat × Nat × Nat)) (h : adS ls E M = some (E1, M1)) (h2 : adC lc M1 = some M2) : RE' D w0 K0 sz E1 M2 a w := by
  obtain ⟨g1, g2, β, F, I, hR, hs⟩ := r
  obtain ⟨β1, F1, r1, -, -, -, s1⟩ := adS_ok (ev := fun t => a.eval (.tmp t)) (n := 0) h (Nat.zero_le _) hR hs
  obtain ⟨β2, F2, r2, -, -, -, s2⟩ := adC_ok (ev := fun t => a.eval (.tmp t)) (n := 0) h2 (Nat.zero_le _) r1 s1
  exact ⟨g1, g2, β2, F2, I, r2, s2⟩
theorem RE'.cast {E' : List (Nat × AV)} {M' : List Blk} (r : RE' D w0 K0 sz E M a w) (hE : E = E') (hM : M = M') : RE' D w0 K0 sz E' M' a w := hE ▸ hM ▸ r
theorem RB.cast {E' : List (Nat × AV)} {M' : List Blk} (r : RB D w0 K0 sz b E M a w) (hE : E = E') (hM : M = M') : RB D w0 K0 sz b E' M' a w := hE ▸ hM ▸ r
theorem RB.adopt (r : RB D w0 K0 sz b E M a w) (ls : List (Nat × Nat × Nat)) (lc : List (Nat × Nat × Nat × Nat)) (h : adS ls E M = some (E1, M1)) (h2 : adC lc M1 = some M2) : RB D w0 K0 sz b E1 M2 a w := by
  obtain ⟨hb, tc, g1, g2, g3, β, F, I, hR, hsn, hs⟩ := r
  obtain ⟨β1, F1, r1, e1, f1, l1, s1⟩ := adS_ok (ev := fun t => a.eval (.tmp t)) (n := b.m) h g3 hR hs
  obtain ⟨β2, F2, r2, e2, f2, l2, s2⟩ := adC_ok (ev := fun t => a.eval (.tmp t)) (n := b.m) h2 l1 r1 s1
  exact ⟨hb, tc, g1, g2, l2, β2, F2, I, r2, ⟨fun u x hu hx => e2 u x (e1 u x (hsn.1 u x hu hx)), hsn.2.1, fun u hu hn => (f2 u hu).trans ((f1 u hu).trans (hsn.2.2 u hu hn))⟩, s2⟩
end Go.Proofs.Ytoijfmfkkmbabaa
namespace Go.Proofs.Ytoijfmfkkmbabaa
open Go.RowKit
variable {P : Program} {T : Tab} {cl : Walker} {f : FuncId} {R : Ending → World → Prop} {a : Act} {w : World} {D : List Nat} {w0 : World} {K0 : World → Prop} {E : List (Nat × AV)} {M : List Blk} {sz : Nat} {tb : Tbl} {todo todo' : List Item} {ops : Array Oper} {Q : Exit → Act → World → Prop}
def lookD (P : Program) (T : Tab) (cl : Walker) (sz : Nat) (ops : Array Oper) (oc : List (Nat × Orc)) (rd : List Nat) (i : Nat) : RS → Option (List Nat × RS)
  | ⟨vc, E, M, tc, mv⟩ => match ops[i]? with
    | some o => (bif dstB sz o.dst then (match wantA sz ops E o.guard with
      | some true => (match step P T cl E M (getO oc i) o.op with
        | some ⟨vc', av, _, _, _, some rd'⟩ => some (rd' ++ rd, ⟨vc ++ vc', putA E o.dst av, M, tc, mv⟩)
        | _ => none)
      | some false => some (rd, ⟨vc, putA E o.dst (.d (.v undef)), M, tc, mv⟩)
      | none => none) else none)
    | none => none
def oneD (P : Program) (T : Tab) (cl : Walker) (sz : Nat) (ops : Array Oper) (oc : List (Nat × Orc)) (rd : List Nat) (i : Nat) : RS → Option RS
  | ⟨vc, E, M, tc, mv⟩ => match ops[i]? with
    | some o => (bif dstB sz o.dst then (match wantA sz ops E o.guard with
      | some true => (match step P T cl E M (getO oc i) o.op with
        | some out => (bif away rd out.tc && Nat.ble M.length out.M.length then some ⟨vc ++ out.vc, putA (keepA out.mv E) o.dst out.av, out.M, out.tc ++ tc, out.mv ++ mv⟩ else none)
        | none => none)
      | some false => some ⟨vc, putA E o.dst (.d (.v undef)), M, tc, mv⟩
      | none => none) else none)
    | none => none
def allJ (g : Nat → Option (List RS)) : List Nat → Option (List RS)
  | [] => some []
  | j :: r => match g j, allJ g r with | some l, some l' => some (l ++ l') | _, _ => none
theorem allJ_at {g : Nat → Option (List RS)} : ∀ {r : List Nat} {l : List RS}, allJ g r = some l → ∀ j ∈ r, ∃ l', g j = some l' ∧ ∀ s ∈ l', s ∈ l
  | [], _, _, j, hj => by cases hj
  | i :: r, l, h, j, hj => by
    unfold allJ at h
    split at h
    · rename_i l1 l2 h1 h2
      simp only [Option.some.injEq] at h; subst h
      rcases List.mem_cons.1 hj with rfl | hj
      · exact ⟨l1, h1, fun s hs => List.mem_append_left _ hs⟩
      · obtain ⟨l', h3, h4⟩ := allJ_at h2 j hj
        exact ⟨l', h3, fun s hs => List.mem_append_right _ (h4 s hs)⟩
    · cases h
def nxtT (ops : Array Oper) (nl : List Nat) (L : Array Bool) : Nxt := match Region.ready .any ops L with
  | [] => .fin
  | i :: r => match firstPure ops L ((i :: r).filter fun j => !(nl.elem j)) with
    | some j => .look j
    | none => .bad
theorem nxtT_fin {nl : List Nat} {L : Array Bool} (h : nxtT ops nl L = .fin) : Region.ready .any ops L = [] := by
  unfold nxtT at h
  split at h
  · assumption
  · split at h <;> cases h
theorem nxtT_look {nl : List Nat} {L : Array Bool} {i : Nat} (h : nxtT ops nl L = .look i) : i ∈ Region.ready .any ops L ∧ ∃ o, ops[i]? = some o ∧ Region.free .any ops L i = true := by
  unfold nxtT at h
  split at h
  · cases h
  · rename_i k r hr
    split at h
    · rename_i j hj
      simp only [Nxt.look.injEq] at h; subst h
      obtain ⟨h1, h2⟩ := firstPure_ok hj
      exact ⟨by rw [hr]; exact (List.mem_filter.1 h1).1, h2⟩
    · cases h
def runDT (P : Program) (T : Tab) (cl : Walker) (sz : Nat) (ops : Array Oper) (oc : List (Nat × Orc)) (nl : List Nat) : Nat → Array Bool → List Nat → RS → Option (List RS)
  | 0, L, _, s => (match nxtT ops nl L with | .fin => some [s] | _ => none)
  | fuel + 1, L, rd, s => match nxtT ops nl L with
    | .fin => some [s]
    | .look i => (match lookD P T cl sz ops oc rd i s with
      | some (rd', s1) => runDT P T cl sz ops oc nl fuel (L.setIfInBounds i true) rd' s1
      | none => none)
    | _ => allJ (fun j => match oneD P T cl sz ops oc rd j s with
      | some s1 => runDT P T cl sz ops oc nl fuel (L.setIfInBounds j true) rd s1
      | none => none) (Region.ready .any ops L)
theorem lookD_vc {oc : List (Nat × Orc)} {rd rd' : List Nat} {i : Nat} {s s1 : RS} (h : lookD P T cl sz ops oc rd i s = some (rd', s1)) (hv : AllP s1.vc) : AllP s.vc := by
  obtain ⟨vc, E, M, tc, mv⟩ := s
  unfold lookD at h
  dsimp only at h
  split at h
  · rename_i o ho
    cases hd : dstB sz o.dst with
    | false => simp [hd] at h
    | true =>
      simp only [hd, cond_true] at h
      split at h
      · split at h
        · simp only [Option.some.injEq, Prod.mk.injEq] at h; obtain ⟨-, rfl⟩ := h; exact (AllP.app.1 hv).1
        · cases h
      · simp only [Option.some.injEq, Prod.mk.injEq] at h; obtain ⟨-, rfl⟩ := h; exact hv
      · cases h
  · cases h
theorem oneD_vc {oc : List (Nat × Orc)} {rd : List Nat} {i : Nat} {s s1 : RS} (h : oneD P T cl sz ops oc rd i s = some s1) (hv : AllP s1.vc) : AllP s.vc := by
  obtain ⟨vc, E, M, tc, mv⟩ := s
  unfold oneD at h
  dsimp only at h
  split at h
  · rename_i o ho
    cases hd : dstB sz o.dst with
    | false => simp [hd] at h
    | true =>
      simp only [hd, cond_true] at h
      split at h
      · split at h
        · rename_i out _
          cases hc : (away rd out.tc && Nat.ble M.length out.M.length) with
          | false => simp [hc] at h
          | true => simp only [hc, cond_true, Option.some.injEq] at h; subst h; exact (AllP.app.1 hv).1
        · cases h
      · simp only [Option.some.injEq] at h; subst h; exact hv
      · cases h
  · cases h
theorem ready_some {nl : List Nat} {L : Array Bool} (h : nxtT ops nl L ≠ .fin) : ∃ j r, Region.ready .any ops L = j :: r := by
  unfold nxtT at h
  cases hr : Region.ready .any ops L with
  | nil => rw [hr] at h; exact absurd rfl h
  | cons j r => exact ⟨j, r, rfl⟩
theorem runDT_vc {oc : List (Nat × Orc)} {nl : List Nat} : ∀ (fuel : Nat) (L : Array Bool) (rd : List Nat) (s : RS) {l : List RS}, runDT P T cl sz ops oc nl fuel L rd s = some l → ∃ s' ∈ l, AllP s'.vc → AllP s.vc := by
  intro fuel
  induction fuel with
  | zero =>
    intro L rd s l h
    unfold runDT at h
    split at h
    · simp only [Option.some.injEq] at h; subst h; exact ⟨s, by simp, id⟩
    · cases h
  | succ fuel ih =>
    intro L rd s l h
    unfold runDT at h
    split at h
    · simp only [Option.some.injEq] at h; subst h; exact ⟨s, by simp, id⟩
    · split at h
      · rename_i hl
        obtain ⟨s', h1, h2⟩ := ih _ _ _ h
        exact ⟨s', h1, fun hv => lookD_vc hl (h2 hv)⟩
      · cases h
    · rename_i hn _
      obtain ⟨j, r, hr⟩ := ready_some (ops := ops) (nl := nl) (L := L) (by intro hf; exact hn hf)
      obtain ⟨l', h1, h2⟩ := allJ_at h j (by rw [hr]; exact List.mem_cons_self)
      split at h1
      · rename_i ho
        obtain ⟨s', h3, h4⟩ := ih _ _ _ h1
        exact ⟨s', h2 s' h3, fun hv => oneD_vc ho (h4 hv)⟩
      · cases h1
theorem runDT_ok (hT : tabB P T = true) (hcl : ClOk P cl) {b : Base} (hK : ∀ w, Kp D w0 w → K0 w) (hsel : Region.noSelect ops = true) (hQ : ∀ d v c a w, Q (.panic c) (Act.put a d v) w → Q (.panic c) a w) {oc : List (Nat × Orc)} {nl : List Nat} :
    ∀ (fuel : Nat) (L : Array Bool) (rd : List Nat) (s : RS) {l : List RS} (Rk : World → Prop) (β : Beta) (F : Nat → Frag) (I : Frag) (a : Act) (w : World), runDT P T cl sz ops oc nl fuel L rd s = some l → a.tmps.size = sz → a.defers = [] → b.m ≤ s.M.length → RM D w0 K0 s.M β F I w → Since b s.mv s.tc β F I →
      (∀ t v, lookA s.E t = some v → ARel (fun w => K0 w ∧ Holds w I) β v (a.eval (.tmp t))) → (∀ u ∈ rd, u < s.M.length) → (∀ w, Sees K0 I F rd w → Rk w) → (∀ s' ∈ l, AllP s'.vc ∧ ∀ a' w', REb D w0 K0 sz b s' a' w' → Q .normal a' w') → wpAnyR P ops Q Rk fuel L a w := by
  intro fuel
  induction fuel with
  | zero =>
    intro L rd s l Rk β F I a w h size defers hm Rm hsn hs hrd hRk k
    have C : Ctx D w0 K0 s.E s.M β F I a.eval w := ⟨Rm, hs, fun _ => rfl, fun _ => rfl, hK⟩
    have hR := hRk w (C.sees hrd)
    unfold runDT at h
    split at h
    · rename_i hn
      simp only [Option.some.injEq] at h; subst h
      exact ⟨hR, nxtT_fin hn, (k s (by simp)).2 a w ⟨size, defers, hm, β, F, I, Rm, hsn, hs⟩⟩
    · cases h
  | succ fuel ih =>
    intro L rd s l Rk β F I a w h size defers hm Rm hsn hs hrd hRk k
    have C : Ctx D w0 K0 s.E s.M β F I a.eval w := ⟨Rm, hs, fun _ => rfl, fun _ => rfl, hK⟩
    have hR := hRk w (C.sees hrd)
    unfold runDT at h
    split at h
    · rename_i hn
      simp only [Option.some.injEq] at h; subst h
      have hn := nxtT_fin hn
      exact ⟨hR, fun _ => (k s (by simp)).2 a w ⟨size, defers, hm, β, F, I, Rm, hsn, hs⟩, fun i hi => by rw [hn] at hi; cases hi⟩
    · rename_i i hn
      obtain ⟨hir, o', ho', hfree⟩ := nxtT_look hn
      split at h
      · rename_i rd1 s1 hl
        obtain ⟨s', hs', hvc⟩ := runDT_vc _ _ _ _ h
        have hv1 := hvc (k s' hs').1
        obtain ⟨vc, E, M, tc, mv⟩ := s
        dsimp only at hm Rm hsn hs hrd hRk C
        unfold lookD at hl
        dsimp only at hl
        split at hl
        · rename_i o ho
          cases hd : dstB sz o.dst with
          | false => simp [hd] at hl
          | true =>
            simp only [hd, cond_true] at hl
            have hfr := fun j oj hj hne hun hno => Region.free_spec ho hfree j oj hj hne hun hno
            split at hl
            · rename_i hw
              have hwant := wantA_ok (ops := ops) size hs hw
              split at hl
              · rename_i vc' av _ _ _ rd' hst
                simp only [Option.some.injEq, Prod.mk.injEq] at hl; obtain ⟨rfl, rfl⟩ := hl
                have hdo := step_ok (P := P) hT hcl (d := o.dst) (ty := o.type) (pos := o.pos) (aft := o.after) (gd := o.guard) hst
                obtain ⟨hpur, rfl, -, hlt⟩ := hdo
                have hout := (AllP.app.1 hv1).2
                obtain ⟨v, hrel, hval⟩ := hpur C hout
                obtain ⟨e1, e2, e3⟩ := RE.put (E := E) size defers hs hd hrel
                have hstep := ih (L.setIfInBounds i true) _ _ (fun w => Rk w ∧ Sees K0 I F rd' w) β F I (a.put o.dst v) w h e1 e2 hm Rm hsn e3 (fun u hu => by rcases List.mem_append.1 hu with e | e; exact hlt u e; exact hrd u e)
                  (fun w hw => ⟨hRk w ⟨hw.1, fun u hu => hw.2 u (List.mem_append_right _ hu)⟩, hw.1, fun u hu => hw.2 u (List.mem_append_left _ hu)⟩) k
                exact wpAnyR_weak (fun w hw => hw.1) (wpAnyR_firstG ho (Region.noSelect_spec hsel) (hQ o.dst v) _ L a w hfr hir (Or.inl ⟨hwant, fun w' hw' => hval w' hw'.2⟩) hstep)
              · cases hl
            · rename_i hw
              simp only [Option.some.injEq, Prod.mk.injEq] at hl; obtain ⟨rfl, rfl⟩ := hl
              have hwant := wantA_ok (ops := ops) size hs hw
              obtain ⟨e1, e2, e3⟩ := RE.put (E := E) size defers hs hd (.d (.v undef))
              have hstep := ih (L.setIfInBounds i true) _ _ Rk β F I (a.put o.dst undef) w h e1 e2 hm Rm hsn e3 hrd hRk k
              exact wpAnyR_firstG ho (Region.noSelect_spec hsel) (hQ o.dst undef) _ L a w hfr hir (Or.inr ⟨hwant, rfl⟩) hstep
            · cases hl
        · cases hl
      · cases h
    · rename_i hn _
      obtain ⟨j0, r0, hr0⟩ := ready_some (ops := ops) (nl := nl) (L := L) (by intro hf; exact hn hf)
      refine ⟨hR, fun h0 => (by rw [hr0] at h0; cases h0), fun j hj => ?_⟩
      obtain ⟨l', h1, h2⟩ := allJ_at h j hj
      split at h1
      · rename_i s1 ho1
        obtain ⟨s', hs', hvc⟩ := runDT_vc _ _ _ _ h1
        have hv1 := hvc (k s' (h2 s' hs')).1
        obtain ⟨vc, E, M, tc, mv⟩ := s
        dsimp only at hm Rm hsn hs hrd hRk C
        unfold oneD at ho1
        dsimp only at ho1
        unfold wpOp
        split at ho1
        · rename_i o ho
          simp only [ho]
          cases hd : dstB sz o.dst with
          | false => simp [hd] at ho1
          | true =>
            simp only [hd, cond_true] at ho1
            split at ho1
            · rename_i hw
              have hwant := wantA_ok (ops := ops) size hs hw
              simp only [hwant, if_true]
              split at ho1
              · rename_i out hst
                cases hc : (away rd out.tc && Nat.ble M.length out.M.length) with
                | false => simp [hc] at ho1
                | true =>
                  simp only [hc, cond_true, Option.some.injEq] at ho1; subst ho1
                  simp only [Bool.and_eq_true] at hc
                  have hlen := Nat.le_of_ble_eq_true hc.2
                  have hout := (AllP.app.1 hv1).2
                  have hdo := (step_ok (P := P) hT hcl (d := o.dst) (ty := o.type) (pos := o.pos) (aft := o.after) (gd := o.guard) hst).eff C hout
                  refine Or.inl (OpY.wp hdo ?_)
                  rintro v w' ⟨β', F', I', R', e, hI, hF, hr'⟩
                  have hk := keepA_ok (ρ := a.eval) e hs
                  obtain ⟨e1, e2, e3⟩ := RE.put size defers (fun t v hx => (hk t v hx).mono (fun w hw => ⟨hw.1, hI.holds w hw.2⟩) (Ext.refl _)) hd hr'
                  refine ih (L.setIfInBounds j true) _ _ Rk β' F' I' (a.put o.dst v) w' h1 e1 e2 (Nat.le_trans hm hlen) R' (hsn.step hm e hI hF) e3 (fun u hu => Nat.lt_of_lt_of_le (hrd u hu) hlen) (fun w hw => hRk w ⟨⟨hw.1.1, hI.holds w hw.1.2⟩, fun u hu => ?_⟩) fun s' hs' => k s' (h2 s' hs')
                  have hnt : u ∉ out.tc := by
                    have := List.all_eq_true.1 hc.1 u hu
                    simpa using this
                  rw [← hF u (hrd u hu) hnt]; exact hw.2 u hu
              · cases ho1
            · rename_i hw
              simp only [Option.some.injEq] at ho1; subst ho1
              have hwant := wantA_ok (ops := ops) size hs hw
              simp only [hwant, Bool.false_eq_true, if_false]
              obtain ⟨e1, e2, e3⟩ := RE.put (E := E) size defers hs hd (.d (.v undef))
              exact ih (L.setIfInBounds j true) _ _ Rk β F I (a.put o.dst undef) w h1 e1 e2 hm Rm hsn e3 hrd hRk fun s' hs' => k s' (h2 s' hs')
            · cases ho1
        · cases ho1
      · cases h1
theorem regT (hT : tabB P T = true) (hcl : ClOk P cl) (hm : P.follows .mixedOrders = true) (hK : ∀ w, Kp D w0 w → K0 w) (hQ : ∀ d v c a w, Q (.panic c) (Act.put a d v) w → Q (.panic c) a w) {b : Base} {s : RS} (R : REb D w0 K0 sz b s a w) (oc : List (Nat × Orc)) {nl : List Nat} {id : Nat} {l : List RS} (hsel : Region.noSelect ops = true)
    (h : runDT P T cl sz ops oc nl ops.size (Array.replicate ops.size false) [] s = some l) (k : ∀ s' ∈ l, AllP s'.vc ∧ ∀ a' w', REb D w0 K0 sz b s' a' w' → Q .normal a' w') : (Code.region id ops true).wp P Q a w := by
  refine wp_region_any hm ?_
  obtain ⟨size, defers, hb, β, F, I, Rm, hsn, hs⟩ := R
  have hg := Gr.drew w
  exact (runDT_ok hT hcl hK hsel hQ ops.size _ [] s (fun _ => True) β F I a w.drew h size defers hb (Rm.gr hg) hsn hs (by simp) (fun _ _ => trivial) k).to
def leavesA (ts : List Nat) : List (List Nat) → List RS → Option (List Prop × List (List (Nat × AV) × List Blk))
  | [], [] => some ([], [])
  | l :: ls, s :: r => bif nodupB l then (match renM l s.M l, renE l s.E ts, leavesA ts ls r with
    | some M', some E', some (A, r') => some (AllP s.vc :: A, (E', M') :: r')
    | _, _, _ => none) else none
  | _, _ => none
theorem leavesA_at {ts : List Nat} {E' : List (Nat × AV)} {M' : List Blk} : ∀ {ls : List (List Nat)} {r : List RS} {A : List Prop} {o : List (List (Nat × AV) × List Blk)}, leavesA ts ls r = some (A, o) → (∀ x ∈ o, x = (E', M')) → AllP A → ∀ s ∈ r, AllP s.vc ∧ ∃ l, nodupB l = true ∧ renM l s.M l = some M' ∧ renE l s.E ts = some E'
  | [], [], _, _, _, _, _, s, hs => by cases hs
  | [], _ :: _, _, _, h, _, _, _, _ => by simp [leavesA] at h
  | _ :: _, [], _, _, h, _, _, _, _ => by simp [leavesA] at h
  | l :: ls, s :: r, A, o, h, ho, hA, s', hs' => by
    unfold leavesA at h
    cases hn : nodupB l with
    | false => simp [hn] at h
    | true =>
      simp only [hn, cond_true] at h
      split at h
      · rename_i M1 E1 A1 r1 h1 h2 h3
        simp only [Option.some.injEq, Prod.mk.injEq] at h; obtain ⟨rfl, rfl⟩ := h
        have e := ho _ List.mem_cons_self
        simp only [Prod.mk.injEq] at e; obtain ⟨rfl, rfl⟩ := e
        rcases List.mem_cons.1 hs' with rfl | hs'
        · exact ⟨hA.1, l, hn, h1, h2⟩
        · exact leavesA_at h3 (fun x hx => ho x (List.mem_cons_of_mem _ hx)) hA.2 s' hs'
      · cases h
def outDraw (P : Program) (T : Tab) (sz : Nat) (tb : Tbl) (n : Nat) (nl : List Nat) (lls : List (List Nat)) (ts : List Nat) (todo : List Item) (E : List (Nat × AV)) (M : List Blk) : Option (List Item × Prop × List (List (Nat × AV) × List Blk)) :=
  match runC P T (walk P T 3) sz tb n todo ⟨[], E, M, [], []⟩ with
  | some (.code (.region id ops true) :: k, s) => bif Region.noSelect ops then (match runDT P T (walk P T 3) sz ops (getT tb id) nl ops.size (Array.replicate ops.size false) [] s with
    | some Ls => (match leavesA ts lls Ls with | some (A, o) => some (k, AllP A, o) | none => none)
    | none => none) else none
  | _ => none
theorem toDraw (hT : tabB P T = true) (hm : P.follows .mixedOrders = true) (hK : ∀ w, Kp D w0 w → K0 w) (tb : Tbl) (n m : Nat) (nl : List Nat) (lls : List (List Nat)) (ts : List Nat) {A : Prop} {E' : List (Nat × AV)} {M' : List Blk} (r : RE' D w0 K0 sz E M a w)
    (h : outDraw P T sz tb n nl lls ts todo E M = some (todo', A, List.replicate m (E', M'))) (hA : A) (k : ∀ a' w', RE' D w0 K0 sz E' M' a' w' → Goes P f todo' R a' w') : Goes P f todo R a w := by
  unfold outDraw at h
  split at h
  · rename_i id ops k0 s hr
    cases hs : Region.noSelect ops with
    | false => simp [hs] at h
    | true =>
      simp only [hs, cond_true] at h
      split at h
      · rename_i Ls hL
        split at h
        · rename_i A1 o ho
          simp only [Option.some.injEq, Prod.mk.injEq] at h; obtain ⟨rfl, rfl, rfl⟩ := h
          have hl := leavesA_at ho (fun x hx => List.eq_of_mem_replicate hx) hA
          obtain ⟨s1, h1, h2⟩ := runDT_vc _ _ _ _ hL
          obtain ⟨b, rb⟩ := r.b []
          refine segb hT (walk_ok hT hm 3) hm hK n hr rb (h2 (hl s1 h1).1) fun a1 w1 r1 => Goes.code ?_
          refine regT hT (walk_ok hT hm 3) hm hK (by rintro d v c a w ⟨h, -⟩; cases h) r1 _ hs hL fun s' hs' => ⟨(hl s' hs').1, fun a' w' r' => ⟨rfl, ?_⟩⟩
          obtain ⟨-, l, g1, g2, g3⟩ := hl s' hs'
          exact k a' w' (r'.re.ren g1 g2 g3)
        · cases h
      · cases h
  · cases h
def outAt (P : Program) (T : Tab) (sz : Nat) (tb : Tbl) (n : Nat) (l ts : List Nat) (todo : List Item) (E : List (Nat × AV)) (M : List Blk) : Option (List Item × Prop × List (Nat × AV) × List Blk) :=
  bif nodupB l then (match runC P T (walk P T 3) sz tb n todo ⟨[], E, M, [], []⟩ with
  | some (t, s) => anewA l ts t s
  | none => none) else none
theorem toAt (hT : tabB P T = true) (hm : P.follows .mixedOrders = true) (hK : ∀ w, Kp D w0 w → K0 w) (tb : Tbl) (n : Nat) (l ts : List Nat) {A : Prop} {E' : List (Nat × AV)} {M' : List Blk} (r : RE' D w0 K0 sz E M a w)
    (h : outAt P T sz tb n l ts todo E M = some (todo', A, E', M')) (hA : A) (k : ∀ a' w', RE' D w0 K0 sz E' M' a' w' → Goes P f todo' R a' w') : Goes P f todo R a w := by
  unfold outAt at h
  cases hn : nodupB l with
  | false => simp [hn] at h
  | true =>
    simp only [hn, cond_true] at h
    split at h
    · rename_i t s hr
      unfold anewA at h
      split at h
      · rename_i M1 E1 hM hE
        simp only [Option.some.injEq, Prod.mk.injEq] at h
        obtain ⟨rfl, rfl, rfl, rfl⟩ := h
        exact seg hT (walk_ok hT hm 3) hm hK n hr r hA fun a' w' r' => k a' w' (r'.ren hn hM hE)
      · cases h
    · cases h
def aftR (id : Nat) : Code → List Item → List (List Item)
  | .seq x y, k => aftR id x (.code y :: k) ++ aftR id y k
  | .cond _ x y, k => aftR id x k ++ aftR id y k
  | .block i c, k => aftR id c (.inBlock i :: k)
  | .loop c, k => aftR id c (.inLoop c :: k)
  | .region i _ _, k => bif i.beq id then [k] else []
  | _, _ => []
def aft (fn : Func) (id : Nat) : List Item :=
  match fn.body with
  | some c => (match aftR id c [] with | t :: _ => t | [] => [])
  | none => []
end Go.Proofs.Ytoijfmfkkmbabaa
namespace Go.Proofs.Ytoijfmfkkmbabaa
open Go.RowKit
def slotsO (l : List Slot) : List (List DV) := l.map fun s => [.v (.int .u64 (s.n : Int)), .em 5 1 (bytesR s.body)]
def streamsO (l : List (List Slot)) : List (List DV) := l.map fun s => [.em 69 2 (slotsO s)]
def View.own (v : View) : List DV := [.v (.int .u64 (v.id.round : Int)), .v (.int .i64 v.id.server.node), .v (.int .u64 (v.id.server.inc : Int)), .em 24 2 (procs v.members), .em 22 1 (nums v.starts)]
def Flow.own (f : Flow) : List DV := [.v (.int .u64 (f.view.id.round : Int)), .v (.int .i64 f.view.id.server.node), .v (.int .u64 (f.view.id.server.inc : Int)), .em 24 2 (procs f.view.members), .em 22 1 (nums f.view.starts), .em 67 1 (streamsO f.streams), .em 22 1 (nums f.handed)]
@[simp] theorem slotsO_len (l : List Slot) : (slotsO l).length = l.length := by simp [slotsO]
@[simp] theorem streamsO_len (l : List (List Slot)) : (streamsO l).length = l.length := by simp [streamsO]
theorem bytesR_len (l : List UInt8) : (bytesR l).length = l.length := by simp [bytesR]
end Go.Proofs.Ytoijfmfkkmbabaa
namespace Go.Proofs.Ytoijfmfkkmbabaa
open Go.RowKit
variable {P : Program} {f : FuncId}
def Le (x x' : DV) : Prop := ∀ (K : World → Prop) (y : Value) (H : Frag), DRel K x y H → DRel K x' y H
theorem Le.refl (x : DV) : Le x x := fun _ _ _ h => h
theorem Le.trans {x y z : DV} (h : Le x y) (k : Le y z) : Le x z := fun K v H r => k K v H (h K v H r)
theorem Le.nilEm (T k : Nat) : Le (.v (.slice none 0 0)) (.em T k []) := by
  intro K y H h
  cases h
  have : DRel K (.em T k []) (.slice none 0 0) ([] ++ layF ([] : List (List DV)).length k fun _ _ => []) := .em (fun _ => []) (fun _ _ => []) (by simp) (by simpa [lay] using SlRep.nil T k none) (by simp)
  simpa [layF] using this
theorem Le.nilRo (k : Nat) : Le (.v (.slice none 0 0)) (.ro k []) := by
  intro K y H h
  cases h
  exact .ro (fun _ => []) (by simp) ⟨none, 0, rfl⟩ (fun w _ => by simpa [lay] using (SlRep.nil 0 k none).src (Holds.nil w)) (by simp)
theorem Le.ag {l l' : List DV} (hl : l.length = l'.length) (h : ∀ (j : Nat) c c', l[j]? = some c → l'[j]? = some c' → Le c c') : Le (.ag l) (.ag l') := by
  intro K y H r
  cases r with
  | ag ys F hl2 hr =>
    rw [hl]
    refine .ag ys F (by omega) fun j c z h1 h2 => ?_
    have hj : j < l.length := by rw [hl]; exact (List.getElem?_eq_some_iff.1 h1).1
    exact h j _ c (List.getElem?_eq_getElem hj) h1 K z _ (hr j _ z (List.getElem?_eq_getElem hj) h2)
theorem Le.tu {l l' : List DV} (hl : l.length = l'.length) (h : ∀ (j : Nat) c c', l[j]? = some c → l'[j]? = some c' → Le c c') : Le (.tu l) (.tu l') := by
  intro K y H r
  cases r with
  | tu ys F hl2 hr =>
    rw [hl]
    refine .tu ys F (by omega) fun j c z h1 h2 => ?_
    have hj : j < l.length := by rw [hl]; exact (List.getElem?_eq_some_iff.1 h1).1
    exact h j _ c (List.getElem?_eq_getElem hj) h1 K z _ (hr j _ z (List.getElem?_eq_getElem hj) h2)
theorem Le.em {T k : Nat} {rows rows' : List (List DV)} (hl : rows.length = rows'.length) (h : ∀ (i : Nat) r r', rows[i]? = some r → rows'[i]? = some r' → r.length = r'.length ∧ ∀ (j : Nat) c c', r[j]? = some c → r'[j]? = some c' → Le c c') : Le (.em T k rows) (.em T k rows') := by
  intro K y H r
  cases r with
  | em X F hl2 hs hr =>
    rw [hl] at hs ⊢
    refine .em X F (fun i r' h1 => ?_) hs fun i r' j c x h1 h2 h3 => ?_
    · have hi : i < rows.length := by rw [hl]; exact (List.getElem?_eq_some_iff.1 h1).1
      have e := List.getElem?_eq_getElem hi
      have := hl2 i _ e; have := (h i _ r' e h1).1; omega
    · have hi : i < rows.length := by rw [hl]; exact (List.getElem?_eq_some_iff.1 h1).1
      have e := List.getElem?_eq_getElem hi
      obtain ⟨g1, g2⟩ := h i _ r' e h1
      have hj : j < rows[i].length := by rw [g1]; exact (List.getElem?_eq_some_iff.1 h2).1
      have e2 := List.getElem?_eq_getElem hj
      exact g2 j _ c e2 h2 K x _ (hr i _ j _ x e e2 h3)
theorem Con.le {args : List AV} {x x' : DV} (h : Con P f args x) (e : Le x x') : Con P f args x' := by
  refine ⟨h.1, fun w K ys hK hl hr => (h.2 w K ys hK hl hr).mono ?_⟩
  rintro ed w' ⟨v, rfl, g, H, ⟨Ho, Hi, rfl, hd⟩, n⟩
  exact ⟨_, rfl, g, _, ⟨Ho, Hi, rfl, e _ _ _ hd⟩, n⟩
inductive LeL : List DV → List DV → Prop where
  | nil : LeL [] []
  | cons {x x' : DV} {l l' : List DV} (h : Le x x') (t : LeL l l') : LeL (x :: l) (x' :: l')
theorem LeL.ok {l l' : List DV} (h : LeL l l') : l.length = l'.length ∧ ∀ (j : Nat) c c', l[j]? = some c → l'[j]? = some c' → Le c c' := by
  induction h with
  | nil => simp
  | cons h t ih =>
    refine ⟨by simp [ih.1], fun j c c' h1 h2 => ?_⟩
    cases j with
    | zero => simp at h1 h2; subst h1 h2; exact h
    | succ j => exact ih.2 j c c' (by simpa using h1) (by simpa using h2)
theorem LeL.ag {l l' : List DV} (h : LeL l l') : Le (.ag l) (.ag l') := Le.ag h.ok.1 h.ok.2
theorem LeL.tu {l l' : List DV} (h : LeL l l') : Le (.tu l) (.tu l') := Le.tu h.ok.1 h.ok.2
theorem Le.rep {T k : Nat} {r r' : List DV} (n : Nat) (h : LeL r r') : Le (.em T k (List.replicate n r)) (.em T k (List.replicate n r')) := by
  refine Le.em (by simp) fun i a a' h1 h2 => ?_
  rw [List.getElem?_replicate] at h1 h2
  split at h1
  · rw [if_pos (by assumption), Option.some.injEq] at h2
    rw [Option.some.injEq] at h1
    rw [← h1, ← h2]; exact h.ok
  · cases h1
end Go.Proofs.Ytoijfmfkkmbabaa
namespace Go.Proofs.Ytoijfmfkkmbabaa
open Go.RowKit
def Flow.zero : Flow := ⟨⟨⟨0, ⟨0, 0⟩⟩, [], []⟩, [], []⟩
noncomputable def Flow.owned (f : Flow) : Flow := if f.may = true then f else Flow.zero
theorem Flow.owned_yes {f : Flow} (h : f.may = true) : f.owned = f := by unfold Flow.owned; rw [if_pos h]
theorem Flow.owned_no {f : Flow} (h : f.may = false) : f.owned = Flow.zero := by unfold Flow.owned; rw [if_neg (by rw [h]; simp)]
def Flow.fresh (v : View) : Flow := ⟨v, List.replicate v.members.length [], List.replicate v.members.length 0⟩
theorem boundS.nil : boundS [] := ⟨by simp, by simp⟩
theorem Flow.owned_bounded {f : Flow} (h : f.bounded) : f.owned.bounded := by
  cases hm : f.may with
  | true => rw [Flow.owned_yes hm]; exact h
  | false =>
    rw [Flow.owned_no hm]
    exact ⟨⟨by simp [Flow.zero], by simp [Flow.zero]⟩, by simp [Flow.zero], by simp [Flow.zero], by simp [Flow.zero]⟩
end Go.Proofs.Ytoijfmfkkmbabaa
namespace Go.Proofs.Ytoijfmfkkmbabaa
open Go.RowKit
variable {P : Program} {T : Tab} {f : FuncId} {a : Act} {w : World} {D : List Nat} {w0 : World} {K0 : World → Prop} {E E1 : List (Nat × AV)} {M M1 M2 : List Blk} {β : Beta} {F : Nat → Frag} {I X : Frag} {sz : Nat} {b : Base}
theorem RMx.stay {J Y : Frag} (R : RMx D w0 K0 M β F I (J ++ Y) w) : RMx D w0 K0 M β F (J ++ I) Y w where
  len := R.len
  blk := fun u bl hb => (R.blk u bl hb).mono (fun w hw => ⟨hw.1, (Holds.app.1 hw.2).2⟩) (Ext.refl _)
  st := R.st.perm (List.Perm.append_left _ (by rw [← List.append_assoc]; exact List.Perm.append_right _ List.perm_append_comm))
theorem layF_none (n k : Nat) : layF n k (fun _ _ => ([] : Frag)) = [] := by simp [layF]
theorem layF_holds {n k : Nat} {G : Nat → Nat → Frag} {w : World} (h : Holds w (layF n k G)) {i j : Nat} (hi : i < n) (hj : j < k) : Holds w (G i j) := by
  intro x hx
  exact h x (List.mem_flatMap.2 ⟨i, List.mem_range.2 hi, List.mem_flatMap.2 ⟨j, List.mem_range.2 hj, hx⟩⟩)
theorem RM.freeze (R : RM D w0 K0 M β F I w) {u T k : Nat} {rows : List (List DV)} (hu : M[u]? = some (.rw T k rows)) : ∃ F' I', RM D w0 K0 (M.set u (.rw T k (frozR rows))) β F' I' w ∧ Grows I I' := by
  have hb := R.blk u _ hu
  have hlt := (List.getElem?_eq_some_iff.1 hu).1
  have g := R.x.give hu
  generalize F u = Fu at hb g
  cases hb with
  | rw hb X G hl hs hr =>
    rename_i H0
    have g2 := (g.perm (Y := layF rows.length k G ++ (H0 ++ [])) (by rw [List.nil_append, List.append_nil]; exact List.perm_append_comm)).stay
    have hrow : ∀ (i : Nat) r, (frozR rows)[i]? = some r → ∃ r0, rows[i]? = some r0 ∧ r = r0.map froz := by
      intro i r h; rw [frozR_map, List.getElem?_map, Option.map_eq_some_iff] at h
      obtain ⟨r0, h1, h2⟩ := h; exact ⟨r0, h1, h2.symm⟩
    have hlen : (frozR rows).length = rows.length := by rw [frozR_map, List.length_map]
    have hB : BRel (fun w => K0 w ∧ Holds w (layF rows.length k G ++ I)) β u (.rw T k (frozR rows)) (H0 ++ layF (frozR rows).length k fun _ _ => []) := by
      refine .rw hb X (fun _ _ => []) (fun i r h => ?_) (by rw [hlen]; exact hs) fun i r j c x h1 h2 h3 => ?_
      · obtain ⟨r0, h1, rfl⟩ := hrow i r h
        rw [List.length_map]; exact hl i r0 h1
      · obtain ⟨r0, g1, rfl⟩ := hrow i r h1
        rw [List.getElem?_map, Option.map_eq_some_iff] at h2
        obtain ⟨c0, g2, rfl⟩ := h2
        refine froz_ok (hr i r0 j c0 x g1 g2 h3) fun w hw => ⟨⟨hw.1, (Holds.app.1 hw.2).2⟩, layF_holds (Holds.app.1 hw.2).1 (List.getElem?_eq_some_iff.1 g1).1 ?_⟩
        rw [← (hl i r0 g1).1]; exact (List.getElem?_eq_some_iff.1 g2).1
    rw [layF_none, List.append_nil] at hB
    have g3 := g2.put (by rw [List.length_set]; exact hlt) (by simp [updF]) hB
    rw [List.set_set] at g3
    exact ⟨_, _, g3.nil rfl, _, rfl⟩
def frzM : List Nat → List Blk → Option (List Blk)
  | [], M => some M
  | u :: r, M => match M[u]? with
    | some (.rw T k rows) => frzM r (M.set u (.rw T k (frozR rows)))
    | _ => none
theorem frz_ok : ∀ {us : List Nat} {M : List Blk} {F : Nat → Frag} {I : Frag}, frzM us M = some M1 → RM D w0 K0 M β F I w → ∃ F' I', RM D w0 K0 M1 β F' I' w ∧ Grows I I'
  | [], M, F, I, h, R => by simp only [frzM, Option.some.injEq] at h; subst h; exact ⟨F, I, R, Grows.refl I⟩
  | u :: r, M, F, I, h, R => by
    unfold frzM at h
    split at h
    · rename_i hu
      obtain ⟨F1, I1, R1, g1⟩ := R.freeze hu
      obtain ⟨F2, I2, R2, g2⟩ := frz_ok h R1
      exact ⟨F2, I2, R2, g1.trans g2⟩
    · cases h
theorem RE'.freeze (r : RE' D w0 K0 sz E M a w) (us : List Nat) (h : frzM us M = some M1) (e : M1 = M2) : RE' D w0 K0 sz E M2 a w := by
  subst e
  obtain ⟨h1, h2, β, F, I, R, hs⟩ := r
  obtain ⟨F', I', R', g⟩ := frz_ok h R
  exact ⟨h1, h2, β, F', I', R', fun t v hv => (hs t v hv).mono (fun w hw => ⟨hw.1, g.holds w hw.2⟩) (Ext.refl _)⟩
theorem RM.stay1 (R : RM D w0 K0 M β F I w) {v n T k : Nat} {rows : List (List DV)} (hv : M[v]? = some (.rw T k rows)) (hn : n = rows.length) : ∃ F' I', RM D w0 K0 (M.set v .dead) β F' I' w ∧ Grows I I' ∧ ∀ y, ARel (fun w => K0 w ∧ Holds w I) β (.sl v n) y → ARel (fun w => K0 w ∧ Holds w I') β (.d (.ro k (frozR rows))) y := by
  have R1 := R.x.give hv
  rw [List.nil_append] at R1
  have hB := R.blk v _ hv
  refine ⟨updF F v [], F v ++ I, ⟨R1.len, fun u bl hu => (R1.blk u bl hu).mono (fun w hw => ⟨hw.1, (Holds.app.1 hw.2).2⟩) (Ext.refl _), R1.st.perm (List.Perm.append_left _ List.perm_append_comm)⟩, ⟨F v, rfl⟩, fun y r => ?_⟩
  generalize F v = Fv at hB ⊢
  cases r with
  | sl hb =>
    cases hB with
    | rw hb' X G hl hs hr =>
      rw [hb] at hb'; cases hb'
      have hd := DRel.em (K := fun w => K0 w ∧ Holds w I) X G hl hs hr
      have := froz_ok (K' := fun w => K0 w ∧ Holds w (_ ++ I)) hd fun w hw => ⟨⟨hw.1, (Holds.app.1 hw.2).2⟩, (Holds.app.1 hw.2).1⟩
      rw [froz] at this
      rw [hn]
      exact .d this
def stS : List Nat → List (Nat × AV) → List Blk → Option (List Prop × List (Nat × AV) × List Blk)
  | [], E, M => some ([], E, M)
  | t :: r, E, M => match lookA E t with
    | some (.sl v n) => (match M[v]? with
      | some (.rw _ k rows) => (match stS r (repA E t (.d (.ro k (frozR rows)))) (M.set v .dead) with | some (p, E', M') => some ((n = rows.length) :: p, E', M') | none => none)
      | _ => none)
    | _ => none
def stC : List (Nat × Nat) → List Blk → Option (List Prop × List Blk)
  | [], M => some ([], M)
  | (u, o) :: r, M => match M[u]? with
    | some (.bx Tb cells) => (match cells[o]? with
      | some (.sl v n) => (match M[v]? with
        | some (.rw _ k rows) => (match stC r ((M.set v .dead).set u (.bx Tb (cells.set o (.d (.ro k (frozR rows)))))) with | some (p, M') => some ((n = rows.length) :: p, M') | none => none)
        | _ => none)
      | _ => none)
    | _ => none
theorem stS_ok {ev : Nat → Value} : ∀ {ls : List Nat} {E : List (Nat × AV)} {M : List Blk} {F : Nat → Frag} {I : Frag} {p : List Prop}, stS ls E M = some (p, E1, M1) → AllP p → RM D w0 K0 M β F I w → (∀ t v, lookA E t = some v → ARel (fun w => K0 w ∧ Holds w I) β v (ev t)) →
    ∃ F' I', RM D w0 K0 M1 β F' I' w ∧ ∀ t v, lookA E1 t = some v → ARel (fun w => K0 w ∧ Holds w I') β v (ev t)
  | [], E, M, F, I, p, h, _, R, hs => by
    simp only [stS, Option.some.injEq, Prod.mk.injEq] at h; obtain ⟨-, rfl, rfl⟩ := h
    exact ⟨F, I, R, hs⟩
  | t :: r, E, M, F, I, p, h, hp, R, hs => by
    unfold stS at h
    split at h
    · rename_i v n ht
      split at h
      · rename_i T k rows hv
        split at h
        · rename_i p' E' M' hr
          simp only [Option.some.injEq, Prod.mk.injEq] at h; obtain ⟨rfl, e1, e2⟩ := h
          rw [e1, e2] at hr
          obtain ⟨F2, I2, R2, g, hA⟩ := R.stay1 hv hp.1
          refine stS_ok (ev := ev) hr hp.2 R2 fun s x hx => ?_
          rcases repA_at hx with ⟨rfl, rfl, -⟩ | ⟨-, h2⟩
          · exact hA _ (hs _ _ ht)
          · exact (hs s x h2).mono (fun w hw => ⟨hw.1, g.holds w hw.2⟩) (Ext.refl _)
        · cases h
      · cases h
    · cases h
theorem stC_ok : ∀ {lc : List (Nat × Nat)} {M : List Blk} {F : Nat → Frag} {I : Frag} {p : List Prop}, stC lc M = some (p, M1) → AllP p → RM D w0 K0 M β F I w → ∃ F' I', RM D w0 K0 M1 β F' I' w ∧ Grows I I'
  | [], M, F, I, p, h, _, R => by
    simp only [stC, Option.some.injEq, Prod.mk.injEq] at h; obtain ⟨-, rfl⟩ := h
    exact ⟨F, I, R, Grows.refl I⟩
  | (u, o) :: r, M, F, I, p, h, hp, R => by
    unfold stC at h
    split at h
    · rename_i Tb cells hu
      split at h
      · rename_i v n ho
        split at h
        · rename_i T k rows hv
          split at h
          · rename_i p' M' hr
            simp only [Option.some.injEq, Prod.mk.injEq] at h; obtain ⟨rfl, e1⟩ := h
            rw [e1] at hr
            have huv : v ≠ u := fun e => by subst e; rw [hu] at hv; cases hv
            obtain ⟨F2, I2, R2, g, hA⟩ := R.stay1 hv hp.1
            have hB := R.blk u _ hu
            obtain ⟨hlt, -⟩ := List.getElem?_eq_some_iff.1 hu
            have hu2 : (M.set v .dead)[u]? = some (.bx Tb cells) := by rw [List.getElem?_set, if_neg huv]; exact hu
            have hFu := R2.blk u _ hu2
            have hnew : BRel (fun w => K0 w ∧ Holds w I2) β u (.bx Tb (cells.set o (.d (.ro k (frozR rows))))) (F2 u) := by
              have hst : ∀ {G : Frag}, BRel (fun w => K0 w ∧ Holds w I2) β u (.bx Tb cells) G → G = F2 u → BRel (fun w => K0 w ∧ Holds w I) β u (.bx Tb cells) (F u) → F2 u = F u → BRel (fun w => K0 w ∧ Holds w I2) β u (.bx Tb (cells.set o (.d (.ro k (frozR rows))))) (F2 u) := by
                intro G _ _ h3 h4
                rw [h4]
                generalize F u = Fu at h3 ⊢
                cases h3 with
                | bx hb ys hl hr2 =>
                  refine .bx hb ys (by rw [List.length_set]; exact hl) fun j c y h1 h2 => ?_
                  rw [List.getElem?_set] at h1
                  split at h1
                  · rename_i hj; subst hj
                    split at h1
                    · simp only [Option.some.injEq] at h1; subst h1
                      exact hA _ (hr2 _ _ _ ho h2)
                    · cases h1
                  · exact (hr2 j c y h1 h2).mono (fun w hw => ⟨hw.1, g.holds w hw.2⟩) (Ext.refl _)
              have hF2 : F2 u = F u := by
                generalize hq : F2 u = q at hFu
                generalize hq0 : F u = q0 at hB
                cases hFu with
                | bx hb ys hl hr2 =>
                  cases hB with
                  | bx hb' ys' hl' hr2' =>
                    rw [hb] at hb'; cases hb'
                    have h1 : Holds w (F2 u) := R2.holdsF hu2
                    have h2 : Holds w (F u) := R.holdsF hu
                    rw [hq] at h1; rw [hq0] at h2
                    have e1 := h1.one
                    have e2 := h2.one
                    rw [e1] at e2
                    simp only [Option.some.injEq, Obj.cells.injEq] at e2
                    rw [e2.1]
              exact hst hFu rfl hB hF2
            have R3 : RM D w0 K0 ((M.set v .dead).set u (.bx Tb (cells.set o (.d (.ro k (frozR rows)))))) β F2 I2 w := by
              refine ⟨by rw [List.length_set]; exact R2.len, fun x bl hx => ?_, by rw [List.length_set]; exact R2.st⟩
              rw [List.getElem?_set] at hx
              split at hx
              · rename_i e; subst e
                split at hx
                · simp only [Option.some.injEq] at hx; subst hx; exact hnew
                · cases hx
              · exact R2.blk x bl hx
            obtain ⟨F4, I4, R4, g4⟩ := stC_ok hr hp.2 R3
            exact ⟨F4, I4, R4, g.trans g4⟩
          · cases h
        · cases h
      · cases h
    · cases h
theorem RE'.stay {E2 : List (Nat × AV)} {M3 : List Blk} {p1 p2 : List Prop} (r : RE' D w0 K0 sz E M a w) (ls : List Nat) (lc : List (Nat × Nat)) (h : stS ls E M = some (p1, E1, M1)) (h2 : stC lc M1 = some (p2, M2)) (q1 : AllP p1) (q2 : AllP p2) (e : E1 = E2) (e2 : M2 = M3) : RE' D w0 K0 sz E2 M3 a w := by
  subst e e2
  obtain ⟨g1, g2, β, F, I, R, hs⟩ := r
  obtain ⟨F1, I1, R1, s1⟩ := stS_ok (ev := fun t => a.eval (.tmp t)) h q1 R hs
  obtain ⟨F2, I2, R2, g⟩ := stC_ok h2 q2 R1
  exact ⟨g1, g2, β, F2, I2, R2, fun t v hv => (s1 t v hv).mono (fun w hw => ⟨hw.1, g.holds w hw.2⟩) (Ext.refl _)⟩
def dAll : List AV → Option (List DV)
  | [] => some []
  | .d x :: r => (match dAll r with | some l => some (x :: l) | none => none)
  | _ => none
theorem dAll_eq : ∀ {l : List AV} {ds : List DV}, dAll l = some ds → l = ds.map .d
  | [], ds, h => by simp only [dAll, Option.some.injEq] at h; subst h; rfl
  | c :: r, ds, h => by
    unfold dAll at h
    split at h
    · simp_all
    · rename_i x r' heq
      simp only [List.cons.injEq] at heq
      obtain ⟨rfl, rfl⟩ := heq
      split at h
      · rename_i l hl
        simp only [Option.some.injEq] at h; subst h
        rw [dAll_eq hl]; rfl
      · cases h
    · cases h
def rowE (u : Nat) : AV → AV
  | .pt v o => bif v.beq u then .ep u 1 o 0 else .pt v o
  | c => bif clear2 [u] c then c else .d .jk
def rowM (u : Nat) (M : List Blk) : Option (List Blk) := match M[u]? with
  | some (.bx T cells) => (match dAll cells with | some ds => some ((M.map (killB [u])).set u (.rw T 1 (ds.map fun c => [c]))) | none => none)
  | _ => none
theorem lookA_map {f : AV → AV} : ∀ {E : List (Nat × AV)} {t : Nat} {v : AV}, lookA (E.map fun x => (x.1, f x.2)) t = some v → ∃ v0, lookA E t = some v0 ∧ v = f v0
  | [], t, v, h => by simp [lookA] at h
  | (k, x) :: r, t, v, h => by
    rw [List.map_cons] at h
    unfold lookA at h ⊢
    cases hk : k.beq t with
    | true => simp only [hk, cond_true, Option.some.injEq] at h ⊢; exact ⟨x, rfl, h.symm⟩
    | false => simp only [hk, cond_false] at h ⊢; exact lookA_map h
theorem RE'.rowed {E2 : List (Nat × AV)} {M3 : List Blk} (r : RE' D w0 K0 sz E M a w) (u : Nat) (h : rowM u M = some M2) (e : (E.map fun x => (x.1, rowE u x.2)) = E2) (e2 : M2 = M3) : RE' D w0 K0 sz E2 M3 a w := by
  subst e e2
  obtain ⟨g1, g2, β, F, I, R, hs⟩ := r
  unfold rowM at h
  split at h
  · rename_i T cells hM
    split at h
    · rename_i ds hds
      simp only [Option.some.injEq] at h; subst h
      obtain rfl := dAll_eq hds
      have hB := R.blk u _ hM
      have hlt := (List.getElem?_eq_some_iff.1 hM).1
      have R1 := R.x.give hM
      rw [List.nil_append] at R1
      generalize hFu : F u = Fu at hB R1
      cases hB with
      | @bx b c _ _ hb ys hl hr =>
        rw [List.length_map] at hl
        have hq : (β.set u (some ⟨b, 0, none⟩, ds.length))[u]? = some (some ⟨b, 0, none⟩, ds.length) := by rw [List.getElem?_set, if_pos rfl, if_pos (by rw [R.len]; exact hlt)]
        have hlc := lay_chunk 1 ds.length ys (by omega)
        have hrow : ∀ (i : Nat) r, (ds.map fun c => [c])[i]? = some r → ∃ c, ds[i]? = some c ∧ r = [c] := fun i r hi => by
          rw [List.getElem?_map, Option.map_eq_some_iff] at hi
          obtain ⟨c, h1, h2⟩ := hi; exact ⟨c, h1, h2.symm⟩
        have hnew : BRel (fun w => K0 w ∧ Holds w I) (β.set u (some ⟨b, 0, none⟩, ds.length)) u (.rw T 1 (ds.map fun c => [c])) [(b, .cells ys.toArray T (0, 0))] := by
          have := BRel.rw (K := fun w => K0 w ∧ Holds w I) (u := u) (T := T) (k := 1) (rows := ds.map fun c => [c]) (H0 := [(b, .cells ys.toArray T (0, 0))]) hq (fun i => (ys.drop (i * 1)).take 1) (fun _ _ => []) (fun i r hi => by
            obtain ⟨c, h1, rfl⟩ := hrow i r hi
            have := (List.getElem?_eq_some_iff.1 h1).1
            exact ⟨rfl, by simp; omega⟩) (by
              rw [List.length_map, hlc]
              exact ⟨by omega, Or.inr ⟨b, ds.length, _, rfl, rfl, by simp; omega, Nat.le_refl _, by rw [List.take_of_length_le]; simp; omega⟩⟩) (fun i r j c x hi h1 h2 => by
              obtain ⟨c0, g1, rfl⟩ := hrow i r hi
              cases j with
              | succ j => simp at h1
              | zero =>
                simp at h1; subst h1
                rw [List.getElem?_take, if_pos (by omega), List.getElem?_drop, Nat.mul_one, Nat.add_zero] at h2
                have := hr i (.d c0) x (by rw [List.getElem?_map, g1]; rfl) h2
                cases this with | d h => exact h)
          rw [layF_none, List.append_nil] at this
          exact this
        have R2 := ((R1.perm (Y := [(b, .cells ys.toArray T (0, 0))] ++ []) (by rw [List.append_nil])).renew (by rw [List.length_set]; exact hlt) (by simp [updF]) hnew).nil rfl
        rw [set_map_set] at R2
        refine ⟨g1, g2, _, _, _, R2, fun t v hv => ?_⟩
        obtain ⟨v0, h1, rfl⟩ := lookA_map hv
        have ho := hs t v0 h1
        have hE := extB_set β u (some ⟨b, 0, none⟩, ds.length)
        unfold rowE
        split
        · rename_i v o
          cases hvu : v.beq u with
          | true =>
            rw [cond_true]
            obtain rfl := Nat.eq_of_beq_eq_true hvu
            generalize a.eval (.tmp t) = y at ho
            cases ho with
            | pt hb2 =>
              rw [hb] at hb2; cases hb2
              have := ARel.ep (K := fun w => K0 w ∧ Holds w I) (k := 1) (i := o) (o := 0) hq
              simpa using this
          | false =>
            rw [cond_false]
            generalize a.eval (.tmp t) = y at ho
            cases ho with
            | pt hb2 => exact .pt (hE _ _ (by simp; rintro rfl; simp at hvu) hb2)
        · cases hc : clear2 [u] v0 with
          | true => exact clear2_ok hE hc ho
          | false => exact .d (.jk _)
    · cases h
  · cases h
end Go.Proofs.Ytoijfmfkkmbabaa
namespace Go.Proofs.Ytoijfmfkkmbabaa
open Go.RowKit
theorem froz_bytes (l : List UInt8) : frozR (bytesR l) = bytesR l := by simp [frozR_map, bytesR, froz]
theorem froz_slots (l : List Slot) : frozR (slotsO l) = slots l := by
  rw [frozR_map]; unfold slotsO slots; rw [List.map_map]
  apply List.map_congr_left; intro s _
  show [froz (.v _), froz (.em 5 1 (bytesR s.body))] = _
  rw [froz, froz, froz_bytes]; rfl
theorem froz_streams (l : List (List Slot)) : frozR (streamsO l) = streams l := by
  rw [frozR_map]; unfold streamsO streams; rw [List.map_map]
  apply List.map_congr_left; intro s _
  show [froz (.em 69 2 (slotsO s))] = _
  rw [froz, froz_slots]
theorem nums_next {α : Type} {l : List α} {g : α → Nat} {k : Nat} {x : α} (h : l[k]? = some x) : nums ((l.take k).map g) ++ [[.v (.int .u64 ((g x : Nat) : Int))]] = nums ((l.take (k + 1)).map g) := by
  obtain ⟨hk, rfl⟩ := List.getElem?_eq_some_iff.1 h
  rw [List.take_succ_eq_append_getElem hk, List.map_append]
  unfold nums; rw [List.map_append]; rfl
noncomputable def Flow.counts (f : Flow) : List Nat := f.owned.streams.map countS
end Go.Proofs.Ytoijfmfkkmbabaa
namespace Go.Proofs.Ytoijfmfkkmbabaa
open Go.RowKit
set_option maxRecDepth 100000 in
theorem messageOk (f : Flow) (i : Nat) (x : Slot) (hi : i < f.view.members.length) (hx : x.body.length < 2147483648) {p : Proc} (gp : f.view.members[i]? = some p) : Con Try.prog 42 [.ag [.u f.view.id.round, .z f.view.id.server.node, .u f.view.id.server.inc, .d (.ro 2 (procs f.view.members)), .d (.ro 1 (nums f.view.starts)), .d (.ro 1 (streams f.streams)), .d (.ro 1 (nums f.handed))], .n i, .ag [.u x.n, .d (.ro 1 (bytesR x.body))]] (.ag [.v (.int .i64 p.node), .v (.int .u64 ((p.inc : Nat) : Int)), .v (.int .u64 ((x.n : Nat) : Int)), .em 5 1 (bytesR x.body)]) := by
  refine Con.intro (by kernel_rfl) rfl rfl 20 rfl rfl fun w0 K ac hK r => ?_
  rw [show (.ag [.v (.int .i64 p.node), .v (.int .u64 ((p.inc : Nat) : Int)), .v (.int .u64 ((x.n : Nat) : Int)), .em 5 1 (bytesR x.body)] : DV) = .ag [.z p.node, .u p.inc, .u x.n, .em 5 1 (bytesR x.body)] from rfl]
  exact toRet tb_ok mixed_ok hK rfl [(1, [(5, .ix (i) [.z p.node, .u p.inc]), (11, .con (.em 5 1 (bytesR x.body)))])] 2000 r (by kernel_rfl) (an (rfI ((i : Nat) : Int)) (an (procs_at gp) (an (cloneBytes x.body (by omega)) (an (rfN ((bytesR x.body).length)) trivial))))
set_option maxRecDepth 100000 in
theorem open0 (v : View) (hb : v.bounded) : Con Try.prog 14 [.ag [.u v.id.round, .z v.id.server.node, .u v.id.server.inc, .d (.ro 2 (procs v.members)), .d (.ro 1 (nums v.starts))]] (.ag (v.own ++ [.em 67 1 (List.replicate v.members.length [.v (.slice none 0 0)]), .em 22 1 (List.replicate v.members.length [.v (.int .u64 0)])])) := by
  obtain ⟨hb1, hb2⟩ := id hb
  refine Con.intro (by kernel_rfl) rfl rfl 21 rfl rfl fun w0 K ac hK r => ?_
  have v4_0 := (cloneProcs v.members (by omega))
  have v4_1 := (cloneNums v.starts (by omega))
  have v4_2 := ((by simp) : (((procs v.members).length : Nat) : Int) = ((v.members.length : Nat) : Int))
  have v4_3 := (rfI ((v.members.length : Nat) : Int))
  have v4_4 := ((by first | omega | (simp; omega)) : 24 * (v.members.length) ≤ 281474976710656)
  have v4_5 := ((by first | omega | (simp; omega)) : (v.members.length) < 4611686018427387904)
  have v4_6 := ((by first | omega | (simp; omega)) : 8 * (v.members.length) ≤ 281474976710656)
  refine toDraw (todo' := aft Try.f14 4) (E' := [(2, .pt 1 0)]) (M' := [.bx 30 [.u v.id.round, .z v.id.server.node, .u v.id.server.inc, .sl 2 ((procs v.members).length), .sl 3 ((nums v.starts).length)], .bx 33 [.u v.id.round, .z v.id.server.node, .u v.id.server.inc, .sl 2 ((procs v.members).length), .sl 3 ((nums v.starts).length), .sl 4 (v.members.length), .sl 5 (v.members.length)], .rw 24 2 (procs v.members), .rw 22 1 (nums v.starts), .rw 67 1 (List.replicate (v.members.length) [.v (.slice none 0 0)]), .rw 22 1 (List.replicate (v.members.length) [.v (.int .u64 0)])]) tb_ok mixed_ok hK [(1, [(2, .con (.em 24 2 (procs v.members)))]), (2, [(2, .con (.em 22 1 (nums v.starts)))]), (3, [(2, .z (((v.members.length : Nat) : Int)))]), (4, [(2, .n (v.members.length)), (4, .n (v.members.length))])] 9 2 [] [[0, 1, 2, 3, 4, 5], [0, 1, 2, 3, 5, 4]] [2] r (by kernel_rfl) (an (an v4_0 (an v4_1 (an v4_2 (an v4_3 (an v4_3 (an v4_4 (an v4_5 (an v4_3 (an v4_3 (an v4_6 (an v4_5 trivial))))))))))) (an (an v4_0 (an v4_1 (an v4_2 (an v4_3 (an v4_3 (an v4_6 (an v4_5 (an v4_3 (an v4_3 (an v4_4 (an v4_5 trivial))))))))))) trivial)) fun ac wd r => ?_
  rw [show (.ag (v.own ++ [.em 67 1 (List.replicate v.members.length [.v (.slice none 0 0)]), .em 22 1 (List.replicate v.members.length [.v (.int .u64 0)])]) : DV) = .ag [.u v.id.round, .z v.id.server.node, .u v.id.server.inc, .em 24 2 (procs v.members), .em 22 1 (nums v.starts), .em 67 1 (List.replicate (v.members.length) [.v (.slice none 0 0)]), .em 22 1 (List.replicate (v.members.length) [.v (.int .u64 0)])] from rfl]
  exact toRet tb_ok mixed_ok hK rfl [] 2000 r (by kernel_rfl) (an (rfN ((procs v.members).length)) (an (rfN ((nums v.starts).length)) (an ((by simp) : (v.members.length) = (List.replicate (v.members.length) [.v (.slice none 0 0)] : List (List DV)).length) (an ((by simp) : (v.members.length) = (List.replicate (v.members.length) [.v (.int .u64 0)] : List (List DV)).length) trivial))))
theorem openOk (v : View) (hb : v.bounded) : Con Try.prog 14 [.ag [.u v.id.round, .z v.id.server.node, .u v.id.server.inc, .d (.ro 2 (procs v.members)), .d (.ro 1 (nums v.starts))]] (.ag (Flow.fresh v).own) := by
  refine (open0 v hb).le ?_
  unfold Flow.own Flow.fresh View.own streamsO nums
  simp only [List.map_replicate]
  exact LeL.ag (.cons (.refl _) (.cons (.refl _) (.cons (.refl _) (.cons (.refl _) (.cons (.refl _) (.cons (.rep _ (.cons (.nilEm 69 2) .nil)) (.cons (.refl _) .nil)))))))
def View.pair : View := ⟨⟨3, ⟨1, 1⟩⟩, [⟨5, 2⟩, ⟨6, 1⟩], [4, 9]⟩
set_option maxRecDepth 100000 in
theorem pairOk  : Con Try.prog 24 [] (.ag View.pair.own) := by
  refine Con.intro (by kernel_rfl) rfl rfl 8 rfl rfl fun w0 K ac hK r => ?_
  rw [show (.ag View.pair.own : DV) = .ag [.v (.int .u64 3), .z 1, .v (.int .u64 1), .em 24 2 ([[.z 5, .v (.int .u64 2)], [.z 6, .v (.int .u64 1)]]), .em 22 1 ([[.v (.int .u64 4)], [.v (.int .u64 9)]])] from rfl]
  exact toRet tb_ok mixed_ok hK rfl [] 2000 r (by kernel_rfl) (an ((by simp) : (2) = ([[.z 5, .v (.int .u64 2)], [.z 6, .v (.int .u64 1)]] : List (List DV)).length) (an ((by simp) : (2) = ([[.v (.int .u64 4)], [.v (.int .u64 9)]] : List (List DV)).length) trivial))
end Go.Proofs.Ytoijfmfkkmbabaa
namespace Go.Proofs.Ytoijfmfkkmbabaa
open Go.RowKit
theorem idx_mem {α : Type} [DecidableEq α] {p : α} : ∀ {l : List α} {k : Nat}, p ∈ l → 0 ≤ idx l p k
  | [], _, h => by cases h
  | x :: r, k, h => by
    unfold idx
    split
    · omega
    · rename_i hx
      rcases List.mem_cons.1 h with rfl | h
      · exact absurd rfl hx
      · exact idx_mem h
theorem findS_of {l : List Slot} {i : Nat} {s : Slot} (h : l[i]? = some s) : 0 ≤ findS l s.n := idx_mem (List.mem_map.2 ⟨s, List.mem_of_getElem? h, rfl⟩)
theorem exists_gap (l : List Slot) : ∃ k, (∀ j, j < k → 0 ≤ findS l (j + 1)) ∧ ¬ 0 ≤ findS l (k + 1) := by
  apply Classical.byContradiction; intro hn
  have key : ∀ m, ∀ j, j < m → 0 ≤ findS l (j + 1) := by
    intro m
    induction m with
    | zero => intro j hj; omega
    | succ m ih =>
      intro j hj
      rcases Nat.lt_succ_iff_lt_or_eq.1 hj with h | rfl
      · exact ih j h
      · exact Classical.byContradiction fun hc => hn ⟨j, ih, hc⟩
  have := upto_le (key (l.length + 1)); omega
theorem Good.from {l : List Slot} (h : Good l l.length) : ∀ (p : Nat) x, l[p]? = some x → p + 1 ≤ x.n := by
  intro p
  induction p with
  | zero => intro x hx; exact (h 0 x (List.getElem?_eq_some_iff.1 hx).1 hx).1
  | succ p ih =>
    intro x hx
    have hp := (List.getElem?_eq_some_iff.1 hx).1
    have h1 := ih _ (List.getElem?_eq_getElem (by omega : p < l.length))
    have h2 := (h (p + 1) x hp hx).2.2.2 _ (by omega) (List.getElem?_eq_getElem (by omega : p < l.length))
    omega
theorem good_at {l : List Slot} (h : Good l l.length) {k : Nat} (hk : ∀ j, j < k → 0 ≤ findS l (j + 1)) : ∀ (j : Nat) x, j < k → l[j]? = some x → x.n = j + 1 := by
  intro j
  induction j using Nat.strongRecOn with
  | ind j ih =>
    intro x hj hx
    have hm := findS_mem (hk j hj)
    obtain ⟨s, hs, hn⟩ := List.mem_map.1 hm
    obtain ⟨p, hp, rfl⟩ := List.getElem_of_mem hs
    have e := List.getElem?_eq_getElem hp
    have h1 := h.from p _ e
    rcases Nat.lt_trichotomy p j with h2 | h2 | h2
    · have := ih p h2 _ (by omega) e; omega
    · subst h2; rw [hx, Option.some.injEq] at e; rw [e]; exact hn
    · omega
theorem good_gap {l : List Slot} (h : Good l l.length) : gapN l = countS l := by
  obtain ⟨k, h1, h2⟩ := exists_gap l
  rw [countS_eq h1 h2]
  have h3 := good_at h h1
  have hle := upto_le h1
  unfold gapN
  rcases Nat.lt_or_ge k l.length with hk | hk
  · have e := List.getElem?_eq_getElem hk
    have hne : l[k].n ≠ k + 1 := fun he => h2 (by rw [← he]; exact findS_of e)
    rw [gapF_at e (by omega) fun j t hj ht => by have := h3 j t hj ht; omega]
    simp
  · have : k = l.length := by omega
    subst this
    rw [gapF_none fun j t hj ht => by have := h3 j t hj ht; omega]
    simp
def lastN (l : List Slot) (k : Nat) : Nat := if k = 0 then 0 else ((l[k - 1]?).map Slot.n).getD 0
theorem lastN_next {l : List Slot} {k : Nat} {x : Slot} (h : l[k]? = some x) : lastN l (k + 1) = x.n := by unfold lastN; rw [if_neg (by omega)]; simp [h]
theorem lastN_lt {l : List Slot} {k n : Nat} (h : lastN l k < n) : ∀ y : Slot, 0 < k → l[k - 1]? = some y → y.n < n := by
  intro y hk hy
  unfold lastN at h; rw [if_neg (by omega), hy] at h; simpa using h
theorem lastN_le {l : List Slot} {k n : Nat} (hn : 0 < n) (hk : k ≤ l.length) (h : n ≤ lastN l k) : ∃ y : Slot, 0 < k ∧ l[k - 1]? = some y ∧ n ≤ y.n := by
  unfold lastN at h
  rcases Nat.eq_zero_or_pos k with h0 | h0
  · rw [if_pos h0] at h; omega
  · rw [if_neg (by omega), List.getElem?_eq_getElem (by omega : k - 1 < l.length)] at h
    exact ⟨_, h0, List.getElem?_eq_getElem (by omega), by simpa using h⟩
theorem Flow.no_last {f : Flow} {i k : Nat} {l : List Slot} {x : Slot} (hl : f.streams[i]? = some l) (hx : l[k]? = some x) (h : x.n ≤ lastN l k) : f.may = false := by
  rcases Nat.eq_zero_or_pos x.n with h0 | h0
  · exact Flow.no_slot hl hx (.inl (by omega))
  · exact Flow.no_slot hl hx (.inr (.inr (.inr (lastN_le h0 (Nat.le_of_lt (List.getElem?_eq_some_iff.1 hx).1) h))))
theorem Flow.no_gap {f : Flow} {i h k : Nat} {l : List Slot} (hl : f.streams[i]? = some l) (hh : f.handed[i]? = some h) (hg : Good l k) (hk : l.length ≤ k) (hc : gapN l < h) : f.may = false := by
  refine Flow.no_hand hl hh ?_
  rw [← good_gap (l := l) fun j x hj hx => hg j x (by omega) hx]; exact hc
set_option maxRecDepth 100000 in
theorem flowMay (hV : ∀ v : View, v.bounded → Con Try.prog 36 [.ag [.u v.id.round, .z v.id.server.node, .u v.id.server.inc, .d (.ro 2 (procs v.members)), .d (.ro 1 (nums v.starts))]] (DV.v (.bool v.may))) (f : Flow) (hb : f.bounded) : Con Try.prog 12 [.ag [.u f.view.id.round, .z f.view.id.server.node, .u f.view.id.server.inc, .d (.ro 2 (procs f.view.members)), .d (.ro 1 (nums f.view.starts)), .d (.ro 1 (streams f.streams)), .d (.ro 1 (nums f.handed))]] (DV.v (.bool f.may)) := by
  obtain ⟨hbv, hb1, hb2, hb3⟩ := id hb
  have hbw := hbv
  obtain ⟨hbw1, hbw2⟩ := hbw
  refine Con.intro (by kernel_rfl) rfl rfl 73 rfl rfl fun w0 K ac hK r => ?_
  cases h0 : (f.view.may) with
  | false =>
    rw [show (DV.v (.bool f.may) : DV) = .v (.bool false) from (bv (by first | exact Flow.no_view (by assumption) | exact Flow.no_len (by omega) | exact Flow.yes (by assumption) (by omega) (by omega) (by omega) hv0 | exact Flow.no_last ge_f_streams_i ge_c8f2d (by omega) | exact Flow.no_slot ge_f_streams_i ge_c8f2d (by omega) | exact Flow.no_gap ge_f_streams_i ge_f_handed_i hv1 (by omega) (by omega)))]
    exact toRet tb_ok mixed_ok hK rfl [(1, [(3, .z (((f.view.members.length : Nat) : Int)))]), (2, [(2, .con (.v (.bool false)))])] 2000 r (by kernel_rfl) (an ((by simp [bytesR]) : (((procs f.view.members).length : Nat) : Int) = ((f.view.members.length : Nat) : Int)) (an ((by have k := hV f.view (by assumption); rw [h0] at k; exact k) : Con Try.prog 36 [.ag [.u f.view.id.round, .z f.view.id.server.node, .u f.view.id.server.inc, .d (.ro 2 (procs f.view.members)), .d (.ro 1 (nums f.view.starts))]] (.v (.bool false))) trivial))
  | true =>
    cases h1 : ((((f.streams.length : Nat) : Int) : Int) != ((f.view.members.length : Nat) : Int)) with
    | false =>
      have qh1 := eq_of_bne h1
      cases h2 : ((((f.handed.length : Nat) : Int) : Int) != ((f.view.members.length : Nat) : Int)) with
      | false =>
        have qh2 := eq_of_bne h2
        refine toHead (todo' := hd Try.f12 0) (E' := [(1, .pt 0 0), (3, .n f.view.members.length), (32, .d (.ro 1 (streams f.streams))), (33, .n f.streams.length), (34, .n 0)]) (M' := [.bx 33 [.u f.view.id.round, .z f.view.id.server.node, .u f.view.id.server.inc, .d (.ro 2 (procs f.view.members)), .d (.ro 1 (nums f.view.starts)), .d (.ro 1 (streams f.streams)), .d (.ro 1 (nums f.handed))]]) tb_ok mixed_ok hK [(1, [(3, .z (((f.view.members.length : Nat) : Int)))]), (2, [(2, .con (.v (.bool true))), (7, .z (((f.streams.length : Nat) : Int))), (9, .b false), (14, .z (((f.handed.length : Nat) : Int))), (16, .b false)]), (4, [(2, .z (((f.streams.length : Nat) : Int)))])] 2000 [0] [1, 3, 32, 33, 34] r (by kernel_rfl) (an ((by simp [bytesR]) : (((procs f.view.members).length : Nat) : Int) = ((f.view.members.length : Nat) : Int)) (an ((by have k := hV f.view (by assumption); rw [h0] at k; exact k) : Con Try.prog 36 [.ag [.u f.view.id.round, .z f.view.id.server.node, .u f.view.id.server.inc, .d (.ro 2 (procs f.view.members)), .d (.ro 1 (nums f.view.starts))]] (.v (.bool true))) (an ((by simp [bytesR]) : (((streams f.streams).length : Nat) : Int) = ((f.streams.length : Nat) : Int)) (an h1 (an ((by simp [bytesR]) : (((nums f.handed).length : Nat) : Int) = ((f.handed.length : Nat) : Int)) (an h2 (an ((by simp [bytesR]) : (((streams f.streams).length : Nat) : Int) = ((f.streams.length : Nat) : Int)) trivial))))))) fun ac wd r => ?_
        refine Goes.rounds (Φ := fun (i : Nat) ac wd => (i ≤ f.streams.length ∧ ∀ (j : Nat) l h, j < i → f.streams[j]? = some l → f.handed[j]? = some h → Good l l.length ∧ h ≤ countS l) ∧ RE' [] w0 K 73 [(1, .pt 0 0), (3, .n f.view.members.length), (32, .d (.ro 1 (streams f.streams))), (33, .n f.streams.length), (34, .n i)] [.bx 33 [.u f.view.id.round, .z f.view.id.server.node, .u f.view.id.server.inc, .d (.ro 2 (procs f.view.members)), .d (.ro 1 (nums f.view.starts)), .d (.ro 1 (streams f.streams)), .d (.ro 1 (nums f.handed))]] ac wd) (f.streams.length) ?_ (Nat.zero_le _) ⟨⟨by omega, by omega⟩, r⟩
        clear r
        rintro i hi0 again0 ac wd ⟨hv0, r⟩
        obtain ⟨hi1, hv0⟩ := hv0
        cases h3 : (decide ((((i : Nat) : Int) : Int) < ((f.streams.length : Nat) : Int))) with
        | false =>
          have qh3 := of_decide_eq_false h3
          rw [show (DV.v (.bool f.may) : DV) = .v (.bool true) from (bv (by first | exact Flow.no_view (by assumption) | exact Flow.no_len (by omega) | exact Flow.yes (by assumption) (by omega) (by omega) (by omega) hv0 | exact Flow.no_last ge_f_streams_i ge_c8f2d (by omega) | exact Flow.no_slot ge_f_streams_i ge_c8f2d (by omega) | exact Flow.no_gap ge_f_streams_i ge_f_handed_i hv1 (by omega) (by omega)))]
          exact toRet tb_ok mixed_ok hK rfl [(5, [(0, .b false)])] 2000 r (by kernel_rfl) (an h3 trivial)
        | true =>
          have qh3 := of_decide_eq_true h3
          obtain ⟨e_f_streams_i, ge_f_streams_i⟩ : ∃ x, f.streams[i]? = some x := ⟨_, List.getElem?_eq_getElem (by omega)⟩
          have be_f_streams_i := (hb.at ge_f_streams_i).1
          have ce_f_streams_i := hb.at ge_f_streams_i
          obtain ⟨e_f_handed_i, ge_f_handed_i⟩ : ∃ x, f.handed[i]? = some x := ⟨_, List.getElem?_eq_getElem (by omega)⟩
          refine toHead (todo' := hd Try.f12 1) (E' := [(1, .pt 0 0), (3, .n f.view.members.length), (32, .d (.ro 1 (streams f.streams))), (33, .n f.streams.length), (34, .n i), (4, .n i), (5, .pt 1 0), (6, .u (lastN e_f_streams_i 0)), (40, .d (.ro 2 (slots e_f_streams_i))), (41, .n e_f_streams_i.length), (42, .n 0)]) (M' := [.bx 33 [.u f.view.id.round, .z f.view.id.server.node, .u f.view.id.server.inc, .d (.ro 2 (procs f.view.members)), .d (.ro 1 (nums f.view.starts)), .d (.ro 1 (streams f.streams)), .d (.ro 1 (nums f.handed))], .bx 67 [.d (.ro 2 (slots e_f_streams_i))]]) tb_ok mixed_ok hK [(5, [(0, .b true)]), (6, [(1, .ix (i) [.ro 2 (slots e_f_streams_i)])]), (8, [(2, .z (((e_f_streams_i.length : Nat) : Int)))])] 2000 [0, 1] [1, 3, 32, 33, 34, 4, 5, 6, 40, 41, 42] r (by kernel_rfl) (an h3 (an (rfI ((i : Nat) : Int)) (an (streams_at ge_f_streams_i) (an ((by simp [bytesR]) : (((slots e_f_streams_i).length : Nat) : Int) = ((e_f_streams_i.length : Nat) : Int)) trivial)))) fun ac wd r => ?_
          refine Goes.rounds (Φ := fun (k : Nat) ac wd => (k ≤ e_f_streams_i.length ∧ Good e_f_streams_i k) ∧ RE' [] w0 K 73 [(1, .pt 0 0), (3, .n f.view.members.length), (32, .d (.ro 1 (streams f.streams))), (33, .n f.streams.length), (34, .n i), (4, .n i), (5, .pt 1 0), (6, .u (lastN e_f_streams_i k)), (40, .d (.ro 2 (slots e_f_streams_i))), (41, .n e_f_streams_i.length), (42, .n k)] [.bx 33 [.u f.view.id.round, .z f.view.id.server.node, .u f.view.id.server.inc, .d (.ro 2 (procs f.view.members)), .d (.ro 1 (nums f.view.starts)), .d (.ro 1 (streams f.streams)), .d (.ro 1 (nums f.handed))], .bx 67 [.d (.ro 2 (slots e_f_streams_i))]] ac wd) (e_f_streams_i.length) ?_ (Nat.zero_le _) ⟨⟨by omega, fun k x hk => by omega⟩, r⟩
          clear r
          rintro k hi1 again1 ac wd ⟨hv1, r⟩
          obtain ⟨hk1, hv1⟩ := hv1
          cases h4 : (decide ((((k : Nat) : Int) : Int) < ((e_f_streams_i.length : Nat) : Int))) with
          | false =>
            have qh4 := of_decide_eq_false h4
            cases h5 : (decide ((((gapN e_f_streams_i : Nat) : Int) : Int) < ((e_f_handed_i : Nat) : Int))) with
            | false =>
              have qh5 := of_decide_eq_false h5
              exact toHead (todo' := hd Try.f12 0) tb_ok mixed_ok hK [(9, [(0, .b false)]), (15, [(3, .ix (i) [.u e_f_handed_i]), (6, .con (.u (gapN e_f_streams_i))), (7, .b false)]), (17, [(0, .z (((i + 1 : Nat) : Int)))])] 2000 [0] [1, 3, 32, 33, 34] r (by kernel_rfl) (an h4 (an (rfI ((i : Nat) : Int)) (an (nums_at ge_f_handed_i) (an (streamCount e_f_streams_i (by omega)) (an h5 (an ((wi (by omega)) : IntKind.i64.wrap ((((i : Nat) : Int) : Int) + 1) = ((i + 1 : Nat) : Int)) trivial)))))) fun ac wd r => again0 (by omega) ac wd ⟨⟨by omega, fun j l h hj hl hh => by rcases Nat.lt_succ_iff_lt_or_eq.1 hj with h' | rfl; exact hv0 j l h h' hl hh; rw [ge_f_streams_i] at hl; rw [ge_f_handed_i] at hh; cases hl; cases hh; have hG : Good e_f_streams_i e_f_streams_i.length := (by rw [show e_f_streams_i.length = k by omega]; exact hv1); exact ⟨hG, by rw [← good_gap hG]; omega⟩⟩, r⟩
            | true =>
              have qh5 := of_decide_eq_true h5
              rw [show (DV.v (.bool f.may) : DV) = .v (.bool false) from (bv (by first | exact Flow.no_view (by assumption) | exact Flow.no_len (by omega) | exact Flow.yes (by assumption) (by omega) (by omega) (by omega) hv0 | exact Flow.no_last ge_f_streams_i ge_c8f2d (by omega) | exact Flow.no_slot ge_f_streams_i ge_c8f2d (by omega) | exact Flow.no_gap ge_f_streams_i ge_f_handed_i hv1 (by omega) (by omega)))]
              exact toRet tb_ok mixed_ok hK rfl [(9, [(0, .b false)]), (15, [(3, .ix (i) [.u e_f_handed_i]), (6, .con (.u (gapN e_f_streams_i))), (7, .b true)])] 2000 r (by kernel_rfl) (an h4 (an (rfI ((i : Nat) : Int)) (an (nums_at ge_f_handed_i) (an (streamCount e_f_streams_i (by omega)) (an h5 trivial)))))
          | true =>
            have qh4 := of_decide_eq_true h4
            obtain ⟨e_c8f2d, ge_c8f2d⟩ : ∃ x, e_f_streams_i[k]? = some x := ⟨_, List.getElem?_eq_getElem (by omega)⟩
            have be_c8f2d := ce_f_streams_i.at ge_c8f2d
            cases h6 : (decide ((((e_c8f2d.n : Nat) : Int) : Int) ≤ ((lastN e_f_streams_i k : Nat) : Int))) with
            | false =>
              have qh6 := of_decide_eq_false h6
              cases h7 : (decide ((16 : Int) < ((e_c8f2d.n : Nat) : Int))) with
              | false =>
                have qh7 := of_decide_eq_false h7
                cases h8 : (decide ((64 : Int) < ((e_c8f2d.body.length : Nat) : Int))) with
                | false =>
                  have qh8 := of_decide_eq_false h8
                  exact toHead (todo' := hd Try.f12 1) (E' := [(1, .pt 0 0), (3, .n f.view.members.length), (32, .d (.ro 1 (streams f.streams))), (33, .n f.streams.length), (34, .n i), (4, .n i), (5, .pt 1 0), (6, .u e_c8f2d.n), (40, .d (.ro 2 (slots e_f_streams_i))), (41, .n e_f_streams_i.length), (42, .n (k + 1))]) (M' := [.bx 33 [.u f.view.id.round, .z f.view.id.server.node, .u f.view.id.server.inc, .d (.ro 2 (procs f.view.members)), .d (.ro 1 (nums f.view.starts)), .d (.ro 1 (streams f.streams)), .d (.ro 1 (nums f.handed))], .bx 67 [.d (.ro 2 (slots e_f_streams_i))]]) tb_ok mixed_ok hK [(9, [(0, .b true)]), (10, [(0, .ix (k) [.u e_c8f2d.n, .ro 1 (bytesR e_c8f2d.body)])]), (11, [(3, .b false), (7, .b false), (12, .z (((e_c8f2d.body.length : Nat) : Int))), (13, .b false)]), (14, [(0, .z (((k + 1 : Nat) : Int)))])] 2000 [0, 1] [1, 3, 32, 33, 34, 4, 5, 6, 40, 41, 42] r (by kernel_rfl) (an h4 (an (rfI ((k : Nat) : Int)) (an (slots_at ge_c8f2d) (an h6 (an h7 (an ((by simp [bytesR]) : (((bytesR e_c8f2d.body).length : Nat) : Int) = ((e_c8f2d.body.length : Nat) : Int)) (an h8 (an ((wi (by omega)) : IntKind.i64.wrap ((((k : Nat) : Int) : Int) + 1) = ((k + 1 : Nat) : Int)) trivial)))))))) fun ac wd r => again1 (by omega) ac wd ⟨⟨by omega, hv1.next ge_c8f2d (by omega) (by omega) (by omega) (lastN_lt (by omega))⟩, r.cast (by rw [lastN_next ge_c8f2d]) rfl⟩
                | true =>
                  have qh8 := of_decide_eq_true h8
                  rw [show (DV.v (.bool f.may) : DV) = .v (.bool false) from (bv (by first | exact Flow.no_view (by assumption) | exact Flow.no_len (by omega) | exact Flow.yes (by assumption) (by omega) (by omega) (by omega) hv0 | exact Flow.no_last ge_f_streams_i ge_c8f2d (by omega) | exact Flow.no_slot ge_f_streams_i ge_c8f2d (by omega) | exact Flow.no_gap ge_f_streams_i ge_f_handed_i hv1 (by omega) (by omega)))]
                  exact toRet tb_ok mixed_ok hK rfl [(9, [(0, .b true)]), (10, [(0, .ix (k) [.u e_c8f2d.n, .ro 1 (bytesR e_c8f2d.body)])]), (11, [(3, .b false), (7, .b false), (12, .z (((e_c8f2d.body.length : Nat) : Int))), (13, .b true)])] 2000 r (by kernel_rfl) (an h4 (an (rfI ((k : Nat) : Int)) (an (slots_at ge_c8f2d) (an h6 (an h7 (an ((by simp [bytesR]) : (((bytesR e_c8f2d.body).length : Nat) : Int) = ((e_c8f2d.body.length : Nat) : Int)) (an h8 trivial)))))))
              | true =>
                have qh7 := of_decide_eq_true h7
                rw [show (DV.v (.bool f.may) : DV) = .v (.bool false) from (bv (by first | exact Flow.no_view (by assumption) | exact Flow.no_len (by omega) | exact Flow.yes (by assumption) (by omega) (by omega) (by omega) hv0 | exact Flow.no_last ge_f_streams_i ge_c8f2d (by omega) | exact Flow.no_slot ge_f_streams_i ge_c8f2d (by omega) | exact Flow.no_gap ge_f_streams_i ge_f_handed_i hv1 (by omega) (by omega)))]
                exact toRet tb_ok mixed_ok hK rfl [(9, [(0, .b true)]), (10, [(0, .ix (k) [.u e_c8f2d.n, .ro 1 (bytesR e_c8f2d.body)])]), (11, [(3, .b false), (7, .b true)])] 2000 r (by kernel_rfl) (an h4 (an (rfI ((k : Nat) : Int)) (an (slots_at ge_c8f2d) (an h6 (an h7 trivial)))))
            | true =>
              have qh6 := of_decide_eq_true h6
              rw [show (DV.v (.bool f.may) : DV) = .v (.bool false) from (bv (by first | exact Flow.no_view (by assumption) | exact Flow.no_len (by omega) | exact Flow.yes (by assumption) (by omega) (by omega) (by omega) hv0 | exact Flow.no_last ge_f_streams_i ge_c8f2d (by omega) | exact Flow.no_slot ge_f_streams_i ge_c8f2d (by omega) | exact Flow.no_gap ge_f_streams_i ge_f_handed_i hv1 (by omega) (by omega)))]
              exact toRet tb_ok mixed_ok hK rfl [(9, [(0, .b true)]), (10, [(0, .ix (k) [.u e_c8f2d.n, .ro 1 (bytesR e_c8f2d.body)])]), (11, [(3, .b true)])] 2000 r (by kernel_rfl) (an h4 (an (rfI ((k : Nat) : Int)) (an (slots_at ge_c8f2d) (an h6 trivial))))
      | true =>
        have qh2 : ¬ _ = _ := bne_iff_ne.1 h2
        rw [show (DV.v (.bool f.may) : DV) = .v (.bool false) from (bv (by first | exact Flow.no_view (by assumption) | exact Flow.no_len (by omega) | exact Flow.yes (by assumption) (by omega) (by omega) (by omega) hv0 | exact Flow.no_last ge_f_streams_i ge_c8f2d (by omega) | exact Flow.no_slot ge_f_streams_i ge_c8f2d (by omega) | exact Flow.no_gap ge_f_streams_i ge_f_handed_i hv1 (by omega) (by omega)))]
        exact toRet tb_ok mixed_ok hK rfl [(1, [(3, .z (((f.view.members.length : Nat) : Int)))]), (2, [(2, .con (.v (.bool true))), (7, .z (((f.streams.length : Nat) : Int))), (9, .b false), (14, .z (((f.handed.length : Nat) : Int))), (16, .b true)])] 2000 r (by kernel_rfl) (an ((by simp [bytesR]) : (((procs f.view.members).length : Nat) : Int) = ((f.view.members.length : Nat) : Int)) (an ((by have k := hV f.view (by assumption); rw [h0] at k; exact k) : Con Try.prog 36 [.ag [.u f.view.id.round, .z f.view.id.server.node, .u f.view.id.server.inc, .d (.ro 2 (procs f.view.members)), .d (.ro 1 (nums f.view.starts))]] (.v (.bool true))) (an ((by simp [bytesR]) : (((streams f.streams).length : Nat) : Int) = ((f.streams.length : Nat) : Int)) (an h1 (an ((by simp [bytesR]) : (((nums f.handed).length : Nat) : Int) = ((f.handed.length : Nat) : Int)) (an h2 trivial))))))
    | true =>
      have qh1 : ¬ _ = _ := bne_iff_ne.1 h1
      rw [show (DV.v (.bool f.may) : DV) = .v (.bool false) from (bv (by first | exact Flow.no_view (by assumption) | exact Flow.no_len (by omega) | exact Flow.yes (by assumption) (by omega) (by omega) (by omega) hv0 | exact Flow.no_last ge_f_streams_i ge_c8f2d (by omega) | exact Flow.no_slot ge_f_streams_i ge_c8f2d (by omega) | exact Flow.no_gap ge_f_streams_i ge_f_handed_i hv1 (by omega) (by omega)))]
      exact toRet tb_ok mixed_ok hK rfl [(1, [(3, .z (((f.view.members.length : Nat) : Int)))]), (2, [(2, .con (.v (.bool true))), (7, .z (((f.streams.length : Nat) : Int))), (9, .b true)])] 2000 r (by kernel_rfl) (an ((by simp [bytesR]) : (((procs f.view.members).length : Nat) : Int) = ((f.view.members.length : Nat) : Int)) (an ((by have k := hV f.view (by assumption); rw [h0] at k; exact k) : Con Try.prog 36 [.ag [.u f.view.id.round, .z f.view.id.server.node, .u f.view.id.server.inc, .d (.ro 2 (procs f.view.members)), .d (.ro 1 (nums f.view.starts))]] (.v (.bool true))) (an ((by simp [bytesR]) : (((streams f.streams).length : Nat) : Int) = ((f.streams.length : Nat) : Int)) (an h1 trivial))))
end Go.Proofs.Ytoijfmfkkmbabaa
namespace Go.Proofs.Ytoijfmfkkmbabaa
open Go.RowKit
def msgAt (p : Proc) (l : List Slot) (n : Nat) : Msg := ⟨p, n, ((l[(findS l n).toNat]?).map Slot.body).getD []⟩
def stepL (hv : Nat) (p : Proc) (l : List Slot) (out : List Msg) (j : Nat) : List Msg := if hv < j + 1 ∧ out.length < 8 then out ++ [msgAt p l (j + 1)] else out
def rowL (hv : Nat) (p : Proc) (l : List Slot) (k : Nat) (out : List Msg) : List Msg := (List.range k).foldl (stepL hv p l) out
def lackTo (f : Flow) (h : List Nat) (i : Nat) : List Msg := (List.range i).foldl (fun o i => match f.streams[i]?, f.view.members[i]? with | some l, some p => rowL (nthN h i) p l (countS l) o | _, _ => o) []
theorem rowL_next (hv : Nat) (p : Proc) (l : List Slot) (k : Nat) (out : List Msg) : rowL hv p l (k + 1) out = stepL hv p l (rowL hv p l k out) k := by unfold rowL; rw [List.range_succ, List.foldl_append]; rfl
theorem lackTo_next {f : Flow} {h : List Nat} {i : Nat} {l : List Slot} {p : Proc} (hl : f.streams[i]? = some l) (hp : f.view.members[i]? = some p) : lackTo f h (i + 1) = rowL (nthN h i) p l (countS l) (lackTo f h i) := by
  unfold lackTo; rw [List.range_succ, List.foldl_append]; simp [hl, hp]
theorem rowL_no {hv : Nat} {p : Proc} {l : List Slot} {k : Nat} {out : List Msg} (h : ¬ (hv < k + 1 ∧ (rowL hv p l k out).length < 8)) : rowL hv p l (k + 1) out = rowL hv p l k out := by rw [rowL_next, stepL, if_neg h]
theorem rowL_yes {hv : Nat} {p : Proc} {l : List Slot} {k : Nat} {out : List Msg} {s : Slot} (hs : l[(findS l (k + 1)).toNat]? = some s) (h : hv < k + 1) (h2 : (rowL hv p l k out).length < 8) : rowL hv p l (k + 1) out = rowL hv p l k out ++ [⟨p, k + 1, s.body⟩] := by rw [rowL_next, stepL, if_pos ⟨h, h2⟩, msgAt, hs]; rfl
theorem idx_some {α : Type} [DecidableEq α] {p : α} : ∀ {l : List α} {k : Nat}, 0 ≤ idx l p k → ∃ i, idx l p k = ((k + i : Nat) : Int) ∧ l[i]? = some p
  | [], k, h => by simp [idx] at h
  | x :: r, k, h => by
    unfold idx at h ⊢
    split
    · rename_i hx; exact ⟨0, by simp, by simp [hx]⟩
    · rename_i hx
      rw [if_neg hx] at h
      obtain ⟨i, h1, h2⟩ := idx_some h
      exact ⟨i + 1, by rw [h1]; congr 1; omega, by simpa using h2⟩
theorem count_find {l : List Slot} {k : Nat} (h : k < countS l) : 0 ≤ findS l (k + 1) := by
  obtain ⟨m, h1, h2⟩ := exists_gap l
  rw [countS_eq h1 h2] at h
  exact h1 k h
theorem Flow.owned_len (f : Flow) : f.owned.streams.length = f.owned.view.members.length ∧ f.owned.handed.length = f.owned.view.members.length := by
  cases hm : f.may with
  | true =>
    rw [Flow.owned_yes hm]
    unfold Flow.may at hm
    have ok := @of_decide_eq_true _ (Classical.propDecidable _) hm
    exact ⟨ok.2.1, ok.2.2.1⟩
  | false => rw [Flow.owned_no hm]; simp [Flow.zero]
theorem rowL_len {hv : Nat} {p : Proc} {l : List Slot} {k : Nat} {out : List Msg} (h : out.length ≤ 8) : (rowL hv p l k out).length ≤ 8 := by
  induction k with
  | zero => exact h
  | succ k ih =>
    rw [rowL_next, stepL]; split
    · simp; omega
    · exact ih
theorem lackTo_len (f : Flow) (h : List Nat) (i : Nat) : (lackTo f h i).length ≤ 8 := by
  induction i with
  | zero => simp [lackTo]
  | succ i ih =>
    unfold lackTo at ih ⊢
    rw [List.range_succ, List.foldl_append, List.foldl_cons, List.foldl_nil]
    split
    · exact rowL_len ih
    · exact ih
end Go.Proofs.Ytoijfmfkkmbabaa
namespace Go.Proofs.Ytoijfmfkkmbabaa
open Go.RowKit
theorem Ind.ag {l : List DV} (h : ∀ c ∈ l, Ind c) : Ind (.ag l) := by
  intro K K' y H r
  cases r with | ag ys F hl hr => exact .ag ys F hl fun j c y h1 h2 => h c (List.mem_of_getElem? h1) _ _ _ _ (hr j c y h1 h2)
theorem Ind.tu {l : List DV} (h : ∀ c ∈ l, Ind c) : Ind (.tu l) := by
  intro K K' y H r
  cases r with | tu ys F hl hr => exact .tu ys F hl fun j c y h1 h2 => h c (List.mem_of_getElem? h1) _ _ _ _ (hr j c y h1 h2)
theorem Ind.em {T k : Nat} {rows : List (List DV)} (h : ∀ r ∈ rows, ∀ c ∈ r, Ind c) : Ind (.em T k rows) := by
  intro K K' y H r
  cases r with | em X F hl hs hr => exact .em X F hl hs fun i r j c x h1 h2 h3 => h r (List.mem_of_getElem? h1) c (List.mem_of_getElem? h2) _ _ _ _ (hr i r j c x h1 h2 h3)
theorem Ind.two (x y : Value) : Ind (.tu [.v x, .v y]) := .tu (by simp only [List.mem_cons, List.not_mem_nil, or_false]; rintro c (rfl | rfl) <;> exact ind_v _)
theorem Ind.jk : Ind .jk := by intro K K2 y H h; cases h; exact .jk _
def insD (l : List Slot) (n k : Nat) : Bool := (l.take k).any fun x => decide (n < x.n)
def insL (l : List Slot) (n : Nat) (b : List UInt8) : Nat → List Slot
  | 0 => []
  | k + 1 => insL l n b k ++ (match l[k]? with | some x => if insD l n k = false ∧ n < x.n then [⟨n, b⟩, x] else [x] | none => [])
def insF (l : List Slot) (n : Nat) (b : List UInt8) : List Slot := insL l n b l.length ++ if insD l n l.length = true then [] else [⟨n, b⟩]
theorem insD_next {l : List Slot} {n k : Nat} {x : Slot} (h : l[k]? = some x) : insD l n (k + 1) = (insD l n k || decide (n < x.n)) := by
  obtain ⟨hk, rfl⟩ := List.getElem?_eq_some_iff.1 h
  unfold insD; rw [List.take_succ_eq_append_getElem hk, List.any_append]; simp
theorem insD_two {l : List Slot} {n k : Nat} {x : Slot} (h : l[k]? = some x) (hn : n < x.n) : insD l n (k + 1) = true := by rw [insD_next h, decide_eq_true hn, Bool.or_true]
theorem insL_two {l : List Slot} {n k : Nat} {b : List UInt8} {x : Slot} (h : l[k]? = some x) (hd : insD l n k = false) (hn : n < x.n) : insL l n b (k + 1) = insL l n b k ++ [⟨n, b⟩, x] := by rw [insL, h]; simp [hd, hn]
theorem insL_one {l : List Slot} {n k : Nat} {b : List UInt8} {x : Slot} (h : l[k]? = some x) (hd : insD l n k = true ∨ ¬ n < x.n) : insL l n b (k + 1) = insL l n b k ++ [x] := by
  rw [insL, h]; simp only []
  rw [if_neg]; rintro ⟨h1, h2⟩; rcases hd with h | h
  · rw [h1] at h; cases h
  · exact h h2
def Flow.half (f : Flow) : List DV := [.v (.int .u64 (f.view.id.round : Int)), .v (.int .i64 f.view.id.server.node), .v (.int .u64 (f.view.id.server.inc : Int)), .em 24 2 (procs f.view.members), .em 22 1 (nums f.view.starts), .em 67 1 (f.streams.map fun s => [.ro 2 (slots s)]), .em 22 1 (nums f.handed)]
def streamAt (f : Flow) (i : Nat) : List Slot := (f.streams[i]?).getD []
theorem streamAt_get {f : Flow} {i : Nat} {l : List Slot} (h : f.streams[i]? = some l) : streamAt f i = l := by simp [streamAt, h]
def Flow.takes (f : Flow) (m : Msg) : Prop := placeB f.view.members m.src = true ∧ 1 ≤ m.n ∧ m.n ≤ 16 ∧ m.body.length ≤ 64 ∧ findS (streamAt f (placeN f.view.members m.src)) m.n < 0
instance (f : Flow) (m : Msg) : Decidable (f.takes m) := by unfold Flow.takes; infer_instance
def Flow.put (f : Flow) (m : Msg) : Flow := { f with streams := f.streams.set (placeN f.view.members m.src) (insF (streamAt f (placeN f.view.members m.src)) m.n m.body) }
def Flow.take (f : Flow) (m : Msg) : Flow := if f.takes m then f.put m else f
theorem placeN_lt {l : List Proc} {p : Proc} (h : placeB l p = true) : placeN l p < l.length := by
  unfold placeB at h; unfold placeN
  obtain ⟨i, h1, h2⟩ := idx_some (of_decide_eq_true h)
  rw [h1]; have := (List.getElem?_eq_some_iff.1 h2).1; simpa using this
theorem froz_slots' (l : List Slot) : frozR (slots l) = slots l := by
  rw [frozR_map]; unfold slots; rw [List.map_map]; apply List.map_congr_left; intro s _; show [froz (.v _), froz (.ro _ _)] = _; rw [froz, froz]; rfl
theorem slots_app (l m : List Slot) : slots (l ++ m) = slots l ++ slots m := by unfold slots; rw [List.map_append]
theorem froz_app (a b : List (List DV)) : frozR (a ++ b) = frozR a ++ frozR b := by rw [frozR_map, frozR_map, frozR_map, List.map_append]
theorem Flow.no_takes {f : Flow} {m : Msg} (h : placeB f.view.members m.src = false ∨ m.n < 1 ∨ 16 < m.n ∨ 64 < m.body.length ∨ ∃ l, f.streams[placeN f.view.members m.src]? = some l ∧ 0 ≤ findS l m.n) : ¬ f.takes m := by
  rintro ⟨h1, h2, h3, h4, h5⟩
  rcases h with h | h | h | h | ⟨l, hl, h⟩
  · rw [h] at h1; cases h1
  · omega
  · omega
  · omega
  · rw [streamAt_get hl] at h5; omega
theorem Flow.take_no {f : Flow} {m : Msg} (h : ¬ f.takes m) : f.take m = f := by unfold Flow.take; rw [if_neg h]
theorem Flow.take_yes {f : Flow} {m : Msg} (h : f.takes m) : f.take m = f.put m := by unfold Flow.take; rw [if_pos h]
end Go.Proofs.Ytoijfmfkkmbabaa
namespace Go.Proofs.Ytoijfmfkkmbabaa
open Go.RowKit
abbrev ints (l : List Int) : List (List DV) := l.map fun z => [.v (.int .i64 z)]
theorem ints_at {l : List Int} {i : Nat} {z : Int} (h : l[i]? = some z) : (ints l)[i]? = some [.v (.int .i64 z)] := by simp [ints, h]
theorem ints_set (l : List Int) (i : Nat) (z : Int) : List.set (ints l) i [.v (.int .i64 z)] = ints (l.set i z) := by unfold ints; rw [List.map_set]
theorem ints_app (l : List Int) (z : Int) : ints l ++ [[.v (.int .i64 z)]] = ints (l ++ [z]) := by unfold ints; rw [List.map_append]; rfl
theorem froz_ints (l : List Int) : frozR (ints l) = ints l := by
  rw [frozR_map]; unfold ints; rw [List.map_map]; apply List.map_congr_left; intro s _; show [froz (.v _)] = _; rw [froz]
def Rising (l : List Int) : Prop := ∀ (i : Nat) a b, l[i]? = some a → l[i + 1]? = some b → a ≤ b
def blen (n : Nat) : Nat := match n with | 0 => 0 | 1 => 1 | 2 => 2 | 3 => 2 | 4 => 3 | 5 => 3 | _ => 3
set_option maxRecDepth 100000 in
theorem len64_0  : Con Try.prog 94 [.d (.v (.int .u64 0))] (.v (.int .i64 0)) := by
  refine Con.intro (by kernel_rfl) rfl rfl 25 rfl rfl fun w0 K ac hK r => ?_
  exact toRet tb_ok mixed_ok hK rfl [(10, [(2, .z (0)), (3, .n 0), (4, .z (0)), (5, .z (0))])] 2000 r (by kernel_rfl) (an ((by decide) : IntKind.u8.wrap (0) = 0) (an (rfl : (0 : Int) = ((0 : Nat) : Int)) (an ((by decide) : IntKind.i64.wrap (0) = 0) (an ((by decide) : IntKind.i64.wrap ((0 : Int) + 0) = 0) trivial))))
set_option maxRecDepth 100000 in
theorem bitsLen_0  : Con Try.prog 81 [.d (.v (.int .u64 0))] (.v (.int .i64 0)) := by
  refine Con.intro (by kernel_rfl) rfl rfl 8 rfl rfl fun w0 K ac hK r => ?_
  exact toRet tb_ok mixed_ok hK rfl [(2, [(1, .con (.z 0))])] 2000 r (by kernel_rfl) (an (len64_0) trivial)
set_option maxRecDepth 100000 in
theorem len64_1  : Con Try.prog 94 [.d (.v (.int .u64 1))] (.v (.int .i64 1)) := by
  refine Con.intro (by kernel_rfl) rfl rfl 25 rfl rfl fun w0 K ac hK r => ?_
  exact toRet tb_ok mixed_ok hK rfl [(10, [(2, .z (1)), (3, .n 1), (4, .z (1)), (5, .z (1))])] 2000 r (by kernel_rfl) (an ((by decide) : IntKind.u8.wrap (1) = 1) (an (rfl : (1 : Int) = ((1 : Nat) : Int)) (an ((by decide) : IntKind.i64.wrap (1) = 1) (an ((by decide) : IntKind.i64.wrap ((0 : Int) + 1) = 1) trivial))))
set_option maxRecDepth 100000 in
theorem bitsLen_1  : Con Try.prog 81 [.d (.v (.int .u64 1))] (.v (.int .i64 1)) := by
  refine Con.intro (by kernel_rfl) rfl rfl 8 rfl rfl fun w0 K ac hK r => ?_
  exact toRet tb_ok mixed_ok hK rfl [(2, [(1, .con (.z 1))])] 2000 r (by kernel_rfl) (an (len64_1) trivial)
set_option maxRecDepth 100000 in
theorem len64_2  : Con Try.prog 94 [.d (.v (.int .u64 2))] (.v (.int .i64 2)) := by
  refine Con.intro (by kernel_rfl) rfl rfl 25 rfl rfl fun w0 K ac hK r => ?_
  exact toRet tb_ok mixed_ok hK rfl [(10, [(2, .z (2)), (3, .n 2), (4, .z (2)), (5, .z (2))])] 2000 r (by kernel_rfl) (an ((by decide) : IntKind.u8.wrap (2) = 2) (an (rfl : (2 : Int) = ((2 : Nat) : Int)) (an ((by decide) : IntKind.i64.wrap (2) = 2) (an ((by decide) : IntKind.i64.wrap ((0 : Int) + 2) = 2) trivial))))
set_option maxRecDepth 100000 in
theorem bitsLen_2  : Con Try.prog 81 [.d (.v (.int .u64 2))] (.v (.int .i64 2)) := by
  refine Con.intro (by kernel_rfl) rfl rfl 8 rfl rfl fun w0 K ac hK r => ?_
  exact toRet tb_ok mixed_ok hK rfl [(2, [(1, .con (.z 2))])] 2000 r (by kernel_rfl) (an (len64_2) trivial)
set_option maxRecDepth 100000 in
theorem len64_3  : Con Try.prog 94 [.d (.v (.int .u64 3))] (.v (.int .i64 2)) := by
  refine Con.intro (by kernel_rfl) rfl rfl 25 rfl rfl fun w0 K ac hK r => ?_
  exact toRet tb_ok mixed_ok hK rfl [(10, [(2, .z (3)), (3, .n 3), (4, .z (2)), (5, .z (2))])] 2000 r (by kernel_rfl) (an ((by decide) : IntKind.u8.wrap (3) = 3) (an (rfl : (3 : Int) = ((3 : Nat) : Int)) (an ((by decide) : IntKind.i64.wrap (2) = 2) (an ((by decide) : IntKind.i64.wrap ((0 : Int) + 2) = 2) trivial))))
set_option maxRecDepth 100000 in
theorem bitsLen_3  : Con Try.prog 81 [.d (.v (.int .u64 3))] (.v (.int .i64 2)) := by
  refine Con.intro (by kernel_rfl) rfl rfl 8 rfl rfl fun w0 K ac hK r => ?_
  exact toRet tb_ok mixed_ok hK rfl [(2, [(1, .con (.z 2))])] 2000 r (by kernel_rfl) (an (len64_3) trivial)
set_option maxRecDepth 100000 in
theorem len64_4  : Con Try.prog 94 [.d (.v (.int .u64 4))] (.v (.int .i64 3)) := by
  refine Con.intro (by kernel_rfl) rfl rfl 25 rfl rfl fun w0 K ac hK r => ?_
  exact toRet tb_ok mixed_ok hK rfl [(10, [(2, .z (4)), (3, .n 4), (4, .z (3)), (5, .z (3))])] 2000 r (by kernel_rfl) (an ((by decide) : IntKind.u8.wrap (4) = 4) (an (rfl : (4 : Int) = ((4 : Nat) : Int)) (an ((by decide) : IntKind.i64.wrap (3) = 3) (an ((by decide) : IntKind.i64.wrap ((0 : Int) + 3) = 3) trivial))))
set_option maxRecDepth 100000 in
theorem bitsLen_4  : Con Try.prog 81 [.d (.v (.int .u64 4))] (.v (.int .i64 3)) := by
  refine Con.intro (by kernel_rfl) rfl rfl 8 rfl rfl fun w0 K ac hK r => ?_
  exact toRet tb_ok mixed_ok hK rfl [(2, [(1, .con (.z 3))])] 2000 r (by kernel_rfl) (an (len64_4) trivial)
set_option maxRecDepth 100000 in
theorem len64_5  : Con Try.prog 94 [.d (.v (.int .u64 5))] (.v (.int .i64 3)) := by
  refine Con.intro (by kernel_rfl) rfl rfl 25 rfl rfl fun w0 K ac hK r => ?_
  exact toRet tb_ok mixed_ok hK rfl [(10, [(2, .z (5)), (3, .n 5), (4, .z (3)), (5, .z (3))])] 2000 r (by kernel_rfl) (an ((by decide) : IntKind.u8.wrap (5) = 5) (an (rfl : (5 : Int) = ((5 : Nat) : Int)) (an ((by decide) : IntKind.i64.wrap (3) = 3) (an ((by decide) : IntKind.i64.wrap ((0 : Int) + 3) = 3) trivial))))
set_option maxRecDepth 100000 in
theorem bitsLen_5  : Con Try.prog 81 [.d (.v (.int .u64 5))] (.v (.int .i64 3)) := by
  refine Con.intro (by kernel_rfl) rfl rfl 8 rfl rfl fun w0 K ac hK r => ?_
  exact toRet tb_ok mixed_ok hK rfl [(2, [(1, .con (.z 3))])] 2000 r (by kernel_rfl) (an (len64_5) trivial)
set_option maxRecDepth 100000 in
theorem len64_6  : Con Try.prog 94 [.d (.v (.int .u64 6))] (.v (.int .i64 3)) := by
  refine Con.intro (by kernel_rfl) rfl rfl 25 rfl rfl fun w0 K ac hK r => ?_
  exact toRet tb_ok mixed_ok hK rfl [(10, [(2, .z (6)), (3, .n 6), (4, .z (3)), (5, .z (3))])] 2000 r (by kernel_rfl) (an ((by decide) : IntKind.u8.wrap (6) = 6) (an (rfl : (6 : Int) = ((6 : Nat) : Int)) (an ((by decide) : IntKind.i64.wrap (3) = 3) (an ((by decide) : IntKind.i64.wrap ((0 : Int) + 3) = 3) trivial))))
set_option maxRecDepth 100000 in
theorem bitsLen_6  : Con Try.prog 81 [.d (.v (.int .u64 6))] (.v (.int .i64 3)) := by
  refine Con.intro (by kernel_rfl) rfl rfl 8 rfl rfl fun w0 K ac hK r => ?_
  exact toRet tb_ok mixed_ok hK rfl [(2, [(1, .con (.z 3))])] 2000 r (by kernel_rfl) (an (len64_6) trivial)
theorem bitsLen (n : Nat) (h : n ≤ 6) : Con Try.prog 81 [.d (.v (.int .u64 ((n : Nat) : Int)))] (.v (.int .i64 ((blen n : Nat) : Int))) :=
  match n, h with
  | 0, _ => bitsLen_0
  | 1, _ => bitsLen_1
  | 2, _ => bitsLen_2
  | 3, _ => bitsLen_3
  | 4, _ => bitsLen_4
  | 5, _ => bitsLen_5
  | 6, _ => bitsLen_6
  | n + 7, h => absurd h (by omega)
set_option maxRecDepth 100000 in
theorem notNan (x : Int) : Con Try.prog 82 [.z x] (.v (.bool false)) := by
  refine Con.intro (by kernel_rfl) rfl rfl 6 rfl rfl fun w0 K ac hK r => ?_
  exact toRet tb_ok mixed_ok hK rfl [(1, [(2, .b false)])] 2000 r (by kernel_rfl) (an ((by simp) : ((x : Int) != x) = false) trivial)
set_option maxRecDepth 100000 in
theorem lessOk (x y : Int) : Con Try.prog 90 [.z x, .z y] (.v (.bool (decide (x < y)))) := by
  refine Con.intro (by kernel_rfl) rfl rfl 17 rfl rfl fun w0 K ac hK r => ?_
  cases h0 : (decide ((x : Int) < y)) with
  | false =>
    have qh0 := of_decide_eq_false h0
    exact toRet tb_ok mixed_ok hK rfl [(1, [(1, .con (.v (.bool false))), (10, .b false)])] 2000 r (by kernel_rfl) (an (notNan _ : Con Try.prog 82 [.z x] (.v (.bool false))) (an h0 trivial))
  | true =>
    have qh0 := of_decide_eq_true h0
    exact toRet tb_ok mixed_ok hK rfl [(1, [(1, .con (.v (.bool false))), (10, .b true)])] 2000 r (by kernel_rfl) (an (notNan _ : Con Try.prog 82 [.z x] (.v (.bool false))) (an h0 trivial))
set_option maxRecDepth 100000 in
theorem insSort (l : List Int) (hs : Rising l) (hb : l.length < 1073741824) : Con Try.prog 84 [.d (.ro 1 (ints l)), .z 0, .n l.length] (.tu []) := by
  refine Con.intro (by kernel_rfl) rfl rfl 49 rfl rfl fun w0 K ac hK r => ?_
  refine toHead (todo' := hd Try.f84 0) (E' := [(0, .d (.ro 1 (ints l))), (1, .z 0), (2, .n l.length), (6, .n (0 + 1))]) (M' := []) tb_ok mixed_ok hK [(0, [(1, .z (1))])] 2000 [] [0, 1, 2, 6] r (by kernel_rfl) (an ((wi (by omega)) : IntKind.i64.wrap ((0 : Int) + 1) = 1) trivial) fun ac wd r => ?_
  refine Goes.rounds (Φ := fun (i : Nat) ac wd => (True) ∧ RE' [] w0 K 49 [(0, .d (.ro 1 (ints l))), (1, .z 0), (2, .n l.length), (6, .n (i + 1))] [] ac wd) (l.length) ?_ (Nat.zero_le _) ⟨trivial, r⟩
  clear r
  rintro i hi0 again0 ac wd ⟨hv0, r⟩
  cases h0 : (decide ((((i + 1 : Nat) : Int) : Int) < ((l.length : Nat) : Int))) with
  | false =>
    have qh0 := of_decide_eq_false h0
    exact toRet tb_ok mixed_ok hK rfl [(1, [(2, .b false)])] 2000 r (by kernel_rfl) (an h0 trivial)
  | true =>
    have qh0 := of_decide_eq_true h0
    obtain ⟨e_l_i1, ge_l_i1⟩ : ∃ x, l[i + 1]? = some x := ⟨_, List.getElem?_eq_getElem (by omega)⟩
    obtain ⟨e_l_i11, ge_l_i11⟩ : ∃ x, l[i + 1 - 1]? = some x := ⟨_, List.getElem?_eq_getElem (by omega)⟩
    refine toHead (todo' := hd Try.f84 1) (E' := [(0, .d (.ro 1 (ints l))), (1, .z 0), (2, .n l.length), (6, .n (i + 1)), (7, .n (i + 1))]) (M' := []) tb_ok mixed_ok hK [(1, [(2, .b true)])] 2000 [] [0, 1, 2, 6, 7] r (by kernel_rfl) (an h0 trivial) fun ac wd r => ?_
    cases h1 : (decide ((0 : Int) < ((i + 1 : Nat) : Int))) with
    | false =>
      have qh1 := of_decide_eq_false h1
      exact toHead (todo' := hd Try.f84 0) tb_ok mixed_ok hK [(2, [(1, .z (((i + 1 + 1 : Nat) : Int)))]), (4, [(2, .b false)])] 2000 [] [0, 1, 2, 6] r (by kernel_rfl) (an h1 (an ((wi (by omega)) : IntKind.i64.wrap ((((i + 1 : Nat) : Int) : Int) + 1) = ((i + 1 + 1 : Nat) : Int)) trivial)) fun ac wd r => again0 (by omega) ac wd ⟨trivial, r⟩
    | true =>
      have qh1 := of_decide_eq_true h1
      cases h2 : (decide (e_l_i1 < e_l_i11)) with
      | false =>
        have qh2 := of_decide_eq_false h2
        exact toHead (todo' := hd Try.f84 0) tb_ok mixed_ok hK [(2, [(1, .z (((i + 1 + 1 : Nat) : Int)))]), (4, [(2, .b true), (6, .ix (i + 1) [.z e_l_i1]), (10, .z (((i + 1 - 1 : Nat) : Int))), (11, .ix (i + 1 - 1) [.z e_l_i11]), (13, .con (.v (.bool false)))])] 2000 [] [0, 1, 2, 6] r (by kernel_rfl) (an h1 (an (rfI ((i + 1 : Nat) : Int)) (an (ints_at ge_l_i1) (an ((wi (by omega)) : IntKind.i64.wrap ((((i + 1 : Nat) : Int) : Int) - 1) = ((i + 1 - 1 : Nat) : Int)) (an (rfI ((i + 1 - 1 : Nat) : Int)) (an (ints_at ge_l_i11) (an ((by have k := lessOk (e_l_i1) (e_l_i11); rw [h2] at k; exact k) : Con Try.prog 90 [.z e_l_i1, .z e_l_i11] (.v (.bool false))) (an ((wi (by omega)) : IntKind.i64.wrap ((((i + 1 : Nat) : Int) : Int) + 1) = ((i + 1 + 1 : Nat) : Int)) trivial)))))))) fun ac wd r => again0 (by omega) ac wd ⟨trivial, r⟩
      | true =>
        have qh2 := of_decide_eq_true h2
        exact absurd (hs i _ _ (by simpa using ge_l_i11) ge_l_i1) (by omega)
set_option maxRecDepth 100000 in
theorem pdqSort (l : List Int) (k : Nat) (hs : Rising l) (hb : l.length ≤ 12) : Con Try.prog 80 [.d (.ro 1 (ints l)), .z 0, .n l.length, .n k] (.tu []) := by
  refine Con.intro (by kernel_rfl) rfl rfl 134 rfl rfl fun w0 K ac hK r => ?_
  refine toHead (todo' := hd Try.f80 0) (E' := [(0, .d (.ro 1 (ints l))), (1, .z 0), (2, .n l.length), (3, .n k), (8, .d (.v (.bool true))), (9, .d (.v (.bool true)))]) (M' := []) tb_ok mixed_ok hK [] 2000 [] [0, 1, 2, 3, 8, 9] r (by kernel_rfl) trivial fun ac wd r => ?_
  cases h0 : (decide ((((l.length : Nat) : Int) : Int) ≤ 12)) with
  | false =>
    have qh0 := of_decide_eq_false h0
    exact absurd qh0 (by omega)
  | true =>
    have qh0 := of_decide_eq_true h0
    exact toRet tb_ok mixed_ok hK rfl [(2, [(2, .z (((l.length : Nat) : Int)))]), (3, [(1, .b true)]), (4, [(3, .con (.tu []))])] 2000 r (by kernel_rfl) (an ((wi (by omega)) : IntKind.i64.wrap ((((l.length : Nat) : Int) : Int) - 0) = ((l.length : Nat) : Int)) (an h0 (an (insSort l hs (by omega)) trivial)))
set_option maxRecDepth 100000 in
theorem sortOk (l : List Int) (hs : Rising l) (hb : l.length ≤ 6) : Con Try.prog 70 [.d (.ro 1 (ints l))] (.tu []) := by
  refine Con.intro (by kernel_rfl) rfl rfl 11 rfl rfl fun w0 K ac hK r => ?_
  exact toRet tb_ok mixed_ok hK rfl [(0, [(1, .z (((l.length : Nat) : Int)))]), (1, [(3, .z (((l.length : Nat) : Int))), (4, .con (.n (blen l.length))), (5, .con (.tu []))])] 2000 r (by kernel_rfl) (an ((by simp) : (((ints l).length : Nat) : Int) = ((l.length : Nat) : Int)) (an ((wu (by omega)) : IntKind.u64.wrap (((l.length : Nat) : Int)) = ((l.length : Nat) : Int)) (an (bitsLen l.length (by omega)) (an (pdqSort l (blen l.length) hs (by omega)) trivial))))
def ddStep (l : List Int) (p : Nat) (o : List Int) : List Int := match l[p]? with | some a => (if 0 < p ∧ l[p - 1]? = some a then o else o ++ [a]) | none => o
def ddTo (l : List Int) : Nat → List Int
  | 0 => []
  | p + 1 => ddStep l p (ddTo l p)
def wr (l : List Int) (k : Nat) : Nat → List Int
  | 0 => l
  | j + 1 => match l[k + (j + 1)]? with | some a => (if l[k + j]? = some a then wr l k j else (wr l k j).set (ddTo l (k + 1 + j)).length a) | none => wr l k j
theorem ddTo_same {l : List Int} {p : Nat} {a : Int} (h : l[p]? = some a) (hp : 0 < p) (h2 : l[p - 1]? = some a) : ddTo l (p + 1) = ddTo l p := by rw [ddTo, ddStep, h]; simp [hp, h2]
theorem ddTo_new {l : List Int} {p : Nat} {a b : Int} (h : l[p]? = some a) (h2 : l[p - 1]? = some b) (hab : a ≠ b) : ddTo l (p + 1) = ddTo l p ++ [a] := by
  rw [ddTo, ddStep, h]; simp only [h2]; rw [if_neg]; rintro ⟨-, e⟩; cases e; exact hab rfl
theorem ddTo_one {l : List Int} {a : Int} (h : l[0]? = some a) : ddTo l 1 = [a] := by rw [ddTo, ddStep, h]; simp [ddTo]
theorem ddTo_le (l : List Int) (p : Nat) : (ddTo l (p + 1)).length ≤ (ddTo l p).length + 1 := by
  rw [ddTo, ddStep]; split
  · split <;> simp
  · omega
theorem dd_le {l : List Int} {k : Nat} (h : (ddTo l (k + 1)).length ≤ k) : ∀ j, (ddTo l (k + 1 + j)).length ≤ k + j
  | 0 => h
  | j + 1 => by have h1 := dd_le h j; have h2 := ddTo_le l (k + 1 + j); rw [← Nat.add_assoc]; omega
@[simp] theorem wr_len (l : List Int) (k : Nat) : ∀ j, (wr l k j).length = l.length
  | 0 => rfl
  | j + 1 => by
    rw [wr]; split
    · split
      · exact wr_len l k j
      · rw [List.length_set, wr_len l k j]
    · exact wr_len l k j
theorem wr_at {l : List Int} {k : Nat} (h : (ddTo l (k + 1)).length ≤ k) : ∀ {j p : Nat}, k + j ≤ p → (wr l k j)[p]? = l[p]?
  | 0, p, _ => rfl
  | j + 1, p, hp => by
    have h1 := dd_le h j
    rw [wr]; split
    · split
      · exact wr_at h (by omega)
      · rw [List.getElem?_set, if_neg (by omega)]; exact wr_at h (by omega)
    · exact wr_at h (by omega)
theorem wr_same {l : List Int} {k j : Nat} {a : Int} (h : l[k + (j + 1)]? = some a) (h2 : l[k + j]? = some a) : wr l k (j + 1) = wr l k j := by rw [wr, h]; simp [h2]
theorem wr_new {l : List Int} {k j : Nat} {a b : Int} (h : l[k + (j + 1)]? = some a) (h2 : l[k + j]? = some b) (hab : a ≠ b) : wr l k (j + 1) = (wr l k j).set (ddTo l (k + 1 + j)).length a := by
  rw [wr, h]; simp only [h2]; rw [if_neg]; intro e; cases e; exact hab rfl
theorem wr_take {l : List Int} {k : Nat} (h : ddTo l (k + 1) = l.take k) (hk : k < l.length) : ∀ {j : Nat}, k + 1 + j ≤ l.length → (wr l k j).take (ddTo l (k + 1 + j)).length = ddTo l (k + 1 + j)
  | 0, _ => by
    show l.take (ddTo l (k + 1)).length = ddTo l (k + 1)
    rw [h, List.length_take, Nat.min_eq_left (by omega)]
  | j + 1, hj => by
    have hle : (ddTo l (k + 1)).length ≤ k := by rw [h, List.length_take]; omega
    have h1 := dd_le hle j
    have ih := wr_take h hk (j := j) (by omega)
    have e1 : l[k + 1 + j]? = some l[k + 1 + j] := List.getElem?_eq_getElem (by omega)
    have e2 : l[k + j]? = some l[k + j] := List.getElem?_eq_getElem (by omega)
    have e3 : k + 1 + j - 1 = k + j := by omega
    have e4 : k + (j + 1) = k + 1 + j := by omega
    rw [← Nat.add_assoc]
    by_cases hab : l[k + 1 + j] = l[k + j]
    · rw [ddTo_same e1 (by omega) (by rw [e3, e2, hab]), wr_same (by rw [e4]; exact e1) (by rw [e2, hab])]; exact ih
    · rw [ddTo_new e1 (by rw [e3]; exact e2) hab, wr_new (by rw [e4]; exact e1) e2 hab]
      rw [List.length_append, List.length_singleton, List.take_succ_eq_append_getElem (by rw [List.length_set, wr_len]; omega), List.take_set_of_le (Nat.le_refl _), ih, List.getElem_set_self]
theorem dd_short {l : List Int} (h : l.length < 2) : ddTo l l.length = l := by
  match l, h with
  | [], _ => rfl
  | [a], _ => exact ddTo_one rfl
theorem ints_take (l : List Int) (n : Nat) : (ints l).take n = ints (l.take n) := by unfold ints; rw [List.map_take]
theorem rwB {T k : Nat} {a b : List (List DV)} (h : a = b) : [Blk.rw T k a] = [.rw T k b] := by rw [h]
theorem cut_take {A B : List (List DV)} {n : Nat} (h : n ≤ A.length) : (A.take n ++ B).take n = A.take n := by
  rw [List.take_append_of_le_length (by simp; omega), List.take_take, Nat.min_self]
theorem dd_start {l : List Int} (h : 0 < l.length) : ddTo l 1 = l.take 1 := by
  match l, h with
  | a :: r, _ => exact ddTo_one rfl
theorem dd_next {l : List Int} {k : Nat} {a : Int} (h : l[k]? = some a) : l.take (k + 1) = l.take k ++ [a] := by
  obtain ⟨hk, rfl⟩ := List.getElem?_eq_some_iff.1 h
  rw [List.take_succ_eq_append_getElem hk]
set_option maxRecDepth 100000 in
theorem compactOk (l : List Int) (hb : l.length < 1073741824) : ConM Try.prog 72 [.sl 0 (l.length)] [.rw 3 1 (ints l)] (.sl 0 (ddTo l l.length).length) ([.rw 3 1 (ints (ddTo l l.length))]) := by
  refine ConM.intro (by kernel_rfl) rfl rfl 61 rfl rfl fun D w0 K b ac wd hK (hbm : b.m = 1) r => ?_
  cases h0 : (decide ((((l.length : Nat) : Int) : Int) < 2)) with
  | false =>
    have qh0 := of_decide_eq_false h0
    refine toHeadM (todo' := hd Try.f72 0) (E' := [(0, .sl 0 (l.length)), (3, .n (0 + 1))]) (M' := [.rw 3 1 (ints l)]) tb_ok mixed_ok hK hbm [(1, [(2, .b false)])] 2000 [0] [0, 3] r (by kernel_rfl) (an h0 trivial) fun ac wd r => ?_
    refine Goes.rounds (Φ := fun (i : Nat) ac wd => (i + 1 ≤ l.length ∧ ddTo l (i + 1) = l.take (i + 1)) ∧ RB D w0 K 61 b [(0, .sl 0 (l.length)), (3, .n (i + 1))] [.rw 3 1 (ints l)] ac wd) (l.length) ?_ (Nat.zero_le _) ⟨⟨by omega, dd_start (by omega)⟩, r⟩
    clear r
    rintro i hi0 again0 ac wd ⟨hv0, r⟩
    obtain ⟨hi2, hi3⟩ := hv0
    cases h1 : (decide ((((i + 1 : Nat) : Int) : Int) < ((l.length : Nat) : Int))) with
    | false =>
      have qh1 := of_decide_eq_false h1
      refine castM (y := .sl 0 (l.length)) (N' := [.rw 3 1 (ints l)]) ((by first | (rw [dd_short (by omega)]; done) | (rw [show ddTo l l.length = l by rw [show l.length = i + 1 by omega, hi3]; exact List.take_of_length_le (by omega)]; done) | (rw [show l.length = i + 1 + 1 + j by omega]))) ((by first | (rw [dd_short (by omega)]; done) | (rw [show ddTo l l.length = l by rw [show l.length = i + 1 by omega, hi3]; exact List.take_of_length_le (by omega)]; done) | (refine rwB ?_; rw [cut_take (by rw [List.length_map, wr_len]; have := dd_le hlt j; omega), ints_take, wr_take hdd (by omega) (by omega)]; rw [show l.length = i + 1 + 1 + j by omega]))) ?_
      exact toRetM tb_ok mixed_ok hK rfl hbm [(4, [(3, .b false)])] 2000 [0] r (by kernel_rfl) (an h1 trivial)
    | true =>
      have qh1 := of_decide_eq_true h1
      obtain ⟨e_l_i1, ge_l_i1⟩ : ∃ x, l[i + 1]? = some x := ⟨_, List.getElem?_eq_getElem (by omega)⟩
      obtain ⟨e_l_i11, ge_l_i11⟩ : ∃ x, l[i + 1 - 1]? = some x := ⟨_, List.getElem?_eq_getElem (by omega)⟩
      cases h2 : ((e_l_i1 : Int) == e_l_i11) with
      | false =>
        have qh2 := ne_of_beq_false h2
        exact toHeadM (todo' := hd Try.f72 0) tb_ok mixed_ok hK hbm [(4, [(3, .b true)]), (5, [(1, .z (((i + 1 + 1 : Nat) : Int)))]), (6, [(2, .n (i + 1)), (3, .ix 0 [.z e_l_i1]), (6, .z (((i + 1 - 1 : Nat) : Int))), (7, .n (i + 1 - 1)), (8, .ix 0 [.z e_l_i11]), (9, .b false)])] 2000 [0] [0, 3] r (by kernel_rfl) (an h1 (an (rfI ((i + 1 : Nat) : Int)) (an ((by first | omega | (have := dd_le hlt j; omega)) : (i + 1) < (l.length)) (an ((by simp <;> omega) : (l.length) ≤ (ints l : List (List DV)).length) (an (ints_at ge_l_i1) (an ((wi (by omega)) : IntKind.i64.wrap ((((i + 1 : Nat) : Int) : Int) - 1) = ((i + 1 - 1 : Nat) : Int)) (an (rfI ((i + 1 - 1 : Nat) : Int)) (an ((by first | omega | (have := dd_le hlt j; omega)) : (i + 1 - 1) < (l.length)) (an ((by simp <;> omega) : (l.length) ≤ (ints l : List (List DV)).length) (an (ints_at ge_l_i11) (an h2 (an ((wi (by omega)) : IntKind.i64.wrap ((((i + 1 : Nat) : Int) : Int) + 1) = ((i + 1 + 1 : Nat) : Int)) trivial)))))))))))) fun ac wd r => again0 (by omega) ac wd ⟨⟨by omega, by rw [ddTo_new (p := i + 1) ge_l_i1 ge_l_i11 (by omega), hi3, ← dd_next ge_l_i1]⟩, r⟩
      | true =>
        have qh2 := eq_of_beq h2
        have hdd : ddTo l (i + 1 + 1) = l.take (i + 1) := by rw [ddTo_same (p := i + 1) ge_l_i1 (by omega) (by rw [ge_l_i11, ‹e_l_i1 = e_l_i11›])]; exact hi3
        have hlt : (ddTo l (i + 1 + 1)).length ≤ i + 1 := by rw [hdd, List.length_take]; omega
        refine toHeadM (todo' := hd Try.f72 1) (E' := [(0, .sl 0 (l.length)), (3, .n (i + 1)), (4, .sb 0 1 (i + 1) (l.length - (i + 1))), (5, .z 1)]) (M' := [.rw 3 1 (ints l)]) tb_ok mixed_ok hK hbm [(4, [(3, .b true)]), (6, [(2, .n (i + 1)), (3, .ix 0 [.z e_l_i1]), (6, .z (((i + 1 - 1 : Nat) : Int))), (7, .n (i + 1 - 1)), (8, .ix 0 [.z e_l_i11]), (9, .b true)]), (7, [(2, .n (i + 1))])] 2000 [0] [0, 3, 4, 5] r (by kernel_rfl) (an h1 (an (rfI ((i + 1 : Nat) : Int)) (an ((by first | omega | (have := dd_le hlt j; omega)) : (i + 1) < (l.length)) (an ((by simp <;> omega) : (l.length) ≤ (ints l : List (List DV)).length) (an (ints_at ge_l_i1) (an ((wi (by omega)) : IntKind.i64.wrap ((((i + 1 : Nat) : Int) : Int) - 1) = ((i + 1 - 1 : Nat) : Int)) (an (rfI ((i + 1 - 1 : Nat) : Int)) (an ((by first | omega | (have := dd_le hlt j; omega)) : (i + 1 - 1) < (l.length)) (an ((by simp <;> omega) : (l.length) ≤ (ints l : List (List DV)).length) (an (ints_at ge_l_i11) (an h2 (an (rfI ((i + 1 : Nat) : Int)) (an ((by first | omega | (have := dd_le hlt j; omega)) : (i + 1) < (l.length)) (an ((by simp <;> omega) : (l.length) = (ints l : List (List DV)).length) trivial)))))))))))))) fun ac wd r => ?_
        refine Goes.rounds (Φ := fun (j : Nat) ac wd => (i + 1 + 1 + j ≤ l.length) ∧ RB D w0 K 61 b [(0, .sl 0 (l.length)), (3, .n ((ddTo l (i + 1 + 1 + j)).length)), (4, .sb 0 1 (i + 1) (l.length - (i + 1))), (5, .n (j + 1))] [.rw 3 1 (ints (wr l (i + 1) j))] ac wd) (l.length) ?_ (Nat.zero_le _) ⟨by omega, (r).cast (by rw [hdd]; simp; omega) rfl⟩
        clear r
        rintro j hi1 again1 ac wd ⟨hv1, r⟩
        cases h3 : (decide ((((j + 1 : Nat) : Int) : Int) < ((l.length - (i + 1) : Nat) : Int))) with
        | false =>
          have qh3 := of_decide_eq_false h3
          have hddj := dd_le hlt j
          refine castM (y := .sl 0 ((ddTo l (i + 1 + 1 + j)).length)) (N' := [.rw 3 1 (((ints (wr l (i + 1) j)).take ((ddTo l (i + 1 + 1 + j)).length) ++ (List.replicate (l.length - ((ddTo l (i + 1 + 1 + j)).length)) ([.z 0] : List DV) ++ (ints (wr l (i + 1) j)).drop (((ddTo l (i + 1 + 1 + j)).length) + (l.length - ((ddTo l (i + 1 + 1 + j)).length))))).take ((ddTo l (i + 1 + 1 + j)).length))]) ((by first | (rw [dd_short (by omega)]; done) | (rw [show ddTo l l.length = l by rw [show l.length = i + 1 by omega, hi3]; exact List.take_of_length_le (by omega)]; done) | (rw [show l.length = i + 1 + 1 + j by omega]))) ((by first | (rw [dd_short (by omega)]; done) | (rw [show ddTo l l.length = l by rw [show l.length = i + 1 by omega, hi3]; exact List.take_of_length_le (by omega)]; done) | (refine rwB ?_; rw [cut_take (by rw [List.length_map, wr_len]; have := dd_le hlt j; omega), ints_take, wr_take hdd (by omega) (by omega)]; rw [show l.length = i + 1 + 1 + j by omega]))) ?_
          exact toRetM tb_ok mixed_ok hK rfl hbm [(9, [(3, .b false)]), (14, [(2, .n ((ddTo l (i + 1 + 1 + j)).length))]), (15, [(2, .n ((ddTo l (i + 1 + 1 + j)).length))])] 2000 [0] r (by kernel_rfl) (an h3 (an (rfI (((ddTo l (i + 1 + 1 + j)).length : Nat) : Int)) (an ((by first | omega | (have := dd_le hlt j; omega)) : ((ddTo l (i + 1 + 1 + j)).length) < (l.length)) (an ((by simp <;> omega) : (l.length) = (ints (wr l (i + 1) j) : List (List DV)).length) (an ((by first | omega | (have := dd_le hlt j; omega)) : 0 < (l.length - ((ddTo l (i + 1 + 1 + j)).length))) (an ((by simp <;> omega) : ((ddTo l (i + 1 + 1 + j)).length) + (l.length - ((ddTo l (i + 1 + 1 + j)).length)) ≤ (ints (wr l (i + 1) j) : List (List DV)).length) (an (rfI (((ddTo l (i + 1 + 1 + j)).length : Nat) : Int)) (an ((by first | omega | (have := dd_le hlt j; omega)) : ((ddTo l (i + 1 + 1 + j)).length) ≤ (l.length)) (an ((by simp <;> omega) : (l.length) = ((ints (wr l (i + 1) j)).take ((ddTo l (i + 1 + 1 + j)).length) ++ (List.replicate (l.length - ((ddTo l (i + 1 + 1 + j)).length)) ([.z 0] : List DV) ++ (ints (wr l (i + 1) j)).drop (((ddTo l (i + 1 + 1 + j)).length) + (l.length - ((ddTo l (i + 1 + 1 + j)).length)))) : List (List DV)).length) trivial)))))))))
        | true =>
          have qh3 := of_decide_eq_true h3
          obtain ⟨e_l_i1j1, ge_l_i1j1⟩ : ∃ x, l[i + 1 + (j + 1)]? = some x := ⟨_, List.getElem?_eq_getElem (by omega)⟩
          obtain ⟨e_l_i1j11, ge_l_i1j11⟩ : ∃ x, l[i + 1 + (j + 1 - 1)]? = some x := ⟨_, List.getElem?_eq_getElem (by omega)⟩
          have hddj := dd_le hlt j
          obtain ⟨old, gold⟩ : ∃ x, (wr l (i + 1) j)[(ddTo l (i + 1 + 1 + j)).length]? = some x := ⟨_, List.getElem?_eq_getElem (by rw [wr_len]; omega)⟩
          cases h4 : ((e_l_i1j1 : Int) != e_l_i1j11) with
          | false =>
            have qh4 := eq_of_bne h4
            exact toHeadM (todo' := hd Try.f72 1) (E' := [(0, .sl 0 (l.length)), (3, .n ((ddTo l (i + 1 + 1 + j)).length)), (4, .sb 0 1 (i + 1) (l.length - (i + 1))), (5, .n (j + 1 + 1))]) (M' := [.rw 3 1 (ints (wr l (i + 1) j))]) tb_ok mixed_ok hK hbm [(9, [(3, .b true)]), (10, [(1, .z (((j + 1 + 1 : Nat) : Int)))]), (11, [(2, .n (j + 1)), (3, .ix 0 [.z e_l_i1j1]), (6, .z (((j + 1 - 1 : Nat) : Int))), (7, .n (j + 1 - 1)), (8, .ix 0 [.z e_l_i1j11]), (9, .b false)])] 2000 [0] [0, 3, 4, 5] r (by kernel_rfl) (an h3 (an (rfI ((j + 1 : Nat) : Int)) (an ((by first | omega | (have := dd_le hlt j; omega)) : (j + 1) < (l.length - (i + 1))) (an ((by simp <;> omega) : (i + 1) + (l.length - (i + 1)) ≤ (ints (wr l (i + 1) j) : List (List DV)).length) (an (ints_at (by rw [wr_at hlt (by omega)]; exact ge_l_i1j1) : (ints (wr l (i + 1) j))[i + 1 + (j + 1)]? = some [.z e_l_i1j1]) (an ((wi (by omega)) : IntKind.i64.wrap ((((j + 1 : Nat) : Int) : Int) - 1) = ((j + 1 - 1 : Nat) : Int)) (an (rfI ((j + 1 - 1 : Nat) : Int)) (an ((by first | omega | (have := dd_le hlt j; omega)) : (j + 1 - 1) < (l.length - (i + 1))) (an ((by simp <;> omega) : (i + 1) + (l.length - (i + 1)) ≤ (ints (wr l (i + 1) j) : List (List DV)).length) (an (ints_at (by rw [wr_at hlt (by omega)]; exact ge_l_i1j11) : (ints (wr l (i + 1) j))[i + 1 + (j + 1 - 1)]? = some [.z e_l_i1j11]) (an h4 (an ((wi (by omega)) : IntKind.i64.wrap ((((j + 1 : Nat) : Int) : Int) + 1) = ((j + 1 + 1 : Nat) : Int)) trivial)))))))))))) fun ac wd r => again1 (by omega) ac wd ⟨by omega, r.cast (by have e : i + 1 + 1 + (j + 1) = (i + 1 + (j + 1)) + 1 := (by omega); have e2 : i + 1 + (j + 1) = i + 1 + 1 + j := (by omega); rw [e]; first | (rw [ddTo_new (p := i + 1 + (j + 1)) ge_l_i1j1 (by have k := ge_l_i1j11; simpa using k) (by omega), e2]; simp; done) | (rw [ddTo_same (p := i + 1 + (j + 1)) ge_l_i1j1 (by omega) (by have k := ge_l_i1j11; rw [show e_l_i1j1 = e_l_i1j11 by omega]; simpa using k), e2]; done)) (by first | (rw [ints_set, wr_new (k := i + 1) (j := j) ge_l_i1j1 (by have k := ge_l_i1j11; simpa using k) (by omega)]; done) | (rw [wr_same (k := i + 1) (j := j) ge_l_i1j1 (by have k := ge_l_i1j11; rw [show e_l_i1j1 = e_l_i1j11 by omega]; simpa using k)]; done))⟩
          | true =>
            have qh4 : ¬ _ = _ := bne_iff_ne.1 h4
            exact toHeadM (todo' := hd Try.f72 1) (E' := [(0, .sl 0 (l.length)), (3, .n ((ddTo l (i + 1 + 1 + j)).length + 1)), (4, .sb 0 1 (i + 1) (l.length - (i + 1))), (5, .n (j + 1 + 1))]) (M' := [.rw 3 1 (List.set (ints (wr l (i + 1) j)) ((ddTo l (i + 1 + 1 + j)).length) [.z e_l_i1j1])]) tb_ok mixed_ok hK hbm [(9, [(3, .b true)]), (10, [(1, .z (((j + 1 + 1 : Nat) : Int)))]), (11, [(2, .n (j + 1)), (3, .ix 0 [.z e_l_i1j1]), (6, .z (((j + 1 - 1 : Nat) : Int))), (7, .n (j + 1 - 1)), (8, .ix 0 [.z e_l_i1j11]), (9, .b true)]), (12, [(4, .n (j + 1)), (5, .ix 0 [.z e_l_i1j1]), (6, .n ((ddTo l (i + 1 + 1 + j)).length)), (7, .ix 0 [.z old])]), (13, [(1, .z ((((ddTo l (i + 1 + 1 + j)).length + 1 : Nat) : Int)))])] 2000 [0] [0, 3, 4, 5] r (by kernel_rfl) (an h3 (an (rfI ((j + 1 : Nat) : Int)) (an ((by first | omega | (have := dd_le hlt j; omega)) : (j + 1) < (l.length - (i + 1))) (an ((by simp <;> omega) : (i + 1) + (l.length - (i + 1)) ≤ (ints (wr l (i + 1) j) : List (List DV)).length) (an (ints_at (by rw [wr_at hlt (by omega)]; exact ge_l_i1j1) : (ints (wr l (i + 1) j))[i + 1 + (j + 1)]? = some [.z e_l_i1j1]) (an ((wi (by omega)) : IntKind.i64.wrap ((((j + 1 : Nat) : Int) : Int) - 1) = ((j + 1 - 1 : Nat) : Int)) (an (rfI ((j + 1 - 1 : Nat) : Int)) (an ((by first | omega | (have := dd_le hlt j; omega)) : (j + 1 - 1) < (l.length - (i + 1))) (an ((by simp <;> omega) : (i + 1) + (l.length - (i + 1)) ≤ (ints (wr l (i + 1) j) : List (List DV)).length) (an (ints_at (by rw [wr_at hlt (by omega)]; exact ge_l_i1j11) : (ints (wr l (i + 1) j))[i + 1 + (j + 1 - 1)]? = some [.z e_l_i1j11]) (an h4 (an (rfI ((j + 1 : Nat) : Int)) (an ((by first | omega | (have := dd_le hlt j; omega)) : (j + 1) < (l.length - (i + 1))) (an ((by simp <;> omega) : (i + 1) + (l.length - (i + 1)) ≤ (ints (wr l (i + 1) j) : List (List DV)).length) (an (ints_at (by rw [wr_at hlt (by omega)]; exact ge_l_i1j1) : (ints (wr l (i + 1) j))[i + 1 + (j + 1)]? = some [.z e_l_i1j1]) (an (rfI (((ddTo l (i + 1 + 1 + j)).length : Nat) : Int)) (an ((by first | omega | (have := dd_le hlt j; omega)) : ((ddTo l (i + 1 + 1 + j)).length) < (l.length)) (an ((by simp <;> omega) : (l.length) ≤ (ints (wr l (i + 1) j) : List (List DV)).length) (an (ints_at gold) (an ((wi (by omega)) : IntKind.i64.wrap (((((ddTo l (i + 1 + 1 + j)).length : Nat) : Int) : Int) + 1) = (((ddTo l (i + 1 + 1 + j)).length + 1 : Nat) : Int)) (an ((wi (by omega)) : IntKind.i64.wrap ((((j + 1 : Nat) : Int) : Int) + 1) = ((j + 1 + 1 : Nat) : Int)) trivial))))))))))))))))))))) fun ac wd r => again1 (by omega) ac wd ⟨by omega, r.cast (by have e : i + 1 + 1 + (j + 1) = (i + 1 + (j + 1)) + 1 := (by omega); have e2 : i + 1 + (j + 1) = i + 1 + 1 + j := (by omega); rw [e]; first | (rw [ddTo_new (p := i + 1 + (j + 1)) ge_l_i1j1 (by have k := ge_l_i1j11; simpa using k) (by omega), e2]; simp; done) | (rw [ddTo_same (p := i + 1 + (j + 1)) ge_l_i1j1 (by omega) (by have k := ge_l_i1j11; rw [show e_l_i1j1 = e_l_i1j11 by omega]; simpa using k), e2]; done)) (by first | (rw [ints_set, wr_new (k := i + 1) (j := j) ge_l_i1j1 (by have k := ge_l_i1j11; simpa using k) (by omega)]; done) | (rw [wr_same (k := i + 1) (j := j) ge_l_i1j1 (by have k := ge_l_i1j11; rw [show e_l_i1j1 = e_l_i1j11 by omega]; simpa using k)]; done))⟩
  | true =>
    have qh0 := of_decide_eq_true h0
    refine castM (y := .sl 0 (l.length)) (N' := [.rw 3 1 (ints l)]) ((by first | (rw [dd_short (by omega)]; done) | (rw [show ddTo l l.length = l by rw [show l.length = i + 1 by omega, hi3]; exact List.take_of_length_le (by omega)]; done) | (rw [show l.length = i + 1 + 1 + j by omega]))) ((by first | (rw [dd_short (by omega)]; done) | (rw [show ddTo l l.length = l by rw [show l.length = i + 1 by omega, hi3]; exact List.take_of_length_le (by omega)]; done) | (refine rwB ?_; rw [cut_take (by rw [List.length_map, wr_len]; have := dd_le hlt j; omega), ints_take, wr_take hdd (by omega) (by omega)]; rw [show l.length = i + 1 + 1 + j by omega]))) ?_
    exact toRetM tb_ok mixed_ok hK rfl hbm [(1, [(2, .b true)])] 2000 [0] r (by kernel_rfl) (an h0 trivial)
end Go.Proofs.Ytoijfmfkkmbabaa
namespace Go.Proofs.Ytoijfmfkkmbabaa
open Go.RowKit
theorem ddTo_take {l : List Int} (h : ∀ (i : Nat) (a b : Int), l[i]? = some a → l[i + 1]? = some b → b ≠ a) : ∀ {p : Nat}, p ≤ l.length → ddTo l p = l.take p
  | 0, _ => by simp [ddTo]
  | 1, hp => dd_start (by omega)
  | p + 2, hp => by
    have e1 : l[p + 1]? = some l[p + 1] := List.getElem?_eq_getElem (by omega)
    have e2 : l[p]? = some l[p] := List.getElem?_eq_getElem (by omega)
    rw [ddTo_new (p := p + 1) e1 (by simp) (h p _ _ e2 e1), ddTo_take h (p := p + 1) (by omega), ← dd_next e1]
theorem ddTo_le' (l : List Int) : ∀ p, (ddTo l p).length ≤ p
  | 0 => by simp [ddTo]
  | p + 1 => by have := ddTo_le l p; have := ddTo_le' l p; omega
theorem lone_nodes {l : List Proc} (hs : isSet l = true) : ((ddTo (l.map Proc.node) (l.map Proc.node).length).length = l.length) ↔ lone l = true := by
  have hset := (isSet_iff l).1 hs
  have hle : ∀ (i : Nat) p q, l[i]? = some p → l[i + 1]? = some q → p.node ≤ q.node := fun i p q hp hq => by
    have := hset.2 i p q (List.getElem?_eq_some_iff.1 hq).1 hp hq
    unfold Proc.lt at this
    have := of_decide_eq_true this
    omega
  have mono : ∀ (d i : Nat) p q, l[i]? = some p → l[i + d]? = some q → p.node ≤ q.node := by
    intro d
    induction d with
    | zero => intro i p q hp hq; rw [Nat.add_zero, hp] at hq; cases hq; omega
    | succ d ih =>
      intro i p q hp hq
      have hlt := (List.getElem?_eq_some_iff.1 hq).1
      have e : l[i + d]? = some l[i + d] := List.getElem?_eq_getElem (by omega)
      have h1 := ih i p _ hp e
      have h2 := hle (i + d) _ q e (by rw [Nat.add_assoc]; exact hq)
      omega
  constructor
  · intro h
    cases hl : lone l with
    | true => rfl
    | false =>
      exfalso
      have hn : ¬ Lone l l.length := fun hh => by rw [lone_yes hh] at hl; cases hl
      apply hn
      intro a b p q ha hb hp hq e
      have hpos : 0 < a := by omega
      have e1 : l[a - 1]? = some l[a - 1] := List.getElem?_eq_getElem (by omega)
      have h1 := mono (a - 1 - b) b q _ hq (by rw [show b + (a - 1 - b) = a - 1 by omega]; exact e1)
      have h2 := hle (a - 1) _ p e1 (by rw [show a - 1 + 1 = a by omega]; exact hp)
      have g1 : (l.map Proc.node)[a]? = some p.node := by rw [List.getElem?_map, hp]; rfl
      have g2 : (l.map Proc.node)[a - 1]? = some p.node := by rw [List.getElem?_map, e1]; simp; omega
      have h3 := ddTo_same g1 hpos g2
      have h4 := ddTo_le' (l.map Proc.node) a
      have h5 := dd_le (l := l.map Proc.node) (k := a) (by rw [h3]; exact h4) (l.length - (a + 1))
      rw [show a + 1 + (l.length - (a + 1)) = (l.map Proc.node).length by simp; omega] at h5
      omega
  · intro h
    have hlone := (lone_iff l).1 h
    rw [ddTo_take (fun i a b ha hb => ?_) (Nat.le_refl _), List.take_length, List.length_map]
    rw [List.getElem?_map, Option.map_eq_some_iff] at ha hb
    obtain ⟨p, hp, rfl⟩ := ha
    obtain ⟨q, hq, rfl⟩ := hb
    exact fun e => hlone (i + 1) i q p (List.getElem?_eq_some_iff.1 hq).1 (by omega) hq hp e.symm
theorem set_rising {l : List Proc} (hs : isSet l = true) : Rising (l.map Proc.node) := by
  have hset := (isSet_iff l).1 hs
  intro i a b ha hb
  rw [List.getElem?_map, Option.map_eq_some_iff] at ha hb
  obtain ⟨p, hp, rfl⟩ := ha
  obtain ⟨q, hq, rfl⟩ := hb
  have := hset.2 i p q (List.getElem?_eq_some_iff.1 hq).1 hp hq
  unfold Proc.lt at this
  have := of_decide_eq_true this
  omega
theorem compactI (l : List Int) (i : Nat) (h : i = l.length) (hb : l.length < 1073741824) : ConM Try.prog 72 [.sl 0 i] [.rw 3 1 (ints l)] (.sl 0 (ddTo l l.length).length) [.rw 3 1 (ints (ddTo l l.length))] := by subst h; exact compactOk l hb
theorem nodes_next {l : List Proc} {i : Nat} {p : Proc} (h : l[i]? = some p) : ints ((l.take i).map Proc.node) ++ [[.v (.int .i64 p.node)]] = ints ((l.take (i + 1)).map Proc.node) := by
  obtain ⟨hi, rfl⟩ := List.getElem?_eq_some_iff.1 h
  rw [ints_app, List.take_succ_eq_append_getElem hi, List.map_append]; rfl
set_option maxRecDepth 100000 in
theorem nodesOk (l : List Proc) (hs : Rising (l.map Proc.node)) (hb : l.length ≤ 6) : Con Try.prog 53 [.d (.ro 2 (procs l))] (.ro 1 (ints (ddTo (l.map Proc.node) (l.map Proc.node).length))) := by
  refine Con.intro (by kernel_rfl) rfl rfl 26 rfl rfl fun w0 K ac hK r => ?_
  refine toHead (todo' := hd Try.f53 0) (E' := [(3, .sl 0 (0)), (9, .d (.ro 2 (procs l))), (10, .n l.length), (11, .z 0)]) (M' := [.rw 3 1 ([])]) tb_ok mixed_ok hK [(1, [(1, .z (((l.length : Nat) : Int))), (2, .n2 (0) (l.length))]), (2, [(1, .z (((l.length : Nat) : Int)))])] 2000 [0] [3, 9, 10, 11] r (by kernel_rfl) (an ((by simp) : (((procs l).length : Nat) : Int) = ((l.length : Nat) : Int)) (an (rfl : (0 : Int) = ((0 : Nat) : Int)) (an (rfI ((l.length : Nat) : Int)) (an ((by first | omega | (simp; omega)) : (0) ≤ (l.length)) (an ((by first | omega | (simp; omega)) : 8 * (l.length) ≤ 281474976710656) (an ((by first | omega | (simp; omega)) : (l.length) < 4611686018427387904) (an ((by simp) : (((procs l).length : Nat) : Int) = ((l.length : Nat) : Int)) trivial))))))) fun ac wd r => ?_
  refine Goes.rounds (Φ := fun (i : Nat) ac wd => (i ≤ l.length) ∧ RE' [] w0 K 26 [(3, .sl 0 (i)), (9, .d (.ro 2 (procs l))), (10, .n l.length), (11, .n i)] [.rw 3 1 (ints ((l.take i).map Proc.node))] ac wd) (l.length) ?_ (Nat.zero_le _) ⟨by omega, (r).cast rfl rfl⟩
  clear r
  rintro i hi0 again0 ac wd ⟨hv0, r⟩
  cases h0 : (decide ((((i : Nat) : Int) : Int) < ((l.length : Nat) : Int))) with
  | false =>
    have qh0 := of_decide_eq_false h0
    have hall : l.take i = l := List.take_of_length_le (by omega)
    exact toRet tb_ok mixed_ok hK rfl [(3, [(0, .b false)]), (7, [(1, .call [.d (.ro 1 (ints (l.map Proc.node)))] (.tu []))]), (8, [(1, .mem [0] (.sl 0 ((ddTo (l.map Proc.node) (l.map Proc.node).length).length)) [.rw 3 1 (ints (ddTo (l.map Proc.node) (l.map Proc.node).length))]), (2, .into 200 [(1, [(5, .res (.ro 1 (ints (ddTo (l.map Proc.node) (l.map Proc.node).length))))])])])] 2000 r (by kernel_rfl) (an h0 (an (sortOk (l.map Proc.node) hs (by simp; omega)) (an ((.tu (by simp)) : Ind (.tu [])) (an (rfN (1)) (an ((by simp <;> omega) : (i) = (ints ((l.take i).map Proc.node) : List (List DV)).length) (an ((by rw [froz_ints, hall]) : frozR (ints ((l.take i).map Proc.node)) = ints (l.map Proc.node)) (an ((by rw [hall]; exact compactI (l.map Proc.node) (i) (by simp; omega) (by simp; omega)) : ConM Try.prog 72 [.sl 0 (i)] [.rw 3 1 (ints ((l.take i).map Proc.node))] (.sl 0 ((ddTo (l.map Proc.node) (l.map Proc.node).length).length)) [.rw 3 1 (ints (ddTo (l.map Proc.node) (l.map Proc.node).length))]) (an (rfI (((ddTo (l.map Proc.node) (l.map Proc.node).length).length : Nat) : Int)) (an (rfI (((ddTo (l.map Proc.node) (l.map Proc.node).length).length : Nat) : Int)) (an ((by simp <;> omega) : ((ddTo (l.map Proc.node) (l.map Proc.node).length).length) = (ints (ddTo (l.map Proc.node) (l.map Proc.node).length) : List (List DV)).length) (an (rfN (1)) (an (froz_ints _ : frozR (ints (ddTo (l.map Proc.node) (l.map Proc.node).length)) = ints (ddTo (l.map Proc.node) (l.map Proc.node).length)) trivial))))))))))))
  | true =>
    have qh0 := of_decide_eq_true h0
    obtain ⟨e_l_i, ge_l_i⟩ : ∃ x, l[i]? = some x := ⟨_, List.getElem?_eq_getElem (by omega)⟩
    exact toHead (todo' := hd Try.f53 0) (E' := [(3, .sl 0 (i + (1))), (9, .d (.ro 2 (procs l))), (10, .n l.length), (11, .n (i + 1))]) (M' := [.rw 3 1 (ints ((l.take i).map Proc.node) ++ [[.z e_l_i.node]])]) tb_ok mixed_ok hK [(3, [(0, .b true)]), (4, [(0, .ix (i) [.z e_l_i.node, .u e_l_i.inc])]), (6, [(0, .z (((i + 1 : Nat) : Int)))])] 2000 [0] [3, 9, 10, 11] r (by kernel_rfl) (an h0 (an (rfI ((i : Nat) : Int)) (an (procs_at ge_l_i) (an ((by simp <;> omega) : (i) = (ints ((l.take i).map Proc.node) : List (List DV)).length) (an ((by simp <;> omega) : (1) = ([[.z e_l_i.node]] : List (List DV)).length) (an ((by first | omega | (simp; done) | (simp; omega)) : (2 * ((i) + (1)) + 192) * 8 ≤ 281474976710656) (an ((by first | omega | (simp; done) | (simp; omega)) : (i) + (1) < 4611686018427387904) (an ((by simp [OneR, AV.one, oneC]) : OneR ([[.z e_l_i.node]])) (an ((wi (by omega)) : IntKind.i64.wrap ((((i : Nat) : Int) : Int) + 1) = ((i + 1 : Nat) : Int)) trivial))))))))) fun ac wd r => again0 (by omega) ac wd ⟨by omega, r.cast rfl (by rw [nodes_next ge_l_i])⟩
end Go.Proofs.Ytoijfmfkkmbabaa
namespace Go.Proofs.Ytoijfmfkkmbabaa
open Go.RowKit
theorem idx_pos : ∀ {l : List Nat} {x k : Nat}, x ∈ l → 0 ≤ idx l x k
  | [], x, k, h => by simp at h
  | y :: r, x, k, h => by
    unfold idx; split
    · omega
    · rename_i hne
      rcases List.mem_cons.1 h with e | e
      · exact absurd e.symm hne
      · exact idx_pos e
theorem View.may_zero {v : View} (h : v.id.round ≠ 0) (h0 : 0 ≤ idx v.starts 0 0) : v.may = false := by
  obtain ⟨i, -, h2⟩ := idx_some h0
  exact View.may_no h h2 rfl
theorem View.may_nz {v : View} (h0 : ¬ 0 ≤ idx v.starts 0 0) (j x : Nat) (_ : j < v.starts.length) (hx : v.starts[j]? = some x) : x ≠ 0 := by
  intro e; subst e; exact h0 (idx_pos (List.mem_of_getElem? hx))
theorem View.may_id {v : View} (h : v.id.may = false) : v.may = false := by
  unfold View.may; split
  · rename_i h0
    unfold Vid.may at h
    have h1 := of_decide_eq_false h
    have : v.id.server.may = false := by
      cases hs : v.id.server.may with
      | false => rfl
      | true => exact absurd ⟨hs, .inl h0⟩ h1
    rw [this]; rfl
  · rw [h]; simp
theorem Vid.may_server {v : Vid} (h : v.may = true) : v.server.may = true := (of_decide_eq_true h).1
set_option maxRecDepth 100000 in
theorem viewMay (v : View) (hb : v.bounded) : Con Try.prog 36 [.ag [.u v.id.round, .z v.id.server.node, .u v.id.server.inc, .d (.ro 2 (procs v.members)), .d (.ro 1 (nums v.starts))]] (DV.v (.bool v.may)) := by
  obtain ⟨hb1, hb2⟩ := id hb
  refine Con.intro (by kernel_rfl) rfl rfl 53 rfl rfl fun w0 K ac hK r => ?_
  cases h0 : (v.id.may) with
  | false =>
    rw [show (DV.v (.bool v.may) : DV) = .v (.bool false) from (bv (by first | exact View.may_id (by assumption) | exact View.may_first1 (by omega) (Vid.may_server (by assumption)) (by assumption) | exact View.may_zero (by omega) (of_decide_eq_true (by assumption)) | exact View.may_yes (by omega) (by assumption) (by omega) (by omega) (by omega) (by assumption) (by assumption) (Nat.le_refl _) (View.may_nz (of_decide_eq_false (by assumption))) | exact View.may_bad (by omega) (by first | (left; assumption) | (right; left; omega) | (right; right; left; omega) | (right; right; right; left; omega) | (right; right; right; right; left; assumption) | (right; right; right; right; right; assumption))))]
    exact toRet tb_ok mixed_ok hK rfl [(1, [(2, .con (.v (.bool false)))])] 2000 r (by kernel_rfl) (an ((by have k := viewMayId v.id; rw [h0] at k; exact k) : Con Try.prog 49 [.ag [.u v.id.round, .z v.id.server.node, .u v.id.server.inc]] (.v (.bool false))) trivial)
  | true =>
    cases h1 : ((((v.id.round : Nat) : Int) : Int) == 0) with
    | false =>
      have qh1 := ne_of_beq_false h1
      cases h2 : (decide ((1 : Int) ≤ ((v.members.length : Nat) : Int))) with
      | false =>
        have qh2 := of_decide_eq_false h2
        rw [show (DV.v (.bool v.may) : DV) = .v (.bool false) from (bv (by first | exact View.may_id (by assumption) | exact View.may_first1 (by omega) (Vid.may_server (by assumption)) (by assumption) | exact View.may_zero (by omega) (of_decide_eq_true (by assumption)) | exact View.may_yes (by omega) (by assumption) (by omega) (by omega) (by omega) (by assumption) (by assumption) (Nat.le_refl _) (View.may_nz (of_decide_eq_false (by assumption))) | exact View.may_bad (by omega) (by first | (left; assumption) | (right; left; omega) | (right; right; left; omega) | (right; right; right; left; omega) | (right; right; right; right; left; assumption) | (right; right; right; right; right; assumption))))]
        exact toRet tb_ok mixed_ok hK rfl [(1, [(2, .con (.v (.bool true)))]), (3, [(3, .b false)]), (5, [(2, .z (((v.members.length : Nat) : Int)))]), (6, [(1, .b false)])] 2000 r (by kernel_rfl) (an ((by have k := viewMayId v.id; rw [h0] at k; exact k) : Con Try.prog 49 [.ag [.u v.id.round, .z v.id.server.node, .u v.id.server.inc]] (.v (.bool true))) (an h1 (an ((by simp) : (((procs v.members).length : Nat) : Int) = ((v.members.length : Nat) : Int)) (an h2 trivial))))
      | true =>
        have qh2 := of_decide_eq_true h2
        cases h3 : (decide ((((v.members.length : Nat) : Int) : Int) ≤ 6)) with
        | false =>
          have qh3 := of_decide_eq_false h3
          rw [show (DV.v (.bool v.may) : DV) = .v (.bool false) from (bv (by first | exact View.may_id (by assumption) | exact View.may_first1 (by omega) (Vid.may_server (by assumption)) (by assumption) | exact View.may_zero (by omega) (of_decide_eq_true (by assumption)) | exact View.may_yes (by omega) (by assumption) (by omega) (by omega) (by omega) (by assumption) (by assumption) (Nat.le_refl _) (View.may_nz (of_decide_eq_false (by assumption))) | exact View.may_bad (by omega) (by first | (left; assumption) | (right; left; omega) | (right; right; left; omega) | (right; right; right; left; omega) | (right; right; right; right; left; assumption) | (right; right; right; right; right; assumption))))]
          exact toRet tb_ok mixed_ok hK rfl [(1, [(2, .con (.v (.bool true)))]), (3, [(3, .b false)]), (5, [(2, .z (((v.members.length : Nat) : Int)))]), (6, [(1, .b true), (4, .b false)])] 2000 r (by kernel_rfl) (an ((by have k := viewMayId v.id; rw [h0] at k; exact k) : Con Try.prog 49 [.ag [.u v.id.round, .z v.id.server.node, .u v.id.server.inc]] (.v (.bool true))) (an h1 (an ((by simp) : (((procs v.members).length : Nat) : Int) = ((v.members.length : Nat) : Int)) (an h2 (an h3 trivial)))))
        | true =>
          have qh3 := of_decide_eq_true h3
          cases h4 : (isSet v.members) with
          | false =>
            rw [show (DV.v (.bool v.may) : DV) = .v (.bool false) from (bv (by first | exact View.may_id (by assumption) | exact View.may_first1 (by omega) (Vid.may_server (by assumption)) (by assumption) | exact View.may_zero (by omega) (of_decide_eq_true (by assumption)) | exact View.may_yes (by omega) (by assumption) (by omega) (by omega) (by omega) (by assumption) (by assumption) (Nat.le_refl _) (View.may_nz (of_decide_eq_false (by assumption))) | exact View.may_bad (by omega) (by first | (left; assumption) | (right; left; omega) | (right; right; left; omega) | (right; right; right; left; omega) | (right; right; right; right; left; assumption) | (right; right; right; right; right; assumption))))]
            exact toRet tb_ok mixed_ok hK rfl [(1, [(2, .con (.v (.bool true)))]), (3, [(3, .b false)]), (5, [(2, .z (((v.members.length : Nat) : Int)))]), (6, [(1, .b true), (4, .b true), (9, .con (.v (.bool false)))])] 2000 r (by kernel_rfl) (an ((by have k := viewMayId v.id; rw [h0] at k; exact k) : Con Try.prog 49 [.ag [.u v.id.round, .z v.id.server.node, .u v.id.server.inc]] (.v (.bool true))) (an h1 (an ((by simp) : (((procs v.members).length : Nat) : Int) = ((v.members.length : Nat) : Int)) (an h2 (an h3 (an ((by have k := procSet v.members (by omega); rw [h4] at k; exact k) : Con Try.prog 52 [.d (.ro 2 (procs v.members))] (.v (.bool false))) trivial))))))
          | true =>
            cases h5 : (((((ddTo (v.members.map Proc.node) (v.members.map Proc.node).length).length : Nat) : Int) : Int) == ((v.members.length : Nat) : Int)) with
            | false =>
              have qh5 := ne_of_beq_false h5
              have hlone : lone v.members = false := by
                cases hl : lone v.members with
                | false => rfl
                | true => exact absurd ((lone_nodes (by assumption)).2 hl) (by omega)
              rw [show (DV.v (.bool v.may) : DV) = .v (.bool false) from (bv (by first | exact View.may_id (by assumption) | exact View.may_first1 (by omega) (Vid.may_server (by assumption)) (by assumption) | exact View.may_zero (by omega) (of_decide_eq_true (by assumption)) | exact View.may_yes (by omega) (by assumption) (by omega) (by omega) (by omega) (by assumption) (by assumption) (Nat.le_refl _) (View.may_nz (of_decide_eq_false (by assumption))) | exact View.may_bad (by omega) (by first | (left; assumption) | (right; left; omega) | (right; right; left; omega) | (right; right; right; left; omega) | (right; right; right; right; left; assumption) | (right; right; right; right; right; assumption))))]
              exact toRet tb_ok mixed_ok hK rfl [(1, [(2, .con (.v (.bool true)))]), (3, [(3, .b false)]), (5, [(2, .z (((v.members.length : Nat) : Int)))]), (6, [(1, .b true), (4, .b true), (9, .con (.v (.bool true))), (14, .con (.ro 1 (ints (ddTo (v.members.map Proc.node) (v.members.map Proc.node).length)))), (15, .z ((((ddTo (v.members.map Proc.node) (v.members.map Proc.node).length).length : Nat) : Int))), (17, .b false)])] 2000 r (by kernel_rfl) (an ((by have k := viewMayId v.id; rw [h0] at k; exact k) : Con Try.prog 49 [.ag [.u v.id.round, .z v.id.server.node, .u v.id.server.inc]] (.v (.bool true))) (an h1 (an ((by simp) : (((procs v.members).length : Nat) : Int) = ((v.members.length : Nat) : Int)) (an h2 (an h3 (an ((by have k := procSet v.members (by omega); rw [h4] at k; exact k) : Con Try.prog 52 [.d (.ro 2 (procs v.members))] (.v (.bool true))) (an (nodesOk v.members (set_rising (by assumption)) (by omega)) (an ((by simp) : (((ints (ddTo (v.members.map Proc.node) (v.members.map Proc.node).length)).length : Nat) : Int) = (((ddTo (v.members.map Proc.node) (v.members.map Proc.node).length).length : Nat) : Int)) (an h5 trivial)))))))))
            | true =>
              have qh5 := eq_of_beq h5
              have hlone : lone v.members = true := (lone_nodes (by assumption)).1 (by omega)
              cases h6 : ((((v.starts.length : Nat) : Int) : Int) == ((v.members.length : Nat) : Int)) with
              | false =>
                have qh6 := ne_of_beq_false h6
                rw [show (DV.v (.bool v.may) : DV) = .v (.bool false) from (bv (by first | exact View.may_id (by assumption) | exact View.may_first1 (by omega) (Vid.may_server (by assumption)) (by assumption) | exact View.may_zero (by omega) (of_decide_eq_true (by assumption)) | exact View.may_yes (by omega) (by assumption) (by omega) (by omega) (by omega) (by assumption) (by assumption) (Nat.le_refl _) (View.may_nz (of_decide_eq_false (by assumption))) | exact View.may_bad (by omega) (by first | (left; assumption) | (right; left; omega) | (right; right; left; omega) | (right; right; right; left; omega) | (right; right; right; right; left; assumption) | (right; right; right; right; right; assumption))))]
                exact toRet tb_ok mixed_ok hK rfl [(1, [(2, .con (.v (.bool true)))]), (3, [(3, .b false)]), (5, [(2, .z (((v.members.length : Nat) : Int)))]), (6, [(1, .b true), (4, .b true), (9, .con (.v (.bool true))), (14, .con (.ro 1 (ints (ddTo (v.members.map Proc.node) (v.members.map Proc.node).length)))), (15, .z ((((ddTo (v.members.map Proc.node) (v.members.map Proc.node).length).length : Nat) : Int))), (17, .b true), (22, .z (((v.starts.length : Nat) : Int))), (24, .b false)])] 2000 r (by kernel_rfl) (an ((by have k := viewMayId v.id; rw [h0] at k; exact k) : Con Try.prog 49 [.ag [.u v.id.round, .z v.id.server.node, .u v.id.server.inc]] (.v (.bool true))) (an h1 (an ((by simp) : (((procs v.members).length : Nat) : Int) = ((v.members.length : Nat) : Int)) (an h2 (an h3 (an ((by have k := procSet v.members (by omega); rw [h4] at k; exact k) : Con Try.prog 52 [.d (.ro 2 (procs v.members))] (.v (.bool true))) (an (nodesOk v.members (set_rising (by assumption)) (by omega)) (an ((by simp) : (((ints (ddTo (v.members.map Proc.node) (v.members.map Proc.node).length)).length : Nat) : Int) = (((ddTo (v.members.map Proc.node) (v.members.map Proc.node).length).length : Nat) : Int)) (an h5 (an ((by simp) : (((nums v.starts).length : Nat) : Int) = ((v.starts.length : Nat) : Int)) (an h6 trivial)))))))))))
              | true =>
                have qh6 := eq_of_beq h6
                cases h7 : (decide (0 ≤ idx v.starts 0 0)) with
                | false =>
                  have qh7 := of_decide_eq_false h7
                  rw [show (DV.v (.bool v.may) : DV) = .v (.bool true) from (bv (by first | exact View.may_id (by assumption) | exact View.may_first1 (by omega) (Vid.may_server (by assumption)) (by assumption) | exact View.may_zero (by omega) (of_decide_eq_true (by assumption)) | exact View.may_yes (by omega) (by assumption) (by omega) (by omega) (by omega) (by assumption) (by assumption) (Nat.le_refl _) (View.may_nz (of_decide_eq_false (by assumption))) | exact View.may_bad (by omega) (by first | (left; assumption) | (right; left; omega) | (right; right; left; omega) | (right; right; right; left; omega) | (right; right; right; right; left; assumption) | (right; right; right; right; right; assumption))))]
                  exact toRet tb_ok mixed_ok hK rfl [(1, [(2, .con (.v (.bool true)))]), (3, [(3, .b false)]), (5, [(2, .z (((v.members.length : Nat) : Int)))]), (6, [(1, .b true), (4, .b true), (9, .con (.v (.bool true))), (14, .con (.ro 1 (ints (ddTo (v.members.map Proc.node) (v.members.map Proc.node).length)))), (15, .z ((((ddTo (v.members.map Proc.node) (v.members.map Proc.node).length).length : Nat) : Int))), (17, .b true), (22, .z (((v.starts.length : Nat) : Int))), (24, .b true), (29, .con (.v (.bool false)))])] 2000 r (by kernel_rfl) (an ((by have k := viewMayId v.id; rw [h0] at k; exact k) : Con Try.prog 49 [.ag [.u v.id.round, .z v.id.server.node, .u v.id.server.inc]] (.v (.bool true))) (an h1 (an ((by simp) : (((procs v.members).length : Nat) : Int) = ((v.members.length : Nat) : Int)) (an h2 (an h3 (an ((by have k := procSet v.members (by omega); rw [h4] at k; exact k) : Con Try.prog 52 [.d (.ro 2 (procs v.members))] (.v (.bool true))) (an (nodesOk v.members (set_rising (by assumption)) (by omega)) (an ((by simp) : (((ints (ddTo (v.members.map Proc.node) (v.members.map Proc.node).length)).length : Nat) : Int) = (((ddTo (v.members.map Proc.node) (v.members.map Proc.node).length).length : Nat) : Int)) (an h5 (an ((by simp) : (((nums v.starts).length : Nat) : Int) = ((v.starts.length : Nat) : Int)) (an h6 (an ((by have k := containsNum v.starts 0 (by omega); rw [h7] at k; exact k) : Con Try.prog 54 [.d (.ro 1 (nums v.starts)), .d (.v (.int .u64 0))] (.v (.bool false))) trivial))))))))))))
                | true =>
                  have qh7 := of_decide_eq_true h7
                  rw [show (DV.v (.bool v.may) : DV) = .v (.bool false) from (bv (by first | exact View.may_id (by assumption) | exact View.may_first1 (by omega) (Vid.may_server (by assumption)) (by assumption) | exact View.may_zero (by omega) (of_decide_eq_true (by assumption)) | exact View.may_yes (by omega) (by assumption) (by omega) (by omega) (by omega) (by assumption) (by assumption) (Nat.le_refl _) (View.may_nz (of_decide_eq_false (by assumption))) | exact View.may_bad (by omega) (by first | (left; assumption) | (right; left; omega) | (right; right; left; omega) | (right; right; right; left; omega) | (right; right; right; right; left; assumption) | (right; right; right; right; right; assumption))))]
                  exact toRet tb_ok mixed_ok hK rfl [(1, [(2, .con (.v (.bool true)))]), (3, [(3, .b false)]), (5, [(2, .z (((v.members.length : Nat) : Int)))]), (6, [(1, .b true), (4, .b true), (9, .con (.v (.bool true))), (14, .con (.ro 1 (ints (ddTo (v.members.map Proc.node) (v.members.map Proc.node).length)))), (15, .z ((((ddTo (v.members.map Proc.node) (v.members.map Proc.node).length).length : Nat) : Int))), (17, .b true), (22, .z (((v.starts.length : Nat) : Int))), (24, .b true), (29, .con (.v (.bool true)))])] 2000 r (by kernel_rfl) (an ((by have k := viewMayId v.id; rw [h0] at k; exact k) : Con Try.prog 49 [.ag [.u v.id.round, .z v.id.server.node, .u v.id.server.inc]] (.v (.bool true))) (an h1 (an ((by simp) : (((procs v.members).length : Nat) : Int) = ((v.members.length : Nat) : Int)) (an h2 (an h3 (an ((by have k := procSet v.members (by omega); rw [h4] at k; exact k) : Con Try.prog 52 [.d (.ro 2 (procs v.members))] (.v (.bool true))) (an (nodesOk v.members (set_rising (by assumption)) (by omega)) (an ((by simp) : (((ints (ddTo (v.members.map Proc.node) (v.members.map Proc.node).length)).length : Nat) : Int) = (((ddTo (v.members.map Proc.node) (v.members.map Proc.node).length).length : Nat) : Int)) (an h5 (an ((by simp) : (((nums v.starts).length : Nat) : Int) = ((v.starts.length : Nat) : Int)) (an h6 (an ((by have k := containsNum v.starts 0 (by omega); rw [h7] at k; exact k) : Con Try.prog 54 [.d (.ro 1 (nums v.starts)), .d (.v (.int .u64 0))] (.v (.bool true))) trivial))))))))))))
    | true =>
      have qh1 := eq_of_beq h1
      cases h8 : (decide (v = View.first v.id.server)) with
      | false =>
        have qh8 := of_decide_eq_false h8
        rw [show (DV.v (.bool v.may) : DV) = .v (.bool false) from (bv (by first | exact View.may_id (by assumption) | exact View.may_first1 (by omega) (Vid.may_server (by assumption)) (by assumption) | exact View.may_zero (by omega) (of_decide_eq_true (by assumption)) | exact View.may_yes (by omega) (by assumption) (by omega) (by omega) (by omega) (by assumption) (by assumption) (Nat.le_refl _) (View.may_nz (of_decide_eq_false (by assumption))) | exact View.may_bad (by omega) (by first | (left; assumption) | (right; left; omega) | (right; right; left; omega) | (right; right; right; left; omega) | (right; right; right; right; left; assumption) | (right; right; right; right; right; assumption))))]
        exact toRet tb_ok mixed_ok hK rfl [(1, [(2, .con (.v (.bool true)))]), (3, [(3, .b true)]), (4, [(4, .con (.ag [.v (.int .u64 0), .z v.id.server.node, .u v.id.server.inc, .em 24 2 (procs [v.id.server]), .em 22 1 (nums [0])])), (5, .call [.ag [.u v.id.round, .z v.id.server.node, .u v.id.server.inc, .d (.ro 2 (procs v.members)), .d (.ro 1 (nums v.starts))], .ag [.d (.v (.int .u64 0)), .z v.id.server.node, .u v.id.server.inc, .d (.ro 2 (procs [v.id.server])), .d (.ro 1 (nums [0]))]] (.v (.bool false)))])] 2000 r (by kernel_rfl) (an ((by have k := viewMayId v.id; rw [h0] at k; exact k) : Con Try.prog 49 [.ag [.u v.id.round, .z v.id.server.node, .u v.id.server.inc]] (.v (.bool true))) (an h1 (an (viewFirst v.id.server) (an ((by have k := viewSame v (View.first v.id.server) hb; rw [h8] at k; exact k) : Con Try.prog 50 [.ag [.u v.id.round, .z v.id.server.node, .u v.id.server.inc, .d (.ro 2 (procs v.members)), .d (.ro 1 (nums v.starts))], .ag [.d (.v (.int .u64 0)), .z v.id.server.node, .u v.id.server.inc, .d (.ro 2 (procs [v.id.server])), .d (.ro 1 (nums [0]))]] (.v (.bool false))) (an ((ind_v _) : Ind (.v (.bool false))) (an (rfD (.u v.id.round)) (an (rfD (.z v.id.server.node)) (an (rfD (.u v.id.server.inc)) (an (rfD (.ro 2 (procs v.members))) (an (rfD (.ro 1 (nums v.starts))) (an (rfD (.v (.int .u64 0))) (an (rfD (.z v.id.server.node)) (an (rfD (.u v.id.server.inc)) (an (rfN (2)) (an (rfN ((procs [v.id.server]).length)) (an ((by simp [frozR_map, froz, Proc.row]) : frozR (procs [v.id.server]) = procs [v.id.server]) (an (rfN (1)) (an (rfN ((nums [0]).length)) (an ((by simp [frozR_map, froz, Proc.row]) : frozR (nums [0]) = nums [0]) trivial)))))))))))))))))))
      | true =>
        have qh8 := of_decide_eq_true h8
        rw [show (DV.v (.bool v.may) : DV) = .v (.bool true) from (bv (by first | exact View.may_id (by assumption) | exact View.may_first1 (by omega) (Vid.may_server (by assumption)) (by assumption) | exact View.may_zero (by omega) (of_decide_eq_true (by assumption)) | exact View.may_yes (by omega) (by assumption) (by omega) (by omega) (by omega) (by assumption) (by assumption) (Nat.le_refl _) (View.may_nz (of_decide_eq_false (by assumption))) | exact View.may_bad (by omega) (by first | (left; assumption) | (right; left; omega) | (right; right; left; omega) | (right; right; right; left; omega) | (right; right; right; right; left; assumption) | (right; right; right; right; right; assumption))))]
        exact toRet tb_ok mixed_ok hK rfl [(1, [(2, .con (.v (.bool true)))]), (3, [(3, .b true)]), (4, [(4, .con (.ag [.v (.int .u64 0), .z v.id.server.node, .u v.id.server.inc, .em 24 2 (procs [v.id.server]), .em 22 1 (nums [0])])), (5, .call [.ag [.u v.id.round, .z v.id.server.node, .u v.id.server.inc, .d (.ro 2 (procs v.members)), .d (.ro 1 (nums v.starts))], .ag [.d (.v (.int .u64 0)), .z v.id.server.node, .u v.id.server.inc, .d (.ro 2 (procs [v.id.server])), .d (.ro 1 (nums [0]))]] (.v (.bool true)))])] 2000 r (by kernel_rfl) (an ((by have k := viewMayId v.id; rw [h0] at k; exact k) : Con Try.prog 49 [.ag [.u v.id.round, .z v.id.server.node, .u v.id.server.inc]] (.v (.bool true))) (an h1 (an (viewFirst v.id.server) (an ((by have k := viewSame v (View.first v.id.server) hb; rw [h8] at k; exact k) : Con Try.prog 50 [.ag [.u v.id.round, .z v.id.server.node, .u v.id.server.inc, .d (.ro 2 (procs v.members)), .d (.ro 1 (nums v.starts))], .ag [.d (.v (.int .u64 0)), .z v.id.server.node, .u v.id.server.inc, .d (.ro 2 (procs [v.id.server])), .d (.ro 1 (nums [0]))]] (.v (.bool true))) (an ((ind_v _) : Ind (.v (.bool true))) (an (rfD (.u v.id.round)) (an (rfD (.z v.id.server.node)) (an (rfD (.u v.id.server.inc)) (an (rfD (.ro 2 (procs v.members))) (an (rfD (.ro 1 (nums v.starts))) (an (rfD (.v (.int .u64 0))) (an (rfD (.z v.id.server.node)) (an (rfD (.u v.id.server.inc)) (an (rfN (2)) (an (rfN ((procs [v.id.server]).length)) (an ((by simp [frozR_map, froz, Proc.row]) : frozR (procs [v.id.server]) = procs [v.id.server]) (an (rfN (1)) (an (rfN ((nums [0]).length)) (an ((by simp [frozR_map, froz, Proc.row]) : frozR (nums [0]) = nums [0]) trivial)))))))))))))))))))
end Go.Proofs.Ytoijfmfkkmbabaa
namespace Go.Proofs.Ytoijfmfkkmbabaa
open Go.RowKit
def endN (l : List Slot) (u : List Nat) (i : Nat) : Nat := if u.length = 0 then countS l else min (countS l) (nthN u i)
def handRow (p : Proc) (l : List Slot) (h k : Nat) : List Msg := (List.range k).map fun j => msgAt p l (h + 1 + j)
def handTo (f : Flow) (u : List Nat) (i : Nat) : List Msg := (List.range i).flatMap fun i => match f.streams[i]?, f.view.members[i]?, f.handed[i]? with | some l, some p, some h => handRow p l h (endN l u i - h) | _, _, _ => []
def newH (f : Flow) (u : List Nat) : Nat → List Nat
  | 0 => f.handed
  | i + 1 => (match f.streams[i]?, f.handed[i]? with | some l, some h => (newH f u i).set i (max h (endN l u i)) | _, _ => newH f u i)
theorem handTo_next {f : Flow} {u : List Nat} {i : Nat} {l : List Slot} {p : Proc} {h : Nat} (hl : f.streams[i]? = some l) (hp : f.view.members[i]? = some p) (hh : f.handed[i]? = some h) : handTo f u (i + 1) = handTo f u i ++ handRow p l h (endN l u i - h) := by
  unfold handTo; rw [List.range_succ, List.flatMap_append]; simp [hl, hp, hh]
theorem handRow_next {p : Proc} {l : List Slot} {h k : Nat} {s : Slot} (hs : l[(findS l (h + 1 + k)).toNat]? = some s) : handRow p l h (k + 1) = handRow p l h k ++ [⟨p, h + 1 + k, s.body⟩] := by
  unfold handRow; rw [List.range_succ, List.map_append]; simp [msgAt, hs]
theorem handRow_len (p : Proc) (l : List Slot) (h k : Nat) : (handRow p l h k).length = k := by simp [handRow]
theorem newH_next {f : Flow} {u : List Nat} {i : Nat} {l : List Slot} {h : Nat} (hl : f.streams[i]? = some l) (hh : f.handed[i]? = some h) : newH f u (i + 1) = (newH f u i).set i (max h (endN l u i)) := by rw [newH, hl, hh]
theorem newH_len (f : Flow) (u : List Nat) : ∀ i, (newH f u i).length = f.handed.length
  | 0 => rfl
  | i + 1 => by rw [newH]; split; rw [List.length_set, newH_len f u i]; exact newH_len f u i
theorem newH_at {f : Flow} {u : List Nat} {k h : Nat} (hh : f.handed[k]? = some h) : ∀ {i : Nat}, i ≤ k → (newH f u i)[k]? = some h
  | 0, _ => hh
  | i + 1, hi => by
    rw [newH]; split
    · rw [List.getElem?_set, if_neg (by omega)]; exact newH_at hh (by omega)
    · exact newH_at hh (by omega)
theorem nums_set (l : List Nat) (i n : Nat) : List.set (nums l) i [.v (.int .u64 ((n : Nat) : Int))] = nums (l.set i n) := by unfold nums; rw [List.map_set]
theorem Flow.owned_ok {f : Flow} {i h : Nat} {l : List Slot} (hl : f.owned.streams[i]? = some l) (hh : f.owned.handed[i]? = some h) : Good l l.length ∧ h ≤ countS l := by
  cases hm : f.may with
  | true =>
    rw [Flow.owned_yes hm] at hl hh
    unfold Flow.may at hm
    exact (@of_decide_eq_true _ (Classical.propDecidable _) hm).2.2.2 i l h hl hh
  | false => rw [Flow.owned_no hm] at hl; simp [Flow.zero] at hl
theorem count_none {l : List Slot} : findS l (countS l + 1) < 0 := by
  obtain ⟨m, h1, h2⟩ := exists_gap l
  rw [countS_eq h1 h2]; omega
theorem count_16 {l : List Slot} (g : Good l l.length) : countS l ≤ 16 := by
  rcases Nat.lt_or_ge 16 (countS l) with h | h
  · have h1 := count_find (l := l) (k := countS l - 1) (by omega)
    obtain ⟨i, h2, h3⟩ := idx_some h1
    rw [List.getElem?_map, Option.map_eq_some_iff] at h3
    obtain ⟨s, h3, h4⟩ := h3
    have := (g i s (List.getElem?_eq_some_iff.1 h3).1 h3).2.1
    omega
  · exact h
theorem endN_le (l : List Slot) (u : List Nat) (i : Nat) : endN l u i ≤ countS l := by unfold endN; split <;> omega
def Flow.hand (f : Flow) (u : List Nat) : Flow := { f with handed := newH f u f.streams.length }
theorem handTo_len {f : Flow} {u : List Nat} (hg : ∀ (i : Nat) l h, f.streams[i]? = some l → f.handed[i]? = some h → Good l l.length) (i : Nat) : (handTo f u i).length ≤ 16 * i := by
  induction i with
  | zero => simp [handTo]
  | succ i ih =>
    have key : handTo f u (i + 1) = handTo f u i ++ (match f.streams[i]?, f.view.members[i]?, f.handed[i]? with | some l, some p, some h => handRow p l h (endN l u i - h) | _, _, _ => []) := by
      unfold handTo; rw [List.range_succ, List.flatMap_append]; simp
    rw [key, List.length_append]
    split
    · rename_i l p h hl hp hh
      have := count_16 (hg i l h hl hh)
      have := endN_le l u i
      rw [handRow_len]; omega
    · simp; omega
end Go.Proofs.Ytoijfmfkkmbabaa
namespace Go.Proofs.Ytoijfmfkkmbabaa
open Go.RowKit
def fillS (f : Flow) (i : Nat) : List (List Slot) := f.streams.take i ++ List.replicate (f.streams.length - i) []
theorem fillS_len (f : Flow) (i : Nat) (hi : i ≤ f.streams.length) : (fillS f i).length = f.streams.length := by unfold fillS; simp; omega
theorem fillS_at {f : Flow} {i : Nat} (hi : i < f.streams.length) : (fillS f i)[i]? = some [] := by
  unfold fillS
  rw [List.getElem?_append_right (by simp; omega), List.getElem?_replicate, if_pos (by simp; omega)]
theorem fillS_set0 {f : Flow} {i : Nat} (hi : i < f.streams.length) : (fillS f i).set i [] = fillS f i := by
  apply List.ext_getElem?; intro k
  rw [List.getElem?_set]; split
  · rename_i e; subst e; rw [if_pos (by rw [fillS_len f _ (by omega)]; exact hi), fillS_at hi]
  · rfl
theorem fillS_next {f : Flow} {i : Nat} {l : List Slot} (hl : f.streams[i]? = some l) : (fillS f i).set i l = fillS f (i + 1) := by
  obtain ⟨hi, rfl⟩ := List.getElem?_eq_some_iff.1 hl
  apply List.ext_getElem?; intro k
  rw [List.getElem?_set]
  unfold fillS
  rcases Nat.lt_trichotomy k i with h | h | h
  · rw [if_neg (by omega), List.getElem?_append_left (by simp; omega), List.getElem?_append_left (by simp; omega), List.getElem?_take, List.getElem?_take, if_pos h, if_pos (by omega)]
  · subst h
    rw [if_pos rfl, if_pos (by simp; omega), List.getElem?_append_left (by simp; omega), List.getElem?_take, if_pos (by omega), List.getElem?_eq_getElem hi]
  · rw [if_neg (by omega), List.getElem?_append_right (by simp; omega), List.getElem?_append_right (by simp; omega), List.getElem?_replicate, List.getElem?_replicate]
    simp only [List.length_take]
    rw [Nat.min_eq_left (by omega), Nat.min_eq_left (by omega)]
    by_cases hk : k < f.streams.length
    · rw [if_pos (by omega), if_pos (by omega)]
    · rw [if_neg (by omega), if_neg (by omega)]
theorem fillS_all {f : Flow} {i : Nat} (hi : f.streams.length ≤ i) : fillS f i = f.streams := by unfold fillS; rw [List.take_of_length_le hi, Nat.sub_eq_zero_of_le hi]; simp
theorem Flow.may_len {f : Flow} (h : f.may = true) : f.view.may = true ∧ f.streams.length = f.view.members.length ∧ f.handed.length = f.view.members.length := by
  unfold Flow.may at h
  have ok := @of_decide_eq_true _ (Classical.propDecidable _) h
  exact ⟨ok.1, ok.2.1, ok.2.2.1⟩
theorem streamsO_at {l : List (List Slot)} {i : Nat} {s : List Slot} (h : l[i]? = some s) : (streamsO l)[i]? = some [.em 69 2 (slotsO s)] := by unfold streamsO; rw [List.getElem?_map, h]; rfl
theorem streamsO_set (l : List (List Slot)) (i : Nat) (s : List Slot) : List.set (streamsO l) i [.em 69 2 (slotsO s)] = streamsO (l.set i s) := by unfold streamsO; rw [List.map_set]
theorem slotsO_next' {l : List Slot} {k : Nat} {x : Slot} (h : l[k]? = some x) : slotsO (l.take k) ++ [[.v (.int .u64 ((x.n : Nat) : Int)), .em 5 1 (bytesR x.body)]] = slotsO (l.take (k + 1)) := by
  rw [List.take_succ_eq_append_getElem (List.getElem?_eq_some_iff.1 h).1]
  obtain ⟨hk, rfl⟩ := List.getElem?_eq_some_iff.1 h
  unfold slotsO; rw [List.map_append]; rfl
theorem openF (f : Flow) (hb : f.view.bounded) (hs : f.streams.length = f.view.members.length) : Con Try.prog 14 [.ag [.u f.view.id.round, .z f.view.id.server.node, .u f.view.id.server.inc, .d (.ro 2 (procs f.view.members)), .d (.ro 1 (nums f.view.starts))]] (.ag [.u f.view.id.round, .z f.view.id.server.node, .u f.view.id.server.inc, .em 24 2 (procs f.view.members), .em 22 1 (nums f.view.starts), .em 67 1 (streamsO (fillS f 0)), .em 22 1 (nums (Flow.fresh f.view).handed)]) := by
  have h := openOk f.view hb
  have e : fillS f 0 = (Flow.fresh f.view).streams := by unfold fillS Flow.fresh; simp [hs]
  rw [e]; exact h
theorem copy_all {l m : List (List DV)} {n : Nat} (h : m.length = l.length ∧ n = l.length) : l.take n ++ m.drop n = l := by
  rw [List.take_of_length_le (by omega), List.drop_of_length_le (by omega), List.append_nil]
set_option maxRecDepth 100000 in
theorem workOk (hV : ∀ v : View, v.bounded → Con Try.prog 36 [.ag [.u v.id.round, .z v.id.server.node, .u v.id.server.inc, .d (.ro 2 (procs v.members)), .d (.ro 1 (nums v.starts))]] (DV.v (.bool v.may))) (f : Flow) (hb : f.bounded) : Con Try.prog 27 [.ag [.u f.view.id.round, .z f.view.id.server.node, .u f.view.id.server.inc, .d (.ro 2 (procs f.view.members)), .d (.ro 1 (nums f.view.starts)), .d (.ro 1 (streams f.streams)), .d (.ro 1 (nums f.handed))]] (.ag f.owned.own) := by
  obtain ⟨hbv, hb1, hb2, hb3⟩ := id hb
  refine Con.intro (by kernel_rfl) rfl rfl 61 rfl rfl fun w0 K ac hK r => ?_
  cases h0 : (f.may) with
  | false =>
    refine toAt (todo' := aft Try.f27 2) (E' := [(1, .pt 0 0), (2, .pt 1 0)]) (M' := [.bx 33 [.u f.view.id.round, .z f.view.id.server.node, .u f.view.id.server.inc, .d (.ro 2 (procs f.view.members)), .d (.ro 1 (nums f.view.starts)), .d (.ro 1 (streams f.streams)), .d (.ro 1 (nums f.handed))], .bx 72 [.d (.v (.int .u64 0)), .z 0, .d (.v (.int .u64 0)), .d (.v (.slice none 0 0)), .d (.v (.slice none 0 0)), .d (.v (.slice none 0 0)), .d (.v (.slice none 0 0))]]) tb_ok mixed_ok hK [(1, [(1, .con (.v (.bool false)))])] 8 [0, 1] [1, 2] r (by kernel_rfl) (an ((by have k := flowMay hV f (by assumption); rw [h0] at k; exact k) : Con Try.prog 12 [.ag [.u f.view.id.round, .z f.view.id.server.node, .u f.view.id.server.inc, .d (.ro 2 (procs f.view.members)), .d (.ro 1 (nums f.view.starts)), .d (.ro 1 (streams f.streams)), .d (.ro 1 (nums f.handed))]] (.v (.bool false))) trivial) fun ac wd r => ?_
    have r := r.adopt (E1 := [(1, .pt 0 0), (2, .pt 1 0)]) (M1 := [.bx 33 [.u f.view.id.round, .z f.view.id.server.node, .u f.view.id.server.inc, .d (.ro 2 (procs f.view.members)), .d (.ro 1 (nums f.view.starts)), .d (.ro 1 (streams f.streams)), .d (.ro 1 (nums f.handed))], .bx 72 [.d (.v (.int .u64 0)), .z 0, .d (.v (.int .u64 0)), .d (.v (.slice none 0 0)), .d (.v (.slice none 0 0)), .d (.v (.slice none 0 0)), .d (.v (.slice none 0 0))]]) (M2 := [.bx 33 [.u f.view.id.round, .z f.view.id.server.node, .u f.view.id.server.inc, .d (.ro 2 (procs f.view.members)), .d (.ro 1 (nums f.view.starts)), .d (.ro 1 (streams f.streams)), .d (.ro 1 (nums f.handed))], .bx 72 [.d (.v (.int .u64 0)), .z 0, .d (.v (.int .u64 0)), .sl 2 (0), .sl 3 (0), .sl 4 (0), .sl 5 (0)], .rw 24 2 ([]), .rw 22 1 ([]), .rw 67 1 ([]), .rw 22 1 ([])]) [] [(1, 3, 24, 2), (1, 4, 22, 1), (1, 5, 67, 1), (1, 6, 22, 1)] (by kernel_rfl) (by kernel_rfl)
    rw [show (.ag f.owned.own : DV) = .ag [.v (.int .u64 0), .z 0, .v (.int .u64 0), .em 24 2 ([]), .em 22 1 ([]), .em 67 1 ([]), .em 22 1 ([])] from (by first | (rw [Flow.owned_no (by assumption)]; rfl) | (rw [Flow.owned_yes (by assumption), fillS_all (by omega)]; rfl))]
    exact toRet tb_ok mixed_ok hK rfl [] 2000 r (by kernel_rfl) (an ((by simp <;> omega) : (0) = ([] : List (List DV)).length) (an ((by simp <;> omega) : (0) = ([] : List (List DV)).length) (an ((by simp <;> omega) : (0) = ([] : List (List DV)).length) (an ((by simp <;> omega) : (0) = ([] : List (List DV)).length) trivial))))
  | true =>
    obtain ⟨hvm, hsl, hhl⟩ := Flow.may_len (by assumption)
    have f0 := fillS_len f 0 (by omega)
    have fh : (Flow.fresh f.view).handed.length = f.view.members.length := by simp [Flow.fresh]
    refine toAt (todo' := aft Try.f27 4) (E' := [(1, .pt 0 0), (2, .pt 1 0), (3, .pt 6 0)]) (M' := [.bx 33 [.u f.view.id.round, .z f.view.id.server.node, .u f.view.id.server.inc, .d (.ro 2 (procs f.view.members)), .d (.ro 1 (nums f.view.starts)), .d (.ro 1 (streams f.streams)), .d (.ro 1 (nums f.handed))], .bx 72 [.d (.v (.int .u64 0)), .z 0, .d (.v (.int .u64 0)), .d (.v (.slice none 0 0)), .d (.v (.slice none 0 0)), .d (.v (.slice none 0 0)), .d (.v (.slice none 0 0))], .rw 24 2 (procs f.view.members), .rw 22 1 (nums f.view.starts), .rw 67 1 (streamsO (fillS f 0)), .rw 22 1 ((nums f.handed).take (f.handed.length) ++ (nums (Flow.fresh f.view).handed).drop (f.handed.length)), .bx 72 [.u f.view.id.round, .z f.view.id.server.node, .u f.view.id.server.inc, .sl 2 ((procs f.view.members).length), .sl 3 ((nums f.view.starts).length), .sl 4 ((streamsO (fillS f 0)).length), .sl 5 ((nums (Flow.fresh f.view).handed).length)]]) tb_ok mixed_ok hK [(1, [(1, .con (.v (.bool true)))]), (3, [(2, .con (.ag [.u f.view.id.round, .z f.view.id.server.node, .u f.view.id.server.inc, .em 24 2 (procs f.view.members), .em 22 1 (nums f.view.starts), .em 67 1 (streamsO (fillS f 0)), .em 22 1 (nums (Flow.fresh f.view).handed)]))]), (4, [(5, .n (f.handed.length))])] 11 [0, 1, 2, 3, 4, 5, 6] [1, 2, 3] r (by kernel_rfl) (an ((by have k := flowMay hV f (by assumption); rw [h0] at k; exact k) : Con Try.prog 12 [.ag [.u f.view.id.round, .z f.view.id.server.node, .u f.view.id.server.inc, .d (.ro 2 (procs f.view.members)), .d (.ro 1 (nums f.view.starts)), .d (.ro 1 (streams f.streams)), .d (.ro 1 (nums f.handed))]] (.v (.bool true))) (an (openF f (by assumption) (by omega)) (an (rfN ((nums (Flow.fresh f.view).handed).length)) (an ((by simp [Flow.fresh]; omega) : min (nums f.handed).length ((nums (Flow.fresh f.view).handed).length) = f.handed.length) (an ((by simp [OneR, AV.one, oneC, bytesR]) : OneR (nums f.handed)) trivial))))) fun ac wd r => ?_
    have r := r.freeze (M1 := [.bx 33 [.u f.view.id.round, .z f.view.id.server.node, .u f.view.id.server.inc, .d (.ro 2 (procs f.view.members)), .d (.ro 1 (nums f.view.starts)), .d (.ro 1 (streams f.streams)), .d (.ro 1 (nums f.handed))], .bx 72 [.d (.v (.int .u64 0)), .z 0, .d (.v (.int .u64 0)), .d (.v (.slice none 0 0)), .d (.v (.slice none 0 0)), .d (.v (.slice none 0 0)), .d (.v (.slice none 0 0))], .rw 24 2 (procs f.view.members), .rw 22 1 (nums f.view.starts), .rw 67 1 (streamsO (fillS f 0)), .rw 22 1 ((nums f.handed).take (f.handed.length) ++ (nums (Flow.fresh f.view).handed).drop (f.handed.length)), .bx 72 [.u f.view.id.round, .z f.view.id.server.node, .u f.view.id.server.inc, .sl 2 ((procs f.view.members).length), .sl 3 ((nums f.view.starts).length), .sl 4 ((streamsO (fillS f 0)).length), .sl 5 ((nums (Flow.fresh f.view).handed).length)]]) (M2 := [.bx 33 [.u f.view.id.round, .z f.view.id.server.node, .u f.view.id.server.inc, .d (.ro 2 (procs f.view.members)), .d (.ro 1 (nums f.view.starts)), .d (.ro 1 (streams f.streams)), .d (.ro 1 (nums f.handed))], .bx 72 [.d (.v (.int .u64 0)), .z 0, .d (.v (.int .u64 0)), .d (.v (.slice none 0 0)), .d (.v (.slice none 0 0)), .d (.v (.slice none 0 0)), .d (.v (.slice none 0 0))], .rw 24 2 (procs f.view.members), .rw 22 1 (nums f.view.starts), .rw 67 1 (streamsO (fillS f 0)), .rw 22 1 (nums f.handed), .bx 72 [.u f.view.id.round, .z f.view.id.server.node, .u f.view.id.server.inc, .sl 2 ((procs f.view.members).length), .sl 3 ((nums f.view.starts).length), .sl 4 ((streamsO (fillS f 0)).length), .sl 5 ((nums (Flow.fresh f.view).handed).length)]]) [] (by kernel_rfl) (by rw [copy_all (by simp [Flow.fresh]; omega)])
    refine toHead (todo' := hd Try.f27 0) (E' := [(2, .pt 1 0), (3, .pt 6 0), (23, .d (.ro 1 (streams f.streams))), (24, .n f.streams.length), (25, .n 0)]) (M' := [.bx 33 [.u f.view.id.round, .z f.view.id.server.node, .u f.view.id.server.inc, .d (.ro 2 (procs f.view.members)), .d (.ro 1 (nums f.view.starts)), .d (.ro 1 (streams f.streams)), .d (.ro 1 (nums f.handed))], .bx 72 [.d (.v (.int .u64 0)), .z 0, .d (.v (.int .u64 0)), .d (.v (.slice none 0 0)), .d (.v (.slice none 0 0)), .d (.v (.slice none 0 0)), .d (.v (.slice none 0 0))], .rw 24 2 (procs f.view.members), .rw 22 1 (nums f.view.starts), .rw 67 1 (streamsO (fillS f 0)), .rw 22 1 (nums f.handed), .bx 72 [.u f.view.id.round, .z f.view.id.server.node, .u f.view.id.server.inc, .sl 2 ((procs f.view.members).length), .sl 3 ((nums f.view.starts).length), .sl 4 ((streamsO (fillS f 0)).length), .sl 5 ((nums (Flow.fresh f.view).handed).length)]]) tb_ok mixed_ok hK [(5, [(2, .z (((f.streams.length : Nat) : Int)))])] 2000 [0, 1, 2, 3, 4, 5, 6] [2, 3, 23, 24, 25] r (by kernel_rfl) (an ((by simp [bytesR]) : (((streams f.streams).length : Nat) : Int) = ((f.streams.length : Nat) : Int)) trivial) fun ac wd r => ?_
    refine Goes.rounds (Φ := fun (i : Nat) ac wd => (i ≤ f.streams.length) ∧ RE' [] w0 K 61 [(2, .pt 1 0), (3, .pt 6 0), (23, .d (.ro 1 (streams f.streams))), (24, .n f.streams.length), (25, .n i)] [.bx 33 [.u f.view.id.round, .z f.view.id.server.node, .u f.view.id.server.inc, .d (.ro 2 (procs f.view.members)), .d (.ro 1 (nums f.view.starts)), .d (.ro 1 (streams f.streams)), .d (.ro 1 (nums f.handed))], .bx 72 [.d (.v (.int .u64 0)), .z 0, .d (.v (.int .u64 0)), .d (.v (.slice none 0 0)), .d (.v (.slice none 0 0)), .d (.v (.slice none 0 0)), .d (.v (.slice none 0 0))], .rw 24 2 (procs f.view.members), .rw 22 1 (nums f.view.starts), .rw 67 1 (streamsO (fillS f i)), .rw 22 1 (nums f.handed), .bx 72 [.u f.view.id.round, .z f.view.id.server.node, .u f.view.id.server.inc, .sl 2 ((procs f.view.members).length), .sl 3 ((nums f.view.starts).length), .sl 4 ((streamsO (fillS f 0)).length), .sl 5 ((nums (Flow.fresh f.view).handed).length)]] ac wd) (f.streams.length) ?_ (Nat.zero_le _) ⟨by omega, r⟩
    clear r
    rintro i hi0 again0 ac wd ⟨hv0, r⟩
    have fi := fillS_len f i hv0
    cases h1 : (decide ((((i : Nat) : Int) : Int) < ((f.streams.length : Nat) : Int))) with
    | false =>
      have qh1 := of_decide_eq_false h1
      rw [show (.ag f.owned.own : DV) = .ag [.u f.view.id.round, .z f.view.id.server.node, .u f.view.id.server.inc, .em 24 2 (procs f.view.members), .em 22 1 (nums f.view.starts), .em 67 1 (streamsO (fillS f i)), .em 22 1 (nums f.handed)] from (by first | (rw [Flow.owned_no (by assumption)]; rfl) | (rw [Flow.owned_yes (by assumption), fillS_all (by omega)]; rfl))]
      exact toRet tb_ok mixed_ok hK rfl [(6, [(0, .b false)])] 2000 r (by kernel_rfl) (an h1 (an (rfN ((procs f.view.members).length)) (an (rfN ((nums f.view.starts).length)) (an ((by simp <;> omega) : ((streamsO (fillS f 0)).length) = (streamsO (fillS f i)).length) (an ((by simp <;> omega) : ((nums (Flow.fresh f.view).handed).length) = (nums f.handed).length) trivial)))))
    | true =>
      have qh1 := of_decide_eq_true h1
      obtain ⟨e_f_streams_i, ge_f_streams_i⟩ : ∃ x, f.streams[i]? = some x := ⟨_, List.getElem?_eq_getElem (by omega)⟩
      have be_f_streams_i := (hb.at ge_f_streams_i).1
      have ce_f_streams_i := hb.at ge_f_streams_i
      refine toHead (todo' := hd Try.f27 1) (E' := [(2, .pt 1 0), (3, .pt 6 0), (23, .d (.ro 1 (streams f.streams))), (24, .n f.streams.length), (25, .n i), (4, .n i), (5, .pt 7 0), (31, .d (.ro 2 (slots e_f_streams_i))), (32, .n e_f_streams_i.length), (33, .z 0)]) (M' := [.bx 33 [.u f.view.id.round, .z f.view.id.server.node, .u f.view.id.server.inc, .d (.ro 2 (procs f.view.members)), .d (.ro 1 (nums f.view.starts)), .d (.ro 1 (streams f.streams)), .d (.ro 1 (nums f.handed))], .bx 72 [.d (.v (.int .u64 0)), .z 0, .d (.v (.int .u64 0)), .d (.v (.slice none 0 0)), .d (.v (.slice none 0 0)), .d (.v (.slice none 0 0)), .d (.v (.slice none 0 0))], .rw 24 2 (procs f.view.members), .rw 22 1 (nums f.view.starts), .rw 67 1 (streamsO (fillS f i)), .rw 22 1 (nums f.handed), .bx 72 [.u f.view.id.round, .z f.view.id.server.node, .u f.view.id.server.inc, .sl 2 ((procs f.view.members).length), .sl 3 ((nums f.view.starts).length), .sl 4 ((streamsO (fillS f 0)).length), .sl 5 ((nums (Flow.fresh f.view).handed).length)], .bx 67 [.d (.ro 2 (slots e_f_streams_i))]]) tb_ok mixed_ok hK [(6, [(0, .b true)]), (7, [(1, .ix (i) [.ro 2 (slots e_f_streams_i)])]), (8, [(2, .z (((e_f_streams_i.length : Nat) : Int)))])] 2000 [0, 1, 2, 3, 4, 5, 6, 7] [2, 3, 23, 24, 25, 4, 5, 31, 32, 33] r (by kernel_rfl) (an h1 (an (rfI ((i : Nat) : Int)) (an (streams_at ge_f_streams_i) (an ((by simp [bytesR]) : (((slots e_f_streams_i).length : Nat) : Int) = ((e_f_streams_i.length : Nat) : Int)) trivial)))) fun ac wd r => ?_
      refine Goes.rounds (Φ := fun (k : Nat) ac wd => (k ≤ e_f_streams_i.length) ∧ RE' [] w0 K 61 [(2, .pt 1 0), (3, .pt 6 0), (23, .d (.ro 1 (streams f.streams))), (24, .n f.streams.length), (25, .n i), (4, .n i), (5, .pt 7 0), (31, .d (.ro 2 (slots e_f_streams_i))), (32, .n e_f_streams_i.length), (33, .n k)] [.bx 33 [.u f.view.id.round, .z f.view.id.server.node, .u f.view.id.server.inc, .d (.ro 2 (procs f.view.members)), .d (.ro 1 (nums f.view.starts)), .d (.ro 1 (streams f.streams)), .d (.ro 1 (nums f.handed))], .bx 72 [.d (.v (.int .u64 0)), .z 0, .d (.v (.int .u64 0)), .d (.v (.slice none 0 0)), .d (.v (.slice none 0 0)), .d (.v (.slice none 0 0)), .d (.v (.slice none 0 0))], .rw 24 2 (procs f.view.members), .rw 22 1 (nums f.view.starts), .rw 67 1 (streamsO ((fillS f i).set i (e_f_streams_i.take k))), .rw 22 1 (nums f.handed), .bx 72 [.u f.view.id.round, .z f.view.id.server.node, .u f.view.id.server.inc, .sl 2 ((procs f.view.members).length), .sl 3 ((nums f.view.starts).length), .sl 4 ((streamsO (fillS f 0)).length), .sl 5 ((nums (Flow.fresh f.view).handed).length)], .bx 67 [.d (.ro 2 (slots e_f_streams_i))]] ac wd) (e_f_streams_i.length) ?_ (Nat.zero_le _) ⟨by omega, (r).cast rfl (by rw [show e_f_streams_i.take 0 = [] from rfl, fillS_set0 (by omega)])⟩
      clear r
      rintro k hi1 again1 ac wd ⟨hv1, r⟩
      cases h2 : (decide ((((k : Nat) : Int) : Int) < ((e_f_streams_i.length : Nat) : Int))) with
      | false =>
        have qh2 := of_decide_eq_false h2
        exact toHead (todo' := hd Try.f27 0) (E' := [(2, .pt 1 0), (3, .pt 6 0), (23, .d (.ro 1 (streams f.streams))), (24, .n f.streams.length), (25, .n (i + 1))]) (M' := [.bx 33 [.u f.view.id.round, .z f.view.id.server.node, .u f.view.id.server.inc, .d (.ro 2 (procs f.view.members)), .d (.ro 1 (nums f.view.starts)), .d (.ro 1 (streams f.streams)), .d (.ro 1 (nums f.handed))], .bx 72 [.d (.v (.int .u64 0)), .z 0, .d (.v (.int .u64 0)), .d (.v (.slice none 0 0)), .d (.v (.slice none 0 0)), .d (.v (.slice none 0 0)), .d (.v (.slice none 0 0))], .rw 24 2 (procs f.view.members), .rw 22 1 (nums f.view.starts), .rw 67 1 (streamsO ((fillS f i).set i (e_f_streams_i.take k))), .rw 22 1 (nums f.handed), .bx 72 [.u f.view.id.round, .z f.view.id.server.node, .u f.view.id.server.inc, .sl 2 ((procs f.view.members).length), .sl 3 ((nums f.view.starts).length), .sl 4 ((streamsO (fillS f 0)).length), .sl 5 ((nums (Flow.fresh f.view).handed).length)]]) tb_ok mixed_ok hK [(9, [(0, .b false)]), (13, [(0, .z (((i + 1 : Nat) : Int)))])] 2000 [0, 1, 2, 3, 4, 5, 6] [2, 3, 23, 24, 25] r (by kernel_rfl) (an h2 (an ((wi (by omega)) : IntKind.i64.wrap ((((i : Nat) : Int) : Int) + 1) = ((i + 1 : Nat) : Int)) trivial)) fun ac wd r => again0 (by omega) ac wd ⟨by omega, r.cast rfl (by rw [show e_f_streams_i.take k = e_f_streams_i from List.take_of_length_le (by omega), fillS_next ge_f_streams_i])⟩
      | true =>
        have qh2 := of_decide_eq_true h2
        obtain ⟨e_c8f2d, ge_c8f2d⟩ : ∃ x, e_f_streams_i[k]? = some x := ⟨_, List.getElem?_eq_getElem (by omega)⟩
        have be_c8f2d := ce_f_streams_i.at ge_c8f2d
        have v11_0 := ((by first | omega | (simp; omega)) : (i) < ((streamsO (fillS f 0)).length))
        have v11_1 := ((by simp <;> omega) : ((streamsO (fillS f 0)).length) ≤ (streamsO ((fillS f i).set i (e_f_streams_i.take k))).length)
        have v11_2 := (streamsO_at (by rw [List.getElem?_set, if_pos rfl, if_pos (by rw [fillS_len f i (by omega)]; omega)]) : (streamsO ((fillS f i).set i (e_f_streams_i.take k)))[i]? = some [.em 69 2 (slotsO (e_f_streams_i.take k))])
        have v11_3 := (cloneBytes e_c8f2d.body (by omega))
        have v11_4 := (rfN ((bytesR e_c8f2d.body).length))
        have v11_5 := (rfN ((slotsO (e_f_streams_i.take k)).length))
        have v11_6 := ((by simp <;> omega) : (1) = ([[.u e_c8f2d.n, .em 5 1 (bytesR e_c8f2d.body)]] : List (List DV)).length)
        have v11_7 := ((by first | omega | (simp [bytesR_len]; done) | (simp [bytesR_len]; omega)) : (2 * (((slotsO (e_f_streams_i.take k)).length) + (1)) + 192) * 32 ≤ 281474976710656)
        have v11_8 := ((by first | omega | (simp [bytesR_len]; done) | (simp [bytesR_len]; omega)) : ((slotsO (e_f_streams_i.take k)).length) + (1) < 4611686018427387904)
        have v11_9 := ((by simp [OneR, AV.one, oneC, bytesR]) : OneR ([[.u e_c8f2d.n, .em 5 1 (bytesR e_c8f2d.body)]]))
        have v11_10 := ((by simp <;> omega) : ((streamsO (fillS f 0)).length) ≤ (List.set (streamsO ((fillS f i).set i (e_f_streams_i.take k))) (i) [.jk] : List (List DV)).length)
        have v11_11 := ((by rw [List.getElem?_set, if_pos rfl, if_pos (by rw [streamsO_len, List.length_set, fillS_len f i (by omega)]; omega)]) : (List.set (streamsO ((fillS f i).set i (e_f_streams_i.take k))) (i) [.jk])[i]? = some [.jk])
        have v11_12 := ((by simp <;> omega) : ((slotsO (e_f_streams_i.take k)).length + (1)) = (slotsO (e_f_streams_i.take k) ++ [[.u e_c8f2d.n, .em 5 1 (bytesR e_c8f2d.body)]] : List (List DV)).length)
        refine toDraw (todo' := aft Try.f27 11) (E' := [(2, .pt 1 0), (3, .pt 6 0), (23, .d (.ro 1 (streams f.streams))), (24, .n f.streams.length), (25, .n i), (4, .n i), (5, .pt 7 0), (31, .d (.ro 2 (slots e_f_streams_i))), (32, .n e_f_streams_i.length), (33, .n k), (34, .d (.v (.bool true))), (35, .rp [.u e_c8f2d.n, .ro 1 (bytesR e_c8f2d.body)] 0), (36, .ag [.u e_c8f2d.n, .d (.ro 1 (bytesR e_c8f2d.body))]), (7, .pt 8 0), (37, .pt 6 0), (38, .pt 6 5), (39, .sl 4 ((streamsO (fillS f 0)).length)), (40, .n i), (41, .pt 6 0), (42, .pt 6 5), (43, .sl 4 ((streamsO (fillS f 0)).length)), (44, .n i), (48, .pt 8 0), (49, .u e_c8f2d.n), (50, .pt 8 1), (51, .d (.ro 1 (bytesR e_c8f2d.body))), (45, .ep 4 1 (i) 0), (46, .ep 4 1 (i) 0), (52, .sl 10 ((bytesR e_c8f2d.body).length)), (53, .ag [.u e_c8f2d.n, .sl 10 ((bytesR e_c8f2d.body).length)]), (54, .sl 11 (1)), (55, .sl 9 ((slotsO (e_f_streams_i.take k)).length + (1))), (56, .ep 4 1 (i) 0), (57, .ep 4 1 (i) 0)]) (M' := [.bx 33 [.u f.view.id.round, .z f.view.id.server.node, .u f.view.id.server.inc, .d (.ro 2 (procs f.view.members)), .d (.ro 1 (nums f.view.starts)), .d (.ro 1 (streams f.streams)), .d (.ro 1 (nums f.handed))], .bx 72 [.d (.v (.int .u64 0)), .z 0, .d (.v (.int .u64 0)), .d (.v (.slice none 0 0)), .d (.v (.slice none 0 0)), .d (.v (.slice none 0 0)), .d (.v (.slice none 0 0))], .rw 24 2 (procs f.view.members), .rw 22 1 (nums f.view.starts), .rw 67 1 (List.set (List.set (streamsO ((fillS f i).set i (e_f_streams_i.take k))) (i) [.jk]) (i) [.em 69 2 (slotsO (e_f_streams_i.take k) ++ [[.u e_c8f2d.n, .em 5 1 (bytesR e_c8f2d.body)]])]), .rw 22 1 (nums f.handed), .bx 72 [.u f.view.id.round, .z f.view.id.server.node, .u f.view.id.server.inc, .sl 2 ((procs f.view.members).length), .sl 3 ((nums f.view.starts).length), .sl 4 ((streamsO (fillS f 0)).length), .sl 5 ((nums (Flow.fresh f.view).handed).length)], .bx 67 [.d (.ro 2 (slots e_f_streams_i))], .bx 69 [.u e_c8f2d.n, .d (.ro 1 (bytesR e_c8f2d.body))], .dead, .dead, .dead]) tb_ok mixed_ok hK [(9, [(0, .b true)]), (10, [(0, .ix (k) [.u e_c8f2d.n, .ro 1 (bytesR e_c8f2d.body)])]), (11, [(8, .n (i)), (10, .ix 0 [.em 69 2 (slotsO (e_f_streams_i.take k))]), (15, .con (.em 5 1 (bytesR e_c8f2d.body))), (19, .n (i)), (21, .ix 0 [.jk])])] 9 6 [8, 10, 19] [[0, 1, 2, 3, 4, 5, 6, 7, 8, 9, 10, 11], [0, 1, 2, 3, 4, 5, 6, 7, 8, 10, 9, 11], [0, 1, 2, 3, 4, 5, 6, 7, 8, 11, 9, 10], [0, 1, 2, 3, 4, 5, 6, 7, 8, 10, 9, 11], [0, 1, 2, 3, 4, 5, 6, 7, 8, 11, 9, 10], [0, 1, 2, 3, 4, 5, 6, 7, 8, 11, 9, 10]] [2, 3, 23, 24, 25, 4, 5, 31, 32, 33, 34, 35, 36, 7, 37, 38, 39, 40, 41, 42, 43, 44, 48, 49, 50, 51, 45, 46, 52, 53, 54, 55, 56, 57] r (by kernel_rfl) (an (an h2 (an (rfI ((k : Nat) : Int)) (an (slots_at ge_c8f2d) (an (rfI ((i : Nat) : Int)) (an v11_0 (an v11_1 (an v11_2 (an v11_3 (an v11_4 (an v11_5 (an v11_6 (an v11_7 (an v11_8 (an v11_9 (an (rfI ((i : Nat) : Int)) (an v11_0 (an v11_10 (an v11_11 (an v11_12 trivial))))))))))))))))))) (an (an h2 (an (rfI ((k : Nat) : Int)) (an (slots_at ge_c8f2d) (an (rfI ((i : Nat) : Int)) (an v11_0 (an v11_1 (an v11_3 (an v11_2 (an v11_4 (an v11_5 (an v11_6 (an v11_7 (an v11_8 (an v11_9 (an (rfI ((i : Nat) : Int)) (an v11_0 (an v11_10 (an v11_11 (an v11_12 trivial))))))))))))))))))) (an (an h2 (an (rfI ((k : Nat) : Int)) (an (slots_at ge_c8f2d) (an (rfI ((i : Nat) : Int)) (an v11_0 (an v11_1 (an v11_3 (an v11_4 (an v11_2 (an v11_5 (an v11_6 (an v11_7 (an v11_8 (an v11_9 (an (rfI ((i : Nat) : Int)) (an v11_0 (an v11_10 (an v11_11 (an v11_12 trivial))))))))))))))))))) (an (an h2 (an (rfI ((k : Nat) : Int)) (an (slots_at ge_c8f2d) (an v11_3 (an (rfI ((i : Nat) : Int)) (an v11_0 (an v11_1 (an v11_2 (an v11_4 (an v11_5 (an v11_6 (an v11_7 (an v11_8 (an v11_9 (an (rfI ((i : Nat) : Int)) (an v11_0 (an v11_10 (an v11_11 (an v11_12 trivial))))))))))))))))))) (an (an h2 (an (rfI ((k : Nat) : Int)) (an (slots_at ge_c8f2d) (an v11_3 (an (rfI ((i : Nat) : Int)) (an v11_0 (an v11_1 (an v11_4 (an v11_2 (an v11_5 (an v11_6 (an v11_7 (an v11_8 (an v11_9 (an (rfI ((i : Nat) : Int)) (an v11_0 (an v11_10 (an v11_11 (an v11_12 trivial))))))))))))))))))) (an (an h2 (an (rfI ((k : Nat) : Int)) (an (slots_at ge_c8f2d) (an v11_3 (an v11_4 (an (rfI ((i : Nat) : Int)) (an v11_0 (an v11_1 (an v11_2 (an v11_5 (an v11_6 (an v11_7 (an v11_8 (an v11_9 (an (rfI ((i : Nat) : Int)) (an v11_0 (an v11_10 (an v11_11 (an v11_12 trivial))))))))))))))))))) trivial)))))) fun ac wd r => ?_
        exact toHead (todo' := hd Try.f27 1) (E' := [(2, .pt 1 0), (3, .pt 6 0), (23, .d (.ro 1 (streams f.streams))), (24, .n f.streams.length), (25, .n i), (4, .n i), (5, .pt 7 0), (31, .d (.ro 2 (slots e_f_streams_i))), (32, .n e_f_streams_i.length), (33, .n (k + 1))]) (M' := [.bx 33 [.u f.view.id.round, .z f.view.id.server.node, .u f.view.id.server.inc, .d (.ro 2 (procs f.view.members)), .d (.ro 1 (nums f.view.starts)), .d (.ro 1 (streams f.streams)), .d (.ro 1 (nums f.handed))], .bx 72 [.d (.v (.int .u64 0)), .z 0, .d (.v (.int .u64 0)), .d (.v (.slice none 0 0)), .d (.v (.slice none 0 0)), .d (.v (.slice none 0 0)), .d (.v (.slice none 0 0))], .rw 24 2 (procs f.view.members), .rw 22 1 (nums f.view.starts), .rw 67 1 (List.set (List.set (streamsO ((fillS f i).set i (e_f_streams_i.take k))) (i) [.jk]) (i) [.em 69 2 (slotsO (e_f_streams_i.take k) ++ [[.u e_c8f2d.n, .em 5 1 (bytesR e_c8f2d.body)]])]), .rw 22 1 (nums f.handed), .bx 72 [.u f.view.id.round, .z f.view.id.server.node, .u f.view.id.server.inc, .sl 2 ((procs f.view.members).length), .sl 3 ((nums f.view.starts).length), .sl 4 ((streamsO (fillS f 0)).length), .sl 5 ((nums (Flow.fresh f.view).handed).length)], .bx 67 [.d (.ro 2 (slots e_f_streams_i))]]) tb_ok mixed_ok hK [(12, [(0, .z (((k + 1 : Nat) : Int)))])] 2000 [0, 1, 2, 3, 4, 5, 6, 7] [2, 3, 23, 24, 25, 4, 5, 31, 32, 33] r (by kernel_rfl) (an ((wi (by omega)) : IntKind.i64.wrap ((((k : Nat) : Int) : Int) + 1) = ((k + 1 : Nat) : Int)) trivial) fun ac wd r => again1 (by omega) ac wd ⟨by omega, r.cast rfl (by rw [List.set_set, slotsO_next' ge_c8f2d, streamsO_set, List.set_set])⟩
end Go.Proofs.Ytoijfmfkkmbabaa
