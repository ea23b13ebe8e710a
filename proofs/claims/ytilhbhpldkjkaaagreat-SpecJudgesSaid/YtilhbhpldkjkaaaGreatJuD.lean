/-
  specJudges_holds, part 4 of 6: merged by program from the texts that it needs.
-/
import Derived.Test.YtilhbhpldkjkaaaGreatJuC
set_option linter.unusedSimpArgs false
set_option linter.unusedVariables false
set_option linter.unnecessarySimpa false
namespace Go.Proofs.YtilhbhpldkjkaaaGreat
open Go.RowKit
theorem idx_pos : ∀ {l : List Nat} {x k : Nat}, x ∈ l → 0 ≤ idx l x k
 | [], x, k, h => by simp at h
 | y :: r, x, k, h => by
  unfold idx; split
  ·omega
  ·rename_i hne
   rcases List.mem_cons.1 h with e | e
   ·exact absurd e.symm hne
   ·exact idx_pos e
theorem View.may_zero {v : View} (h : v.id.round ≠ 0) (h0 : 0 ≤ idx v.starts 0 0) : v.may = false := by
 obtain ⟨i, -, h2⟩ := idx_some h0
 exact View.may_no h h2 rfl
theorem View.may_nz {v : View} (h0 : ¬ 0 ≤ idx v.starts 0 0) (j x : Nat) (_ : j < v.starts.length) (hx : v.starts[j]? = some x) : x ≠ 0 := by
 intro e; subst e; exact h0 (idx_pos (List.mem_of_getElem? hx))
theorem View.may_id {v : View} (h : v.id.may = false) : v.may = false := by
 unfold View.may; split
 ·rename_i h0
  unfold Vid.may at h
  have h1 := of_decide_eq_false h
  have : v.id.server.may = false := by
   cases hs : v.id.server.may with
   | false => rfl
   | true => exact absurd ⟨hs, .inl h0⟩ h1
  rw [this]; rfl
 ·rw [h]; simp
theorem Vid.may_server {v : Vid} (h : v.may = true) : v.server.may = true := (of_decide_eq_true h).1
set_option maxRecDepth 100000 in
theorem viewMay (v : View) (hb : v.bounded) : Con Tryz.prog 41 [.ag [.u v.id.round, .z v.id.server.node, .u v.id.server.inc, .d (.ro 2 (procs v.members)), .d (.ro 1 (nums v.starts))]] (DV.v (.bool v.may)) := by
 obtain ⟨hb1, hb2⟩ := id hb
 refine Con.intro (by kernel_rfl) rfl rfl 53 rfl rfl fun w0 K ac hK r => ?_
 cases h0 : (v.id.may) with
 | false =>
  rw [show (DV.v (.bool v.may) : DV) = .v (.bool false) from (bv (by first | exact View.may_id (by assumption) | exact View.may_first1 (by omega) (Vid.may_server (by assumption)) (by assumption) | exact View.may_zero (by omega) (of_decide_eq_true (by assumption)) | exact View.may_yes (by omega) (by assumption) (by omega) (by omega) (by omega) (by assumption) (by assumption) (Nat.le_refl _) (View.may_nz (of_decide_eq_false (by assumption))) | exact View.may_bad (by omega) (by first | (left; assumption) | (right; left; omega) | (right; right; left; omega) | (right; right; right; left; omega) | (right; right; right; right; left; assumption) | (right; right; right; right; right; assumption))))]
  exact toRet tk mo hK rfl [(1, [(2, .con (.v (.bool false)))])] 2000 r (by kernel_rfl) (an ((by have k := viewMayId v.id; rw [h0] at k; exact k) : Con Tryz.prog 77 [.ag [.u v.id.round, .z v.id.server.node, .u v.id.server.inc]] (.v (.bool false))) trivial)
 | true =>
  have u0 := ((by have k := viewMayId v.id; rw [h0] at k; exact k) : Con Tryz.prog 77 [.ag [.u v.id.round, .z v.id.server.node, .u v.id.server.inc]] (.v (.bool true)))
  cases h1 : ((((v.id.round : Nat) : Int) : Int) == 0) with
  | false =>
   have qh1 := ne_of_beq_false h1
   have u1 := ((by simp) : (((procs v.members).length : Nat) : Int) = ((v.members.length : Nat) : Int))
   cases h2 : (decide ((1 : Int) ≤ ((v.members.length : Nat) : Int))) with
   | false =>
    have qh2 := of_decide_eq_false h2
    rw [show (DV.v (.bool v.may) : DV) = .v (.bool false) from (bv (by first | exact View.may_id (by assumption) | exact View.may_first1 (by omega) (Vid.may_server (by assumption)) (by assumption) | exact View.may_zero (by omega) (of_decide_eq_true (by assumption)) | exact View.may_yes (by omega) (by assumption) (by omega) (by omega) (by omega) (by assumption) (by assumption) (Nat.le_refl _) (View.may_nz (of_decide_eq_false (by assumption))) | exact View.may_bad (by omega) (by first | (left; assumption) | (right; left; omega) | (right; right; left; omega) | (right; right; right; left; omega) | (right; right; right; right; left; assumption) | (right; right; right; right; right; assumption))))]
    exact toRet tk mo hK rfl [(1, [(2, .con (.v (.bool true)))]), (3, [(3, .b false)]), (5, [(2, .z (((v.members.length : Nat) : Int)))]), (6, [(1, .b false)])] 2000 r (by kernel_rfl) (an u0 (an h1 (an u1 (an h2 trivial))))
   | true =>
    have qh2 := of_decide_eq_true h2
    cases h3 : (decide ((((v.members.length : Nat) : Int) : Int) ≤ 6)) with
    | false =>
     have qh3 := of_decide_eq_false h3
     rw [show (DV.v (.bool v.may) : DV) = .v (.bool false) from (bv (by first | exact View.may_id (by assumption) | exact View.may_first1 (by omega) (Vid.may_server (by assumption)) (by assumption) | exact View.may_zero (by omega) (of_decide_eq_true (by assumption)) | exact View.may_yes (by omega) (by assumption) (by omega) (by omega) (by omega) (by assumption) (by assumption) (Nat.le_refl _) (View.may_nz (of_decide_eq_false (by assumption))) | exact View.may_bad (by omega) (by first | (left; assumption) | (right; left; omega) | (right; right; left; omega) | (right; right; right; left; omega) | (right; right; right; right; left; assumption) | (right; right; right; right; right; assumption))))]
     exact toRet tk mo hK rfl [(1, [(2, .con (.v (.bool true)))]), (3, [(3, .b false)]), (5, [(2, .z (((v.members.length : Nat) : Int)))]), (6, [(1, .b true), (4, .b false)])] 2000 r (by kernel_rfl) (an u0 (an h1 (an u1 (an h2 (an h3 trivial)))))
    | true =>
     have qh3 := of_decide_eq_true h3
     cases h4 : (isSet v.members) with
     | false =>
      rw [show (DV.v (.bool v.may) : DV) = .v (.bool false) from (bv (by first | exact View.may_id (by assumption) | exact View.may_first1 (by omega) (Vid.may_server (by assumption)) (by assumption) | exact View.may_zero (by omega) (of_decide_eq_true (by assumption)) | exact View.may_yes (by omega) (by assumption) (by omega) (by omega) (by omega) (by assumption) (by assumption) (Nat.le_refl _) (View.may_nz (of_decide_eq_false (by assumption))) | exact View.may_bad (by omega) (by first | (left; assumption) | (right; left; omega) | (right; right; left; omega) | (right; right; right; left; omega) | (right; right; right; right; left; assumption) | (right; right; right; right; right; assumption))))]
      exact toRet tk mo hK rfl [(1, [(2, .con (.v (.bool true)))]), (3, [(3, .b false)]), (5, [(2, .z (((v.members.length : Nat) : Int)))]), (6, [(1, .b true), (4, .b true), (9, .con (.v (.bool false)))])] 2000 r (by kernel_rfl) (an u0 (an h1 (an u1 (an h2 (an h3 (an ((by have k := procSet v.members (by omega); rw [h4] at k; exact k) : Con Tryz.prog 78 [.d (.ro 2 (procs v.members))] (.v (.bool false))) trivial))))))
     | true =>
      have u2 := ((by have k := procSet v.members (by omega); rw [h4] at k; exact k) : Con Tryz.prog 78 [.d (.ro 2 (procs v.members))] (.v (.bool true)))
      have u3 := ((by simp) : (((ints (ddTo (v.members.map Proc.node) (v.members.map Proc.node).length)).length : Nat) : Int) = (((ddTo (v.members.map Proc.node) (v.members.map Proc.node).length).length : Nat) : Int))
      cases h5 : (((((ddTo (v.members.map Proc.node) (v.members.map Proc.node).length).length : Nat) : Int) : Int) == ((v.members.length : Nat) : Int)) with
      | false =>
       have qh5 := ne_of_beq_false h5
       have hlone : lone v.members = false := by
        cases hl : lone v.members with
        | false => rfl
        | true => exact absurd ((lone_nodes (by assumption)).2 hl) (by omega)
       rw [show (DV.v (.bool v.may) : DV) = .v (.bool false) from (bv (by first | exact View.may_id (by assumption) | exact View.may_first1 (by omega) (Vid.may_server (by assumption)) (by assumption) | exact View.may_zero (by omega) (of_decide_eq_true (by assumption)) | exact View.may_yes (by omega) (by assumption) (by omega) (by omega) (by omega) (by assumption) (by assumption) (Nat.le_refl _) (View.may_nz (of_decide_eq_false (by assumption))) | exact View.may_bad (by omega) (by first | (left; assumption) | (right; left; omega) | (right; right; left; omega) | (right; right; right; left; omega) | (right; right; right; right; left; assumption) | (right; right; right; right; right; assumption))))]
       exact toRet tk mo hK rfl [(1, [(2, .con (.v (.bool true)))]), (3, [(3, .b false)]), (5, [(2, .z (((v.members.length : Nat) : Int)))]), (6, [(1, .b true), (4, .b true), (9, .con (.v (.bool true))), (14, .con (.ro 1 (ints (ddTo (v.members.map Proc.node) (v.members.map Proc.node).length)))), (15, .z ((((ddTo (v.members.map Proc.node) (v.members.map Proc.node).length).length : Nat) : Int))), (17, .b false)])] 2000 r (by kernel_rfl) (an u0 (an h1 (an u1 (an h2 (an h3 (an u2 (an (nodesOk v.members (set_rising (by assumption)) (by omega)) (an u3 (an h5 trivial)))))))))
      | true =>
       have qh5 := eq_of_beq h5
       have hlone : lone v.members = true := (lone_nodes (by assumption)).1 (by omega)
       have u4 := ((by simp) : (((nums v.starts).length : Nat) : Int) = ((v.starts.length : Nat) : Int))
       cases h6 : ((((v.starts.length : Nat) : Int) : Int) == ((v.members.length : Nat) : Int)) with
       | false =>
        have qh6 := ne_of_beq_false h6
        rw [show (DV.v (.bool v.may) : DV) = .v (.bool false) from (bv (by first | exact View.may_id (by assumption) | exact View.may_first1 (by omega) (Vid.may_server (by assumption)) (by assumption) | exact View.may_zero (by omega) (of_decide_eq_true (by assumption)) | exact View.may_yes (by omega) (by assumption) (by omega) (by omega) (by omega) (by assumption) (by assumption) (Nat.le_refl _) (View.may_nz (of_decide_eq_false (by assumption))) | exact View.may_bad (by omega) (by first | (left; assumption) | (right; left; omega) | (right; right; left; omega) | (right; right; right; left; omega) | (right; right; right; right; left; assumption) | (right; right; right; right; right; assumption))))]
        exact toRet tk mo hK rfl [(1, [(2, .con (.v (.bool true)))]), (3, [(3, .b false)]), (5, [(2, .z (((v.members.length : Nat) : Int)))]), (6, [(1, .b true), (4, .b true), (9, .con (.v (.bool true))), (14, .con (.ro 1 (ints (ddTo (v.members.map Proc.node) (v.members.map Proc.node).length)))), (15, .z ((((ddTo (v.members.map Proc.node) (v.members.map Proc.node).length).length : Nat) : Int))), (17, .b true), (22, .z (((v.starts.length : Nat) : Int))), (24, .b false)])] 2000 r (by kernel_rfl) (an u0 (an h1 (an u1 (an h2 (an h3 (an u2 (an (nodesOk v.members (set_rising (by assumption)) (by omega)) (an u3 (an h5 (an u4 (an h6 trivial)))))))))))
       | true =>
        have qh6 := eq_of_beq h6
        cases h7 : (decide (0 ≤ idx v.starts 0 0)) with
        | false =>
         have qh7 := of_decide_eq_false h7
         rw [show (DV.v (.bool v.may) : DV) = .v (.bool true) from (bv (by first | exact View.may_id (by assumption) | exact View.may_first1 (by omega) (Vid.may_server (by assumption)) (by assumption) | exact View.may_zero (by omega) (of_decide_eq_true (by assumption)) | exact View.may_yes (by omega) (by assumption) (by omega) (by omega) (by omega) (by assumption) (by assumption) (Nat.le_refl _) (View.may_nz (of_decide_eq_false (by assumption))) | exact View.may_bad (by omega) (by first | (left; assumption) | (right; left; omega) | (right; right; left; omega) | (right; right; right; left; omega) | (right; right; right; right; left; assumption) | (right; right; right; right; right; assumption))))]
         exact toRet tk mo hK rfl [(1, [(2, .con (.v (.bool true)))]), (3, [(3, .b false)]), (5, [(2, .z (((v.members.length : Nat) : Int)))]), (6, [(1, .b true), (4, .b true), (9, .con (.v (.bool true))), (14, .con (.ro 1 (ints (ddTo (v.members.map Proc.node) (v.members.map Proc.node).length)))), (15, .z ((((ddTo (v.members.map Proc.node) (v.members.map Proc.node).length).length : Nat) : Int))), (17, .b true), (22, .z (((v.starts.length : Nat) : Int))), (24, .b true), (29, .con (.v (.bool false)))])] 2000 r (by kernel_rfl) (an u0 (an h1 (an u1 (an h2 (an h3 (an u2 (an (nodesOk v.members (set_rising (by assumption)) (by omega)) (an u3 (an h5 (an u4 (an h6 (an ((by have k := containsNum v.starts 0 (by omega); rw [h7] at k; exact k) : Con Tryz.prog 80 [.d (.ro 1 (nums v.starts)), .d (.v (.int .u64 0))] (.v (.bool false))) trivial))))))))))))
        | true =>
         have qh7 := of_decide_eq_true h7
         rw [show (DV.v (.bool v.may) : DV) = .v (.bool false) from (bv (by first | exact View.may_id (by assumption) | exact View.may_first1 (by omega) (Vid.may_server (by assumption)) (by assumption) | exact View.may_zero (by omega) (of_decide_eq_true (by assumption)) | exact View.may_yes (by omega) (by assumption) (by omega) (by omega) (by omega) (by assumption) (by assumption) (Nat.le_refl _) (View.may_nz (of_decide_eq_false (by assumption))) | exact View.may_bad (by omega) (by first | (left; assumption) | (right; left; omega) | (right; right; left; omega) | (right; right; right; left; omega) | (right; right; right; right; left; assumption) | (right; right; right; right; right; assumption))))]
         exact toRet tk mo hK rfl [(1, [(2, .con (.v (.bool true)))]), (3, [(3, .b false)]), (5, [(2, .z (((v.members.length : Nat) : Int)))]), (6, [(1, .b true), (4, .b true), (9, .con (.v (.bool true))), (14, .con (.ro 1 (ints (ddTo (v.members.map Proc.node) (v.members.map Proc.node).length)))), (15, .z ((((ddTo (v.members.map Proc.node) (v.members.map Proc.node).length).length : Nat) : Int))), (17, .b true), (22, .z (((v.starts.length : Nat) : Int))), (24, .b true), (29, .con (.v (.bool true)))])] 2000 r (by kernel_rfl) (an u0 (an h1 (an u1 (an h2 (an h3 (an u2 (an (nodesOk v.members (set_rising (by assumption)) (by omega)) (an u3 (an h5 (an u4 (an h6 (an ((by have k := containsNum v.starts 0 (by omega); rw [h7] at k; exact k) : Con Tryz.prog 80 [.d (.ro 1 (nums v.starts)), .d (.v (.int .u64 0))] (.v (.bool true))) trivial))))))))))))
  | true =>
   have qh1 := eq_of_beq h1
   cases h8 : (decide (v = View.first v.id.server)) with
   | false =>
    have qh8 := of_decide_eq_false h8
    rw [show (DV.v (.bool v.may) : DV) = .v (.bool false) from (bv (by first | exact View.may_id (by assumption) | exact View.may_first1 (by omega) (Vid.may_server (by assumption)) (by assumption) | exact View.may_zero (by omega) (of_decide_eq_true (by assumption)) | exact View.may_yes (by omega) (by assumption) (by omega) (by omega) (by omega) (by assumption) (by assumption) (Nat.le_refl _) (View.may_nz (of_decide_eq_false (by assumption))) | exact View.may_bad (by omega) (by first | (left; assumption) | (right; left; omega) | (right; right; left; omega) | (right; right; right; left; omega) | (right; right; right; right; left; assumption) | (right; right; right; right; right; assumption))))]
    exact toRet tk mo hK rfl [(1, [(2, .con (.v (.bool true)))]), (3, [(3, .b true)]), (4, [(4, .con (.ag [.v (.int .u64 0), .z v.id.server.node, .u v.id.server.inc, .em 38 2 (procs [v.id.server]), .em 36 1 (nums [0])])), (5, .call [.ag [.u v.id.round, .z v.id.server.node, .u v.id.server.inc, .d (.ro 2 (procs v.members)), .d (.ro 1 (nums v.starts))], .ag [.d (.v (.int .u64 0)), .z v.id.server.node, .u v.id.server.inc, .d (.ro 2 (procs [v.id.server])), .d (.ro 1 (nums [0]))]] (.v (.bool false)))])] 2000 r (by kernel_rfl) (an u0 (an h1 (an (viewFirst v.id.server) (an ((by have k := viewSame v (View.first v.id.server) hb; rw [h8] at k; exact k) : Con Tryz.prog 44 [.ag [.u v.id.round, .z v.id.server.node, .u v.id.server.inc, .d (.ro 2 (procs v.members)), .d (.ro 1 (nums v.starts))], .ag [.d (.v (.int .u64 0)), .z v.id.server.node, .u v.id.server.inc, .d (.ro 2 (procs [v.id.server])), .d (.ro 1 (nums [0]))]] (.v (.bool false))) (an ((ind_v _) : Ind (.v (.bool false))) (an (rfD (.u v.id.round)) (an (rfD (.z v.id.server.node)) (an (rfD (.u v.id.server.inc)) (an (rfD (.ro 2 (procs v.members))) (an (rfD (.ro 1 (nums v.starts))) (an (rfD (.v (.int .u64 0))) (an (rfD (.z v.id.server.node)) (an (rfD (.u v.id.server.inc)) (an (rfN (2)) (an (rfN ((procs [v.id.server]).length)) (an ((by simp [frozR_map, froz, Proc.row]) : frozR (procs [v.id.server]) = procs [v.id.server]) (an (rfN (1)) (an (rfN ((nums [0]).length)) (an ((by simp [frozR_map, froz, Proc.row]) : frozR (nums [0]) = nums [0]) trivial)))))))))))))))))))
   | true =>
    have qh8 := of_decide_eq_true h8
    rw [show (DV.v (.bool v.may) : DV) = .v (.bool true) from (bv (by first | exact View.may_id (by assumption) | exact View.may_first1 (by omega) (Vid.may_server (by assumption)) (by assumption) | exact View.may_zero (by omega) (of_decide_eq_true (by assumption)) | exact View.may_yes (by omega) (by assumption) (by omega) (by omega) (by omega) (by assumption) (by assumption) (Nat.le_refl _) (View.may_nz (of_decide_eq_false (by assumption))) | exact View.may_bad (by omega) (by first | (left; assumption) | (right; left; omega) | (right; right; left; omega) | (right; right; right; left; omega) | (right; right; right; right; left; assumption) | (right; right; right; right; right; assumption))))]
    exact toRet tk mo hK rfl [(1, [(2, .con (.v (.bool true)))]), (3, [(3, .b true)]), (4, [(4, .con (.ag [.v (.int .u64 0), .z v.id.server.node, .u v.id.server.inc, .em 38 2 (procs [v.id.server]), .em 36 1 (nums [0])])), (5, .call [.ag [.u v.id.round, .z v.id.server.node, .u v.id.server.inc, .d (.ro 2 (procs v.members)), .d (.ro 1 (nums v.starts))], .ag [.d (.v (.int .u64 0)), .z v.id.server.node, .u v.id.server.inc, .d (.ro 2 (procs [v.id.server])), .d (.ro 1 (nums [0]))]] (.v (.bool true)))])] 2000 r (by kernel_rfl) (an u0 (an h1 (an (viewFirst v.id.server) (an ((by have k := viewSame v (View.first v.id.server) hb; rw [h8] at k; exact k) : Con Tryz.prog 44 [.ag [.u v.id.round, .z v.id.server.node, .u v.id.server.inc, .d (.ro 2 (procs v.members)), .d (.ro 1 (nums v.starts))], .ag [.d (.v (.int .u64 0)), .z v.id.server.node, .u v.id.server.inc, .d (.ro 2 (procs [v.id.server])), .d (.ro 1 (nums [0]))]] (.v (.bool true))) (an ((ind_v _) : Ind (.v (.bool true))) (an (rfD (.u v.id.round)) (an (rfD (.z v.id.server.node)) (an (rfD (.u v.id.server.inc)) (an (rfD (.ro 2 (procs v.members))) (an (rfD (.ro 1 (nums v.starts))) (an (rfD (.v (.int .u64 0))) (an (rfD (.z v.id.server.node)) (an (rfD (.u v.id.server.inc)) (an (rfN (2)) (an (rfN ((procs [v.id.server]).length)) (an ((by simp [frozR_map, froz, Proc.row]) : frozR (procs [v.id.server]) = procs [v.id.server]) (an (rfN (1)) (an (rfN ((nums [0]).length)) (an ((by simp [frozR_map, froz, Proc.row]) : frozR (nums [0]) = nums [0]) trivial)))))))))))))))))))
end Go.Proofs.YtilhbhpldkjkaaaGreat
namespace Go.Proofs.YtilhbhpldkjkaaaGreat
open Go.RowKit
theorem froz_procs (l : List Proc) : frozR (procs l) = procs l := by
 rw [frozR_map]; unfold procs; rw [List.map_map]; apply List.map_congr_left; intro s _; simp [Proc.row, froz]
theorem one_procs (l : List Proc) : OneR (procs l) := by
 simp only [OneR, procs, List.mem_map]
 first
 | (rintro r ⟨p, -, rfl⟩ c hc; simp only [Proc.row, List.mem_cons, List.not_mem_nil, or_false] at hc; rcases hc with rfl | rfl <;> rfl)
 | (simp only [List.all_eq_true, List.mem_map]; rintro r ⟨p, -, rfl⟩ c hc; simp only [Proc.row, List.mem_cons, List.not_mem_nil, or_false] at hc; rcases hc with rfl | rfl <;> rfl)
end Go.Proofs.YtilhbhpldkjkaaaGreat
namespace Go.Proofs.YtilhbhpldkjkaaaGreat
open Go.RowKit
def ins (x : Proc) : List Proc → List Proc
 | [] => [x]
 | y :: r => if x.lt y = true then x :: y :: r else y :: ins x r
theorem ins_len (x : Proc) : ∀ s, (ins x s).length = s.length + 1
 | [] => rfl
 | y :: r => by rw [ins]; split <;> simp [ins_len x r]
theorem ins_perm (x : Proc) : ∀ s, (ins x s).Perm (x :: s)
 | [] => List.Perm.refl _
 | y :: r => by
  rw [ins]; split
  ·exact List.Perm.refl _
  ·exact ((ins_perm x r).cons y).trans (List.Perm.swap x y r)
theorem lt_trans {p q r : Proc} (h1 : p.lt q = true) (h2 : q.lt r = true) : p.lt r = true := by
 unfold Proc.lt at *; have := of_decide_eq_true h1; have := of_decide_eq_true h2; apply decide_eq_true; omega
theorem lt_irrefl (p : Proc) : p.lt p = false := by unfold Proc.lt; apply decide_eq_false; omega
theorem lt_total {p q : Proc} (h1 : p.lt q = false) (h2 : q.lt p = false) : p = q := by
 unfold Proc.lt at *; have := of_decide_eq_false h1; have := of_decide_eq_false h2
 cases p; cases q; simp only [Proc.mk.injEq]; dsimp only at *; omega
theorem mem_ins {x z : Proc} {s : List Proc} : z ∈ ins x s ↔ z = x ∨ z ∈ s := by rw [(ins_perm x s).mem_iff, List.mem_cons]
theorem ins_at {x : Proc} : ∀ {s : List Proc} {j : Nat}, (∀ y ∈ s.take j, x.lt y = false) → (∀ y, s[j]? = some y → x.lt y = true) → ins x s = s.take j ++ x :: s.drop j
 | [], j, _, _ => by simp [ins]
 | y :: r, 0, _, h => by rw [ins, if_pos (h y rfl)]; rfl
 | y :: r, j + 1, h1, h2 => by
  have := h1 y (by simp)
  rw [ins, if_neg (by simp [this]), ins_at (j := j) (fun z hz => h1 z (by simp [hz])) (fun z hz => h2 z (by simpa using hz))]
  rfl
end Go.Proofs.YtilhbhpldkjkaaaGreat
namespace Go.Proofs.YtilhbhpldkjkaaaGreat
open Go.RowKit
def srtTo (l : List Proc) (n : Nat) : List Proc := (l.take n).foldl (fun s x => if x ∈ s then s else ins x s) []
def srt (l : List Proc) : List Proc := srtTo l l.length
theorem srtTo_succ {l : List Proc} {n : Nat} {x : Proc} (h : l[n]? = some x) : srtTo l (n + 1) = if x ∈ srtTo l n then srtTo l n else ins x (srtTo l n) := by
 obtain ⟨hn, rfl⟩ := List.getElem?_eq_some_iff.1 h
 rw [srtTo, List.take_succ_eq_append_getElem hn, List.foldl_append]; rfl
theorem srtTo_len (l : List Proc) : ∀ n, (srtTo l n).length ≤ n
 | 0 => by simp [srtTo]
 | n + 1 => by
  have ih := srtTo_len l n
  rcases Nat.lt_or_ge n l.length with h | h
  ·rw [srtTo_succ (List.getElem?_eq_getElem h)]
   split
   ·omega
   ·rw [ins_len]; omega
  ·have : srtTo l (n + 1) = srtTo l n := by rw [srtTo, srtTo, List.take_of_length_le (by omega), List.take_of_length_le h]
   rw [this]; omega
def SS (s : List Proc) : Prop := s.Pairwise fun a b => a.lt b = true
theorem lt_asymm {p q : Proc} (h : p.lt q = true) : q.lt p = false := by
 cases e : q.lt p with
 | false => rfl
 | true => have := lt_trans h e; rw [lt_irrefl] at this; cases this
theorem lt_of_not {p q : Proc} (h : p.lt q = false) (hn : q ≠ p) : q.lt p = true := by
 cases e : q.lt p with
 | true => rfl
 | false => exact absurd (lt_total e h) hn
theorem ins_ss {x : Proc} : ∀ {s : List Proc}, SS s → x ∉ s → SS (ins x s)
 | [], _, _ => by simp [ins, SS]
 | y :: r, h, hx => by
  unfold SS at *
  rw [List.pairwise_cons] at h
  simp only [List.mem_cons, not_or] at hx
  rw [ins]; split
  ·rename_i hxy
   rw [List.pairwise_cons, List.pairwise_cons]
   refine ⟨fun z hz => ?_, h⟩
   rcases List.mem_cons.1 hz with rfl | hz
   ·exact hxy
   ·exact lt_trans hxy (h.1 z hz)
  ·rename_i hxy
   rw [List.pairwise_cons]
   refine ⟨fun z hz => ?_, ins_ss h.2 hx.2⟩
   rcases mem_ins.1 hz with rfl | hz
   ·exact lt_of_not (by simpa using hxy) (fun e => hx.1 e.symm)
   ·exact h.1 z hz
theorem srtTo_ss (l : List Proc) : ∀ n, n ≤ l.length → SS (srtTo l n)
 | 0, _ => by simp [srtTo, SS]
 | n + 1, h => by
  rw [srtTo_succ (List.getElem?_eq_getElem (by omega))]
  split
  ·exact srtTo_ss l n (by omega)
  ·rename_i hx; exact ins_ss (srtTo_ss l n (by omega)) hx
theorem mem_srtTo {l : List Proc} {x : Proc} : ∀ {n}, n ≤ l.length → (x ∈ srtTo l n ↔ x ∈ l.take n)
 | 0, _ => by simp [srtTo]
 | n + 1, h => by
  have ih := mem_srtTo (l := l) (x := x) (n := n) (by omega)
  rw [srtTo_succ (List.getElem?_eq_getElem (by omega)), List.take_succ_eq_append_getElem (by omega), List.mem_append, List.mem_singleton, ← ih]
  split
  ·rename_i hx
   constructor
   ·exact Or.inl
   ·rintro (h1 | rfl)
    ·exact h1
    ·exact hx
  ·rw [mem_ins, or_comm]
theorem mem_srt {l : List Proc} {x : Proc} : x ∈ srt l ↔ x ∈ l := by unfold srt; rw [mem_srtTo (Nat.le_refl _), List.take_length]
theorem SS.nodup {s : List Proc} (h : SS s) : s.Nodup := h.imp fun hab e => by rw [e, lt_irrefl] at hab; cases hab
theorem ins_mid {x : Proc} {s : List Proc} {j : Nat} (hs : SS s) (hx : x ∉ s) (h1 : ∀ k y, k < j → s[k]? = some y → y.lt x = true) (h2 : s.length ≤ j ∨ ∃ y, s[j]? = some y ∧ y.lt x = false) : s.take j ++ x :: s.drop j = ins x s := by
 symm
 refine ins_at (fun y hy => ?_) (fun y hy => ?_)
 ·obtain ⟨k, hk, rfl⟩ := List.getElem_of_mem hy
  simp only [List.length_take] at hk
  rw [List.getElem_take]
  exact lt_asymm (h1 k _ (by omega) (List.getElem?_eq_getElem (by omega)))
 ·rcases h2 with h2 | ⟨z, hz, h2⟩
  ·have := (List.getElem?_eq_some_iff.1 hy).1; omega
  ·rw [hy] at hz; cases hz
   exact lt_of_not h2 (fun e => hx (e ▸ List.mem_of_getElem? hy))
theorem cpr_procs (l : List Proc) : CpR (procs l) := by
 intro r hr c hc
 obtain ⟨p, -, rfl⟩ := List.mem_map.1 hr
 simp only [Proc.row, List.mem_cons, List.not_mem_nil, or_false] at hc
 rcases hc with rfl | rfl <;> rfl
theorem one_part (l : List Proc) (o m : Nat) : OneR (((procs l).drop o).take m) := by
 unfold procs; rw [← List.map_drop, ← List.map_take]; exact one_procs _
theorem srt_end {s : List Proc} {x : Proc} {j : Nat} {A B : List (List DV)} (hA : A = procs (s.take j)) (hB : B = procs (s.drop j)) (h : s.take j ++ x :: s.drop j = ins x s) : A ++ [[.v (.int .i64 x.node), .v (.int .u64 (x.inc : Int))]] ++ B = procs (ins x s) := by
 rw [hA, hB, ← h]; simp [procs, Proc.row]
theorem idx_memP {l : List Proc} {p : Proc} : ∀ k, decide ((0 : Int) ≤ idx l p k) = decide (p ∈ l) := by
 induction l with
 | nil => intro k; simp [idx]
 | cons x l ih =>
  intro k
  unfold idx
  by_cases h : x = p
  ·subst h; simp <;> omega
  ·rw [if_neg h, ih (k + 1)]
   have : p ≠ x := fun e => h e.symm
   simp [this]
set_option maxRecDepth 100000 in
theorem refHas (l : List Proc) (p : Proc) (hb : l.length ≤ 9223372036854775807) : Con Tryz.prog 22 [.d (.ro 2 (procs l)), .ag [.z p.node, .u p.inc]] (DV.v (.bool (decide (p ∈ l)))) := by
 refine Con.intro (by kernel_rfl) rfl rfl 18 rfl rfl fun w0 K ac hK r => ?_
 refine toHead (todo' := hd Tryz.f22 0) (E' := [(0, .d (.ro 2 (procs l))), (3, .pt 0 0), (5, .n 0)]) (M' := [.bx 38 [.z p.node, .u p.inc]]) tk mo hK [] 2000 [0] [0, 3, 5] r (by kernel_rfl) trivial fun ac wd r => ?_
 refine Goes.rounds (Φ := fun (i : Nat) ac wd => (i ≤ l.length ∧ ∀ j, j < i → l[j]? ≠ some p) ∧ RE' [] w0 K 18 [(0, .d (.ro 2 (procs l))), (3, .pt 0 0), (5, .n i)] [.bx 38 [.z p.node, .u p.inc]] ac wd) (l.length) ?_ (Nat.zero_le _) ⟨⟨by omega, by omega⟩, r⟩
 clear r
 rintro i hi0 again0 ac wd ⟨hv0, r⟩
 obtain ⟨hi1, hv0⟩ := hv0
 have u0 := ((by simp) : (((procs l).length : Nat) : Int) = ((l.length : Nat) : Int))
 cases h0 : (decide ((((i : Nat) : Int) : Int) < ((l.length : Nat) : Int))) with
 | false =>
  have qh0 := of_decide_eq_false h0
  rw [show (DV.v (.bool (decide (p ∈ l))) : DV) = .v (.bool false) from (bv (by first | (apply decide_eq_true; exact List.mem_of_getElem? (by rw [ge_l_i]; congr 1)) | (apply decide_eq_false; intro hm; obtain ⟨k, hk, rfl⟩ := List.getElem_of_mem hm; exact hv0 k (by omega) (List.getElem?_eq_getElem hk))))]
  exact toRet tk mo hK rfl [(2, [(2, .z (((l.length : Nat) : Int))), (3, .b false)])] 2000 r (by kernel_rfl) (an u0 (an h0 trivial))
 | true =>
  have qh0 := of_decide_eq_true h0
  obtain ⟨e_l_i, ge_l_i⟩ : ∃ x, l[i]? = some x := ⟨_, List.getElem?_eq_getElem (by omega)⟩
  cases h1 : (decide (e_l_i = p)) with
  | false =>
   have qh1 := of_decide_eq_false h1
   exact toHead (todo' := hd Tryz.f22 0) tk mo hK [(2, [(2, .z (((l.length : Nat) : Int))), (3, .b true)]), (3, [(1, .z (((i + 1 : Nat) : Int)))]), (4, [(2, .ix (i) [.z e_l_i.node, .u e_l_i.inc]), (5, .b false)])] 2000 [0] [0, 3, 5] r (by kernel_rfl) (an u0 (an h0 (an (rfI ((i : Nat) : Int)) (an (procs_at ge_l_i) (an ((eqT (eqProcD _ _) h1) : EqAgg Tryz.prog 38 [(.int .i64 (e_l_i.node)), (.int .u64 (((e_l_i.inc : Nat) : Int)))] [(.int .i64 (p.node)), (.int .u64 (((p.inc : Nat) : Int)))] false) (an ((wi (by omega)) : IntKind.i64.wrap ((((i : Nat) : Int) : Int) + 1) = ((i + 1 : Nat) : Int)) trivial)))))) fun ac wd r => again0 (by omega) ac wd ⟨⟨by omega, fun j hj => by rcases Nat.lt_succ_iff_lt_or_eq.1 hj with h | rfl; exact hv0 j h; simp only [ge_l_i, Option.some.injEq, ne_eq]; assumption⟩, r⟩
  | true =>
   have qh1 := of_decide_eq_true h1
   rw [show (DV.v (.bool (decide (p ∈ l))) : DV) = .v (.bool true) from (bv (by first | (apply decide_eq_true; exact List.mem_of_getElem? (by rw [ge_l_i]; congr 1)) | (apply decide_eq_false; intro hm; obtain ⟨k, hk, rfl⟩ := List.getElem_of_mem hm; exact hv0 k (by omega) (List.getElem?_eq_getElem hk))))]
   exact toRet tk mo hK rfl [(2, [(2, .z (((l.length : Nat) : Int))), (3, .b true)]), (4, [(2, .ix (i) [.z e_l_i.node, .u e_l_i.inc]), (5, .b true)])] 2000 r (by kernel_rfl) (an u0 (an h0 (an (rfI ((i : Nat) : Int)) (an (procs_at ge_l_i) (an ((eqT (eqProcD _ _) h1) : EqAgg Tryz.prog 38 [(.int .i64 (e_l_i.node)), (.int .u64 (((e_l_i.inc : Nat) : Int)))] [(.int .i64 (p.node)), (.int .u64 (((p.inc : Nat) : Int)))] true) trivial)))))
set_option maxRecDepth 100000 in
theorem procHas (l : List Proc) (p : Proc) (hb : l.length < 2147483648) : Con Tryz.prog 42 [.d (.ro 2 (procs l)), .ag [.z p.node, .u p.inc]] (DV.v (.bool (decide (p ∈ l)))) := by
 refine Con.intro (by kernel_rfl) rfl rfl 8 rfl rfl fun w0 K ac hK r => ?_
 cases h0 : (decide ((0 : Int) ≤ idx l p 0)) with
 | false =>
  have qh0 := of_decide_eq_false h0
  rw [show (DV.v (.bool (decide (p ∈ l))) : DV) = .v (.bool false) from (bv (by rw [← idx_memP 0]; first | exact (by assumption) | simp_all))]
  exact toRet tk mo hK rfl [(1, [(2, .into 200 [(1, [(2, .con (.z (idx l p 0))), (3, .b false)])])])] 2000 r (by kernel_rfl) (an (indexProcs l p (by omega)) (an h0 trivial))
 | true =>
  have qh0 := of_decide_eq_true h0
  rw [show (DV.v (.bool (decide (p ∈ l))) : DV) = .v (.bool true) from (bv (by rw [← idx_memP 0]; first | exact (by assumption) | simp_all))]
  exact toRet tk mo hK rfl [(1, [(2, .into 200 [(1, [(2, .con (.z (idx l p 0))), (3, .b true)])])])] 2000 r (by kernel_rfl) (an (indexProcs l p (by omega)) (an h0 trivial))
set_option maxRecDepth 100000 in
theorem refSorted (l : List Proc) (hb : l.length < 1073741824) : Con Tryz.prog 107 [.d (.ro 2 (procs l))] (.em 38 2 (procs (srt l))) := by
 refine Con.intro (by kernel_rfl) rfl rfl 54 rfl rfl fun w0 K ac hK r => ?_
 refine toHead (todo' := hd Tryz.f107 0) (E' := [(0, .d (.ro 2 (procs l))), (3, .d (.v (.slice none 0 0))), (4, .z 0)]) (M' := []) tk mo hK [] 2000 [] [0, 3, 4] r (by kernel_rfl) trivial fun ac wd r => ?_
 refine Goes.rounds (Φ := fun (i : Nat) ac wd => (i ≤ l.length) ∧ RE' [] w0 K 54 [(0, .d (.ro 2 (procs l))), (3, .sl 0 ((srtTo l i).length)), (4, .n i)] [.rw 38 2 (procs (srtTo l i))] ac wd) (l.length) ?_ (Nat.zero_le _) ⟨(Nat.zero_le _), (r.adopt (M1 := [.rw 38 2 []]) [(3, 38, 2)] [] (by kernel_rfl) (by kernel_rfl)).cast rfl rfl⟩
 clear r
 rintro i hi0 again0 ac wd ⟨hv0, r⟩
 have hi1 := hv0
 have u0 := ((by simp) : (((procs l).length : Nat) : Int) = ((l.length : Nat) : Int))
 cases h0 : (decide ((((i : Nat) : Int) : Int) < ((l.length : Nat) : Int))) with
 | false =>
  have qh0 := of_decide_eq_false h0
  rw [show (.em 38 2 (procs (srt l)) : DV) = .em 38 2 (procs (srtTo l i)) from (by unfold srt; rw [show l.length = i by omega])]
  exact toRet tk mo hK rfl [(3, [(2, .z (((l.length : Nat) : Int))), (3, .b false)])] 2000 r (by kernel_rfl) (an u0 (an h0 (an ((by first | rfl | (simp; done) | (simp <;> omega)) : ((srtTo l i).length) = (procs (srtTo l i)).length) trivial)))
 | true =>
  have qh0 := of_decide_eq_true h0
  obtain ⟨e_l_i, ge_l_i⟩ : ∃ x, l[i]? = some x := ⟨_, List.getElem?_eq_getElem (by omega)⟩
  have hls := srtTo_len l i
  cases h1 : (decide (e_l_i ∈ srtTo l i)) with
  | false =>
   have qh1 := of_decide_eq_false h1
   refine toHead (todo' := hd Tryz.f107 1) (E' := [(0, .d (.ro 2 (procs l))), (3, .sl 0 ((srtTo l i).length)), (4, .n i), (5, .n 0)]) (M' := [.rw 38 2 (procs (srtTo l i))]) tk mo hK [(3, [(2, .z (((l.length : Nat) : Int))), (3, .b true)]), (5, [(3, .ix (i) [.z e_l_i.node, .u e_l_i.inc]), (5, .call [.d (.ro 2 (procs (srtTo l i))), .ag [.z e_l_i.node, .u e_l_i.inc]] (.v (.bool false)))])] 2000 [0] [0, 3, 4, 5] r (by kernel_rfl) (an u0 (an h0 (an (rfI ((i : Nat) : Int)) (an (procs_at ge_l_i) (an ((by have k := refHas (srtTo l i) e_l_i (by have := srtTo_len l i; omega); rw [h1] at k; exact k) : Con Tryz.prog 22 [.d (.ro 2 (procs (srtTo l i))), .ag [.z e_l_i.node, .u e_l_i.inc]] (.v (.bool false))) (an ((ind_v _) : Ind (.v (.bool false))) (an (rfN (2)) (an ((by first | rfl | (simp; done) | (simp <;> omega)) : ((srtTo l i).length) = (procs (srtTo l i)).length) (an ((froz_procs _) : frozR (procs (srtTo l i)) = procs (srtTo l i)) (an (rfD (.z e_l_i.node)) (an (rfD (.u e_l_i.inc)) trivial))))))))))) fun ac wd r => ?_
   refine Goes.rounds (Φ := fun (j : Nat) ac wd => (j ≤ (srtTo l i).length ∧ ∀ k y, k < j → (srtTo l i)[k]? = some y → y.lt e_l_i = true) ∧ RE' [] w0 K 54 [(0, .d (.ro 2 (procs l))), (3, .sl 0 ((srtTo l i).length)), (4, .n i), (5, .n j)] [.rw 38 2 (procs (srtTo l i))] ac wd) ((srtTo l i).length) ?_ (Nat.zero_le _) ⟨⟨by omega, by omega⟩, r⟩
   clear r
   rintro j hi1 again1 ac wd ⟨hv1, r⟩
   obtain ⟨hj1, hj2⟩ := hv1
   cases h2 : (decide ((((j : Nat) : Int) : Int) < (((srtTo l i).length : Nat) : Int))) with
   | false =>
    have qh2 := of_decide_eq_false h2
    cases h3 : (decide ((0 : Int) < ((j : Nat) : Int))) with
    | false =>
     have qh3 := of_decide_eq_false h3
     exact toHead (todo' := hd Tryz.f107 0) (E' := [(0, .d (.ro 2 (procs l))), (3, .sl 0 (0 + ([] : List (List DV)).length + (1) + ([] : List (List DV)).length)), (4, .n (i + 1))]) (M' := [.rw 38 2 ([] ++ [] ++ [[.z e_l_i.node, .u e_l_i.inc]] ++ [])]) tk mo hK [(4, [(1, .z (((i + 1 : Nat) : Int)))]), (7, [(3, .b false)]), (9, [(3, .res (.ro 2 []))]), (10, [(3, .ix (i) [.z e_l_i.node, .u e_l_i.inc])]), (11, [(3, .res (.ro 2 []))])] 2000 [1] [0, 3, 4] r (by kernel_rfl) (an h2 (an ((by omega) : (((j : Nat) : Int) : Int) = 0) (an ((by first | rfl | (simp; done) | (simp <;> omega)) : ((srtTo l i).length) = (procs (srtTo l i)).length) (an ((by first | rfl | (simp; done) | (simp <;> omega)) : (0) = ([] : List (List DV)).length) (an ((by have := srtTo_len l i; first | omega | (simp <;> omega)) : (2 * ((0) + ([] : List (List DV)).length) + 192) * 16 ≤ 281474976710656) (an ((by have := srtTo_len l i; first | omega | (simp <;> omega)) : (0) + ([] : List (List DV)).length < 4611686018427387904) (an ((by first | exact one_procs _ | exact one_part _ _ _ | simp [OneR, AV.one, oneC]) : OneR ([])) (an (rfI ((i : Nat) : Int)) (an (procs_at ge_l_i) (an ((by first | rfl | (simp; done) | (simp <;> omega)) : (0 + ([] : List (List DV)).length) = ([] ++ [] : List (List DV)).length) (an ((by first | rfl | (simp; done) | (simp <;> omega)) : (1) = ([[.z e_l_i.node, .u e_l_i.inc]] : List (List DV)).length) (an ((by have := srtTo_len l i; first | omega | (simp <;> omega)) : (2 * ((0 + ([] : List (List DV)).length) + (1)) + 192) * 16 ≤ 281474976710656) (an ((by have := srtTo_len l i; first | omega | (simp <;> omega)) : (0 + ([] : List (List DV)).length) + (1) < 4611686018427387904) (an ((by first | exact one_procs _ | exact one_part _ _ _ | simp [OneR, AV.one, oneC]) : OneR ([[.z e_l_i.node, .u e_l_i.inc]])) (an ((by omega) : (((j : Nat) : Int) : Int) = (((srtTo l i).length : Nat) : Int)) (an ((by first | rfl | (simp; done) | (simp <;> omega)) : ((srtTo l i).length) = (procs (srtTo l i)).length) (an ((by first | rfl | (simp; done) | (simp <;> omega)) : (0 + ([] : List (List DV)).length + (1)) = ([] ++ [] ++ [[.z e_l_i.node, .u e_l_i.inc]] : List (List DV)).length) (an ((by have := srtTo_len l i; first | omega | (simp <;> omega)) : (2 * ((0 + ([] : List (List DV)).length + (1)) + ([] : List (List DV)).length) + 192) * 16 ≤ 281474976710656) (an ((by have := srtTo_len l i; first | omega | (simp <;> omega)) : (0 + ([] : List (List DV)).length + (1)) + ([] : List (List DV)).length < 4611686018427387904) (an ((by first | exact one_procs _ | exact one_part _ _ _ | simp [OneR, AV.one, oneC]) : OneR ([])) (an ((wi (by omega)) : IntKind.i64.wrap ((((i : Nat) : Int) : Int) + 1) = ((i + 1 : Nat) : Int)) trivial))))))))))))))))))))) fun ac wd r => again0 (by omega) ac wd ⟨(by omega), r.cast (by first | (rw [srtTo_succ ge_l_i, if_pos (of_decide_eq_true (by assumption))]; done) | (rw [srtTo_succ ge_l_i, if_neg (of_decide_eq_false (by assumption)), ins_len]; exact congrArg (fun n => [(0, AV.d (.ro 2 (procs l))), (3, AV.sl 0 n), (4, .n (i + 1))]) (by first | omega | (simp only [List.length_nil, Nat.add_zero, Nat.zero_add]; omega) | (simp <;> omega)))) (by first | (rw [srtTo_succ ge_l_i, if_pos (of_decide_eq_true (by assumption))]; done) | (have hins := ins_mid (srtTo_ss l i hi0) (of_decide_eq_false (by assumption)) hj2 (by first | exact .inl (by omega) | exact .inr ⟨y, gy, by assumption⟩); rw [srtTo_succ ge_l_i, if_neg (of_decide_eq_false (by assumption))]; exact congrArg (fun x => [Blk.rw 38 2 x]) (srt_end (s := srtTo l i) (x := e_l_i) (j := j) (by first | (simp [procs, List.map_take]; done) | (obtain rfl : j = 0 := (by omega); simp)) (by first | (simp [procs, List.map_drop, List.take_of_length_le]; done) | (rw [List.drop_of_length_le (by omega)]; rfl)) hins)))⟩
    | true =>
     have qh3 := of_decide_eq_true h3
     exact toHead (todo' := hd Tryz.f107 0) (E' := [(0, .d (.ro 2 (procs l))), (3, .sl 0 (0 + (j) + (1) + ([] : List (List DV)).length)), (4, .n (i + 1))]) (M' := [.rw 38 2 ([] ++ ((procs (srtTo l i)).drop (0)).take (j) ++ [[.z e_l_i.node, .u e_l_i.inc]] ++ [])]) tk mo hK [(4, [(1, .z (((i + 1 : Nat) : Int)))]), (7, [(3, .b false)]), (9, [(3, .n2 (j) 0)]), (10, [(3, .ix (i) [.z e_l_i.node, .u e_l_i.inc])]), (11, [(3, .res (.ro 2 []))])] 2000 [1] [0, 3, 4] r (by kernel_rfl) (an h2 (an (rfI ((j : Nat) : Int)) (an ((by first | omega | decide | (simp; omega)) : 0 < (j)) (an ((by first | omega | decide | (simp; omega)) : (j) ≤ ((srtTo l i).length)) (an ((by first | rfl | (simp; done) | (simp <;> omega)) : ((srtTo l i).length) = (procs (srtTo l i)).length) (an ((by first | rfl | (simp; done) | (simp <;> omega)) : (0) = ([] : List (List DV)).length) (an ((by first | rfl | (simp; done) | (simp <;> omega)) : (0) + (j) ≤ (procs (srtTo l i)).length) (an (cpr_procs _ : CpR (procs (srtTo l i))) (an ((by have := srtTo_len l i; first | omega | (simp <;> omega)) : (2 * ((0) + (j)) + 192) * 16 ≤ 281474976710656) (an ((by have := srtTo_len l i; first | omega | (simp <;> omega)) : (0) + (j) < 4611686018427387904) (an ((by first | exact one_procs _ | exact one_part _ _ _ | simp [OneR, AV.one, oneC]) : OneR (((procs (srtTo l i)).drop (0)).take (j))) (an (rfI ((i : Nat) : Int)) (an (procs_at ge_l_i) (an ((by first | rfl | (simp; done) | (simp <;> omega)) : (0 + (j)) = ([] ++ ((procs (srtTo l i)).drop (0)).take (j) : List (List DV)).length) (an ((by first | rfl | (simp; done) | (simp <;> omega)) : (1) = ([[.z e_l_i.node, .u e_l_i.inc]] : List (List DV)).length) (an ((by have := srtTo_len l i; first | omega | (simp <;> omega)) : (2 * ((0 + (j)) + (1)) + 192) * 16 ≤ 281474976710656) (an ((by have := srtTo_len l i; first | omega | (simp <;> omega)) : (0 + (j)) + (1) < 4611686018427387904) (an ((by first | exact one_procs _ | exact one_part _ _ _ | simp [OneR, AV.one, oneC]) : OneR ([[.z e_l_i.node, .u e_l_i.inc]])) (an ((by omega) : (((j : Nat) : Int) : Int) = (((srtTo l i).length : Nat) : Int)) (an ((by first | rfl | (simp; done) | (simp <;> omega)) : ((srtTo l i).length) = (procs (srtTo l i)).length) (an ((by first | rfl | (simp; done) | (simp <;> omega)) : (0 + (j) + (1)) = ([] ++ ((procs (srtTo l i)).drop (0)).take (j) ++ [[.z e_l_i.node, .u e_l_i.inc]] : List (List DV)).length) (an ((by have := srtTo_len l i; first | omega | (simp <;> omega)) : (2 * ((0 + (j) + (1)) + ([] : List (List DV)).length) + 192) * 16 ≤ 281474976710656) (an ((by have := srtTo_len l i; first | omega | (simp <;> omega)) : (0 + (j) + (1)) + ([] : List (List DV)).length < 4611686018427387904) (an ((by first | exact one_procs _ | exact one_part _ _ _ | simp [OneR, AV.one, oneC]) : OneR ([])) (an ((wi (by omega)) : IntKind.i64.wrap ((((i : Nat) : Int) : Int) + 1) = ((i + 1 : Nat) : Int)) trivial))))))))))))))))))))))))) fun ac wd r => again0 (by omega) ac wd ⟨(by omega), r.cast (by first | (rw [srtTo_succ ge_l_i, if_pos (of_decide_eq_true (by assumption))]; done) | (rw [srtTo_succ ge_l_i, if_neg (of_decide_eq_false (by assumption)), ins_len]; exact congrArg (fun n => [(0, AV.d (.ro 2 (procs l))), (3, AV.sl 0 n), (4, .n (i + 1))]) (by first | omega | (simp only [List.length_nil, Nat.add_zero, Nat.zero_add]; omega) | (simp <;> omega)))) (by first | (rw [srtTo_succ ge_l_i, if_pos (of_decide_eq_true (by assumption))]; done) | (have hins := ins_mid (srtTo_ss l i hi0) (of_decide_eq_false (by assumption)) hj2 (by first | exact .inl (by omega) | exact .inr ⟨y, gy, by assumption⟩); rw [srtTo_succ ge_l_i, if_neg (of_decide_eq_false (by assumption))]; exact congrArg (fun x => [Blk.rw 38 2 x]) (srt_end (s := srtTo l i) (x := e_l_i) (j := j) (by first | (simp [procs, List.map_take]; done) | (obtain rfl : j = 0 := (by omega); simp)) (by first | (simp [procs, List.map_drop, List.take_of_length_le]; done) | (rw [List.drop_of_length_le (by omega)]; rfl)) hins)))⟩
   | true =>
    have qh2 := of_decide_eq_true h2
    obtain ⟨y, gy⟩ : ∃ y, (srtTo l i)[j]? = some y := ⟨_, List.getElem?_eq_getElem (by omega)⟩
    have u1 := ((by first | omega | decide | (simp; omega)) : (j) < ((srtTo l i).length))
    have u2 := ((by first | rfl | (simp; done) | (simp <;> omega)) : ((srtTo l i).length) ≤ (procs (srtTo l i)).length)
    cases h4 : (y.lt e_l_i) with
    | false =>
     have u3 := ((by have k := refBefore y e_l_i; rw [h4] at k; exact k) : Con Tryz.prog 132 [.ag [.z y.node, .u y.inc], .ag [.z e_l_i.node, .u e_l_i.inc]] (.v (.bool false)))
     cases h5 : (decide ((0 : Int) < ((j : Nat) : Int))) with
     | false =>
      have qh5 := of_decide_eq_false h5
      exact toHead (todo' := hd Tryz.f107 0) (E' := [(0, .d (.ro 2 (procs l))), (3, .sl 0 (0 + ([] : List (List DV)).length + (1) + ((srtTo l i).length - j))), (4, .n (i + 1))]) (M' := [.rw 38 2 ([] ++ [] ++ [[.z e_l_i.node, .u e_l_i.inc]] ++ ((procs (srtTo l i)).drop (j)).take ((srtTo l i).length - j))]) tk mo hK [(4, [(1, .z (((i + 1 : Nat) : Int)))]), (7, [(3, .b true), (7, .n (j)), (8, .ix 0 [.z y.node, .u y.inc]), (11, .ix (i) [.z e_l_i.node, .u e_l_i.inc]), (13, .con (.v (.bool false)))]), (9, [(3, .res (.ro 2 []))]), (10, [(3, .ix (i) [.z e_l_i.node, .u e_l_i.inc])]), (11, [(3, .n (j))])] 2000 [1] [0, 3, 4] r (by kernel_rfl) (an h2 (an (rfI ((j : Nat) : Int)) (an u1 (an u2 (an (procs_at gy) (an (rfI ((i : Nat) : Int)) (an (procs_at ge_l_i) (an u3 (an ((by omega) : (((j : Nat) : Int) : Int) = 0) (an ((by first | rfl | (simp; done) | (simp <;> omega)) : ((srtTo l i).length) = (procs (srtTo l i)).length) (an ((by first | rfl | (simp; done) | (simp <;> omega)) : (0) = ([] : List (List DV)).length) (an ((by have := srtTo_len l i; first | omega | (simp <;> omega)) : (2 * ((0) + ([] : List (List DV)).length) + 192) * 16 ≤ 281474976710656) (an ((by have := srtTo_len l i; first | omega | (simp <;> omega)) : (0) + ([] : List (List DV)).length < 4611686018427387904) (an ((by first | exact one_procs _ | exact one_part _ _ _ | simp [OneR, AV.one, oneC]) : OneR ([])) (an (rfI ((i : Nat) : Int)) (an (procs_at ge_l_i) (an ((by first | rfl | (simp; done) | (simp <;> omega)) : (0 + ([] : List (List DV)).length) = ([] ++ [] : List (List DV)).length) (an ((by first | rfl | (simp; done) | (simp <;> omega)) : (1) = ([[.z e_l_i.node, .u e_l_i.inc]] : List (List DV)).length) (an ((by have := srtTo_len l i; first | omega | (simp <;> omega)) : (2 * ((0 + ([] : List (List DV)).length) + (1)) + 192) * 16 ≤ 281474976710656) (an ((by have := srtTo_len l i; first | omega | (simp <;> omega)) : (0 + ([] : List (List DV)).length) + (1) < 4611686018427387904) (an ((by first | exact one_procs _ | exact one_part _ _ _ | simp [OneR, AV.one, oneC]) : OneR ([[.z e_l_i.node, .u e_l_i.inc]])) (an (rfI ((j : Nat) : Int)) (an u1 (an ((by first | rfl | (simp; done) | (simp <;> omega)) : ((srtTo l i).length) = (procs (srtTo l i)).length) (an ((by first | rfl | (simp; done) | (simp <;> omega)) : (0 + ([] : List (List DV)).length + (1)) = ([] ++ [] ++ [[.z e_l_i.node, .u e_l_i.inc]] : List (List DV)).length) (an ((by first | rfl | (simp; done) | (simp <;> omega)) : (j) + ((srtTo l i).length - j) ≤ (procs (srtTo l i)).length) (an (cpr_procs _ : CpR (procs (srtTo l i))) (an ((by have := srtTo_len l i; first | omega | (simp <;> omega)) : (2 * ((0 + ([] : List (List DV)).length + (1)) + ((srtTo l i).length - j)) + 192) * 16 ≤ 281474976710656) (an ((by have := srtTo_len l i; first | omega | (simp <;> omega)) : (0 + ([] : List (List DV)).length + (1)) + ((srtTo l i).length - j) < 4611686018427387904) (an ((by first | exact one_procs _ | exact one_part _ _ _ | simp [OneR, AV.one, oneC]) : OneR (((procs (srtTo l i)).drop (j)).take ((srtTo l i).length - j))) (an ((wi (by omega)) : IntKind.i64.wrap ((((i : Nat) : Int) : Int) + 1) = ((i + 1 : Nat) : Int)) trivial))))))))))))))))))))))))))))))) fun ac wd r => again0 (by omega) ac wd ⟨(by omega), r.cast (by first | (rw [srtTo_succ ge_l_i, if_pos (of_decide_eq_true (by assumption))]; done) | (rw [srtTo_succ ge_l_i, if_neg (of_decide_eq_false (by assumption)), ins_len]; exact congrArg (fun n => [(0, AV.d (.ro 2 (procs l))), (3, AV.sl 0 n), (4, .n (i + 1))]) (by first | omega | (simp only [List.length_nil, Nat.add_zero, Nat.zero_add]; omega) | (simp <;> omega)))) (by first | (rw [srtTo_succ ge_l_i, if_pos (of_decide_eq_true (by assumption))]; done) | (have hins := ins_mid (srtTo_ss l i hi0) (of_decide_eq_false (by assumption)) hj2 (by first | exact .inl (by omega) | exact .inr ⟨y, gy, by assumption⟩); rw [srtTo_succ ge_l_i, if_neg (of_decide_eq_false (by assumption))]; exact congrArg (fun x => [Blk.rw 38 2 x]) (srt_end (s := srtTo l i) (x := e_l_i) (j := j) (by first | (simp [procs, List.map_take]; done) | (obtain rfl : j = 0 := (by omega); simp)) (by first | (simp [procs, List.map_drop, List.take_of_length_le]; done) | (rw [List.drop_of_length_le (by omega)]; rfl)) hins)))⟩
     | true =>
      have qh5 := of_decide_eq_true h5
      exact toHead (todo' := hd Tryz.f107 0) (E' := [(0, .d (.ro 2 (procs l))), (3, .sl 0 (0 + (j) + (1) + ((srtTo l i).length - j))), (4, .n (i + 1))]) (M' := [.rw 38 2 ([] ++ ((procs (srtTo l i)).drop (0)).take (j) ++ [[.z e_l_i.node, .u e_l_i.inc]] ++ ((procs (srtTo l i)).drop (j)).take ((srtTo l i).length - j))]) tk mo hK [(4, [(1, .z (((i + 1 : Nat) : Int)))]), (7, [(3, .b true), (7, .n (j)), (8, .ix 0 [.z y.node, .u y.inc]), (11, .ix (i) [.z e_l_i.node, .u e_l_i.inc]), (13, .con (.v (.bool false)))]), (9, [(3, .n2 (j) 0)]), (10, [(3, .ix (i) [.z e_l_i.node, .u e_l_i.inc])]), (11, [(3, .n (j))])] 2000 [1] [0, 3, 4] r (by kernel_rfl) (an h2 (an (rfI ((j : Nat) : Int)) (an u1 (an u2 (an (procs_at gy) (an (rfI ((i : Nat) : Int)) (an (procs_at ge_l_i) (an u3 (an (rfI ((j : Nat) : Int)) (an ((by first | omega | decide | (simp; omega)) : 0 < (j)) (an ((by first | omega | decide | (simp; omega)) : (j) ≤ ((srtTo l i).length)) (an ((by first | rfl | (simp; done) | (simp <;> omega)) : ((srtTo l i).length) = (procs (srtTo l i)).length) (an ((by first | rfl | (simp; done) | (simp <;> omega)) : (0) = ([] : List (List DV)).length) (an ((by first | rfl | (simp; done) | (simp <;> omega)) : (0) + (j) ≤ (procs (srtTo l i)).length) (an (cpr_procs _ : CpR (procs (srtTo l i))) (an ((by have := srtTo_len l i; first | omega | (simp <;> omega)) : (2 * ((0) + (j)) + 192) * 16 ≤ 281474976710656) (an ((by have := srtTo_len l i; first | omega | (simp <;> omega)) : (0) + (j) < 4611686018427387904) (an ((by first | exact one_procs _ | exact one_part _ _ _ | simp [OneR, AV.one, oneC]) : OneR (((procs (srtTo l i)).drop (0)).take (j))) (an (rfI ((i : Nat) : Int)) (an (procs_at ge_l_i) (an ((by first | rfl | (simp; done) | (simp <;> omega)) : (0 + (j)) = ([] ++ ((procs (srtTo l i)).drop (0)).take (j) : List (List DV)).length) (an ((by first | rfl | (simp; done) | (simp <;> omega)) : (1) = ([[.z e_l_i.node, .u e_l_i.inc]] : List (List DV)).length) (an ((by have := srtTo_len l i; first | omega | (simp <;> omega)) : (2 * ((0 + (j)) + (1)) + 192) * 16 ≤ 281474976710656) (an ((by have := srtTo_len l i; first | omega | (simp <;> omega)) : (0 + (j)) + (1) < 4611686018427387904) (an ((by first | exact one_procs _ | exact one_part _ _ _ | simp [OneR, AV.one, oneC]) : OneR ([[.z e_l_i.node, .u e_l_i.inc]])) (an (rfI ((j : Nat) : Int)) (an u1 (an ((by first | rfl | (simp; done) | (simp <;> omega)) : ((srtTo l i).length) = (procs (srtTo l i)).length) (an ((by first | rfl | (simp; done) | (simp <;> omega)) : (0 + (j) + (1)) = ([] ++ ((procs (srtTo l i)).drop (0)).take (j) ++ [[.z e_l_i.node, .u e_l_i.inc]] : List (List DV)).length) (an ((by first | rfl | (simp; done) | (simp <;> omega)) : (j) + ((srtTo l i).length - j) ≤ (procs (srtTo l i)).length) (an (cpr_procs _ : CpR (procs (srtTo l i))) (an ((by have := srtTo_len l i; first | omega | (simp <;> omega)) : (2 * ((0 + (j) + (1)) + ((srtTo l i).length - j)) + 192) * 16 ≤ 281474976710656) (an ((by have := srtTo_len l i; first | omega | (simp <;> omega)) : (0 + (j) + (1)) + ((srtTo l i).length - j) < 4611686018427387904) (an ((by first | exact one_procs _ | exact one_part _ _ _ | simp [OneR, AV.one, oneC]) : OneR (((procs (srtTo l i)).drop (j)).take ((srtTo l i).length - j))) (an ((wi (by omega)) : IntKind.i64.wrap ((((i : Nat) : Int) : Int) + 1) = ((i + 1 : Nat) : Int)) trivial))))))))))))))))))))))))))))))))))) fun ac wd r => again0 (by omega) ac wd ⟨(by omega), r.cast (by first | (rw [srtTo_succ ge_l_i, if_pos (of_decide_eq_true (by assumption))]; done) | (rw [srtTo_succ ge_l_i, if_neg (of_decide_eq_false (by assumption)), ins_len]; exact congrArg (fun n => [(0, AV.d (.ro 2 (procs l))), (3, AV.sl 0 n), (4, .n (i + 1))]) (by first | omega | (simp only [List.length_nil, Nat.add_zero, Nat.zero_add]; omega) | (simp <;> omega)))) (by first | (rw [srtTo_succ ge_l_i, if_pos (of_decide_eq_true (by assumption))]; done) | (have hins := ins_mid (srtTo_ss l i hi0) (of_decide_eq_false (by assumption)) hj2 (by first | exact .inl (by omega) | exact .inr ⟨y, gy, by assumption⟩); rw [srtTo_succ ge_l_i, if_neg (of_decide_eq_false (by assumption))]; exact congrArg (fun x => [Blk.rw 38 2 x]) (srt_end (s := srtTo l i) (x := e_l_i) (j := j) (by first | (simp [procs, List.map_take]; done) | (obtain rfl : j = 0 := (by omega); simp)) (by first | (simp [procs, List.map_drop, List.take_of_length_le]; done) | (rw [List.drop_of_length_le (by omega)]; rfl)) hins)))⟩
    | true =>
     exact toHead (todo' := hd Tryz.f107 1) tk mo hK [(7, [(3, .b true), (7, .n (j)), (8, .ix 0 [.z y.node, .u y.inc]), (11, .ix (i) [.z e_l_i.node, .u e_l_i.inc]), (13, .con (.v (.bool true)))]), (8, [(1, .z (((j + 1 : Nat) : Int)))])] 2000 [0] [0, 3, 4, 5] r (by kernel_rfl) (an h2 (an (rfI ((j : Nat) : Int)) (an u1 (an u2 (an (procs_at gy) (an (rfI ((i : Nat) : Int)) (an (procs_at ge_l_i) (an ((by have k := refBefore y e_l_i; rw [h4] at k; exact k) : Con Tryz.prog 132 [.ag [.z y.node, .u y.inc], .ag [.z e_l_i.node, .u e_l_i.inc]] (.v (.bool true))) (an ((wi (by omega)) : IntKind.i64.wrap ((((j : Nat) : Int) : Int) + 1) = ((j + 1 : Nat) : Int)) trivial))))))))) fun ac wd r => again1 (by omega) ac wd ⟨⟨by omega, fun k z hk hz => by rcases Nat.lt_succ_iff_lt_or_eq.1 hk with h | rfl; exact hj2 k z h hz; rw [gy] at hz; cases hz; assumption⟩, r⟩
  | true =>
   have qh1 := of_decide_eq_true h1
   exact toHead (todo' := hd Tryz.f107 0) (E' := [(0, .d (.ro 2 (procs l))), (3, .sl 0 ((srtTo l i).length)), (4, .n (i + 1))]) (M' := [.rw 38 2 (procs (srtTo l i))]) tk mo hK [(3, [(2, .z (((l.length : Nat) : Int))), (3, .b true)]), (4, [(1, .z (((i + 1 : Nat) : Int)))]), (5, [(3, .ix (i) [.z e_l_i.node, .u e_l_i.inc]), (5, .call [.d (.ro 2 (procs (srtTo l i))), .ag [.z e_l_i.node, .u e_l_i.inc]] (.v (.bool true)))])] 2000 [0] [0, 3, 4] r (by kernel_rfl) (an u0 (an h0 (an (rfI ((i : Nat) : Int)) (an (procs_at ge_l_i) (an ((by have k := refHas (srtTo l i) e_l_i (by have := srtTo_len l i; omega); rw [h1] at k; exact k) : Con Tryz.prog 22 [.d (.ro 2 (procs (srtTo l i))), .ag [.z e_l_i.node, .u e_l_i.inc]] (.v (.bool true))) (an ((ind_v _) : Ind (.v (.bool true))) (an (rfN (2)) (an ((by first | rfl | (simp; done) | (simp <;> omega)) : ((srtTo l i).length) = (procs (srtTo l i)).length) (an ((froz_procs _) : frozR (procs (srtTo l i)) = procs (srtTo l i)) (an (rfD (.z e_l_i.node)) (an (rfD (.u e_l_i.inc)) (an ((wi (by omega)) : IntKind.i64.wrap ((((i : Nat) : Int) : Int) + 1) = ((i + 1 : Nat) : Int)) trivial)))))))))))) fun ac wd r => again0 (by omega) ac wd ⟨(by omega), r.cast (by first | (rw [srtTo_succ ge_l_i, if_pos (of_decide_eq_true (by assumption))]; done) | (rw [srtTo_succ ge_l_i, if_neg (of_decide_eq_false (by assumption)), ins_len]; exact congrArg (fun n => [(0, AV.d (.ro 2 (procs l))), (3, AV.sl 0 n), (4, .n (i + 1))]) (by first | omega | (simp only [List.length_nil, Nat.add_zero, Nat.zero_add]; omega) | (simp <;> omega)))) (by first | (rw [srtTo_succ ge_l_i, if_pos (of_decide_eq_true (by assumption))]; done) | (have hins := ins_mid (srtTo_ss l i hi0) (of_decide_eq_false (by assumption)) hj2 (by first | exact .inl (by omega) | exact .inr ⟨y, gy, by assumption⟩); rw [srtTo_succ ge_l_i, if_neg (of_decide_eq_false (by assumption))]; exact congrArg (fun x => [Blk.rw 38 2 x]) (srt_end (s := srtTo l i) (x := e_l_i) (j := j) (by first | (simp [procs, List.map_take]; done) | (obtain rfl : j = 0 := (by omega); simp)) (by first | (simp [procs, List.map_drop, List.take_of_length_le]; done) | (rw [List.drop_of_length_le (by omega)]; rfl)) hins)))⟩
end Go.Proofs.YtilhbhpldkjkaaaGreat
namespace Go.Proofs.YtilhbhpldkjkaaaGreat
open Go.RowKit
set_option maxRecDepth 100000 in
theorem compactP (l : List Proc) (hn : l.Nodup) (hb : l.length < 1073741824) : ConM Tryz.prog 183 [.sl 0 (l.length)] [.rw 38 2 (procs l)] (.sl 0 l.length) ([.rw 38 2 (procs l)]) := by
 refine ConM.intro (by kernel_rfl) rfl rfl 61 rfl rfl fun D w0 K bs ac wd hK (hbm : bs.m = 1) r => ?_
 cases h0 : (decide ((((l.length : Nat) : Int) : Int) < 2)) with
 | false =>
  have qh0 := of_decide_eq_false h0
  refine toHeadM (todo' := hd Tryz.f183 0) (E' := [(0, .sl 0 (l.length)), (3, .n (0 + 1))]) (M' := [.rw 38 2 (procs l)]) tk mo hK hbm [(1, [(2, .b false)])] 2000 [0] [0, 3] r (by kernel_rfl) (an h0 trivial) fun ac wd r => ?_
  refine Goes.rounds (Φ := fun (k : Nat) ac wd => (k ≤ l.length) ∧ RB D w0 K 61 bs [(0, .sl 0 (l.length)), (3, .n (k + 1))] [.rw 38 2 (procs l)] ac wd) (l.length) ?_ (Nat.zero_le _) ⟨(Nat.zero_le _), r⟩
  clear r
  rintro k hi0 again0 ac wd ⟨hv0, r⟩
  cases h1 : (decide ((((k + 1 : Nat) : Int) : Int) < ((l.length : Nat) : Int))) with
  | false =>
   have qh1 := of_decide_eq_false h1
   refine castM (y := .sl 0 (l.length)) (N' := [.rw 38 2 (procs l)]) (rfl) (rfl) ?_
   exact toRetM tk mo hK rfl hbm [(4, [(3, .b false)])] 2000 [0] r (by kernel_rfl) (an h1 trivial)
  | true =>
   have qh1 := of_decide_eq_true h1
   obtain ⟨y, gy⟩ : ∃ y, l[k + 1]? = some y := ⟨_, List.getElem?_eq_getElem (by omega)⟩
   obtain ⟨x, gx⟩ : ∃ x, l[k + 1 - 1]? = some x := ⟨_, List.getElem?_eq_getElem (by omega)⟩
   have u0 := ((by first | rfl | (simp; done) | (simp <;> omega)) : (l.length) ≤ (procs l).length)
   have u1 := ((wi (by omega)) : IntKind.i64.wrap ((((k + 1 : Nat) : Int) : Int) - 1) = ((k + 1 - 1 : Nat) : Int))
   have u2 := ((by first | omega | decide | (simp; omega)) : (k + 1 - 1) < (l.length))
   cases h2 : (decide (y = x)) with
   | false =>
    have qh2 := of_decide_eq_false h2
    exact toHeadM (todo' := hd Tryz.f183 0) tk mo hK hbm [(4, [(3, .b true)]), (5, [(1, .z (((k + 1 + 1 : Nat) : Int)))]), (6, [(2, .n (k + 1)), (3, .ix 0 [.z y.node, .u y.inc]), (6, .z (((k + 1 - 1 : Nat) : Int))), (7, .n (k + 1 - 1)), (8, .ix 0 [.z x.node, .u x.inc]), (9, .b false)])] 2000 [0] [0, 3] r (by kernel_rfl) (an h1 (an (rfI ((k + 1 : Nat) : Int)) (an ((by first | omega | decide | (simp; omega)) : (k + 1) < (l.length)) (an u0 (an (procs_at gy) (an u1 (an (rfI ((k + 1 - 1 : Nat) : Int)) (an u2 (an u0 (an (procs_at gx) (an ((eqT (eqProcD _ _) h2) : EqAgg Tryz.prog 38 [(.int .i64 (y.node)), (.int .u64 (((y.inc : Nat) : Int)))] [(.int .i64 (x.node)), (.int .u64 (((x.inc : Nat) : Int)))] false) (an ((wi (by omega)) : IntKind.i64.wrap ((((k + 1 : Nat) : Int) : Int) + 1) = ((k + 1 + 1 : Nat) : Int)) trivial)))))))))))) fun ac wd r => again0 (by omega) ac wd ⟨(by omega), r⟩
   | true =>
    have qh2 := of_decide_eq_true h2
    exact absurd (of_decide_eq_true h2) (fun e => by have := (List.getElem?_inj (by omega) hn).1 (gy.trans (by rw [e]; exact gx.symm)); omega)
 | true =>
  have qh0 := of_decide_eq_true h0
  refine castM (y := .sl 0 (l.length)) (N' := [.rw 38 2 (procs l)]) (rfl) (rfl) ?_
  exact toRetM tk mo hK rfl hbm [(1, [(2, .b true)])] 2000 [0] r (by kernel_rfl) (an h0 trivial)
theorem compactI' (l : List Proc) (i : Nat) (h : i = l.length) (hn : l.Nodup) (hb : l.length < 1073741824) : ConM Tryz.prog 183 [.sl 0 i] [.rw 38 2 (procs l)] (.sl 0 l.length) [.rw 38 2 (procs l)] := by subst h; exact compactP l hn hb
end Go.Proofs.YtilhbhpldkjkaaaGreat
namespace Go.Proofs.YtilhbhpldkjkaaaGreat
open Go.RowKit
open Go.Maps Go.WideMaps
structure Ev where
 kind : Int
 who : Proc
 frm : Proc
 n : Nat
 body : List UInt8
 view : View
 transit : List Proc
def View.row (v : View) : List DV := [.u v.id.round, .z v.id.server.node, .u v.id.server.inc, .ro 2 (procs v.members), .ro 1 (nums v.starts)]
def Ev.row (e : Ev) : List DV := [.z e.kind, .z e.who.node, .u e.who.inc, .z e.frm.node, .u e.frm.inc, .u e.n, .ro 1 (bytesR e.body), .u e.view.id.round, .z e.view.id.server.node, .u e.view.id.server.inc, .ro 2 (procs e.view.members), .ro 1 (nums e.view.starts), .ro 2 (procs e.transit)]
abbrev Ev.av (e : Ev) : List AV := [.z e.kind, .z e.who.node, .u e.who.inc, .z e.frm.node, .u e.frm.inc, .u e.n, .d (.ro 1 (bytesR e.body)), .u e.view.id.round, .z e.view.id.server.node, .u e.view.id.server.inc, .d (.ro 2 (procs e.view.members)), .d (.ro 1 (nums e.view.starts)), .d (.ro 2 (procs e.transit))]
abbrev View.avs (v : View) (t : List AV) : List AV := .u v.id.round :: .z v.id.server.node :: .u v.id.server.inc :: .d (.ro 2 (procs v.members)) :: .d (.ro 1 (nums v.starts)) :: t
abbrev View.dvs (v : View) (t : List DV) : List DV := .u v.id.round :: .z v.id.server.node :: .u v.id.server.inc :: .ro 2 (procs v.members) :: .ro 1 (nums v.starts) :: t
abbrev evs (l : List Ev) : List (List DV) := l.map Ev.row
theorem evs_at {l : List Ev} {i : Nat} {e : Ev} (h : l[i]? = some e) : (evs l)[i]? = some e.row := by simp [evs, h]
structure Life where
 view : View
 on : Bool
 stands : Int
 sent : Nat
 handed : List Nat
abbrev Life.lav (f : Life) (h : Nat) : List AV := .u f.view.id.round :: .z f.view.id.server.node :: .u f.view.id.server.inc :: .d (.ro 2 (procs f.view.members)) :: .d (.ro 1 (nums f.view.starts)) :: .d (.v (.bool f.on)) :: .z f.stands :: .u f.sent :: .sl h f.handed.length :: []
theorem wiS (i : Nat) (h : i < 4611686018427387904) : IntKind.i64.wrap (((i : Nat) : Int) + 1) = ((i + 1 : Nat) : Int) := wi (by omega)
structure Comer where
 who : Proc
 frm : View
 transit : List Proc
def Comer.row (c : Comer) : List DV := [.z c.who.node, .u c.who.inc, .u c.frm.id.round, .z c.frm.id.server.node, .u c.frm.id.server.inc, .ro 2 (procs c.frm.members), .ro 1 (nums c.frm.starts), .ro 2 (procs c.transit)]
abbrev comers (l : List Comer) : List (List DV) := l.map Comer.row
theorem comers_at {l : List Comer} {i : Nat} {e : Comer} (h : l[i]? = some e) : (comers l)[i]? = some e.row := by simp [comers, h]
structure Come where
 view : View
 came : List Comer
abbrev Life.cells (f : Life) : List DV := [.u f.view.id.round, .z f.view.id.server.node, .u f.view.id.server.inc, .ro 2 (procs f.view.members), .ro 1 (nums f.view.starts), .v (.bool f.on), .z f.stands, .u f.sent, .em 36 1 (nums f.handed)]
abbrev Life.d (f : Life) : DV := .pb 82 f.cells
abbrev Come.cells (c : Come) : List DV := [.u c.view.id.round, .z c.view.id.server.node, .u c.view.id.server.inc, .ro 2 (procs c.view.members), .ro 1 (nums c.view.starts), .em 129 8 (comers c.came)]
abbrev Come.d (c : Come) : DV := .pb 122 c.cells
abbrev textD (b : List UInt8) : DV := .ag [.ro 1 (bytesR b)]
def Proc.okP (p : Proc) : Prop := (-9223372036854775808 ≤ p.node ∧ p.node ≤ 9223372036854775807) ∧ p.inc ≤ 18446744073709551615
def Vid.okV (v : Vid) : Prop := v.round ≤ 18446744073709551615 ∧ v.server.okP
abbrev MsgK := Vid × Proc × Nat
def MsgK.ok (m : MsgK) : Prop := m.1.okV ∧ m.2.1.okP ∧ m.2.2 ≤ 18446744073709551615
abbrev StepK := Vid × Vid
def StepK.ok (m : StepK) : Prop := m.1.okV ∧ m.2.okV
abbrev pk (p : Proc) : MK := .a [(.i64, p.node), (.u64, (p.inc : Int))]
abbrev vk (v : Vid) : MK := .a [(.u64, (v.round : Int)), (.i64, v.server.node), (.u64, (v.server.inc : Int))]
abbrev mk6 (m : MsgK) : MK := .a [(.u64, (m.1.round : Int)), (.i64, m.1.server.node), (.u64, (m.1.server.inc : Int)), (.i64, m.2.1.node), (.u64, (m.2.1.inc : Int)), (.u64, (m.2.2 : Int))]
abbrev sk (m : StepK) : MK := .a [(.u64, (m.1.round : Int)), (.i64, m.1.server.node), (.u64, (m.1.server.inc : Int)), (.u64, (m.2.round : Int)), (.i64, m.2.server.node), (.u64, (m.2.server.inc : Int))]
theorem Proc.ext' {p q : Proc} (h1 : p.node = q.node) (h2 : (p.inc : Int) = q.inc) : p = q := by cases p; cases q; simp only [Proc.mk.injEq]; exact ⟨h1, by dsimp only at h2; omega⟩
theorem Vid.ext' {p q : Vid} (h0 : (p.round : Int) = q.round) (h1 : p.server.node = q.server.node) (h2 : (p.server.inc : Int) = q.server.inc) : p = q := by
 have := Proc.ext' h1 h2
 cases p; cases q; simp only [Vid.mk.injEq]; exact ⟨by dsimp only at h0; omega, this⟩
theorem pk_inj {p q : Proc} (h : pk p = pk q) : p = q := by
 simp only [pk, MK.a.injEq, List.cons.injEq, Prod.mk.injEq, true_and, and_true] at h
 exact Proc.ext' h.1 h.2
theorem vk_inj {p q : Vid} (h : vk p = vk q) : p = q := by
 simp only [vk, MK.a.injEq, List.cons.injEq, Prod.mk.injEq, true_and, and_true] at h
 exact Vid.ext' h.1 h.2.1 h.2.2
theorem mk6_inj {p q : MsgK} (h : mk6 p = mk6 q) : p = q := by
 simp only [mk6, MK.a.injEq, List.cons.injEq, Prod.mk.injEq, true_and, and_true] at h
 obtain ⟨h1, h2, h3, h4, h5, h6⟩ := h
 exact Prod.ext (Vid.ext' h1 h2 h3) (Prod.ext (Proc.ext' h4 h5) (by omega))
theorem sk_inj {p q : StepK} (h : sk p = sk q) : p = q := by
 simp only [sk, MK.a.injEq, List.cons.injEq, Prod.mk.injEq, true_and, and_true] at h
 obtain ⟨h1, h2, h3, h4, h5, h6⟩ := h
 exact Prod.ext (Vid.ext' h1 h2 h3) (Vid.ext' h4 h5 h6)
theorem Tryz.laidOut : laidOutB Tryz.prog = true := by kernel_rfl
theorem wf64 {x : Int} (h : -9223372036854775808 ≤ x ∧ x ≤ 9223372036854775807) : (Lit.int .i64 x).wf = true := by
 have e1 : IntKind.i64.min = -9223372036854775808 := by decide
 have e2 : IntKind.i64.max = 9223372036854775807 := by decide
 simp only [Lit.wf, e1, e2, Bool.and_eq_true, decide_eq_true_eq]; exact h
theorem wfu64 {x : Nat} (h : x ≤ 18446744073709551615) : (Lit.int .u64 (x : Int)).wf = true := by
 have e1 : IntKind.u64.min = 0 := by decide
 have e2 : IntKind.u64.max = 18446744073709551615 := by decide
 simp only [Lit.wf, e1, e2, Bool.and_eq_true, decide_eq_true_eq]; omega
def KL (P : Program) (d : Nat) (t : TypeId) (cs : List Value) : Prop := ∃ ls, P.keyLits d t cs = some ls
theorem KL.int {P : Program} {d : Nat} {t : TypeId} {k : IntKind} {n : Int} (hu : P.underlying t = some (.int k)) (hw : (Lit.int k n).wf = true) : KL P (d + 1) t [.int k n] := ⟨_, by unfold Program.keyLits; simp [hu, hw]; rfl⟩
theorem mapM_some {α β : Type} {f : α → Option β} : ∀ {l : List α}, (∀ x ∈ l, ∃ y, f x = some y) → ∃ r, l.mapM f = some r
 | [], _ => ⟨[], by simp⟩
 | x :: l, h => by
  obtain ⟨y, hy⟩ := h x List.mem_cons_self
  obtain ⟨r, hr⟩ := mapM_some (l := l) fun z hz => h z (List.mem_cons_of_mem _ hz)
  exact ⟨y :: r, by simp [List.mapM_cons, hy, hr]⟩
theorem KL.struct {P : Program} {d : Nat} {t : TypeId} {fs : Array Field} {cs : List Value} (hu : P.underlying t = some (.struct fs)) (hl : cs.length = P.cellsOf t) (hn : fs.all (·.name != "_") = true) (h : ∀ f ∈ fs.toList, KL P d f.type ((cs.drop f.offset).take (P.cellsOf f.type))) : KL P (d + 1) t cs := by
 obtain ⟨r, hr⟩ := mapM_some (f := fun f : Field => P.keyLits d f.type ((cs.drop f.offset).take (P.cellsOf f.type))) h
 refine ⟨r.flatten, ?_⟩
 unfold Program.keyLits
 simp only [hu]
 rw [if_pos ⟨hl, hn⟩, hr]; rfl
theorem KL.key {P : Program} {t : TypeId} {cs : List Value} (hu : (match P.underlying t with | some (.struct _) => true | _ => false) = true) (hk : P.keyType t = true) (hc : P.cellsOf t = cs.length) (h : KL P (P.types.size + 1) t cs) : ∃ l, keyOf P t (.agg cs.toArray) = some l := by
 obtain ⟨ls, h⟩ := h
 obtain ⟨fs, hu⟩ : ∃ fs, P.underlying t = some (.struct fs) := by
  split at hu
  ·rename_i fs e; exact ⟨fs, e⟩
  ·cases hu
 unfold keyOf
 simp only [hu, hk, Bool.true_and]
 have : (Value.agg cs.toArray).formed P t = true := by simp [Value.formed, hu, hc]
 rw [if_pos this]
 have e : (Value.agg cs.toArray).cells.toList = cs := by simp [Value.cells]
 rw [e, h]; exact ⟨_, rfl⟩
section
variable {d : Nat}
theorem kl_proc {p : Proc} (h : p.okP) : KL Tryz.prog (d + 2) 38 [.int .i64 p.node, .int .u64 (p.inc : Int)] := by
 refine KL.struct (fs := #[⟨"Node", 3, 0, false, "", "", 0⟩, ⟨"Inc", 36, 1, false, "", "", 8⟩]) (by kernel_rfl) (show 2 = _ from (by kernel_rfl)) (by kernel_rfl) fun f hf => ?_
 simp only [List.mem_cons, List.not_mem_nil, or_false] at hf
 rcases hf with rfl | rfl
 ·rw [show Tryz.prog.cellsOf (⟨"Node", 3, 0, false, "", "", 0⟩ : Field).type = 1 from by kernel_rfl]; exact KL.int (by kernel_rfl) (wf64 h.1)
 ·rw [show Tryz.prog.cellsOf (⟨"Inc", 36, 1, false, "", "", 8⟩ : Field).type = 1 from by kernel_rfl]; exact KL.int (by kernel_rfl) (wfu64 h.2)
theorem kl_vid {v : Vid} (h : v.okV) : KL Tryz.prog (d + 3) 40 [.int .u64 (v.round : Int), .int .i64 v.server.node, .int .u64 (v.server.inc : Int)] := by
 refine KL.struct (fs := #[⟨"Round", 36, 0, false, "", "", 0⟩, ⟨"Server", 38, 1, false, "", "", 8⟩]) (by kernel_rfl) (show 3 = _ from (by kernel_rfl)) (by kernel_rfl) fun f hf => ?_
 simp only [List.mem_cons, List.not_mem_nil, or_false] at hf
 rcases hf with rfl | rfl
 ·rw [show Tryz.prog.cellsOf (⟨"Round", 36, 0, false, "", "", 0⟩ : Field).type = 1 from by kernel_rfl]; exact KL.int (by kernel_rfl) (wfu64 h.1)
 ·rw [show Tryz.prog.cellsOf (⟨"Server", 38, 1, false, "", "", 8⟩ : Field).type = 2 from by kernel_rfl]; exact kl_proc h.2
theorem kl_msg {m : MsgK} (h : m.ok) : KL Tryz.prog (d + 4) 111 [.int .u64 (m.1.round : Int), .int .i64 m.1.server.node, .int .u64 (m.1.server.inc : Int), .int .i64 m.2.1.node, .int .u64 (m.2.1.inc : Int), .int .u64 (m.2.2 : Int)] := by
 refine KL.struct (fs := #[⟨"view", 40, 0, false, "", "caucus/spec", 0⟩, ⟨"from", 38, 3, false, "", "caucus/spec", 24⟩, ⟨"n", 36, 5, false, "", "caucus/spec", 40⟩]) (by kernel_rfl) (show 6 = _ from (by kernel_rfl)) (by kernel_rfl) fun f hf => ?_
 simp only [List.mem_cons, List.not_mem_nil, or_false] at hf
 rcases hf with rfl | rfl | rfl
 ·rw [show Tryz.prog.cellsOf (⟨"view", 40, 0, false, "", "caucus/spec", 0⟩ : Field).type = 3 from by kernel_rfl]; exact kl_vid h.1
 ·rw [show Tryz.prog.cellsOf (⟨"from", 38, 3, false, "", "caucus/spec", 24⟩ : Field).type = 2 from by kernel_rfl]; exact kl_proc h.2.1
 ·rw [show Tryz.prog.cellsOf (⟨"n", 36, 5, false, "", "caucus/spec", 40⟩ : Field).type = 1 from by kernel_rfl]; exact KL.int (by kernel_rfl) (wfu64 h.2.2)
theorem kl_step {m : StepK} (h : m.ok) : KL Tryz.prog (d + 4) 124 [.int .u64 (m.1.round : Int), .int .i64 m.1.server.node, .int .u64 (m.1.server.inc : Int), .int .u64 (m.2.round : Int), .int .i64 m.2.server.node, .int .u64 (m.2.server.inc : Int)] := by
 refine KL.struct (fs := #[⟨"from", 40, 0, false, "", "caucus/spec", 0⟩, ⟨"to", 40, 3, false, "", "caucus/spec", 24⟩]) (by kernel_rfl) (show 6 = _ from (by kernel_rfl)) (by kernel_rfl) fun f hf => ?_
 simp only [List.mem_cons, List.not_mem_nil, or_false] at hf
 rcases hf with rfl | rfl
 ·rw [show Tryz.prog.cellsOf (⟨"from", 40, 0, false, "", "caucus/spec", 0⟩ : Field).type = 3 from by kernel_rfl]; exact kl_vid h.1
 ·rw [show Tryz.prog.cellsOf (⟨"to", 40, 3, false, "", "caucus/spec", 24⟩ : Field).type = 3 from by kernel_rfl]; exact kl_vid h.2
end
theorem size_more : ∃ d, Tryz.prog.types.size + 1 = d + 4 := ⟨Tryz.prog.types.size - 3, by have : 3 ≤ Tryz.prog.types.size := of_decide_eq_true (by kernel_rfl); omega⟩
theorem good_pk {p : Proc} (h : p.okP) : ∃ l, keyOf Tryz.prog 38 (pk p).val = some l := by
 obtain ⟨d, hd⟩ := size_more
 exact KL.key (cs := [.int .i64 p.node, .int .u64 (p.inc : Int)]) (by kernel_rfl) (by kernel_rfl) (show _ = 2 from (by kernel_rfl)) (hd ▸ kl_proc (d := d + 2) h)
theorem good_vk {p : Vid} (h : p.okV) : ∃ l, keyOf Tryz.prog 40 (vk p).val = some l := by
 obtain ⟨d, hd⟩ := size_more
 exact KL.key (cs := [.int .u64 (p.round : Int), .int .i64 p.server.node, .int .u64 (p.server.inc : Int)]) (by kernel_rfl) (by kernel_rfl) (show _ = 3 from (by kernel_rfl)) (hd ▸ kl_vid (d := d + 1) h)
theorem good_mk6 {m : MsgK} (h : m.ok) : ∃ l, keyOf Tryz.prog 111 (mk6 m).val = some l := by
 obtain ⟨d, hd⟩ := size_more
 exact KL.key (cs := [.int .u64 (m.1.round : Int), .int .i64 m.1.server.node, .int .u64 (m.1.server.inc : Int), .int .i64 m.2.1.node, .int .u64 (m.2.1.inc : Int), .int .u64 (m.2.2 : Int)]) (by kernel_rfl) (by kernel_rfl) (show _ = 6 from (by kernel_rfl)) (hd ▸ kl_msg (d := d) h)
theorem good_sk {m : StepK} (h : m.ok) : ∃ l, keyOf Tryz.prog 124 (sk m).val = some l := by
 obtain ⟨d, hd⟩ := size_more
 exact KL.key (cs := [.int .u64 (m.1.round : Int), .int .i64 m.1.server.node, .int .u64 (m.1.server.inc : Int), .int .u64 (m.2.round : Int), .int .i64 m.2.server.node, .int .u64 (m.2.server.inc : Int)]) (by kernel_rfl) (by kernel_rfl) (show _ = 6 from (by kernel_rfl)) (hd ▸ kl_step (d := d) h)
theorem keyRowP : (38 : TypeId) < Tryz.prog.types.size := of_decide_eq_true (by kernel_rfl)
theorem keyWideP : (match Tryz.prog.underlying 38 with | some (.array _ _) | some (.struct _) => true | _ => false) = true := by kernel_rfl
set_option maxRecDepth 100000 in
theorem lawP : Keyed Tryz.prog 38 := Keyed.of_law (deep_law_laid Tryz.laidOut (m := 2) (by omega) keyRowP (by kernel_rfl) keyWideP)
theorem keyRowV : (40 : TypeId) < Tryz.prog.types.size := of_decide_eq_true (by kernel_rfl)
theorem keyWideV : (match Tryz.prog.underlying 40 with | some (.array _ _) | some (.struct _) => true | _ => false) = true := by kernel_rfl
set_option maxRecDepth 100000 in
theorem lawV : Keyed Tryz.prog 40 := Keyed.of_law (deep_law_laid Tryz.laidOut (m := 3) (by omega) keyRowV (by kernel_rfl) keyWideV)
theorem keyRowM : (111 : TypeId) < Tryz.prog.types.size := of_decide_eq_true (by kernel_rfl)
theorem keyWideM : (match Tryz.prog.underlying 111 with | some (.array _ _) | some (.struct _) => true | _ => false) = true := by kernel_rfl
set_option maxRecDepth 100000 in
theorem lawM : Keyed Tryz.prog 111 := Keyed.of_law (deep_law_laid Tryz.laidOut (m := 4) (by omega) keyRowM (by kernel_rfl) keyWideM)
theorem keyRowS : (124 : TypeId) < Tryz.prog.types.size := of_decide_eq_true (by kernel_rfl)
theorem keyWideS : (match Tryz.prog.underlying 124 with | some (.array _ _) | some (.struct _) => true | _ => false) = true := by kernel_rfl
set_option maxRecDepth 100000 in
theorem lawS : Keyed Tryz.prog 124 := Keyed.of_law (deep_law_laid Tryz.laidOut (m := 4) (by omega) keyRowS (by kernel_rfl) keyWideS)
theorem ptrT80 : PtrT Tryz.prog 80 := by unfold PtrT; kernel_rfl
theorem ptrT116 : PtrT Tryz.prog 116 := by unfold PtrT; kernel_rfl
section
variable {κ α : Type} {k : κ → MK} {d : α → DV}
def emap (k : κ → MK) (d : α → DV) (l : List (Nat × κ × α)) : List (Nat × MK × DV) := l.map fun x => (x.1, k x.2.1, d x.2.2)
theorem emap_at {l : List (Nat × κ × α)} {j b : Nat} {q : κ} {x : α} (h : l[j]? = some (b, q, x)) : (emap k d l)[j]? = some (b, k q, d x) := by simp [emap, h]
theorem emap_get {l : List (Nat × κ × α)} {j b : Nat} {m : MK} {x : DV} (h : (emap k d l)[j]? = some (b, m, x)) : ∃ q y, l[j]? = some (b, q, y) ∧ m = k q ∧ x = d y := by
 simp only [emap, List.getElem?_map, Option.map_eq_some_iff, Prod.mk.injEq] at h
 obtain ⟨⟨b', q, y⟩, h1, rfl, rfl, rfl⟩ := h
 exact ⟨q, y, h1, rfl, rfl⟩
theorem emap_keys (l : List (Nat × κ × α)) : List.map (fun (e : Nat × MK × DV) => e.2.1) (emap k d l) = l.map fun x => k x.2.1 := by simp [emap, Function.comp_def]
theorem emap_born (l : List (Nat × κ × α)) : List.map (fun (e : Nat × MK × DV) => e.1) (emap k d l) = l.map fun x => x.1 := by simp [emap, Function.comp_def]
def keysN (l : List (Nat × κ × α)) : Prop := (l.map fun x => x.2.1).Nodup
theorem emap_nodup (hk : ∀ a b, k a = k b → a = b) {l : List (Nat × κ × α)} (h : keysN l) : (List.map (fun (e : Nat × MK × DV) => e.2.1) (emap k d l)).Nodup := by
 rw [emap_keys, show (fun x : Nat × κ × α => k x.2.1) = k ∘ fun x => x.2.1 from rfl, ← List.map_map]
 unfold keysN List.Nodup at *
 exact List.Pairwise.map _ (fun a b hab e => hab (hk a b e)) h
theorem emap_app (l : List (Nat × κ × α)) (b : Nat) (q : κ) (x : α) : emap k d l ++ [(b, k q, d x)] = emap k d (l ++ [(b, q, x)]) := by simp [emap]
theorem emap_set {l : List (Nat × κ × α)} {j b : Nat} {q : κ} {y x : α} (h : l[j]? = some (b, q, y)) (z : DV) : setE (setE (emap k d l) j z) j (d x) = emap k d (l.modify j fun e => (e.1, e.2.1, x)) := by
 unfold setE emap
 apply List.ext_getElem?; intro i
 simp only [List.getElem?_modify, List.getElem?_map]
 by_cases e : j = i
 ·subst e; simp [h]
 ·simp only [if_neg e]; cases l[i]? <;> simp
theorem emap_mod {l : List (Nat × κ × α)} (j : Nat) (x : α) : List.modify (emap k d l) j (fun e => (e.1, e.2.1, d x)) = emap k d (l.modify j fun e => (e.1, e.2.1, x)) := by
 unfold emap
 apply List.ext_getElem?; intro i
 simp only [List.getElem?_modify, List.getElem?_map]
 by_cases e : j = i
 ·subst e; cases l[j]? <;> simp
 ·simp only [if_neg e]; cases l[i]? <;> simp
theorem setE_keys (es : List (Nat × MK × DV)) (j : Nat) (z : DV) : List.map (fun (e : Nat × MK × DV) => e.2.1) (setE es j z) = List.map (fun (e : Nat × MK × DV) => e.2.1) es := by
 unfold setE
 apply List.ext_getElem?; intro i
 simp only [List.getElem?_modify, List.getElem?_map]
 by_cases e : j = i
 ·subst e; cases es[j]? <;> simp
 ·simp only [if_neg e]; cases es[i]? <;> simp
theorem setE_at {es : List (Nat × MK × DV)} {j b : Nat} {m : MK} {x : DV} (z : DV) (h : es[j]? = some (b, m, x)) : (setE es j z)[j]? = some (b, m, z) := by unfold setE; rw [List.getElem?_modify, h]; simp
theorem setE_same {l : List (Nat × κ × α)} {j b : Nat} {q : κ} {x : α} (h : l[j]? = some (b, q, x)) (z : DV) : setE (setE (emap k d l) j z) j (d x) = emap k d l := by
 rw [emap_set h]
 congr 1
 apply List.ext_getElem?; intro i
 rw [List.getElem?_modify]
 by_cases e : j = i
 ·subst e; simp [h]
 ·simp [e]
variable [DecidableEq κ]
def getK (l : List (Nat × κ × α)) (q : κ) : Option α := (l.find? fun x => decide (x.2.1 = q)).map fun x => x.2.2
theorem getK_some {l : List (Nat × κ × α)} {q : κ} {x : α} (h : getK l q = some x) : ∃ (j b : Nat), l[j]? = some (b, q, x) := by
 unfold getK at h
 rw [Option.map_eq_some_iff] at h
 obtain ⟨⟨b, q', y⟩, h1, h2⟩ := h
 have hm := List.mem_of_find?_eq_some h1
 have hq := List.find?_some h1
 simp at hq h2; subst hq h2
 obtain ⟨j, hj, e⟩ := List.getElem_of_mem hm
 exact ⟨j, b, by rw [List.getElem?_eq_getElem hj, e]⟩
theorem getK_none {l : List (Nat × κ × α)} {q : κ} (h : getK l q = none) : ∀ x ∈ l, x.2.1 ≠ q := by
 unfold getK at h
 rw [Option.map_eq_none_iff, List.find?_eq_none] at h
 intro x hx; simpa using h x hx
theorem emap_fresh (hk : ∀ a b, k a = k b → a = b) {l : List (Nat × κ × α)} {q : κ} (h : getK l q = none) : ∀ e ∈ emap k d l, e.2.1 ≠ k q := fun e he hq => by
 obtain ⟨x, hx, rfl⟩ := List.mem_map.1 he
 exact getK_none h x hx (hk _ _ hq)
theorem getK_of {l : List (Nat × κ × α)} (hn : keysN l) {j b : Nat} {q : κ} {x : α} (h : l[j]? = some (b, q, x)) : getK l q = some x := by
 cases hg : getK l q with
 | none => exact absurd rfl (getK_none hg _ (List.mem_of_getElem? h))
 | some y =>
  obtain ⟨j', b', h'⟩ := getK_some hg
  have e1 : (l.map fun x => x.2.1)[j]? = some q := by rw [List.getElem?_map, h]; rfl
  have e2 : (l.map fun x => x.2.1)[j']? = some q := by rw [List.getElem?_map, h']; rfl
  have := (List.getElem?_inj (by have := (List.getElem?_eq_some_iff.1 h).1; simpa using this) hn).1 (e1.trans e2.symm)
  subst this
  rw [h] at h'; cases h'; rfl
def setK (l : List (Nat × κ × α)) (q : κ) (x : α) : List (Nat × κ × α) := l.map fun e => if e.2.1 = q then (e.1, e.2.1, x) else e
def putK (l : List (Nat × κ × α)) (c : Nat) (q : κ) (x : α) : List (Nat × κ × α) := if (getK l q).isSome then setK l q x else l ++ [(c, q, x)]
def putC (l : List (Nat × κ × α)) (c : Nat) (q : κ) : Nat := if (getK l q).isSome then c else c + 1
theorem setK_mod {l : List (Nat × κ × α)} (hn : keysN l) {j b : Nat} {q : κ} {y : α} (h : l[j]? = some (b, q, y)) (x : α) : setK l q x = l.modify j fun e => (e.1, e.2.1, x) := by
 unfold setK
 apply List.ext_getElem?; intro i
 rw [List.getElem?_map, List.getElem?_modify]
 by_cases e : j = i
 ·subst e; simp [h]
 ·cases hi : l[i]? with
  | none => simp
  | some z =>
   have hz : z.2.1 ≠ q := fun hq => e (by
    have e1 : (l.map fun x => x.2.1)[j]? = some q := by rw [List.getElem?_map, h]; rfl
    have e2 : (l.map fun x => x.2.1)[i]? = some q := by rw [List.getElem?_map, hi]; simp [hq]
    exact (List.getElem?_inj (by have := (List.getElem?_eq_some_iff.1 h).1; simpa using this) hn).1 (e1.trans e2.symm))
   simp [e, hz]
theorem setK_keys (l : List (Nat × κ × α)) (q : κ) (x : α) : (setK l q x).map (fun e => e.2.1) = l.map fun e => e.2.1 := by
 unfold setK; rw [List.map_map]; apply List.map_congr_left; intro e _; simp only [Function.comp]; split <;> rfl
theorem setK_n {l : List (Nat × κ × α)} (hn : keysN l) (q : κ) (x : α) : keysN (setK l q x) := by unfold keysN; rw [setK_keys]; exact hn
theorem putK_n {l : List (Nat × κ × α)} (hn : keysN l) (c : Nat) (q : κ) (x : α) : keysN (putK l c q x) := by
 unfold putK; split
 ·exact setK_n hn q x
 ·rename_i h
  have h : getK l q = none := by simpa using h
  unfold keysN; rw [List.map_append, List.nodup_append]
  refine ⟨hn, by simp, fun a ha b hb e => ?_⟩
  obtain ⟨x', hx, rfl⟩ := List.mem_map.1 ha
  simp at hb; subst hb; exact getK_none h x' hx e
theorem getK_cons (e : Nat × κ × α) (l : List (Nat × κ × α)) (q : κ) : getK (e :: l) q = if e.2.1 = q then some e.2.2 else getK l q := by
 unfold getK; rw [List.find?_cons]; by_cases h : e.2.1 = q <;> simp [h]
theorem getK_app (l m : List (Nat × κ × α)) (q : κ) : getK (l ++ m) q = (getK l q).or (getK m q) := by
 induction l with
 | nil => simp [getK]
 | cons e l ih => rw [List.cons_append, getK_cons, getK_cons, ih]; split <;> simp
theorem getK_setK (l : List (Nat × κ × α)) (q r : κ) (x : α) : getK (setK l q x) r = if r = q then (getK l q).map fun _ => x else getK l r := by
 induction l with
 | nil => simp [setK, getK]
 | cons e l ih =>
  have : setK (e :: l) q x = (if e.2.1 = q then (e.1, e.2.1, x) else e) :: setK l q x := rfl
  rw [this, getK_cons, getK_cons, getK_cons, ih]
  by_cases h1 : e.2.1 = q <;> by_cases h2 : r = q
  ·subst h2; simp [h1]
  ·have h3 : ¬ q = r := fun e => h2 e.symm
   simp [h1, h2, h3]
  ·subst h2; simp [h1]
  ·simp [h1, h2]
theorem getK_putK (l : List (Nat × κ × α)) (c : Nat) (q r : κ) (x : α) : getK (putK l c q x) r = if r = q then some x else getK l r := by
 unfold putK
 split
 ·rename_i h
  rw [getK_setK]
  obtain ⟨y, hy⟩ := Option.isSome_iff_exists.1 h
  simp [hy]
 ·rename_i h
  have h : getK l q = none := by simpa using h
  rw [getK_app, getK_cons]
  by_cases hr : r = q
  ·subst hr; simp [h]
  ·have h3 : ¬ q = r := fun e => hr e.symm
   simp [hr, h3, getK]
theorem setK_ok {p : κ → Prop} {l : List (Nat × κ × α)} (h : ∀ e ∈ l, p e.2.1) (q : κ) (x : α) : ∀ e ∈ setK l q x, p e.2.1 := fun e he => by
 obtain ⟨y, hy, rfl⟩ := List.mem_map.1 he
 have := h y hy
 split <;> exact this
theorem putK_ok {p : κ → Prop} {l : List (Nat × κ × α)} (h : ∀ e ∈ l, p e.2.1) {c : Nat} {q : κ} (hq : p q) (x : α) : ∀ e ∈ putK l c q x, p e.2.1 := fun e he => by
 unfold putK at he
 split at he
 ·exact setK_ok h q x e he
 ·rcases List.mem_append.1 he with he | he
  ·exact h e he
  ·simp at he; subst he; exact hq
end
theorem keysP {α : Type} {d : α → DV} {l : List (Nat × Proc × α)} (h : ∀ e ∈ l, e.2.1.okP) {q : Proc} (hq : q.okP) : KeysOk Tryz.prog 38 (pk q :: List.map (fun (e : Nat × MK × DV) => e.2.1) (emap pk d l)) := by
 refine ⟨lawP, fun k hk => ?_⟩
 rw [emap_keys] at hk
 rcases List.mem_cons.1 hk with rfl | hk
 ·exact good_pk hq
 ·obtain ⟨x, hx, rfl⟩ := List.mem_map.1 hk; exact good_pk (h x hx)
theorem keysV {α : Type} {d : α → DV} {l : List (Nat × Vid × α)} (h : ∀ e ∈ l, e.2.1.okV) {q : Vid} (hq : q.okV) : KeysOk Tryz.prog 40 (vk q :: List.map (fun (e : Nat × MK × DV) => e.2.1) (emap vk d l)) := by
 refine ⟨lawV, fun k hk => ?_⟩
 rw [emap_keys] at hk
 rcases List.mem_cons.1 hk with rfl | hk
 ·exact good_vk hq
 ·obtain ⟨x, hx, rfl⟩ := List.mem_map.1 hk; exact good_vk (h x hx)
theorem keysM {α : Type} {d : α → DV} {l : List (Nat × MsgK × α)} (h : ∀ e ∈ l, MsgK.ok e.2.1) {q : MsgK} (hq : q.ok) : KeysOk Tryz.prog 111 (mk6 q :: List.map (fun (e : Nat × MK × DV) => e.2.1) (emap mk6 d l)) := by
 refine ⟨lawM, fun k hk => ?_⟩
 rw [emap_keys] at hk
 rcases List.mem_cons.1 hk with rfl | hk
 ·exact good_mk6 hq
 ·obtain ⟨x, hx, rfl⟩ := List.mem_map.1 hk; exact good_mk6 (h x hx)
theorem keysS {α : Type} {d : α → DV} {l : List (Nat × StepK × α)} (h : ∀ e ∈ l, StepK.ok e.2.1) {q : StepK} (hq : q.ok) : KeysOk Tryz.prog 124 (sk q :: List.map (fun (e : Nat × MK × DV) => e.2.1) (emap sk d l)) := by
 refine ⟨lawS, fun k hk => ?_⟩
 rw [emap_keys] at hk
 rcases List.mem_cons.1 hk with rfl | hk
 ·exact good_sk hq
 ·obtain ⟨x, hx, rfl⟩ := List.mem_map.1 hk; exact good_sk (h x hx)
theorem keys_setE {K : TypeId} {q : MK} {es : List (Nat × MK × DV)} {j : Nat} {z : DV} (h : KeysOk Tryz.prog K (q :: List.map (fun (e : Nat × MK × DV) => e.2.1) es)) : KeysOk Tryz.prog K (q :: List.map (fun (e : Nat × MK × DV) => e.2.1) (setE es j z)) := by rw [setE_keys]; exact h
end Go.Proofs.YtilhbhpldkjkaaaGreat
namespace Go.Proofs.YtilhbhpldkjkaaaGreat
open Go.RowKit
theorem SS.lt {s : List Proc} (h : SS s) {i j : Nat} {p q : Proc} (hij : i < j) (hp : s[i]? = some p) (hq : s[j]? = some q) : p.lt q = true := by
 obtain ⟨h1, rfl⟩ := List.getElem?_eq_some_iff.1 hp
 obtain ⟨h2, rfl⟩ := List.getElem?_eq_some_iff.1 hq
 exact List.pairwise_iff_getElem.1 h i j h1 h2 hij
theorem cmp_neg {p q : Proc} : p.cmp q < 0 ↔ p.lt q = true := by
 have := @cmp_lt p q
 constructor
 ·intro h; cases hc : p.lt q with
  | true => rfl
  | false => rw [hc] at this; simp at this; omega
 ·intro h; rw [h] at this; simp at this; omega
theorem SS.not {s : List Proc} (h : SS s) {i j : Nat} {p q : Proc} (hij : i < j) (hp : s[i]? = some p) (hq : s[j]? = some q) : ¬ q.cmp p < 0 := fun hc => by
 have := lt_asymm (h.lt hij hp hq); rw [cmp_neg.1 hc] at this; cases this
theorem set_ss {l : List Proc} (h : isSet l = true) : SS l := by
 obtain ⟨-, h2⟩ := (isSet_iff l).1 h
 unfold SS; rw [List.pairwise_iff_getElem]
 intro i j hi hj hij
 obtain ⟨k, rfl⟩ : ∃ k, j = i + 1 + k := ⟨j - (i + 1), by omega⟩
 clear hij
 induction k with
 | zero => exact h2 i _ _ (by omega) (List.getElem?_eq_getElem hi) (List.getElem?_eq_getElem (by omega))
 | succ k ih => exact lt_trans (ih (by omega)) (h2 (i + 1 + k) _ _ (by omega) (List.getElem?_eq_getElem (by omega)) (List.getElem?_eq_getElem (by omega)))
def blen2 (n : Nat) : Nat := if n < 1 then 0 else if n < 2 then 1 else if n < 4 then 2 else if n < 8 then 3 else if n < 16 then 4 else if n < 32 then 5 else 6
theorem tdiv4 {n : Nat} (hn : n ≤ 1000) : IntKind.i64.wrap (((n : Nat) : Int).tdiv 4) = ((n / 4 : Nat) : Int) := by
 have h1 : ((n : Nat) : Int).tdiv 4 = ((n / 4 : Nat) : Int) := by rw [Int.tdiv_eq_ediv_of_nonneg (by omega)]; omega
 rw [h1]; exact wi (by omega)
theorem mulk {m k : Nat} (hm : m ≤ 250) (hk : k ≤ 3) : IntKind.i64.wrap (((m : Nat) : Int) * ((k : Nat) : Int)) = ((m * k : Nat) : Int) := by
 have h2 : m * k ≤ 250 * 3 := Nat.mul_le_mul hm hk
 rw [← Int.natCast_mul]; exact wi (by omega)
set_option maxRecDepth 100000 in
theorem len64_7  : Con Tryz.prog 180 [.d (.v (.int .u64 7))] (.v (.int .i64 3)) := by
 refine Con.intro (by kernel_rfl) rfl rfl 25 rfl rfl fun w0 K ac hK r => ?_
 exact toRet tk mo hK rfl [(10, [(2, .z (7)), (3, .n 7), (4, .z (3)), (5, .z (3))])] 2000 r (by kernel_rfl) (an ((by decide) : IntKind.u8.wrap (7) = 7) (an (rfl : (7 : Int) = ((7 : Nat) : Int)) (an ((by decide) : IntKind.i64.wrap (3) = 3) (an ((by decide) : IntKind.i64.wrap ((0 : Int) + 3) = 3) trivial))))
set_option maxRecDepth 100000 in
theorem bitsLen_7  : Con Tryz.prog 158 [.d (.v (.int .u64 7))] (.v (.int .i64 3)) := by
 refine Con.intro (by kernel_rfl) rfl rfl 8 rfl rfl fun w0 K ac hK r => ?_
 exact toRet tk mo hK rfl [(2, [(1, .con (.z 3))])] 2000 r (by kernel_rfl) (an (len64_7) trivial)
set_option maxRecDepth 100000 in
theorem len64_8  : Con Tryz.prog 180 [.d (.v (.int .u64 8))] (.v (.int .i64 4)) := by
 refine Con.intro (by kernel_rfl) rfl rfl 25 rfl rfl fun w0 K ac hK r => ?_
 exact toRet tk mo hK rfl [(10, [(2, .z (8)), (3, .n 8), (4, .z (4)), (5, .z (4))])] 2000 r (by kernel_rfl) (an ((by decide) : IntKind.u8.wrap (8) = 8) (an (rfl : (8 : Int) = ((8 : Nat) : Int)) (an ((by decide) : IntKind.i64.wrap (4) = 4) (an ((by decide) : IntKind.i64.wrap ((0 : Int) + 4) = 4) trivial))))
set_option maxRecDepth 100000 in
theorem bitsLen_8  : Con Tryz.prog 158 [.d (.v (.int .u64 8))] (.v (.int .i64 4)) := by
 refine Con.intro (by kernel_rfl) rfl rfl 8 rfl rfl fun w0 K ac hK r => ?_
 exact toRet tk mo hK rfl [(2, [(1, .con (.z 4))])] 2000 r (by kernel_rfl) (an (len64_8) trivial)
set_option maxRecDepth 100000 in
theorem len64_9  : Con Tryz.prog 180 [.d (.v (.int .u64 9))] (.v (.int .i64 4)) := by
 refine Con.intro (by kernel_rfl) rfl rfl 25 rfl rfl fun w0 K ac hK r => ?_
 exact toRet tk mo hK rfl [(10, [(2, .z (9)), (3, .n 9), (4, .z (4)), (5, .z (4))])] 2000 r (by kernel_rfl) (an ((by decide) : IntKind.u8.wrap (9) = 9) (an (rfl : (9 : Int) = ((9 : Nat) : Int)) (an ((by decide) : IntKind.i64.wrap (4) = 4) (an ((by decide) : IntKind.i64.wrap ((0 : Int) + 4) = 4) trivial))))
set_option maxRecDepth 100000 in
theorem bitsLen_9  : Con Tryz.prog 158 [.d (.v (.int .u64 9))] (.v (.int .i64 4)) := by
 refine Con.intro (by kernel_rfl) rfl rfl 8 rfl rfl fun w0 K ac hK r => ?_
 exact toRet tk mo hK rfl [(2, [(1, .con (.z 4))])] 2000 r (by kernel_rfl) (an (len64_9) trivial)
set_option maxRecDepth 100000 in
theorem len64_10  : Con Tryz.prog 180 [.d (.v (.int .u64 10))] (.v (.int .i64 4)) := by
 refine Con.intro (by kernel_rfl) rfl rfl 25 rfl rfl fun w0 K ac hK r => ?_
 exact toRet tk mo hK rfl [(10, [(2, .z (10)), (3, .n 10), (4, .z (4)), (5, .z (4))])] 2000 r (by kernel_rfl) (an ((by decide) : IntKind.u8.wrap (10) = 10) (an (rfl : (10 : Int) = ((10 : Nat) : Int)) (an ((by decide) : IntKind.i64.wrap (4) = 4) (an ((by decide) : IntKind.i64.wrap ((0 : Int) + 4) = 4) trivial))))
set_option maxRecDepth 100000 in
theorem bitsLen_10  : Con Tryz.prog 158 [.d (.v (.int .u64 10))] (.v (.int .i64 4)) := by
 refine Con.intro (by kernel_rfl) rfl rfl 8 rfl rfl fun w0 K ac hK r => ?_
 exact toRet tk mo hK rfl [(2, [(1, .con (.z 4))])] 2000 r (by kernel_rfl) (an (len64_10) trivial)
set_option maxRecDepth 100000 in
theorem len64_11  : Con Tryz.prog 180 [.d (.v (.int .u64 11))] (.v (.int .i64 4)) := by
 refine Con.intro (by kernel_rfl) rfl rfl 25 rfl rfl fun w0 K ac hK r => ?_
 exact toRet tk mo hK rfl [(10, [(2, .z (11)), (3, .n 11), (4, .z (4)), (5, .z (4))])] 2000 r (by kernel_rfl) (an ((by decide) : IntKind.u8.wrap (11) = 11) (an (rfl : (11 : Int) = ((11 : Nat) : Int)) (an ((by decide) : IntKind.i64.wrap (4) = 4) (an ((by decide) : IntKind.i64.wrap ((0 : Int) + 4) = 4) trivial))))
set_option maxRecDepth 100000 in
theorem bitsLen_11  : Con Tryz.prog 158 [.d (.v (.int .u64 11))] (.v (.int .i64 4)) := by
 refine Con.intro (by kernel_rfl) rfl rfl 8 rfl rfl fun w0 K ac hK r => ?_
 exact toRet tk mo hK rfl [(2, [(1, .con (.z 4))])] 2000 r (by kernel_rfl) (an (len64_11) trivial)
set_option maxRecDepth 100000 in
theorem len64_12  : Con Tryz.prog 180 [.d (.v (.int .u64 12))] (.v (.int .i64 4)) := by
 refine Con.intro (by kernel_rfl) rfl rfl 25 rfl rfl fun w0 K ac hK r => ?_
 exact toRet tk mo hK rfl [(10, [(2, .z (12)), (3, .n 12), (4, .z (4)), (5, .z (4))])] 2000 r (by kernel_rfl) (an ((by decide) : IntKind.u8.wrap (12) = 12) (an (rfl : (12 : Int) = ((12 : Nat) : Int)) (an ((by decide) : IntKind.i64.wrap (4) = 4) (an ((by decide) : IntKind.i64.wrap ((0 : Int) + 4) = 4) trivial))))
set_option maxRecDepth 100000 in
theorem bitsLen_12  : Con Tryz.prog 158 [.d (.v (.int .u64 12))] (.v (.int .i64 4)) := by
 refine Con.intro (by kernel_rfl) rfl rfl 8 rfl rfl fun w0 K ac hK r => ?_
 exact toRet tk mo hK rfl [(2, [(1, .con (.z 4))])] 2000 r (by kernel_rfl) (an (len64_12) trivial)
set_option maxRecDepth 100000 in
theorem len64_13  : Con Tryz.prog 180 [.d (.v (.int .u64 13))] (.v (.int .i64 4)) := by
 refine Con.intro (by kernel_rfl) rfl rfl 25 rfl rfl fun w0 K ac hK r => ?_
 exact toRet tk mo hK rfl [(10, [(2, .z (13)), (3, .n 13), (4, .z (4)), (5, .z (4))])] 2000 r (by kernel_rfl) (an ((by decide) : IntKind.u8.wrap (13) = 13) (an (rfl : (13 : Int) = ((13 : Nat) : Int)) (an ((by decide) : IntKind.i64.wrap (4) = 4) (an ((by decide) : IntKind.i64.wrap ((0 : Int) + 4) = 4) trivial))))
set_option maxRecDepth 100000 in
theorem bitsLen_13  : Con Tryz.prog 158 [.d (.v (.int .u64 13))] (.v (.int .i64 4)) := by
 refine Con.intro (by kernel_rfl) rfl rfl 8 rfl rfl fun w0 K ac hK r => ?_
 exact toRet tk mo hK rfl [(2, [(1, .con (.z 4))])] 2000 r (by kernel_rfl) (an (len64_13) trivial)
set_option maxRecDepth 100000 in
theorem len64_14  : Con Tryz.prog 180 [.d (.v (.int .u64 14))] (.v (.int .i64 4)) := by
 refine Con.intro (by kernel_rfl) rfl rfl 25 rfl rfl fun w0 K ac hK r => ?_
 exact toRet tk mo hK rfl [(10, [(2, .z (14)), (3, .n 14), (4, .z (4)), (5, .z (4))])] 2000 r (by kernel_rfl) (an ((by decide) : IntKind.u8.wrap (14) = 14) (an (rfl : (14 : Int) = ((14 : Nat) : Int)) (an ((by decide) : IntKind.i64.wrap (4) = 4) (an ((by decide) : IntKind.i64.wrap ((0 : Int) + 4) = 4) trivial))))
set_option maxRecDepth 100000 in
theorem bitsLen_14  : Con Tryz.prog 158 [.d (.v (.int .u64 14))] (.v (.int .i64 4)) := by
 refine Con.intro (by kernel_rfl) rfl rfl 8 rfl rfl fun w0 K ac hK r => ?_
 exact toRet tk mo hK rfl [(2, [(1, .con (.z 4))])] 2000 r (by kernel_rfl) (an (len64_14) trivial)
set_option maxRecDepth 100000 in
theorem len64_15  : Con Tryz.prog 180 [.d (.v (.int .u64 15))] (.v (.int .i64 4)) := by
 refine Con.intro (by kernel_rfl) rfl rfl 25 rfl rfl fun w0 K ac hK r => ?_
 exact toRet tk mo hK rfl [(10, [(2, .z (15)), (3, .n 15), (4, .z (4)), (5, .z (4))])] 2000 r (by kernel_rfl) (an ((by decide) : IntKind.u8.wrap (15) = 15) (an (rfl : (15 : Int) = ((15 : Nat) : Int)) (an ((by decide) : IntKind.i64.wrap (4) = 4) (an ((by decide) : IntKind.i64.wrap ((0 : Int) + 4) = 4) trivial))))
set_option maxRecDepth 100000 in
theorem bitsLen_15  : Con Tryz.prog 158 [.d (.v (.int .u64 15))] (.v (.int .i64 4)) := by
 refine Con.intro (by kernel_rfl) rfl rfl 8 rfl rfl fun w0 K ac hK r => ?_
 exact toRet tk mo hK rfl [(2, [(1, .con (.z 4))])] 2000 r (by kernel_rfl) (an (len64_15) trivial)
set_option maxRecDepth 100000 in
theorem len64_16  : Con Tryz.prog 180 [.d (.v (.int .u64 16))] (.v (.int .i64 5)) := by
 refine Con.intro (by kernel_rfl) rfl rfl 25 rfl rfl fun w0 K ac hK r => ?_
 exact toRet tk mo hK rfl [(10, [(2, .z (16)), (3, .n 16), (4, .z (5)), (5, .z (5))])] 2000 r (by kernel_rfl) (an ((by decide) : IntKind.u8.wrap (16) = 16) (an (rfl : (16 : Int) = ((16 : Nat) : Int)) (an ((by decide) : IntKind.i64.wrap (5) = 5) (an ((by decide) : IntKind.i64.wrap ((0 : Int) + 5) = 5) trivial))))
set_option maxRecDepth 100000 in
theorem bitsLen_16  : Con Tryz.prog 158 [.d (.v (.int .u64 16))] (.v (.int .i64 5)) := by
 refine Con.intro (by kernel_rfl) rfl rfl 8 rfl rfl fun w0 K ac hK r => ?_
 exact toRet tk mo hK rfl [(2, [(1, .con (.z 5))])] 2000 r (by kernel_rfl) (an (len64_16) trivial)
set_option maxRecDepth 100000 in
theorem len64_17  : Con Tryz.prog 180 [.d (.v (.int .u64 17))] (.v (.int .i64 5)) := by
 refine Con.intro (by kernel_rfl) rfl rfl 25 rfl rfl fun w0 K ac hK r => ?_
 exact toRet tk mo hK rfl [(10, [(2, .z (17)), (3, .n 17), (4, .z (5)), (5, .z (5))])] 2000 r (by kernel_rfl) (an ((by decide) : IntKind.u8.wrap (17) = 17) (an (rfl : (17 : Int) = ((17 : Nat) : Int)) (an ((by decide) : IntKind.i64.wrap (5) = 5) (an ((by decide) : IntKind.i64.wrap ((0 : Int) + 5) = 5) trivial))))
set_option maxRecDepth 100000 in
theorem bitsLen_17  : Con Tryz.prog 158 [.d (.v (.int .u64 17))] (.v (.int .i64 5)) := by
 refine Con.intro (by kernel_rfl) rfl rfl 8 rfl rfl fun w0 K ac hK r => ?_
 exact toRet tk mo hK rfl [(2, [(1, .con (.z 5))])] 2000 r (by kernel_rfl) (an (len64_17) trivial)
set_option maxRecDepth 100000 in
theorem len64_18  : Con Tryz.prog 180 [.d (.v (.int .u64 18))] (.v (.int .i64 5)) := by
 refine Con.intro (by kernel_rfl) rfl rfl 25 rfl rfl fun w0 K ac hK r => ?_
 exact toRet tk mo hK rfl [(10, [(2, .z (18)), (3, .n 18), (4, .z (5)), (5, .z (5))])] 2000 r (by kernel_rfl) (an ((by decide) : IntKind.u8.wrap (18) = 18) (an (rfl : (18 : Int) = ((18 : Nat) : Int)) (an ((by decide) : IntKind.i64.wrap (5) = 5) (an ((by decide) : IntKind.i64.wrap ((0 : Int) + 5) = 5) trivial))))
set_option maxRecDepth 100000 in
theorem bitsLen_18  : Con Tryz.prog 158 [.d (.v (.int .u64 18))] (.v (.int .i64 5)) := by
 refine Con.intro (by kernel_rfl) rfl rfl 8 rfl rfl fun w0 K ac hK r => ?_
 exact toRet tk mo hK rfl [(2, [(1, .con (.z 5))])] 2000 r (by kernel_rfl) (an (len64_18) trivial)
set_option maxRecDepth 100000 in
theorem len64_19  : Con Tryz.prog 180 [.d (.v (.int .u64 19))] (.v (.int .i64 5)) := by
 refine Con.intro (by kernel_rfl) rfl rfl 25 rfl rfl fun w0 K ac hK r => ?_
 exact toRet tk mo hK rfl [(10, [(2, .z (19)), (3, .n 19), (4, .z (5)), (5, .z (5))])] 2000 r (by kernel_rfl) (an ((by decide) : IntKind.u8.wrap (19) = 19) (an (rfl : (19 : Int) = ((19 : Nat) : Int)) (an ((by decide) : IntKind.i64.wrap (5) = 5) (an ((by decide) : IntKind.i64.wrap ((0 : Int) + 5) = 5) trivial))))
set_option maxRecDepth 100000 in
theorem bitsLen_19  : Con Tryz.prog 158 [.d (.v (.int .u64 19))] (.v (.int .i64 5)) := by
 refine Con.intro (by kernel_rfl) rfl rfl 8 rfl rfl fun w0 K ac hK r => ?_
 exact toRet tk mo hK rfl [(2, [(1, .con (.z 5))])] 2000 r (by kernel_rfl) (an (len64_19) trivial)
set_option maxRecDepth 100000 in
theorem len64_20  : Con Tryz.prog 180 [.d (.v (.int .u64 20))] (.v (.int .i64 5)) := by
 refine Con.intro (by kernel_rfl) rfl rfl 25 rfl rfl fun w0 K ac hK r => ?_
 exact toRet tk mo hK rfl [(10, [(2, .z (20)), (3, .n 20), (4, .z (5)), (5, .z (5))])] 2000 r (by kernel_rfl) (an ((by decide) : IntKind.u8.wrap (20) = 20) (an (rfl : (20 : Int) = ((20 : Nat) : Int)) (an ((by decide) : IntKind.i64.wrap (5) = 5) (an ((by decide) : IntKind.i64.wrap ((0 : Int) + 5) = 5) trivial))))
set_option maxRecDepth 100000 in
theorem bitsLen_20  : Con Tryz.prog 158 [.d (.v (.int .u64 20))] (.v (.int .i64 5)) := by
 refine Con.intro (by kernel_rfl) rfl rfl 8 rfl rfl fun w0 K ac hK r => ?_
 exact toRet tk mo hK rfl [(2, [(1, .con (.z 5))])] 2000 r (by kernel_rfl) (an (len64_20) trivial)
set_option maxRecDepth 100000 in
theorem len64_21  : Con Tryz.prog 180 [.d (.v (.int .u64 21))] (.v (.int .i64 5)) := by
 refine Con.intro (by kernel_rfl) rfl rfl 25 rfl rfl fun w0 K ac hK r => ?_
 exact toRet tk mo hK rfl [(10, [(2, .z (21)), (3, .n 21), (4, .z (5)), (5, .z (5))])] 2000 r (by kernel_rfl) (an ((by decide) : IntKind.u8.wrap (21) = 21) (an (rfl : (21 : Int) = ((21 : Nat) : Int)) (an ((by decide) : IntKind.i64.wrap (5) = 5) (an ((by decide) : IntKind.i64.wrap ((0 : Int) + 5) = 5) trivial))))
set_option maxRecDepth 100000 in
theorem bitsLen_21  : Con Tryz.prog 158 [.d (.v (.int .u64 21))] (.v (.int .i64 5)) := by
 refine Con.intro (by kernel_rfl) rfl rfl 8 rfl rfl fun w0 K ac hK r => ?_
 exact toRet tk mo hK rfl [(2, [(1, .con (.z 5))])] 2000 r (by kernel_rfl) (an (len64_21) trivial)
set_option maxRecDepth 100000 in
theorem len64_22  : Con Tryz.prog 180 [.d (.v (.int .u64 22))] (.v (.int .i64 5)) := by
 refine Con.intro (by kernel_rfl) rfl rfl 25 rfl rfl fun w0 K ac hK r => ?_
 exact toRet tk mo hK rfl [(10, [(2, .z (22)), (3, .n 22), (4, .z (5)), (5, .z (5))])] 2000 r (by kernel_rfl) (an ((by decide) : IntKind.u8.wrap (22) = 22) (an (rfl : (22 : Int) = ((22 : Nat) : Int)) (an ((by decide) : IntKind.i64.wrap (5) = 5) (an ((by decide) : IntKind.i64.wrap ((0 : Int) + 5) = 5) trivial))))
set_option maxRecDepth 100000 in
theorem bitsLen_22  : Con Tryz.prog 158 [.d (.v (.int .u64 22))] (.v (.int .i64 5)) := by
 refine Con.intro (by kernel_rfl) rfl rfl 8 rfl rfl fun w0 K ac hK r => ?_
 exact toRet tk mo hK rfl [(2, [(1, .con (.z 5))])] 2000 r (by kernel_rfl) (an (len64_22) trivial)
set_option maxRecDepth 100000 in
theorem len64_23  : Con Tryz.prog 180 [.d (.v (.int .u64 23))] (.v (.int .i64 5)) := by
 refine Con.intro (by kernel_rfl) rfl rfl 25 rfl rfl fun w0 K ac hK r => ?_
 exact toRet tk mo hK rfl [(10, [(2, .z (23)), (3, .n 23), (4, .z (5)), (5, .z (5))])] 2000 r (by kernel_rfl) (an ((by decide) : IntKind.u8.wrap (23) = 23) (an (rfl : (23 : Int) = ((23 : Nat) : Int)) (an ((by decide) : IntKind.i64.wrap (5) = 5) (an ((by decide) : IntKind.i64.wrap ((0 : Int) + 5) = 5) trivial))))
set_option maxRecDepth 100000 in
theorem bitsLen_23  : Con Tryz.prog 158 [.d (.v (.int .u64 23))] (.v (.int .i64 5)) := by
 refine Con.intro (by kernel_rfl) rfl rfl 8 rfl rfl fun w0 K ac hK r => ?_
 exact toRet tk mo hK rfl [(2, [(1, .con (.z 5))])] 2000 r (by kernel_rfl) (an (len64_23) trivial)
set_option maxRecDepth 100000 in
theorem len64_24  : Con Tryz.prog 180 [.d (.v (.int .u64 24))] (.v (.int .i64 5)) := by
 refine Con.intro (by kernel_rfl) rfl rfl 25 rfl rfl fun w0 K ac hK r => ?_
 exact toRet tk mo hK rfl [(10, [(2, .z (24)), (3, .n 24), (4, .z (5)), (5, .z (5))])] 2000 r (by kernel_rfl) (an ((by decide) : IntKind.u8.wrap (24) = 24) (an (rfl : (24 : Int) = ((24 : Nat) : Int)) (an ((by decide) : IntKind.i64.wrap (5) = 5) (an ((by decide) : IntKind.i64.wrap ((0 : Int) + 5) = 5) trivial))))
set_option maxRecDepth 100000 in
theorem bitsLen_24  : Con Tryz.prog 158 [.d (.v (.int .u64 24))] (.v (.int .i64 5)) := by
 refine Con.intro (by kernel_rfl) rfl rfl 8 rfl rfl fun w0 K ac hK r => ?_
 exact toRet tk mo hK rfl [(2, [(1, .con (.z 5))])] 2000 r (by kernel_rfl) (an (len64_24) trivial)
set_option maxRecDepth 100000 in
theorem len64_25  : Con Tryz.prog 180 [.d (.v (.int .u64 25))] (.v (.int .i64 5)) := by
 refine Con.intro (by kernel_rfl) rfl rfl 25 rfl rfl fun w0 K ac hK r => ?_
 exact toRet tk mo hK rfl [(10, [(2, .z (25)), (3, .n 25), (4, .z (5)), (5, .z (5))])] 2000 r (by kernel_rfl) (an ((by decide) : IntKind.u8.wrap (25) = 25) (an (rfl : (25 : Int) = ((25 : Nat) : Int)) (an ((by decide) : IntKind.i64.wrap (5) = 5) (an ((by decide) : IntKind.i64.wrap ((0 : Int) + 5) = 5) trivial))))
set_option maxRecDepth 100000 in
theorem bitsLen_25  : Con Tryz.prog 158 [.d (.v (.int .u64 25))] (.v (.int .i64 5)) := by
 refine Con.intro (by kernel_rfl) rfl rfl 8 rfl rfl fun w0 K ac hK r => ?_
 exact toRet tk mo hK rfl [(2, [(1, .con (.z 5))])] 2000 r (by kernel_rfl) (an (len64_25) trivial)
set_option maxRecDepth 100000 in
theorem len64_26  : Con Tryz.prog 180 [.d (.v (.int .u64 26))] (.v (.int .i64 5)) := by
 refine Con.intro (by kernel_rfl) rfl rfl 25 rfl rfl fun w0 K ac hK r => ?_
 exact toRet tk mo hK rfl [(10, [(2, .z (26)), (3, .n 26), (4, .z (5)), (5, .z (5))])] 2000 r (by kernel_rfl) (an ((by decide) : IntKind.u8.wrap (26) = 26) (an (rfl : (26 : Int) = ((26 : Nat) : Int)) (an ((by decide) : IntKind.i64.wrap (5) = 5) (an ((by decide) : IntKind.i64.wrap ((0 : Int) + 5) = 5) trivial))))
set_option maxRecDepth 100000 in
theorem bitsLen_26  : Con Tryz.prog 158 [.d (.v (.int .u64 26))] (.v (.int .i64 5)) := by
 refine Con.intro (by kernel_rfl) rfl rfl 8 rfl rfl fun w0 K ac hK r => ?_
 exact toRet tk mo hK rfl [(2, [(1, .con (.z 5))])] 2000 r (by kernel_rfl) (an (len64_26) trivial)
set_option maxRecDepth 100000 in
theorem len64_27  : Con Tryz.prog 180 [.d (.v (.int .u64 27))] (.v (.int .i64 5)) := by
 refine Con.intro (by kernel_rfl) rfl rfl 25 rfl rfl fun w0 K ac hK r => ?_
 exact toRet tk mo hK rfl [(10, [(2, .z (27)), (3, .n 27), (4, .z (5)), (5, .z (5))])] 2000 r (by kernel_rfl) (an ((by decide) : IntKind.u8.wrap (27) = 27) (an (rfl : (27 : Int) = ((27 : Nat) : Int)) (an ((by decide) : IntKind.i64.wrap (5) = 5) (an ((by decide) : IntKind.i64.wrap ((0 : Int) + 5) = 5) trivial))))
set_option maxRecDepth 100000 in
theorem bitsLen_27  : Con Tryz.prog 158 [.d (.v (.int .u64 27))] (.v (.int .i64 5)) := by
 refine Con.intro (by kernel_rfl) rfl rfl 8 rfl rfl fun w0 K ac hK r => ?_
 exact toRet tk mo hK rfl [(2, [(1, .con (.z 5))])] 2000 r (by kernel_rfl) (an (len64_27) trivial)
set_option maxRecDepth 100000 in
theorem len64_28  : Con Tryz.prog 180 [.d (.v (.int .u64 28))] (.v (.int .i64 5)) := by
 refine Con.intro (by kernel_rfl) rfl rfl 25 rfl rfl fun w0 K ac hK r => ?_
 exact toRet tk mo hK rfl [(10, [(2, .z (28)), (3, .n 28), (4, .z (5)), (5, .z (5))])] 2000 r (by kernel_rfl) (an ((by decide) : IntKind.u8.wrap (28) = 28) (an (rfl : (28 : Int) = ((28 : Nat) : Int)) (an ((by decide) : IntKind.i64.wrap (5) = 5) (an ((by decide) : IntKind.i64.wrap ((0 : Int) + 5) = 5) trivial))))
set_option maxRecDepth 100000 in
theorem bitsLen_28  : Con Tryz.prog 158 [.d (.v (.int .u64 28))] (.v (.int .i64 5)) := by
 refine Con.intro (by kernel_rfl) rfl rfl 8 rfl rfl fun w0 K ac hK r => ?_
 exact toRet tk mo hK rfl [(2, [(1, .con (.z 5))])] 2000 r (by kernel_rfl) (an (len64_28) trivial)
set_option maxRecDepth 100000 in
theorem len64_29  : Con Tryz.prog 180 [.d (.v (.int .u64 29))] (.v (.int .i64 5)) := by
 refine Con.intro (by kernel_rfl) rfl rfl 25 rfl rfl fun w0 K ac hK r => ?_
 exact toRet tk mo hK rfl [(10, [(2, .z (29)), (3, .n 29), (4, .z (5)), (5, .z (5))])] 2000 r (by kernel_rfl) (an ((by decide) : IntKind.u8.wrap (29) = 29) (an (rfl : (29 : Int) = ((29 : Nat) : Int)) (an ((by decide) : IntKind.i64.wrap (5) = 5) (an ((by decide) : IntKind.i64.wrap ((0 : Int) + 5) = 5) trivial))))
set_option maxRecDepth 100000 in
theorem bitsLen_29  : Con Tryz.prog 158 [.d (.v (.int .u64 29))] (.v (.int .i64 5)) := by
 refine Con.intro (by kernel_rfl) rfl rfl 8 rfl rfl fun w0 K ac hK r => ?_
 exact toRet tk mo hK rfl [(2, [(1, .con (.z 5))])] 2000 r (by kernel_rfl) (an (len64_29) trivial)
set_option maxRecDepth 100000 in
theorem len64_30  : Con Tryz.prog 180 [.d (.v (.int .u64 30))] (.v (.int .i64 5)) := by
 refine Con.intro (by kernel_rfl) rfl rfl 25 rfl rfl fun w0 K ac hK r => ?_
 exact toRet tk mo hK rfl [(10, [(2, .z (30)), (3, .n 30), (4, .z (5)), (5, .z (5))])] 2000 r (by kernel_rfl) (an ((by decide) : IntKind.u8.wrap (30) = 30) (an (rfl : (30 : Int) = ((30 : Nat) : Int)) (an ((by decide) : IntKind.i64.wrap (5) = 5) (an ((by decide) : IntKind.i64.wrap ((0 : Int) + 5) = 5) trivial))))
set_option maxRecDepth 100000 in
theorem bitsLen_30  : Con Tryz.prog 158 [.d (.v (.int .u64 30))] (.v (.int .i64 5)) := by
 refine Con.intro (by kernel_rfl) rfl rfl 8 rfl rfl fun w0 K ac hK r => ?_
 exact toRet tk mo hK rfl [(2, [(1, .con (.z 5))])] 2000 r (by kernel_rfl) (an (len64_30) trivial)
set_option maxRecDepth 100000 in
theorem len64_31  : Con Tryz.prog 180 [.d (.v (.int .u64 31))] (.v (.int .i64 5)) := by
 refine Con.intro (by kernel_rfl) rfl rfl 25 rfl rfl fun w0 K ac hK r => ?_
 exact toRet tk mo hK rfl [(10, [(2, .z (31)), (3, .n 31), (4, .z (5)), (5, .z (5))])] 2000 r (by kernel_rfl) (an ((by decide) : IntKind.u8.wrap (31) = 31) (an (rfl : (31 : Int) = ((31 : Nat) : Int)) (an ((by decide) : IntKind.i64.wrap (5) = 5) (an ((by decide) : IntKind.i64.wrap ((0 : Int) + 5) = 5) trivial))))
set_option maxRecDepth 100000 in
theorem bitsLen_31  : Con Tryz.prog 158 [.d (.v (.int .u64 31))] (.v (.int .i64 5)) := by
 refine Con.intro (by kernel_rfl) rfl rfl 8 rfl rfl fun w0 K ac hK r => ?_
 exact toRet tk mo hK rfl [(2, [(1, .con (.z 5))])] 2000 r (by kernel_rfl) (an (len64_31) trivial)
set_option maxRecDepth 100000 in
theorem len64_32  : Con Tryz.prog 180 [.d (.v (.int .u64 32))] (.v (.int .i64 6)) := by
 refine Con.intro (by kernel_rfl) rfl rfl 25 rfl rfl fun w0 K ac hK r => ?_
 exact toRet tk mo hK rfl [(10, [(2, .z (32)), (3, .n 32), (4, .z (6)), (5, .z (6))])] 2000 r (by kernel_rfl) (an ((by decide) : IntKind.u8.wrap (32) = 32) (an (rfl : (32 : Int) = ((32 : Nat) : Int)) (an ((by decide) : IntKind.i64.wrap (6) = 6) (an ((by decide) : IntKind.i64.wrap ((0 : Int) + 6) = 6) trivial))))
set_option maxRecDepth 100000 in
theorem bitsLen_32  : Con Tryz.prog 158 [.d (.v (.int .u64 32))] (.v (.int .i64 6)) := by
 refine Con.intro (by kernel_rfl) rfl rfl 8 rfl rfl fun w0 K ac hK r => ?_
 exact toRet tk mo hK rfl [(2, [(1, .con (.z 6))])] 2000 r (by kernel_rfl) (an (len64_32) trivial)
set_option maxRecDepth 100000 in
theorem len64_33  : Con Tryz.prog 180 [.d (.v (.int .u64 33))] (.v (.int .i64 6)) := by
 refine Con.intro (by kernel_rfl) rfl rfl 25 rfl rfl fun w0 K ac hK r => ?_
 exact toRet tk mo hK rfl [(10, [(2, .z (33)), (3, .n 33), (4, .z (6)), (5, .z (6))])] 2000 r (by kernel_rfl) (an ((by decide) : IntKind.u8.wrap (33) = 33) (an (rfl : (33 : Int) = ((33 : Nat) : Int)) (an ((by decide) : IntKind.i64.wrap (6) = 6) (an ((by decide) : IntKind.i64.wrap ((0 : Int) + 6) = 6) trivial))))
set_option maxRecDepth 100000 in
theorem bitsLen_33  : Con Tryz.prog 158 [.d (.v (.int .u64 33))] (.v (.int .i64 6)) := by
 refine Con.intro (by kernel_rfl) rfl rfl 8 rfl rfl fun w0 K ac hK r => ?_
 exact toRet tk mo hK rfl [(2, [(1, .con (.z 6))])] 2000 r (by kernel_rfl) (an (len64_33) trivial)
set_option maxRecDepth 100000 in
theorem len64_34  : Con Tryz.prog 180 [.d (.v (.int .u64 34))] (.v (.int .i64 6)) := by
 refine Con.intro (by kernel_rfl) rfl rfl 25 rfl rfl fun w0 K ac hK r => ?_
 exact toRet tk mo hK rfl [(10, [(2, .z (34)), (3, .n 34), (4, .z (6)), (5, .z (6))])] 2000 r (by kernel_rfl) (an ((by decide) : IntKind.u8.wrap (34) = 34) (an (rfl : (34 : Int) = ((34 : Nat) : Int)) (an ((by decide) : IntKind.i64.wrap (6) = 6) (an ((by decide) : IntKind.i64.wrap ((0 : Int) + 6) = 6) trivial))))
set_option maxRecDepth 100000 in
theorem bitsLen_34  : Con Tryz.prog 158 [.d (.v (.int .u64 34))] (.v (.int .i64 6)) := by
 refine Con.intro (by kernel_rfl) rfl rfl 8 rfl rfl fun w0 K ac hK r => ?_
 exact toRet tk mo hK rfl [(2, [(1, .con (.z 6))])] 2000 r (by kernel_rfl) (an (len64_34) trivial)
set_option maxRecDepth 100000 in
theorem len64_35  : Con Tryz.prog 180 [.d (.v (.int .u64 35))] (.v (.int .i64 6)) := by
 refine Con.intro (by kernel_rfl) rfl rfl 25 rfl rfl fun w0 K ac hK r => ?_
 exact toRet tk mo hK rfl [(10, [(2, .z (35)), (3, .n 35), (4, .z (6)), (5, .z (6))])] 2000 r (by kernel_rfl) (an ((by decide) : IntKind.u8.wrap (35) = 35) (an (rfl : (35 : Int) = ((35 : Nat) : Int)) (an ((by decide) : IntKind.i64.wrap (6) = 6) (an ((by decide) : IntKind.i64.wrap ((0 : Int) + 6) = 6) trivial))))
set_option maxRecDepth 100000 in
theorem bitsLen_35  : Con Tryz.prog 158 [.d (.v (.int .u64 35))] (.v (.int .i64 6)) := by
 refine Con.intro (by kernel_rfl) rfl rfl 8 rfl rfl fun w0 K ac hK r => ?_
 exact toRet tk mo hK rfl [(2, [(1, .con (.z 6))])] 2000 r (by kernel_rfl) (an (len64_35) trivial)
set_option maxRecDepth 100000 in
theorem len64_36  : Con Tryz.prog 180 [.d (.v (.int .u64 36))] (.v (.int .i64 6)) := by
 refine Con.intro (by kernel_rfl) rfl rfl 25 rfl rfl fun w0 K ac hK r => ?_
 exact toRet tk mo hK rfl [(10, [(2, .z (36)), (3, .n 36), (4, .z (6)), (5, .z (6))])] 2000 r (by kernel_rfl) (an ((by decide) : IntKind.u8.wrap (36) = 36) (an (rfl : (36 : Int) = ((36 : Nat) : Int)) (an ((by decide) : IntKind.i64.wrap (6) = 6) (an ((by decide) : IntKind.i64.wrap ((0 : Int) + 6) = 6) trivial))))
set_option maxRecDepth 100000 in
theorem bitsLen_36  : Con Tryz.prog 158 [.d (.v (.int .u64 36))] (.v (.int .i64 6)) := by
 refine Con.intro (by kernel_rfl) rfl rfl 8 rfl rfl fun w0 K ac hK r => ?_
 exact toRet tk mo hK rfl [(2, [(1, .con (.z 6))])] 2000 r (by kernel_rfl) (an (len64_36) trivial)
set_option maxRecDepth 100000 in
theorem len64_37  : Con Tryz.prog 180 [.d (.v (.int .u64 37))] (.v (.int .i64 6)) := by
 refine Con.intro (by kernel_rfl) rfl rfl 25 rfl rfl fun w0 K ac hK r => ?_
 exact toRet tk mo hK rfl [(10, [(2, .z (37)), (3, .n 37), (4, .z (6)), (5, .z (6))])] 2000 r (by kernel_rfl) (an ((by decide) : IntKind.u8.wrap (37) = 37) (an (rfl : (37 : Int) = ((37 : Nat) : Int)) (an ((by decide) : IntKind.i64.wrap (6) = 6) (an ((by decide) : IntKind.i64.wrap ((0 : Int) + 6) = 6) trivial))))
set_option maxRecDepth 100000 in
theorem bitsLen_37  : Con Tryz.prog 158 [.d (.v (.int .u64 37))] (.v (.int .i64 6)) := by
 refine Con.intro (by kernel_rfl) rfl rfl 8 rfl rfl fun w0 K ac hK r => ?_
 exact toRet tk mo hK rfl [(2, [(1, .con (.z 6))])] 2000 r (by kernel_rfl) (an (len64_37) trivial)
set_option maxRecDepth 100000 in
theorem len64_38  : Con Tryz.prog 180 [.d (.v (.int .u64 38))] (.v (.int .i64 6)) := by
 refine Con.intro (by kernel_rfl) rfl rfl 25 rfl rfl fun w0 K ac hK r => ?_
 exact toRet tk mo hK rfl [(10, [(2, .z (38)), (3, .n 38), (4, .z (6)), (5, .z (6))])] 2000 r (by kernel_rfl) (an ((by decide) : IntKind.u8.wrap (38) = 38) (an (rfl : (38 : Int) = ((38 : Nat) : Int)) (an ((by decide) : IntKind.i64.wrap (6) = 6) (an ((by decide) : IntKind.i64.wrap ((0 : Int) + 6) = 6) trivial))))
set_option maxRecDepth 100000 in
theorem bitsLen_38  : Con Tryz.prog 158 [.d (.v (.int .u64 38))] (.v (.int .i64 6)) := by
 refine Con.intro (by kernel_rfl) rfl rfl 8 rfl rfl fun w0 K ac hK r => ?_
 exact toRet tk mo hK rfl [(2, [(1, .con (.z 6))])] 2000 r (by kernel_rfl) (an (len64_38) trivial)
set_option maxRecDepth 100000 in
theorem len64_39  : Con Tryz.prog 180 [.d (.v (.int .u64 39))] (.v (.int .i64 6)) := by
 refine Con.intro (by kernel_rfl) rfl rfl 25 rfl rfl fun w0 K ac hK r => ?_
 exact toRet tk mo hK rfl [(10, [(2, .z (39)), (3, .n 39), (4, .z (6)), (5, .z (6))])] 2000 r (by kernel_rfl) (an ((by decide) : IntKind.u8.wrap (39) = 39) (an (rfl : (39 : Int) = ((39 : Nat) : Int)) (an ((by decide) : IntKind.i64.wrap (6) = 6) (an ((by decide) : IntKind.i64.wrap ((0 : Int) + 6) = 6) trivial))))
set_option maxRecDepth 100000 in
theorem bitsLen_39  : Con Tryz.prog 158 [.d (.v (.int .u64 39))] (.v (.int .i64 6)) := by
 refine Con.intro (by kernel_rfl) rfl rfl 8 rfl rfl fun w0 K ac hK r => ?_
 exact toRet tk mo hK rfl [(2, [(1, .con (.z 6))])] 2000 r (by kernel_rfl) (an (len64_39) trivial)
set_option maxRecDepth 100000 in
theorem len64_40  : Con Tryz.prog 180 [.d (.v (.int .u64 40))] (.v (.int .i64 6)) := by
 refine Con.intro (by kernel_rfl) rfl rfl 25 rfl rfl fun w0 K ac hK r => ?_
 exact toRet tk mo hK rfl [(10, [(2, .z (40)), (3, .n 40), (4, .z (6)), (5, .z (6))])] 2000 r (by kernel_rfl) (an ((by decide) : IntKind.u8.wrap (40) = 40) (an (rfl : (40 : Int) = ((40 : Nat) : Int)) (an ((by decide) : IntKind.i64.wrap (6) = 6) (an ((by decide) : IntKind.i64.wrap ((0 : Int) + 6) = 6) trivial))))
set_option maxRecDepth 100000 in
theorem bitsLen_40  : Con Tryz.prog 158 [.d (.v (.int .u64 40))] (.v (.int .i64 6)) := by
 refine Con.intro (by kernel_rfl) rfl rfl 8 rfl rfl fun w0 K ac hK r => ?_
 exact toRet tk mo hK rfl [(2, [(1, .con (.z 6))])] 2000 r (by kernel_rfl) (an (len64_40) trivial)
set_option maxRecDepth 100000 in
theorem len64_41  : Con Tryz.prog 180 [.d (.v (.int .u64 41))] (.v (.int .i64 6)) := by
 refine Con.intro (by kernel_rfl) rfl rfl 25 rfl rfl fun w0 K ac hK r => ?_
 exact toRet tk mo hK rfl [(10, [(2, .z (41)), (3, .n 41), (4, .z (6)), (5, .z (6))])] 2000 r (by kernel_rfl) (an ((by decide) : IntKind.u8.wrap (41) = 41) (an (rfl : (41 : Int) = ((41 : Nat) : Int)) (an ((by decide) : IntKind.i64.wrap (6) = 6) (an ((by decide) : IntKind.i64.wrap ((0 : Int) + 6) = 6) trivial))))
set_option maxRecDepth 100000 in
theorem bitsLen_41  : Con Tryz.prog 158 [.d (.v (.int .u64 41))] (.v (.int .i64 6)) := by
 refine Con.intro (by kernel_rfl) rfl rfl 8 rfl rfl fun w0 K ac hK r => ?_
 exact toRet tk mo hK rfl [(2, [(1, .con (.z 6))])] 2000 r (by kernel_rfl) (an (len64_41) trivial)
set_option maxRecDepth 100000 in
theorem len64_42  : Con Tryz.prog 180 [.d (.v (.int .u64 42))] (.v (.int .i64 6)) := by
 refine Con.intro (by kernel_rfl) rfl rfl 25 rfl rfl fun w0 K ac hK r => ?_
 exact toRet tk mo hK rfl [(10, [(2, .z (42)), (3, .n 42), (4, .z (6)), (5, .z (6))])] 2000 r (by kernel_rfl) (an ((by decide) : IntKind.u8.wrap (42) = 42) (an (rfl : (42 : Int) = ((42 : Nat) : Int)) (an ((by decide) : IntKind.i64.wrap (6) = 6) (an ((by decide) : IntKind.i64.wrap ((0 : Int) + 6) = 6) trivial))))
set_option maxRecDepth 100000 in
theorem bitsLen_42  : Con Tryz.prog 158 [.d (.v (.int .u64 42))] (.v (.int .i64 6)) := by
 refine Con.intro (by kernel_rfl) rfl rfl 8 rfl rfl fun w0 K ac hK r => ?_
 exact toRet tk mo hK rfl [(2, [(1, .con (.z 6))])] 2000 r (by kernel_rfl) (an (len64_42) trivial)
set_option maxRecDepth 100000 in
theorem len64_43  : Con Tryz.prog 180 [.d (.v (.int .u64 43))] (.v (.int .i64 6)) := by
 refine Con.intro (by kernel_rfl) rfl rfl 25 rfl rfl fun w0 K ac hK r => ?_
 exact toRet tk mo hK rfl [(10, [(2, .z (43)), (3, .n 43), (4, .z (6)), (5, .z (6))])] 2000 r (by kernel_rfl) (an ((by decide) : IntKind.u8.wrap (43) = 43) (an (rfl : (43 : Int) = ((43 : Nat) : Int)) (an ((by decide) : IntKind.i64.wrap (6) = 6) (an ((by decide) : IntKind.i64.wrap ((0 : Int) + 6) = 6) trivial))))
set_option maxRecDepth 100000 in
theorem bitsLen_43  : Con Tryz.prog 158 [.d (.v (.int .u64 43))] (.v (.int .i64 6)) := by
 refine Con.intro (by kernel_rfl) rfl rfl 8 rfl rfl fun w0 K ac hK r => ?_
 exact toRet tk mo hK rfl [(2, [(1, .con (.z 6))])] 2000 r (by kernel_rfl) (an (len64_43) trivial)
set_option maxRecDepth 100000 in
theorem len64_44  : Con Tryz.prog 180 [.d (.v (.int .u64 44))] (.v (.int .i64 6)) := by
 refine Con.intro (by kernel_rfl) rfl rfl 25 rfl rfl fun w0 K ac hK r => ?_
 exact toRet tk mo hK rfl [(10, [(2, .z (44)), (3, .n 44), (4, .z (6)), (5, .z (6))])] 2000 r (by kernel_rfl) (an ((by decide) : IntKind.u8.wrap (44) = 44) (an (rfl : (44 : Int) = ((44 : Nat) : Int)) (an ((by decide) : IntKind.i64.wrap (6) = 6) (an ((by decide) : IntKind.i64.wrap ((0 : Int) + 6) = 6) trivial))))
set_option maxRecDepth 100000 in
theorem bitsLen_44  : Con Tryz.prog 158 [.d (.v (.int .u64 44))] (.v (.int .i64 6)) := by
 refine Con.intro (by kernel_rfl) rfl rfl 8 rfl rfl fun w0 K ac hK r => ?_
 exact toRet tk mo hK rfl [(2, [(1, .con (.z 6))])] 2000 r (by kernel_rfl) (an (len64_44) trivial)
set_option maxRecDepth 100000 in
theorem len64_45  : Con Tryz.prog 180 [.d (.v (.int .u64 45))] (.v (.int .i64 6)) := by
 refine Con.intro (by kernel_rfl) rfl rfl 25 rfl rfl fun w0 K ac hK r => ?_
 exact toRet tk mo hK rfl [(10, [(2, .z (45)), (3, .n 45), (4, .z (6)), (5, .z (6))])] 2000 r (by kernel_rfl) (an ((by decide) : IntKind.u8.wrap (45) = 45) (an (rfl : (45 : Int) = ((45 : Nat) : Int)) (an ((by decide) : IntKind.i64.wrap (6) = 6) (an ((by decide) : IntKind.i64.wrap ((0 : Int) + 6) = 6) trivial))))
set_option maxRecDepth 100000 in
theorem bitsLen_45  : Con Tryz.prog 158 [.d (.v (.int .u64 45))] (.v (.int .i64 6)) := by
 refine Con.intro (by kernel_rfl) rfl rfl 8 rfl rfl fun w0 K ac hK r => ?_
 exact toRet tk mo hK rfl [(2, [(1, .con (.z 6))])] 2000 r (by kernel_rfl) (an (len64_45) trivial)
set_option maxRecDepth 100000 in
theorem len64_46  : Con Tryz.prog 180 [.d (.v (.int .u64 46))] (.v (.int .i64 6)) := by
 refine Con.intro (by kernel_rfl) rfl rfl 25 rfl rfl fun w0 K ac hK r => ?_
 exact toRet tk mo hK rfl [(10, [(2, .z (46)), (3, .n 46), (4, .z (6)), (5, .z (6))])] 2000 r (by kernel_rfl) (an ((by decide) : IntKind.u8.wrap (46) = 46) (an (rfl : (46 : Int) = ((46 : Nat) : Int)) (an ((by decide) : IntKind.i64.wrap (6) = 6) (an ((by decide) : IntKind.i64.wrap ((0 : Int) + 6) = 6) trivial))))
set_option maxRecDepth 100000 in
theorem bitsLen_46  : Con Tryz.prog 158 [.d (.v (.int .u64 46))] (.v (.int .i64 6)) := by
 refine Con.intro (by kernel_rfl) rfl rfl 8 rfl rfl fun w0 K ac hK r => ?_
 exact toRet tk mo hK rfl [(2, [(1, .con (.z 6))])] 2000 r (by kernel_rfl) (an (len64_46) trivial)
set_option maxRecDepth 100000 in
theorem len64_47  : Con Tryz.prog 180 [.d (.v (.int .u64 47))] (.v (.int .i64 6)) := by
 refine Con.intro (by kernel_rfl) rfl rfl 25 rfl rfl fun w0 K ac hK r => ?_
 exact toRet tk mo hK rfl [(10, [(2, .z (47)), (3, .n 47), (4, .z (6)), (5, .z (6))])] 2000 r (by kernel_rfl) (an ((by decide) : IntKind.u8.wrap (47) = 47) (an (rfl : (47 : Int) = ((47 : Nat) : Int)) (an ((by decide) : IntKind.i64.wrap (6) = 6) (an ((by decide) : IntKind.i64.wrap ((0 : Int) + 6) = 6) trivial))))
set_option maxRecDepth 100000 in
theorem bitsLen_47  : Con Tryz.prog 158 [.d (.v (.int .u64 47))] (.v (.int .i64 6)) := by
 refine Con.intro (by kernel_rfl) rfl rfl 8 rfl rfl fun w0 K ac hK r => ?_
 exact toRet tk mo hK rfl [(2, [(1, .con (.z 6))])] 2000 r (by kernel_rfl) (an (len64_47) trivial)
set_option maxRecDepth 100000 in
theorem len64_48  : Con Tryz.prog 180 [.d (.v (.int .u64 48))] (.v (.int .i64 6)) := by
 refine Con.intro (by kernel_rfl) rfl rfl 25 rfl rfl fun w0 K ac hK r => ?_
 exact toRet tk mo hK rfl [(10, [(2, .z (48)), (3, .n 48), (4, .z (6)), (5, .z (6))])] 2000 r (by kernel_rfl) (an ((by decide) : IntKind.u8.wrap (48) = 48) (an (rfl : (48 : Int) = ((48 : Nat) : Int)) (an ((by decide) : IntKind.i64.wrap (6) = 6) (an ((by decide) : IntKind.i64.wrap ((0 : Int) + 6) = 6) trivial))))
set_option maxRecDepth 100000 in
theorem bitsLen_48  : Con Tryz.prog 158 [.d (.v (.int .u64 48))] (.v (.int .i64 6)) := by
 refine Con.intro (by kernel_rfl) rfl rfl 8 rfl rfl fun w0 K ac hK r => ?_
 exact toRet tk mo hK rfl [(2, [(1, .con (.z 6))])] 2000 r (by kernel_rfl) (an (len64_48) trivial)
set_option maxRecDepth 100000 in
theorem len64_49  : Con Tryz.prog 180 [.d (.v (.int .u64 49))] (.v (.int .i64 6)) := by
 refine Con.intro (by kernel_rfl) rfl rfl 25 rfl rfl fun w0 K ac hK r => ?_
 exact toRet tk mo hK rfl [(10, [(2, .z (49)), (3, .n 49), (4, .z (6)), (5, .z (6))])] 2000 r (by kernel_rfl) (an ((by decide) : IntKind.u8.wrap (49) = 49) (an (rfl : (49 : Int) = ((49 : Nat) : Int)) (an ((by decide) : IntKind.i64.wrap (6) = 6) (an ((by decide) : IntKind.i64.wrap ((0 : Int) + 6) = 6) trivial))))
set_option maxRecDepth 100000 in
theorem bitsLen_49  : Con Tryz.prog 158 [.d (.v (.int .u64 49))] (.v (.int .i64 6)) := by
 refine Con.intro (by kernel_rfl) rfl rfl 8 rfl rfl fun w0 K ac hK r => ?_
 exact toRet tk mo hK rfl [(2, [(1, .con (.z 6))])] 2000 r (by kernel_rfl) (an (len64_49) trivial)
set_option maxRecDepth 100000 in
theorem len64_50  : Con Tryz.prog 180 [.d (.v (.int .u64 50))] (.v (.int .i64 6)) := by
 refine Con.intro (by kernel_rfl) rfl rfl 25 rfl rfl fun w0 K ac hK r => ?_
 exact toRet tk mo hK rfl [(10, [(2, .z (50)), (3, .n 50), (4, .z (6)), (5, .z (6))])] 2000 r (by kernel_rfl) (an ((by decide) : IntKind.u8.wrap (50) = 50) (an (rfl : (50 : Int) = ((50 : Nat) : Int)) (an ((by decide) : IntKind.i64.wrap (6) = 6) (an ((by decide) : IntKind.i64.wrap ((0 : Int) + 6) = 6) trivial))))
set_option maxRecDepth 100000 in
theorem bitsLen_50  : Con Tryz.prog 158 [.d (.v (.int .u64 50))] (.v (.int .i64 6)) := by
 refine Con.intro (by kernel_rfl) rfl rfl 8 rfl rfl fun w0 K ac hK r => ?_
 exact toRet tk mo hK rfl [(2, [(1, .con (.z 6))])] 2000 r (by kernel_rfl) (an (len64_50) trivial)
theorem bitsLen2 (n : Nat) (h : n ≤ 50) : Con Tryz.prog 158 [.d (.v (.int .u64 ((n : Nat) : Int)))] (.v (.int .i64 ((blen2 n : Nat) : Int))) :=
 match n, h with
 | 0, _ => bitsLen_0
 | 1, _ => bitsLen_1
 | 2, _ => bitsLen_2
 | 3, _ => bitsLen_3
 | 4, _ => bitsLen_4
 | 5, _ => bitsLen_5
 | 6, _ => bitsLen_6
 | 7, _ => bitsLen_7
 | 8, _ => bitsLen_8
 | 9, _ => bitsLen_9
 | 10, _ => bitsLen_10
 | 11, _ => bitsLen_11
 | 12, _ => bitsLen_12
 | 13, _ => bitsLen_13
 | 14, _ => bitsLen_14
 | 15, _ => bitsLen_15
 | 16, _ => bitsLen_16
 | 17, _ => bitsLen_17
 | 18, _ => bitsLen_18
 | 19, _ => bitsLen_19
 | 20, _ => bitsLen_20
 | 21, _ => bitsLen_21
 | 22, _ => bitsLen_22
 | 23, _ => bitsLen_23
 | 24, _ => bitsLen_24
 | 25, _ => bitsLen_25
 | 26, _ => bitsLen_26
 | 27, _ => bitsLen_27
 | 28, _ => bitsLen_28
 | 29, _ => bitsLen_29
 | 30, _ => bitsLen_30
 | 31, _ => bitsLen_31
 | 32, _ => bitsLen_32
 | 33, _ => bitsLen_33
 | 34, _ => bitsLen_34
 | 35, _ => bitsLen_35
 | 36, _ => bitsLen_36
 | 37, _ => bitsLen_37
 | 38, _ => bitsLen_38
 | 39, _ => bitsLen_39
 | 40, _ => bitsLen_40
 | 41, _ => bitsLen_41
 | 42, _ => bitsLen_42
 | 43, _ => bitsLen_43
 | 44, _ => bitsLen_44
 | 45, _ => bitsLen_45
 | 46, _ => bitsLen_46
 | 47, _ => bitsLen_47
 | 48, _ => bitsLen_48
 | 49, _ => bitsLen_49
 | 50, _ => bitsLen_50
 | n + 51, h => absurd h (by omega)
set_option maxRecDepth 100000 in
theorem order2S (l : List Proc) (a b : Nat) (hs : SS l) (hab : a < b) (hbl : b < l.length) : Con Tryz.prog 216 [.d (.ro 2 (procs l)), .n a, .n b, .rp [.z 0] 0, .fn 83 []] (.tu [.v (.int .i64 ((a : Nat) : Int)), .v (.int .i64 ((b : Nat) : Int))]) := by
 obtain ⟨e_l_a, ge_l_a⟩ : ∃ x, l[a]? = some x := ⟨_, List.getElem?_eq_getElem (by omega)⟩
 obtain ⟨e_l_b, ge_l_b⟩ : ∃ x, l[b]? = some x := ⟨_, List.getElem?_eq_getElem (by omega)⟩
 refine Con.intro (by kernel_rfl) rfl rfl 32 rfl rfl fun w0 K ac hK r => ?_
 have u0 := (procCompare _ _ : Con Tryz.prog 83 [.ag [.z e_l_b.node, .u e_l_b.inc], .ag [.z e_l_a.node, .u e_l_a.inc]] (.z (e_l_b.cmp e_l_a)))
 cases h0 : (decide ((e_l_b.cmp e_l_a : Int) < 0)) with
 | false =>
  have qh0 := of_decide_eq_false h0
  exact toRet tk mo hK rfl [(1, [(3, .ix (b) [.z e_l_b.node, .u e_l_b.inc]), (7, .ix (a) [.z e_l_a.node, .u e_l_a.inc]), (9, .con (.z (e_l_b.cmp e_l_a))), (10, .b false)])] 2000 r (by kernel_rfl) (an (rfI ((b : Nat) : Int)) (an (procs_at ge_l_b) (an (rfI ((a : Nat) : Int)) (an (procs_at ge_l_a) (an u0 (an h0 trivial))))))
 | true =>
  have qh0 := of_decide_eq_true h0
  exact absurd qh0 (hs.not hab ge_l_a ge_l_b)
set_option maxRecDepth 100000 in
theorem medianS (l : List Proc) (a b c : Nat) (hs : SS l) (hab : a < b) (hbc : b < c) (hcl : c < l.length) : Con Tryz.prog 215 [.d (.ro 2 (procs l)), .n a, .n b, .n c, .rp [.z 0] 0, .fn 83 []] (.v (.int .i64 ((b : Nat) : Int))) := by
 refine Con.intro (by kernel_rfl) rfl rfl 41 rfl rfl fun w0 K ac hK r => ?_
 exact toRet tk mo hK rfl [(1, [(5, .con (.tu [.n a, .n b]))]), (2, [(5, .con (.tu [.n b, .n c]))]), (3, [(5, .con (.tu [.n a, .n b]))])] 2000 r (by kernel_rfl) (an (order2S l a b hs (by omega) (by omega)) (an (order2S l b c hs (by omega) (by omega)) (an (order2S l a b hs (by omega) (by omega)) trivial)))
set_option maxRecDepth 100000 in
theorem medianAdjS (l : List Proc) (a : Nat) (hs : SS l) (h1 : 1 ≤ a) (hal : a + 1 < l.length) (hb : l.length ≤ 50) : Con Tryz.prog 214 [.d (.ro 2 (procs l)), .n a, .rp [.z 0] 0, .fn 83 []] (.v (.int .i64 ((a : Nat) : Int))) := by
 refine Con.intro (by kernel_rfl) rfl rfl 18 rfl rfl fun w0 K ac hK r => ?_
 exact toRet tk mo hK rfl [(1, [(2, .z (((a - 1 : Nat) : Int))), (5, .z (((a + 1 : Nat) : Int))), (8, .con (.n a))])] 2000 r (by kernel_rfl) (an ((wi (by omega)) : IntKind.i64.wrap (((a : Nat) : Int) - 1) = ((a - 1 : Nat) : Int)) (an (wiS a (by omega)) (an (medianS l (a - 1) a (a + 1) hs (by omega) (by omega) (by omega)) trivial)))
set_option maxRecDepth 100000 in
theorem pivotS (l : List Proc) (hs : SS l) (h0 : 12 < l.length) (hb : l.length ≤ 50) : Con Tryz.prog 207 [.d (.ro 2 (procs l)), .z 0, .n l.length, .fn 83 []] (.tu [.v (.int .i64 (((l.length / 4 * 2) : Nat) : Int)), .v (.int .i64 1)]) := by
 refine Con.intro (by kernel_rfl) rfl rfl 63 rfl rfl fun w0 K ac hK r => ?_
 have u0 := ((wi (by omega)) : IntKind.i64.wrap (((l.length : Nat) : Int) - 0) = ((l.length : Nat) : Int))
 have u1 := ((tdiv4 (by omega)) : IntKind.i64.wrap (((l.length : Nat) : Int).tdiv 4) = ((l.length / 4 : Nat) : Int))
 have u2 := ((mulk (k := 1) (by omega) (by omega)) : IntKind.i64.wrap (((l.length / 4 : Nat) : Int) * 1) = (((l.length / 4 * 1) : Nat) : Int))
 have u3 := ((wi (by omega)) : IntKind.i64.wrap ((0 : Int) + (((l.length / 4 * 1) : Nat) : Int)) = (((l.length / 4 * 1) : Nat) : Int))
 have u4 := ((mulk (k := 2) (by omega) (by omega)) : IntKind.i64.wrap (((l.length / 4 : Nat) : Int) * 2) = (((l.length / 4 * 2) : Nat) : Int))
 have u5 := ((wi (by omega)) : IntKind.i64.wrap ((0 : Int) + (((l.length / 4 * 2) : Nat) : Int)) = (((l.length / 4 * 2) : Nat) : Int))
 have u6 := ((mulk (k := 3) (by omega) (by omega)) : IntKind.i64.wrap (((l.length / 4 : Nat) : Int) * 3) = (((l.length / 4 * 3) : Nat) : Int))
 have u7 := ((wi (by omega)) : IntKind.i64.wrap ((0 : Int) + (((l.length / 4 * 3) : Nat) : Int)) = (((l.length / 4 * 3) : Nat) : Int))
 cases h0 : (decide ((8 : Int) ≤ ((l.length : Nat) : Int))) with
 | false =>
  have qh0 := of_decide_eq_false h0
  exact absurd qh0 (by omega)
 | true =>
  have qh0 := of_decide_eq_true h0
  cases h1 : (decide ((50 : Int) ≤ ((l.length : Nat) : Int))) with
  | false =>
   have qh1 := of_decide_eq_false h1
   exact toRet tk mo hK rfl [(1, [(2, .z (((l.length : Nat) : Int)))]), (3, [(2, .z (((l.length / 4 : Nat) : Int))), (3, .z ((((l.length / 4 * 1) : Nat) : Int))), (4, .z ((((l.length / 4 * 1) : Nat) : Int)))]), (4, [(2, .z (((l.length / 4 : Nat) : Int))), (3, .z ((((l.length / 4 * 2) : Nat) : Int))), (4, .z ((((l.length / 4 * 2) : Nat) : Int)))]), (5, [(2, .z (((l.length / 4 : Nat) : Int))), (3, .z ((((l.length / 4 * 3) : Nat) : Int))), (4, .z ((((l.length / 4 * 3) : Nat) : Int)))]), (6, [(1, .b true)]), (7, [(1, .b false)]), (11, [(5, .call [.d (.ro 2 (procs l)), .n ((l.length / 4 * 1)), .n ((l.length / 4 * 2)), .n ((l.length / 4 * 3)), .rp [.z 0] 0, .fn 83 []] (.n ((l.length / 4 * 2))))])] 2000 r (by kernel_rfl) (an u0 (an u1 (an ((by decide) : (4 : Int) ≠ 0) (an u2 (an u3 (an u1 (an ((by decide) : (4 : Int) ≠ 0) (an u4 (an u5 (an u1 (an ((by decide) : (4 : Int) ≠ 0) (an u6 (an u7 (an h0 (an h1 (an (medianS l (l.length / 4 * 1) (l.length / 4 * 2) (l.length / 4 * 3) hs (by omega) (by omega) (by omega)) (an ((ind_v _) : Ind (.n ((l.length / 4 * 2)))) (an (rfD (.ro 2 (procs l))) (an (rfD (.n ((l.length / 4 * 1)))) (an (rfD (.n ((l.length / 4 * 2)))) (an (rfD (.n ((l.length / 4 * 3)))) (an (rfN (0)) (an (rfl : [.z 0] = List.map AV.d [.z 0]) (an (rfF (83)) trivial))))))))))))))))))))))))
  | true =>
   have qh1 := of_decide_eq_true h1
   exact toRet tk mo hK rfl [(1, [(2, .z (((l.length : Nat) : Int)))]), (3, [(2, .z (((l.length / 4 : Nat) : Int))), (3, .z ((((l.length / 4 * 1) : Nat) : Int))), (4, .z ((((l.length / 4 * 1) : Nat) : Int)))]), (4, [(2, .z (((l.length / 4 : Nat) : Int))), (3, .z ((((l.length / 4 * 2) : Nat) : Int))), (4, .z ((((l.length / 4 * 2) : Nat) : Int)))]), (5, [(2, .z (((l.length / 4 : Nat) : Int))), (3, .z ((((l.length / 4 * 3) : Nat) : Int))), (4, .z ((((l.length / 4 * 3) : Nat) : Int)))]), (6, [(1, .b true)]), (7, [(1, .b true)]), (8, [(3, .call [.d (.ro 2 (procs l)), .n ((l.length / 4 * 1)), .rp [.z 0] 0, .fn 83 []] (.n ((l.length / 4 * 1))))]), (9, [(3, .call [.d (.ro 2 (procs l)), .n ((l.length / 4 * 2)), .rp [.z 0] 0, .fn 83 []] (.n ((l.length / 4 * 2))))]), (10, [(3, .call [.d (.ro 2 (procs l)), .n ((l.length / 4 * 3)), .rp [.z 0] 0, .fn 83 []] (.n ((l.length / 4 * 3))))]), (11, [(5, .call [.d (.ro 2 (procs l)), .n ((l.length / 4 * 1)), .n ((l.length / 4 * 2)), .n ((l.length / 4 * 3)), .rp [.z 0] 0, .fn 83 []] (.n ((l.length / 4 * 2))))])] 2000 r (by kernel_rfl) (an u0 (an u1 (an ((by decide) : (4 : Int) ≠ 0) (an u2 (an u3 (an u1 (an ((by decide) : (4 : Int) ≠ 0) (an u4 (an u5 (an u1 (an ((by decide) : (4 : Int) ≠ 0) (an u6 (an u7 (an h0 (an h1 (an (medianAdjS l (l.length / 4 * 1) hs (by omega) (by omega) hb) (an ((ind_v _) : Ind (.n ((l.length / 4 * 1)))) (an (rfD (.ro 2 (procs l))) (an (rfD (.n ((l.length / 4 * 1)))) (an (rfN (0)) (an (rfl : [.z 0] = List.map AV.d [.z 0]) (an (rfF (83)) (an (medianAdjS l (l.length / 4 * 2) hs (by omega) (by omega) hb) (an ((ind_v _) : Ind (.n ((l.length / 4 * 2)))) (an (rfD (.ro 2 (procs l))) (an (rfD (.n ((l.length / 4 * 2)))) (an (rfN (0)) (an (rfl : [.z 0] = List.map AV.d [.z 0]) (an (rfF (83)) (an (medianAdjS l (l.length / 4 * 3) hs (by omega) (by omega) hb) (an ((ind_v _) : Ind (.n ((l.length / 4 * 3)))) (an (rfD (.ro 2 (procs l))) (an (rfD (.n ((l.length / 4 * 3)))) (an (rfN (0)) (an (rfl : [.z 0] = List.map AV.d [.z 0]) (an (rfF (83)) (an (medianS l (l.length / 4 * 1) (l.length / 4 * 2) (l.length / 4 * 3) hs (by omega) (by omega) (by omega)) (an ((ind_v _) : Ind (.n ((l.length / 4 * 2)))) (an (rfD (.ro 2 (procs l))) (an (rfD (.n ((l.length / 4 * 1)))) (an (rfD (.n ((l.length / 4 * 2)))) (an (rfD (.n ((l.length / 4 * 3)))) (an (rfN (0)) (an (rfl : [.z 0] = List.map AV.d [.z 0]) (an (rfF (83)) trivial)))))))))))))))))))))))))))))))))))))))))))))
set_option maxRecDepth 100000 in
theorem partialS (l : List Proc) (hs : SS l) (h0 : 12 < l.length) (hb : l.length ≤ 50) : Con Tryz.prog 209 [.d (.ro 2 (procs l)), .z 0, .n l.length, .fn 83 []] (.v (.bool true)) := by
 refine Con.intro (by kernel_rfl) rfl rfl 141 rfl rfl fun w0 K ac hK r => ?_
 refine toHead (todo' := hd Tryz.f209 0) (E' := [(0, .d (.ro 2 (procs l))), (1, .z 0), (2, .n l.length), (3, .fn 83 []), (8, .d (.v (.bool false))), (9, .z 1), (10, .z 0)]) (M' := []) tk mo hK [(1, [(1, .z (1))])] 2000 [] [0, 1, 2, 3, 8, 9, 10] r (by kernel_rfl) (an ((wi (by omega)) : IntKind.i64.wrap ((0 : Int) + 1) = 1) trivial) fun ac wd r => ?_
 refine toHead (todo' := hd Tryz.f209 1) (E' := [(0, .d (.ro 2 (procs l))), (1, .z 0), (2, .n l.length), (3, .fn 83 []), (8, .d (.v (.bool false))), (9, .n (0 + 1)), (10, .z 0)]) (M' := []) tk mo hK [] 2000 [] [0, 1, 2, 3, 8, 9, 10] r (by kernel_rfl) trivial fun ac wd r => ?_
 refine Goes.rounds (Φ := fun (i : Nat) ac wd => (i + 1 ≤ l.length) ∧ RE' [] w0 K 141 [(0, .d (.ro 2 (procs l))), (1, .z 0), (2, .n l.length), (3, .fn 83 []), (8, .d (.v (.bool false))), (9, .n (i + 1)), (10, .z 0)] [] ac wd) (l.length) ?_ (Nat.zero_le _) ⟨(by omega), r⟩
 clear r
 rintro i hi1 again1 ac wd ⟨hv1, r⟩
 cases h0 : (decide (((i + 1 : Nat) : Int) < ((l.length : Nat) : Int))) with
 | false =>
  have qh0 := of_decide_eq_false h0
  cases h1 : (((i + 1 : Nat) : Int) == ((l.length : Nat) : Int)) with
  | false =>
   have qh1 := ne_of_beq_false h1
   exact absurd (show ((i + 1 : Nat) : Int) = ((l.length : Nat) : Int) by omega) qh1
  | true =>
   have qh1 := eq_of_beq h1
   exact toRet tk mo hK rfl [(5, [(2, .b false)]), (7, [(2, .b true)])] 2000 r (by kernel_rfl) (an h0 (an h1 trivial))
 | true =>
  have qh0 := of_decide_eq_true h0
  obtain ⟨e_l_i1, ge_l_i1⟩ : ∃ x, l[i + 1]? = some x := ⟨_, List.getElem?_eq_getElem (by omega)⟩
  obtain ⟨e_l_i11, ge_l_i11⟩ : ∃ x, l[i + 1 - 1]? = some x := ⟨_, List.getElem?_eq_getElem (by omega)⟩
  have u0 := ((wi (by omega)) : IntKind.i64.wrap (((i + 1 : Nat) : Int) - 1) = ((i + 1 - 1 : Nat) : Int))
  have u1 := (procCompare _ _ : Con Tryz.prog 83 [.ag [.z e_l_i1.node, .u e_l_i1.inc], .ag [.z e_l_i11.node, .u e_l_i11.inc]] (.z (e_l_i1.cmp e_l_i11)))
  cases h2 : (decide ((e_l_i1.cmp e_l_i11 : Int) < 0)) with
  | false =>
   have qh2 := of_decide_eq_false h2
   exact toHead (todo' := hd Tryz.f209 1) tk mo hK [(5, [(2, .b true), (7, .ix (i + 1) [.z e_l_i1.node, .u e_l_i1.inc]), (11, .z (((i + 1 - 1 : Nat) : Int))), (12, .ix (i + 1 - 1) [.z e_l_i11.node, .u e_l_i11.inc]), (14, .con (.z (e_l_i1.cmp e_l_i11))), (15, .b false)]), (6, [(1, .z (((i + 1 + 1 : Nat) : Int)))])] 2000 [] [0, 1, 2, 3, 8, 9, 10] r (by kernel_rfl) (an h0 (an (rfI ((i + 1 : Nat) : Int)) (an (procs_at ge_l_i1) (an u0 (an (rfI ((i + 1 - 1 : Nat) : Int)) (an (procs_at ge_l_i11) (an u1 (an h2 (an ((wi (by omega)) : IntKind.i64.wrap (((i + 1 : Nat) : Int) + 1) = ((i + 1 + 1 : Nat) : Int)) trivial))))))))) fun ac wd r => again1 (by omega) ac wd ⟨(by omega), r⟩
  | true =>
   have qh2 := of_decide_eq_true h2
   exact absurd qh2 (hs.not (by omega) ge_l_i11 ge_l_i1)
set_option maxRecDepth 100000 in
theorem insSortS (l : List Proc) (hs : SS l) (hb : l.length < 1073741824) : Con Tryz.prog 204 [.d (.ro 2 (procs l)), .z 0, .n l.length, .fn 83 []] (.tu []) := by
 refine Con.intro (by kernel_rfl) rfl rfl 53 rfl rfl fun w0 K ac hK r => ?_
 refine toHead (todo' := hd Tryz.f204 0) (E' := [(0, .d (.ro 2 (procs l))), (1, .z 0), (2, .n l.length), (3, .fn 83 []), (8, .n (0 + 1))]) (M' := []) tk mo hK [(0, [(1, .z (1))])] 2000 [] [0, 1, 2, 3, 8] r (by kernel_rfl) (an ((wi (by omega)) : IntKind.i64.wrap ((0 : Int) + 1) = 1) trivial) fun ac wd r => ?_
 refine Goes.rounds (Φ := fun (i : Nat) ac wd => (True) ∧ RE' [] w0 K 53 [(0, .d (.ro 2 (procs l))), (1, .z 0), (2, .n l.length), (3, .fn 83 []), (8, .n (i + 1))] [] ac wd) (l.length) ?_ (Nat.zero_le _) ⟨trivial, r⟩
 clear r
 rintro i hi0 again0 ac wd ⟨hv0, r⟩
 cases h0 : (decide (((i + 1 : Nat) : Int) < ((l.length : Nat) : Int))) with
 | false =>
  have qh0 := of_decide_eq_false h0
  exact toRet tk mo hK rfl [(1, [(2, .b false)])] 2000 r (by kernel_rfl) (an h0 trivial)
 | true =>
  have qh0 := of_decide_eq_true h0
  obtain ⟨e_l_i1, ge_l_i1⟩ : ∃ x, l[i + 1]? = some x := ⟨_, List.getElem?_eq_getElem (by omega)⟩
  obtain ⟨e_l_i11, ge_l_i11⟩ : ∃ x, l[i + 1 - 1]? = some x := ⟨_, List.getElem?_eq_getElem (by omega)⟩
  refine toHead (todo' := hd Tryz.f204 1) (E' := [(0, .d (.ro 2 (procs l))), (1, .z 0), (2, .n l.length), (3, .fn 83 []), (8, .n (i + 1)), (9, .n (i + 1))]) (M' := []) tk mo hK [(1, [(2, .b true)])] 2000 [] [0, 1, 2, 3, 8, 9] r (by kernel_rfl) (an h0 trivial) fun ac wd r => ?_
  cases h1 : (decide ((0 : Int) < ((i + 1 : Nat) : Int))) with
  | false =>
   have qh1 := of_decide_eq_false h1
   exact toHead (todo' := hd Tryz.f204 0) tk mo hK [(2, [(1, .z (((i + 1 + 1 : Nat) : Int)))]), (4, [(2, .b false)])] 2000 [] [0, 1, 2, 3, 8] r (by kernel_rfl) (an h1 (an ((wi (by omega)) : IntKind.i64.wrap (((i + 1 : Nat) : Int) + 1) = ((i + 1 + 1 : Nat) : Int)) trivial)) fun ac wd r => again0 (by omega) ac wd ⟨trivial, r⟩
  | true =>
   have qh1 := of_decide_eq_true h1
   have u0 := ((wi (by omega)) : IntKind.i64.wrap (((i + 1 : Nat) : Int) - 1) = ((i + 1 - 1 : Nat) : Int))
   have u1 := (procCompare _ _ : Con Tryz.prog 83 [.ag [.z e_l_i1.node, .u e_l_i1.inc], .ag [.z e_l_i11.node, .u e_l_i11.inc]] (.z (e_l_i1.cmp e_l_i11)))
   cases h2 : (decide ((e_l_i1.cmp e_l_i11 : Int) < 0)) with
   | false =>
    have qh2 := of_decide_eq_false h2
    exact toHead (todo' := hd Tryz.f204 0) tk mo hK [(2, [(1, .z (((i + 1 + 1 : Nat) : Int)))]), (4, [(2, .b true), (7, .ix (i + 1) [.z e_l_i1.node, .u e_l_i1.inc]), (11, .z (((i + 1 - 1 : Nat) : Int))), (12, .ix (i + 1 - 1) [.z e_l_i11.node, .u e_l_i11.inc]), (14, .con (.z (e_l_i1.cmp e_l_i11))), (15, .b false)])] 2000 [] [0, 1, 2, 3, 8] r (by kernel_rfl) (an h1 (an (rfI ((i + 1 : Nat) : Int)) (an (procs_at ge_l_i1) (an u0 (an (rfI ((i + 1 - 1 : Nat) : Int)) (an (procs_at ge_l_i11) (an u1 (an h2 (an ((wi (by omega)) : IntKind.i64.wrap (((i + 1 : Nat) : Int) + 1) = ((i + 1 + 1 : Nat) : Int)) trivial))))))))) fun ac wd r => again0 (by omega) ac wd ⟨trivial, r⟩
   | true =>
    have qh2 := of_decide_eq_true h2
    exact absurd qh2 (hs.not (by omega) ge_l_i11 ge_l_i1)
end Go.Proofs.YtilhbhpldkjkaaaGreat
namespace Go.Proofs.YtilhbhpldkjkaaaGreat
open Go.RowKit
theorem ss_nodup {l : List Proc} (h : SS l) : l.Nodup := h.nodup
theorem blen2_pos {n : Nat} (h : 1 ≤ n) : 1 ≤ blen2 n := by unfold blen2; split; omega; split; omega; split; omega; split; omega; split; omega; split <;> omega
set_option maxRecDepth 100000 in
theorem pdqS (l : List Proc) (k : Nat) (hs : SS l) (hb : l.length ≤ 50) (hk : 12 < l.length → 1 ≤ k) : Con Tryz.prog 198 [.d (.ro 2 (procs l)), .z 0, .n l.length, .n k, .fn 83 []] (.tu []) := by
 refine Con.intro (by kernel_rfl) rfl rfl 148 rfl rfl fun w0 K ac hK r => ?_
 refine toHead (todo' := hd Tryz.f198 0) (E' := [(0, .d (.ro 2 (procs l))), (1, .z 0), (2, .n l.length), (3, .n k), (4, .fn 83 []), (10, .d (.v (.bool true))), (11, .d (.v (.bool true)))]) (M' := []) tk mo hK [] 2000 [] [0, 1, 2, 3, 4, 10, 11] r (by kernel_rfl) trivial fun ac wd r => ?_
 have u0 := ((wi (by omega)) : IntKind.i64.wrap (((l.length : Nat) : Int) - 0) = ((l.length : Nat) : Int))
 cases h0 : (decide (((l.length : Nat) : Int) ≤ 12)) with
 | false =>
  have qh0 := of_decide_eq_false h0
  cases h1 : (((k : Nat) : Int) == 0) with
  | false =>
   have qh1 := ne_of_beq_false h1
   exact toRet tk mo hK rfl [(2, [(2, .z (((l.length : Nat) : Int)))]), (3, [(1, .b false)]), (5, [(1, .b false)]), (10, [(4, .con (.tu [.n ((l.length / 4 * 2)), .z 1]))]), (16, [(4, .con (.v (.bool true)))])] 2000 r (by kernel_rfl) (an u0 (an h0 (an h1 (an (pivotS l hs (by omega) hb) (an (partialS l hs (by omega) hb) trivial)))))
  | true =>
   have qh1 := eq_of_beq h1
   exact absurd qh1 (by have := hk (by omega); omega)
 | true =>
  have qh0 := of_decide_eq_true h0
  exact toRet tk mo hK rfl [(2, [(2, .z (((l.length : Nat) : Int)))]), (3, [(1, .b true)]), (4, [(4, .con (.tu []))])] 2000 r (by kernel_rfl) (an u0 (an h0 (an (insSortS l hs (by omega)) trivial)))
set_option maxRecDepth 100000 in
theorem sortS (l : List Proc) (hs : SS l) (hb : l.length ≤ 50) : Con Tryz.prog 181 [.d (.ro 2 (procs l)), .fn 83 []] (.tu []) := by
 refine Con.intro (by kernel_rfl) rfl rfl 14 rfl rfl fun w0 K ac hK r => ?_
 exact toRet tk mo hK rfl [(0, [(1, .z (((l.length : Nat) : Int)))]), (1, [(3, .z (((l.length : Nat) : Int))), (4, .con (.n (blen2 l.length))), (6, .con (.tu []))])] 2000 r (by kernel_rfl) (an ((by first | rfl | simp [bytesR]) : (((procs l).length : Nat) : Int) = ((l.length : Nat) : Int)) (an ((wu (by omega)) : IntKind.u64.wrap (((l.length : Nat) : Int)) = ((l.length : Nat) : Int)) (an (bitsLen2 l.length (by omega)) (an (pdqS l (blen2 l.length) hs hb (fun h => blen2_pos (by omega)) : Con Tryz.prog 198 [.d (.ro 2 (procs l)), .z 0, .n l.length, .n (blen2 l.length), .fn 83 []] (.tu [])) trivial))))
theorem ind_tu0 : Ind (.tu []) := by
 intro K K' y H h
 cases h with | tu ys F hl hr => exact .tu ys F hl (by simp)
set_option maxRecDepth 100000 in
theorem sortedS (l : List Proc) (hs : SS l) (hb : l.length ≤ 50) : Con Tryz.prog 160 [.d (.ro 2 (procs l))] (.ro 2 (procs l)) := by
 refine Con.intro (by kernel_rfl) rfl rfl 11 rfl rfl fun w0 K ac hK r => ?_
 exact toRet tk mo hK rfl [(1, [(1, .con (.em 38 2 (procs l)))]), (2, [(1, .call [.d (.ro 2 (procs l)), .fn 83 []] (.tu []))]), (3, [(1, .mem [0] (.sl 0 (l.length)) [.rw 38 2 (procs l)]), (2, .into 200 [(1, [(5, .res (.ro 2 (procs l)))])])])] 2000 r (by kernel_rfl) (an (cloneProcs l (by omega)) (an (sortS l hs hb) (an (ind_tu0 : Ind (.tu [])) (an (rfN (2)) (an (rfN ((procs l).length)) (an ((froz_procs l) : frozR (procs l) = procs l) (an (rfF (83)) (an (compactI' l ((procs l).length) (by simp) (ss_nodup hs) (by omega)) (an (rfI ((l.length : Nat) : Int)) (an (rfI ((l.length : Nat) : Int)) (an ((by first | rfl | (simp; done) | (simp <;> omega)) : (l.length) = (procs l).length) (an (rfN (2)) (an ((froz_procs l) : frozR (procs l) = procs l) trivial)))))))))))))
def bsN (l : List Proc) (p : Proc) : Nat := (l.takeWhile fun q => q.lt p).length
theorem bsN_le (l : List Proc) (p : Proc) : bsN l p ≤ l.length := (List.takeWhile_prefix _).length_le
theorem bs_low {l : List Proc} (hs : SS l) {p q : Proc} {i : Nat} (hi : l[i]? = some q) (hq : q.lt p = true) : i + 1 ≤ bsN l p := by
 unfold bsN
 induction l generalizing i with
 | nil => simp at hi
 | cons x r ih =>
  cases i with
  | zero => simp at hi; subst hi; rw [List.takeWhile_cons, if_pos hq]; simp
  | succ i =>
   have hx : x.lt p = true := lt_trans (hs.lt (i := 0) (j := i + 1) (by omega) rfl hi) hq
   rw [List.takeWhile_cons, if_pos hx, List.length_cons]
   have := ih (List.Pairwise.of_cons hs) (i := i) (by simpa using hi)
   omega
theorem bs_high {l : List Proc} {p q : Proc} {i : Nat} (hi : l[i]? = some q) (hq : q.lt p = false) : bsN l p ≤ i := by
 unfold bsN
 induction l generalizing i with
 | nil => simp at hi
 | cons x r ih =>
  cases i with
  | zero => simp at hi; subst hi; rw [List.takeWhile_cons, if_neg (by rw [hq]; decide)]; simp
  | succ i =>
   rw [List.takeWhile_cons]
   split
   ·rw [List.length_cons]; have := ih (i := i) (by simpa using hi); omega
   ·simp
theorem bs_at {l : List Proc} (hs : SS l) {p q : Proc} {i : Nat} (h : i = bsN l p) (hi : l[i]? = some q) : (q.cmp p = 0) ↔ p ∈ l := by
 have h1 : q.lt p = false := by
  cases hc : q.lt p with
  | false => rfl
  | true => have := bs_low hs hi hc; omega
 constructor
 ·intro hc
  have h2 : p.lt q = false := by
   cases hd : p.lt q with
   | false => rfl
   | true =>
    have a1 := cmp_lt (p := q) (q := p); rw [h1] at a1; simp at a1
    have a2 := cmp_neg.2 hd
    unfold Proc.cmp cmpI at hc a2
    unfold Proc.lt at hd
    simp only [decide_eq_true_eq] at hd
    (repeat' split at hc) <;> omega
  have := lt_total h1 h2
  subst this; exact List.mem_of_getElem? hi
 ·intro hm
  obtain ⟨j, hj, e⟩ := List.getElem_of_mem hm
  have hj' : l[j]? = some p := by rw [List.getElem?_eq_getElem hj, e]
  have : i = j := by
   rcases Nat.lt_trichotomy i j with hlt | heq | hgt
   ·have := hs.lt hlt hi hj'; rw [h1] at this; cases this
   ·exact heq
   ·have h3 := bs_high hj' (lt_irrefl p); omega
  subst this
  rw [hj'] at hi; cases hi
  unfold Proc.cmp cmpI; simp
theorem bs_none {l : List Proc} {p : Proc} (h : l.length ≤ bsN l p) : p ∉ l := fun hm => by
 obtain ⟨j, hj, e⟩ := List.getElem_of_mem hm
 have := bs_high (l := l) (p := p) (i := j) (List.getElem?_eq_getElem hj) (by rw [e]; exact lt_irrefl p)
 omega
theorem half {i j : Nat} : (((i + j : Nat) : Int)).fdiv (2 ^ (min (1 : Int).toNat IntKind.u64.bits)) = (((i + j) / 2 : Nat) : Int) := by
 have : (2 : Int) ^ (min (1 : Int).toNat IntKind.u64.bits) = 2 := by decide
 rw [this, Int.fdiv_eq_ediv_of_nonneg _ (by decide)]; omega
set_option maxRecDepth 100000 in
theorem bsearch (l : List Proc) (p : Proc) (hs : SS l) (hb : l.length ≤ 50) : Con Tryz.prog 161 [.d (.ro 2 (procs l)), .ag [.z p.node, .u p.inc], .fn 83 []] (.tu [.v (.int .i64 ((bsN l p : Nat) : Int)), .v (.bool (decide (p ∈ l)))]) := by
 refine Con.intro (by kernel_rfl) rfl rfl 49 rfl rfl fun w0 K ac hK r => ?_
 refine toHead (todo' := hd Tryz.f161 0) (E' := [(0, .d (.ro 2 (procs l))), (2, .fn 83 []), (4, .pt 0 0), (8, .n l.length), (9, .n 0), (10, .n l.length)]) (M' := [.bx 38 [.z p.node, .u p.inc]]) tk mo hK [(1, [(1, .z (((l.length : Nat) : Int)))])] 2000 [0] [0, 2, 4, 8, 9, 10] r (by kernel_rfl) (an ((by first | rfl | simp [bytesR]) : (((procs l).length : Nat) : Int) = ((l.length : Nat) : Int)) trivial) fun ac wd r => ?_
 refine Goes.rounds (Φ := fun (t : Nat) ac wd => ∃ i : Nat, ∃ j : Nat, (i ≤ j ∧ j ≤ l.length ∧ i ≤ bsN l p ∧ bsN l p ≤ j ∧ j + t ≤ l.length + i) ∧ RE' [] w0 K 49 [(0, .d (.ro 2 (procs l))), (2, .fn 83 []), (4, .pt 0 0), (8, .n l.length), (9, .n i), (10, .n j)] [.bx 38 [.z p.node, .u p.inc]] ac wd) (l.length) ?_ (Nat.zero_le _) ⟨0, l.length, ⟨Nat.zero_le _, Nat.le_refl _, Nat.zero_le _, bsN_le l p, by omega⟩, r⟩
 clear r
 rintro t hi0 again0 ac wd ⟨i, j, hv0, r⟩
 cases h0 : (decide (((i : Nat) : Int) < ((j : Nat) : Int))) with
 | false =>
  have qh0 := of_decide_eq_false h0
  cases h1 : (decide (((i : Nat) : Int) < ((l.length : Nat) : Int))) with
  | false =>
   have qh1 := of_decide_eq_false h1
   rw [show (.tu [.v (.int .i64 ((bsN l p : Nat) : Int)), .v (.bool (decide (p ∈ l)))] : DV) = .tu [.n i, .v (.bool false)] from (by first | (rw [show bsN l p = i by omega, decide_eq_false (bs_none (by omega))]) | (rw [show bsN l p = i by omega, decide_eq_true ((bs_at hs (by omega) ge_l_i).1 (eq_of_beq (by assumption)))]) | (rw [show bsN l p = i by omega, decide_eq_false (fun hm => absurd ((bs_at hs (by omega) ge_l_i).2 hm) (ne_of_beq_false (by assumption)))]))]
   exact toRet tk mo hK rfl [(3, [(2, .b false)]), (8, [(3, .b false)])] 2000 r (by kernel_rfl) (an h0 (an h1 trivial))
  | true =>
   have qh1 := of_decide_eq_true h1
   obtain ⟨e_l_i, ge_l_i⟩ : ∃ x, l[i]? = some x := ⟨_, List.getElem?_eq_getElem (by omega)⟩
   have u0 := (procCompare _ _ : Con Tryz.prog 83 [.ag [.z e_l_i.node, .u e_l_i.inc], .ag [.z p.node, .u p.inc]] (.z (e_l_i.cmp p)))
   cases h2 : ((e_l_i.cmp p : Int) == 0) with
   | false =>
    have qh2 := ne_of_beq_false h2
    rw [show (.tu [.v (.int .i64 ((bsN l p : Nat) : Int)), .v (.bool (decide (p ∈ l)))] : DV) = .tu [.n i, .v (.bool false)] from (by first | (rw [show bsN l p = i by omega, decide_eq_false (bs_none (by omega))]) | (rw [show bsN l p = i by omega, decide_eq_true ((bs_at hs (by omega) ge_l_i).1 (eq_of_beq (by assumption)))]) | (rw [show bsN l p = i by omega, decide_eq_false (fun hm => absurd ((bs_at hs (by omega) ge_l_i).2 hm) (ne_of_beq_false (by assumption)))]))]
    exact toRet tk mo hK rfl [(3, [(2, .b false)]), (8, [(3, .b true), (8, .ix (i) [.z e_l_i.node, .u e_l_i.inc]), (11, .con (.z (e_l_i.cmp p))), (12, .b false)])] 2000 r (by kernel_rfl) (an h0 (an h1 (an (rfI ((i : Nat) : Int)) (an (procs_at ge_l_i) (an u0 (an h2 trivial))))))
   | true =>
    have qh2 := eq_of_beq h2
    rw [show (.tu [.v (.int .i64 ((bsN l p : Nat) : Int)), .v (.bool (decide (p ∈ l)))] : DV) = .tu [.n i, .v (.bool true)] from (by first | (rw [show bsN l p = i by omega, decide_eq_false (bs_none (by omega))]) | (rw [show bsN l p = i by omega, decide_eq_true ((bs_at hs (by omega) ge_l_i).1 (eq_of_beq (by assumption)))]) | (rw [show bsN l p = i by omega, decide_eq_false (fun hm => absurd ((bs_at hs (by omega) ge_l_i).2 hm) (ne_of_beq_false (by assumption)))]))]
    exact toRet tk mo hK rfl [(3, [(2, .b false)]), (8, [(3, .b true), (8, .ix (i) [.z e_l_i.node, .u e_l_i.inc]), (11, .con (.z (e_l_i.cmp p))), (12, .b true)])] 2000 r (by kernel_rfl) (an h0 (an h1 (an (rfI ((i : Nat) : Int)) (an (procs_at ge_l_i) (an u0 (an h2 trivial))))))
 | true =>
  have qh0 := of_decide_eq_true h0
  obtain ⟨e_l_ij2, ge_l_ij2⟩ : ∃ x, l[((i + j) / 2)]? = some x := ⟨_, List.getElem?_eq_getElem (by omega)⟩
  have u1 := ((wi (by omega)) : IntKind.i64.wrap (((i : Nat) : Int) + ((j : Nat) : Int)) = ((i + j : Nat) : Int))
  have u2 := ((by first | exact wu (by omega) | exact wi (by omega)) : IntKind.u64.wrap (((i + j : Nat) : Int)) = ((i + j : Nat) : Int))
  have u3 := (half : ((i + j : Nat) : Int).fdiv (2 ^ (min (1 : Int).toNat IntKind.u64.bits)) = ((((i + j) / 2) : Nat) : Int))
  have u4 := ((by first | exact wu (by omega) | exact wi (by omega)) : IntKind.i64.wrap (((((i + j) / 2) : Nat) : Int)) = ((((i + j) / 2) : Nat) : Int))
  have u5 := (procCompare _ _ : Con Tryz.prog 83 [.ag [.z e_l_ij2.node, .u e_l_ij2.inc], .ag [.z p.node, .u p.inc]] (.z (e_l_ij2.cmp p)))
  cases h3 : (decide ((e_l_ij2.cmp p : Int) < 0)) with
  | false =>
   have qh3 := of_decide_eq_false h3
   exact toHead (todo' := hd Tryz.f161 0) tk mo hK [(3, [(2, .b true)]), (4, [(2, .z (((i + j : Nat) : Int))), (3, .z (((i + j : Nat) : Int))), (4, .z (((((i + j) / 2) : Nat) : Int))), (5, .z (((((i + j) / 2) : Nat) : Int)))]), (5, [(3, .ix (((i + j) / 2)) [.z e_l_ij2.node, .u e_l_ij2.inc]), (6, .con (.z (e_l_ij2.cmp p))), (7, .b false)])] 2000 [0] [0, 2, 4, 8, 9, 10] r (by kernel_rfl) (an h0 (an u1 (an u2 (an u3 (an ((by first | decide | omega) : (0 : Int) ≤ 1) (an u4 (an (rfI ((((i + j) / 2) : Nat) : Int)) (an (procs_at ge_l_ij2) (an u5 (an h3 trivial)))))))))) fun ac wd r => again0 (by omega) ac wd ⟨i, ((i + j) / 2), ⟨by omega, by omega, by first | omega | exact bs_low hs ge_l_ij2 (cmp_neg.1 (by assumption)), by first | omega | exact bs_high ge_l_ij2 (by cases hq : e_l_ij2.lt p; rfl; exact absurd (cmp_neg.2 hq) (by assumption)), by omega⟩, r⟩
  | true =>
   have qh3 := of_decide_eq_true h3
   exact toHead (todo' := hd Tryz.f161 0) tk mo hK [(3, [(2, .b true)]), (4, [(2, .z (((i + j : Nat) : Int))), (3, .z (((i + j : Nat) : Int))), (4, .z (((((i + j) / 2) : Nat) : Int))), (5, .z (((((i + j) / 2) : Nat) : Int)))]), (5, [(3, .ix (((i + j) / 2)) [.z e_l_ij2.node, .u e_l_ij2.inc]), (6, .con (.z (e_l_ij2.cmp p))), (7, .b true)]), (6, [(1, .z (((((i + j) / 2) + 1 : Nat) : Int)))])] 2000 [0] [0, 2, 4, 8, 9, 10] r (by kernel_rfl) (an h0 (an u1 (an u2 (an u3 (an ((by first | decide | omega) : (0 : Int) ≤ 1) (an u4 (an (rfI ((((i + j) / 2) : Nat) : Int)) (an (procs_at ge_l_ij2) (an u5 (an h3 (an ((wi (by omega)) : IntKind.i64.wrap ((((((i + j) / 2) : Nat) : Int) : Int) + 1) = ((((i + j) / 2) + 1 : Nat) : Int)) trivial))))))))))) fun ac wd r => again0 (by omega) ac wd ⟨((i + j) / 2) + 1, j, ⟨by omega, by omega, by first | omega | exact bs_low hs ge_l_ij2 (cmp_neg.1 (by assumption)), by first | omega | exact bs_high ge_l_ij2 (by cases hq : e_l_ij2.lt p; rfl; exact absurd (cmp_neg.2 hq) (by assumption)), by omega⟩, r⟩
end Go.Proofs.YtilhbhpldkjkaaaGreat
namespace Go.Proofs.YtilhbhpldkjkaaaGreat
open Go.RowKit
def chsTo (a b : List Proc) (c : Bool) (i : Nat) : List Proc := (a.take i).filter fun p => decide (p ∈ b) == c
def chs (a b : List Proc) (c : Bool) : List Proc := a.filter fun p => decide (p ∈ b) == c
theorem chsTo_all {a b : List Proc} {c : Bool} {i : Nat} (h : a.length ≤ i) : chsTo a b c i = chs a b c := by unfold chsTo chs; rw [List.take_of_length_le h]
theorem chsTo_yes {a b : List Proc} {c : Bool} {i : Nat} {q : Proc} (h : a[i]? = some q) (hq : decide (q ∈ b) = c) : chsTo a b c (i + 1) = chsTo a b c i ++ [q] := by
 obtain ⟨hi, rfl⟩ := List.getElem?_eq_some_iff.1 h
 unfold chsTo; rw [List.take_succ_eq_append_getElem hi, List.filter_append, List.filter_cons, if_pos (by rw [hq]; exact beq_self_eq_true c)]; rfl
theorem chsTo_no {a b : List Proc} {c : Bool} {i : Nat} {q : Proc} (h : a[i]? = some q) (hq : decide (q ∈ b) = !c) : chsTo a b c (i + 1) = chsTo a b c i := by
 obtain ⟨hi, rfl⟩ := List.getElem?_eq_some_iff.1 h
 unfold chsTo; rw [List.take_succ_eq_append_getElem hi, List.filter_append, List.filter_cons, if_neg (by rw [hq]; cases c <;> decide), List.filter_nil, List.append_nil]
theorem chsTo_len (a b : List Proc) (c : Bool) (i : Nat) : (chsTo a b c i).length ≤ a.length := Nat.le_trans (List.length_filter_le _ _) (by rw [List.length_take]; omega)
theorem chs_ss {a b : List Proc} {c : Bool} (h : SS a) : SS (chs a b c) := List.Pairwise.filter _ h
theorem chs_len (a b : List Proc) (c : Bool) : (chs a b c).length ≤ a.length := List.length_filter_le _ _
theorem procs_one (l : List Proc) (q : Proc) : procs l ++ [[.v (.int .i64 q.node), .v (.int .u64 (q.inc : Int))]] = procs (l ++ [q]) := by simp [procs, Proc.row]
theorem one_procsL (l : List Proc) : OneR (procs l) := by
 simp only [OneR, procs, List.all_eq_true, List.mem_map]
 rintro r ⟨p, -, rfl⟩ c hc
 simp only [Proc.row, List.mem_cons, List.not_mem_nil, or_false] at hc
 rcases hc with rfl | rfl <;> rfl
theorem chsTo_procs {a b : List Proc} {c : Bool} {i : Nat} {q : Proc} (h : a[i]? = some q) (hq : decide (q ∈ b) = c) : procs (chsTo a b c i) ++ [[.v (.int .i64 q.node), .v (.int .u64 (q.inc : Int))]] = procs (chsTo a b c (i + 1)) := by rw [chsTo_yes h hq, procs_one]
theorem chsTo_more {a b : List Proc} {c : Bool} {i : Nat} {q : Proc} (h : a[i]? = some q) (hq : decide (q ∈ b) = c) : (chsTo a b c i).length + 1 = (chsTo a b c (i + 1)).length := by rw [chsTo_yes h hq, List.length_append]; rfl
set_option maxRecDepth 100000 in
theorem chosen_true (a b : List Proc) (ha : SS a) (hb : SS b) (hla : a.length ≤ 50) (hlb : b.length ≤ 50) : Con Tryz.prog 130 [.d (.ro 2 (procs a)), .d (.ro 2 (procs b)), .d (.v (.bool true))] (.em 38 2 (procs (chs a b true))) := by
 refine Con.intro (by kernel_rfl) rfl rfl 37 rfl rfl fun w0 K ac hK r => ?_
 refine toHead (todo' := hd Tryz.f130 0) (E' := [(2, .d (.v (.bool true))), (7, .d (.ro 2 (procs b))), (8, .d (.v (.slice none 0 0))), (16, .d (.ro 2 (procs a))), (17, .n a.length), (18, .z 0)]) (M' := []) tk mo hK [(1, [(1, .con (.ro 2 (procs b)))]), (3, [(1, .con (.ro 2 (procs a))), (2, .z (((a.length : Nat) : Int)))])] 2000 [] [2, 7, 8, 16, 17, 18] r (by kernel_rfl) (an (sortedS b hb hlb) (an (sortedS a ha hla) (an ((by first | rfl | simp [bytesR]) : (((procs a).length : Nat) : Int) = ((a.length : Nat) : Int)) trivial))) fun ac wd r => ?_
 refine Goes.rounds (Φ := fun (i : Nat) ac wd => (i ≤ a.length) ∧ RE' [] w0 K 37 [(2, .d (.v (.bool true))), (7, .d (.ro 2 (procs b))), (8, .sl 0 ((chsTo a b true i).length)), (16, .d (.ro 2 (procs a))), (17, .n a.length), (18, .n i)] [.rw 38 2 (procs (chsTo a b true i))] ac wd) (a.length) ?_ (Nat.zero_le _) ⟨(Nat.zero_le _), (r.adopt (M1 := [.rw 38 2 []]) [(8, 38, 2)] [] (by kernel_rfl) (by kernel_rfl)).cast rfl rfl⟩
 clear r
 rintro i hi0 again0 ac wd ⟨hv0, r⟩
 cases h0 : (decide (((i : Nat) : Int) < ((a.length : Nat) : Int))) with
 | false =>
  have qh0 := of_decide_eq_false h0
  rw [show (.em 38 2 (procs (chs a b true)) : DV) = .em 38 2 (procs (chsTo a b true i)) from (by rw [chsTo_all (by omega)])]
  exact toRet tk mo hK rfl [(4, [(0, .b false)])] 2000 r (by kernel_rfl) (an h0 (an ((by first | rfl | (simp; done) | (simp <;> omega)) : ((chsTo a b true i).length) = (procs (chsTo a b true i)).length) trivial))
 | true =>
  have qh0 := of_decide_eq_true h0
  obtain ⟨e_a_i, ge_a_i⟩ : ∃ x, a[i]? = some x := ⟨_, List.getElem?_eq_getElem (by omega)⟩
  cases h1 : (decide (e_a_i ∈ b)) with
  | false =>
   have qh1 := of_decide_eq_false h1
   exact toHead (todo' := hd Tryz.f130 0) (E' := [(2, .d (.v (.bool true))), (7, .d (.ro 2 (procs b))), (8, .sl 0 ((chsTo a b true i).length)), (16, .d (.ro 2 (procs a))), (17, .n a.length), (18, .n (i + 1))]) (M' := [.rw 38 2 (procs (chsTo a b true i))]) tk mo hK [(4, [(0, .b true)]), (5, [(0, .ix (i) [.z e_a_i.node, .u e_a_i.inc])]), (6, [(2, .con (.tu [.n (bsN b e_a_i), .v (.bool false)]))]), (9, [(0, .z (((i + 1 : Nat) : Int)))])] 2000 [0] [2, 7, 8, 16, 17, 18] r (by kernel_rfl) (an h0 (an (rfI ((i : Nat) : Int)) (an (procs_at ge_a_i) (an ((by have k := bsearch b e_a_i hb hlb; rw [h1] at k; exact k) : Con Tryz.prog 161 [.d (.ro 2 (procs b)), .ag [.z e_a_i.node, .u e_a_i.inc], .fn 83 []] (.tu [.n (bsN b e_a_i), .v (.bool false)])) (an (wiS i (by omega)) trivial))))) fun ac wd r => again0 (by omega) ac wd ⟨(by omega), r.cast (by rw [chsTo_no ge_a_i (by assumption)]) (by rw [chsTo_no ge_a_i (by assumption)])⟩
  | true =>
   have qh1 := of_decide_eq_true h1
   exact toHead (todo' := hd Tryz.f130 0) (E' := [(2, .d (.v (.bool true))), (7, .d (.ro 2 (procs b))), (8, .sl 0 ((chsTo a b true i).length + (1))), (16, .d (.ro 2 (procs a))), (17, .n a.length), (18, .n (i + 1))]) (M' := [.rw 38 2 (procs (chsTo a b true i) ++ [[.z e_a_i.node, .u e_a_i.inc]])]) tk mo hK [(4, [(0, .b true)]), (5, [(0, .ix (i) [.z e_a_i.node, .u e_a_i.inc])]), (6, [(2, .con (.tu [.n (bsN b e_a_i), .v (.bool true)]))]), (9, [(0, .z (((i + 1 : Nat) : Int)))])] 2000 [0] [2, 7, 8, 16, 17, 18] r (by kernel_rfl) (an h0 (an (rfI ((i : Nat) : Int)) (an (procs_at ge_a_i) (an ((by have k := bsearch b e_a_i hb hlb; rw [h1] at k; exact k) : Con Tryz.prog 161 [.d (.ro 2 (procs b)), .ag [.z e_a_i.node, .u e_a_i.inc], .fn 83 []] (.tu [.n (bsN b e_a_i), .v (.bool true)])) (an ((by first | rfl | (simp; done) | (simp <;> omega)) : ((chsTo a b true i).length) = (procs (chsTo a b true i)).length) (an ((by first | rfl | (simp; done) | (simp <;> omega)) : (1) = ([[.z e_a_i.node, .u e_a_i.inc]] : List (List DV)).length) (an ((by have := chsTo_len a b true i; first | omega | (simp; omega)) : (2 * (((chsTo a b true i).length) + (1)) + 192) * 16 ≤ 281474976710656) (an ((by have := chsTo_len a b true i; first | omega | (simp; omega)) : ((chsTo a b true i).length) + (1) < 4611686018427387904) (an ((by simp [OneR, AV.one, oneC, bytesR]) : OneR ([[.z e_a_i.node, .u e_a_i.inc]])) (an (wiS i (by omega)) trivial)))))))))) fun ac wd r => again0 (by omega) ac wd ⟨(by omega), r.cast (by rw [chsTo_more ge_a_i (by assumption)]) (by rw [chsTo_procs ge_a_i (by assumption)])⟩
set_option maxRecDepth 100000 in
theorem chosen_false (a b : List Proc) (ha : SS a) (hb : SS b) (hla : a.length ≤ 50) (hlb : b.length ≤ 50) : Con Tryz.prog 130 [.d (.ro 2 (procs a)), .d (.ro 2 (procs b)), .d (.v (.bool false))] (.em 38 2 (procs (chs a b false))) := by
 refine Con.intro (by kernel_rfl) rfl rfl 37 rfl rfl fun w0 K ac hK r => ?_
 refine toHead (todo' := hd Tryz.f130 0) (E' := [(2, .d (.v (.bool false))), (7, .d (.ro 2 (procs b))), (8, .d (.v (.slice none 0 0))), (16, .d (.ro 2 (procs a))), (17, .n a.length), (18, .z 0)]) (M' := []) tk mo hK [(1, [(1, .con (.ro 2 (procs b)))]), (3, [(1, .con (.ro 2 (procs a))), (2, .z (((a.length : Nat) : Int)))])] 2000 [] [2, 7, 8, 16, 17, 18] r (by kernel_rfl) (an (sortedS b hb hlb) (an (sortedS a ha hla) (an ((by first | rfl | simp [bytesR]) : (((procs a).length : Nat) : Int) = ((a.length : Nat) : Int)) trivial))) fun ac wd r => ?_
 refine Goes.rounds (Φ := fun (i : Nat) ac wd => (i ≤ a.length) ∧ RE' [] w0 K 37 [(2, .d (.v (.bool false))), (7, .d (.ro 2 (procs b))), (8, .sl 0 ((chsTo a b false i).length)), (16, .d (.ro 2 (procs a))), (17, .n a.length), (18, .n i)] [.rw 38 2 (procs (chsTo a b false i))] ac wd) (a.length) ?_ (Nat.zero_le _) ⟨(Nat.zero_le _), (r.adopt (M1 := [.rw 38 2 []]) [(8, 38, 2)] [] (by kernel_rfl) (by kernel_rfl)).cast rfl rfl⟩
 clear r
 rintro i hi0 again0 ac wd ⟨hv0, r⟩
 cases h0 : (decide (((i : Nat) : Int) < ((a.length : Nat) : Int))) with
 | false =>
  have qh0 := of_decide_eq_false h0
  rw [show (.em 38 2 (procs (chs a b false)) : DV) = .em 38 2 (procs (chsTo a b false i)) from (by rw [chsTo_all (by omega)])]
  exact toRet tk mo hK rfl [(4, [(0, .b false)])] 2000 r (by kernel_rfl) (an h0 (an ((by first | rfl | (simp; done) | (simp <;> omega)) : ((chsTo a b false i).length) = (procs (chsTo a b false i)).length) trivial))
 | true =>
  have qh0 := of_decide_eq_true h0
  obtain ⟨e_a_i, ge_a_i⟩ : ∃ x, a[i]? = some x := ⟨_, List.getElem?_eq_getElem (by omega)⟩
  cases h1 : (decide (e_a_i ∈ b)) with
  | false =>
   have qh1 := of_decide_eq_false h1
   exact toHead (todo' := hd Tryz.f130 0) (E' := [(2, .d (.v (.bool false))), (7, .d (.ro 2 (procs b))), (8, .sl 0 ((chsTo a b false i).length + (1))), (16, .d (.ro 2 (procs a))), (17, .n a.length), (18, .n (i + 1))]) (M' := [.rw 38 2 (procs (chsTo a b false i) ++ [[.z e_a_i.node, .u e_a_i.inc]])]) tk mo hK [(4, [(0, .b true)]), (5, [(0, .ix (i) [.z e_a_i.node, .u e_a_i.inc])]), (6, [(2, .con (.tu [.n (bsN b e_a_i), .v (.bool false)]))]), (9, [(0, .z (((i + 1 : Nat) : Int)))])] 2000 [0] [2, 7, 8, 16, 17, 18] r (by kernel_rfl) (an h0 (an (rfI ((i : Nat) : Int)) (an (procs_at ge_a_i) (an ((by have k := bsearch b e_a_i hb hlb; rw [h1] at k; exact k) : Con Tryz.prog 161 [.d (.ro 2 (procs b)), .ag [.z e_a_i.node, .u e_a_i.inc], .fn 83 []] (.tu [.n (bsN b e_a_i), .v (.bool false)])) (an ((by first | rfl | (simp; done) | (simp <;> omega)) : ((chsTo a b false i).length) = (procs (chsTo a b false i)).length) (an ((by first | rfl | (simp; done) | (simp <;> omega)) : (1) = ([[.z e_a_i.node, .u e_a_i.inc]] : List (List DV)).length) (an ((by have := chsTo_len a b false i; first | omega | (simp; omega)) : (2 * (((chsTo a b false i).length) + (1)) + 192) * 16 ≤ 281474976710656) (an ((by have := chsTo_len a b false i; first | omega | (simp; omega)) : ((chsTo a b false i).length) + (1) < 4611686018427387904) (an ((by simp [OneR, AV.one, oneC, bytesR]) : OneR ([[.z e_a_i.node, .u e_a_i.inc]])) (an (wiS i (by omega)) trivial)))))))))) fun ac wd r => again0 (by omega) ac wd ⟨(by omega), r.cast (by rw [chsTo_more ge_a_i (by assumption)]) (by rw [chsTo_procs ge_a_i (by assumption)])⟩
  | true =>
   have qh1 := of_decide_eq_true h1
   exact toHead (todo' := hd Tryz.f130 0) (E' := [(2, .d (.v (.bool false))), (7, .d (.ro 2 (procs b))), (8, .sl 0 ((chsTo a b false i).length)), (16, .d (.ro 2 (procs a))), (17, .n a.length), (18, .n (i + 1))]) (M' := [.rw 38 2 (procs (chsTo a b false i))]) tk mo hK [(4, [(0, .b true)]), (5, [(0, .ix (i) [.z e_a_i.node, .u e_a_i.inc])]), (6, [(2, .con (.tu [.n (bsN b e_a_i), .v (.bool true)]))]), (9, [(0, .z (((i + 1 : Nat) : Int)))])] 2000 [0] [2, 7, 8, 16, 17, 18] r (by kernel_rfl) (an h0 (an (rfI ((i : Nat) : Int)) (an (procs_at ge_a_i) (an ((by have k := bsearch b e_a_i hb hlb; rw [h1] at k; exact k) : Con Tryz.prog 161 [.d (.ro 2 (procs b)), .ag [.z e_a_i.node, .u e_a_i.inc], .fn 83 []] (.tu [.n (bsN b e_a_i), .v (.bool true)])) (an (wiS i (by omega)) trivial))))) fun ac wd r => again0 (by omega) ac wd ⟨(by omega), r.cast (by rw [chsTo_no ge_a_i (by assumption)]) (by rw [chsTo_no ge_a_i (by assumption)])⟩
set_option maxRecDepth 100000 in
theorem procMeet (a b : List Proc) (ha : SS a) (hb : SS b) (hla : a.length ≤ 50) (hlb : b.length ≤ 50) : Con Tryz.prog 131 [.d (.ro 2 (procs a)), .d (.ro 2 (procs b))] (.em 38 2 (procs (chs a b true))) := by
 refine Con.intro (by kernel_rfl) rfl rfl 8 rfl rfl fun w0 K ac hK r => ?_
 exact toRet tk mo hK rfl [(1, [(2, .con (.em 38 2 (procs (chs a b true))))])] 2000 r (by kernel_rfl) (an (chosen_true a b ha hb hla hlb) (an (rfN ((procs (chs a b true)).length)) trivial))
set_option maxRecDepth 100000 in
theorem procMinus (a b : List Proc) (ha : SS a) (hb : SS b) (hla : a.length ≤ 50) (hlb : b.length ≤ 50) : Con Tryz.prog 89 [.d (.ro 2 (procs a)), .d (.ro 2 (procs b))] (.em 38 2 (procs (chs a b false))) := by
 refine Con.intro (by kernel_rfl) rfl rfl 8 rfl rfl fun w0 K ac hK r => ?_
 exact toRet tk mo hK rfl [(1, [(2, .con (.em 38 2 (procs (chs a b false))))])] 2000 r (by kernel_rfl) (an (chosen_false a b ha hb hla hlb) (an (rfN ((procs (chs a b false)).length)) trivial))
abbrev common (v u : View) : List Proc := chs v.members u.members true
def Vid.cmp (v u : Vid) : Int := if cmpI v.round u.round ≠ 0 then cmpI v.round u.round else v.server.cmp u.server
set_option maxRecDepth 100000 in
theorem viewCommon (v u : View) (ha : SS v.members) (hb : SS u.members) (hla : v.members.length ≤ 50) (hlb : u.members.length ≤ 50) : Con Tryz.prog 90 [.ag (v.avs []), .ag (u.avs [])] (.em 38 2 (procs (common v u))) := by
 refine Con.intro (by kernel_rfl) rfl rfl 10 rfl rfl fun w0 K ac hK r => ?_
 exact toRet tk mo hK rfl [(1, [(4, .con (.em 38 2 (procs (common v u))))])] 2000 r (by kernel_rfl) (an (procMeet v.members u.members ha hb hla hlb) (an (rfN ((procs (common v u)).length)) trivial))
set_option maxRecDepth 100000 in
theorem viewCompare (v u : Vid) : Con Tryz.prog 43 [.ag [.u v.round, .z v.server.node, .u v.server.inc], .ag [.u u.round, .z u.server.node, .u u.server.inc]] (.v (.int .i64 (v.cmp u))) := by
 refine Con.intro (by kernel_rfl) rfl rfl 19 rfl rfl fun w0 K ac hK r => ?_
 have u0 := (cmpUint _ _ : Con Tryz.prog 82 [.u v.round, .u u.round] (.z (cmpI (((v.round : Nat) : Int)) (((u.round : Nat) : Int)))))
 cases h0 : ((cmpI (((v.round : Nat) : Int)) (((u.round : Nat) : Int)) : Int) != 0) with
 | false =>
  have qh0 := eq_of_bne h0
  rw [show (.v (.int .i64 (v.cmp u)) : DV) = .z (v.server.cmp u.server) from (by simp [Vid.cmp, *])]
  exact toRet tk mo hK rfl [(1, [(4, .con (.z (cmpI (((v.round : Nat) : Int)) (((u.round : Nat) : Int)))))]), (2, [(1, .b false)]), (4, [(4, .con (.z (v.server.cmp u.server)))])] 2000 r (by kernel_rfl) (an u0 (an h0 (an (procCompare _ _ : Con Tryz.prog 83 [.ag [.z v.server.node, .u v.server.inc], .ag [.z u.server.node, .u u.server.inc]] (.z (v.server.cmp u.server))) trivial)))
 | true =>
  have qh0 : ¬ _ = _ := bne_iff_ne.1 h0
  rw [show (.v (.int .i64 (v.cmp u)) : DV) = .z (cmpI (((v.round : Nat) : Int)) (((u.round : Nat) : Int))) from (by simp [Vid.cmp, *])]
  exact toRet tk mo hK rfl [(1, [(4, .con (.z (cmpI (((v.round : Nat) : Int)) (((u.round : Nat) : Int)))))]), (2, [(1, .b true)])] 2000 r (by kernel_rfl) (an u0 (an h0 trivial))
set_option maxRecDepth 100000 in
theorem bytesEqual (x y : List UInt8) : Con Tryz.prog 40 [.d (.ro 1 (bytesR x)), .d (.ro 1 (bytesR y))] (.v (.bool (decide (x = y)))) := by
 refine Con.intro (by kernel_rfl) rfl rfl 10 rfl rfl fun w0 K ac hK r => ?_
 cases h0 : (x == y) with
 | false =>
  have qh0 : x ≠ y := by simpa using h0
  rw [show (.v (.bool (decide (x = y))) : DV) = .v (.bool false) from (by rw [decide_eq_false qh0])]
  exact toRet tk mo hK rfl [(1, [(1, .res (.v (.string ⟨(x).toArray⟩))), (3, .res (.v (.string ⟨(y).toArray⟩))), (4, .b false)])] 2000 r (by kernel_rfl) (an (rfl : bytesR x = bytesR (x)) (an (rfl : bytesR y = bytesR (y)) (an h0 trivial)))
 | true =>
  have qh0 : x = y := by simpa using h0
  rw [show (.v (.bool (decide (x = y))) : DV) = .v (.bool true) from (by rw [decide_eq_true qh0])]
  exact toRet tk mo hK rfl [(1, [(1, .res (.v (.string ⟨(x).toArray⟩))), (3, .res (.v (.string ⟨(y).toArray⟩))), (4, .b true)])] 2000 r (by kernel_rfl) (an (rfl : bytesR x = bytesR (x)) (an (rfl : bytesR y = bytesR (y)) (an h0 trivial)))
theorem nums_eq {a b : List Nat} {i : Nat} (hi : a.length ≤ i) (h : ∀ j x, j < i → a[j]? = some x → b[j]? = some x) (hl : a.length = b.length) : a = b := by
 apply List.ext_getElem?; intro j
 rcases Nat.lt_or_ge j a.length with hj | hj
 ·have e := List.getElem?_eq_getElem hj
  rw [e, h j _ (by omega) e]
 ·rw [List.getElem?_eq_none hj, List.getElem?_eq_none (by omega)]
theorem nums_ne {a b : List Nat} {i x y : Nat} (ha : a[i]? = some x) (hb : b[i]? = some y) (h : (x : Int) ≠ y) : a ≠ b := fun e => by subst e; rw [ha] at hb; cases hb; exact h rfl
theorem nums_short {a b : List Nat} {i x : Nat} (ha : a[i]? = some x) (hb : b.length ≤ i) : a ≠ b := fun e => by subst e; have := (List.getElem?_eq_some_iff.1 ha).1; omega
set_option maxRecDepth 100000 in
theorem specEqual (a b : List Nat) (hl : a.length < 1073741824) : Con Tryz.prog 45 [.d (.ro 1 (nums a)), .d (.ro 1 (nums b))] (.v (.bool (decide (a = b)))) := by
 refine Con.intro (by kernel_rfl) rfl rfl 32 rfl rfl fun w0 K ac hK r => ?_
 refine toHead (todo' := hd Tryz.f45 0) (E' := [(0, .d (.ro 1 (nums a))), (1, .d (.ro 1 (nums b))), (7, .d (.ro 1 (nums a))), (8, .n a.length), (9, .n 0)]) (M' := []) tk mo hK [(1, [(1, .z (((a.length : Nat) : Int)))])] 2000 [] [0, 1, 7, 8, 9] r (by kernel_rfl) (an ((by first | rfl | simp [bytesR]) : (((nums a).length : Nat) : Int) = ((a.length : Nat) : Int)) trivial) fun ac wd r => ?_
 refine Goes.rounds (Φ := fun (i : Nat) ac wd => (∀ j x, j < i → a[j]? = some x → b[j]? = some x) ∧ RE' [] w0 K 32 [(0, .d (.ro 1 (nums a))), (1, .d (.ro 1 (nums b))), (7, .d (.ro 1 (nums a))), (8, .n a.length), (9, .n i)] [] ac wd) (a.length) ?_ (Nat.zero_le _) ⟨(fun j x h => absurd h (Nat.not_lt_zero _)), r⟩
 clear r
 rintro i hi0 again0 ac wd ⟨hv0, r⟩
 cases h0 : (decide (((i : Nat) : Int) < ((a.length : Nat) : Int))) with
 | false =>
  have qh0 := of_decide_eq_false h0
  have u0 := ((by first | rfl | simp [bytesR]) : (((nums a).length : Nat) : Int) = ((a.length : Nat) : Int))
  have u1 := ((by first | rfl | simp [bytesR]) : (((nums b).length : Nat) : Int) = ((b.length : Nat) : Int))
  cases h1 : (((a.length : Nat) : Int) == ((b.length : Nat) : Int)) with
  | false =>
   have qh1 := ne_of_beq_false h1
   rw [show (.v (.bool (decide (a = b))) : DV) = .v (.bool false) from (by first | rw [decide_eq_true (nums_eq (by omega) hv0 (by omega))] | rw [decide_eq_false (fun e => by subst e; omega)] | rw [decide_eq_false (nums_ne ge_a_i ge_b_i (by omega))] | rw [decide_eq_false (nums_short ge_a_i (by omega))])]
   exact toRet tk mo hK rfl [(2, [(0, .b false)]), (7, [(1, .z (((a.length : Nat) : Int))), (3, .z (((b.length : Nat) : Int))), (4, .b false)])] 2000 r (by kernel_rfl) (an h0 (an u0 (an u1 (an h1 trivial))))
  | true =>
   have qh1 := eq_of_beq h1
   rw [show (.v (.bool (decide (a = b))) : DV) = .v (.bool true) from (by first | rw [decide_eq_true (nums_eq (by omega) hv0 (by omega))] | rw [decide_eq_false (fun e => by subst e; omega)] | rw [decide_eq_false (nums_ne ge_a_i ge_b_i (by omega))] | rw [decide_eq_false (nums_short ge_a_i (by omega))])]
   exact toRet tk mo hK rfl [(2, [(0, .b false)]), (7, [(1, .z (((a.length : Nat) : Int))), (3, .z (((b.length : Nat) : Int))), (4, .b true)])] 2000 r (by kernel_rfl) (an h0 (an u0 (an u1 (an h1 trivial))))
 | true =>
  have qh0 := of_decide_eq_true h0
  obtain ⟨e_a_i, ge_a_i⟩ : ∃ x, a[i]? = some x := ⟨_, List.getElem?_eq_getElem (by omega)⟩
  have u2 := ((by first | rfl | simp [bytesR]) : (((nums b).length : Nat) : Int) = ((b.length : Nat) : Int))
  cases h2 : (decide (((b.length : Nat) : Int) ≤ ((i : Nat) : Int))) with
  | false =>
   have qh2 := of_decide_eq_false h2
   obtain ⟨e_b_i, ge_b_i⟩ : ∃ x, b[i]? = some x := ⟨_, List.getElem?_eq_getElem (by omega)⟩
   cases h3 : (((e_a_i : Nat) : Int) != ((e_b_i : Nat) : Int)) with
   | false =>
    have qh3 := eq_of_bne h3
    exact toHead (todo' := hd Tryz.f45 0) tk mo hK [(2, [(0, .b true)]), (3, [(1, .ix (i) [.u e_a_i])]), (4, [(2, .z (((b.length : Nat) : Int))), (3, .b false), (8, .ix (i) [.u e_b_i]), (10, .b false)]), (6, [(0, .z (((i + 1 : Nat) : Int)))])] 2000 [] [0, 1, 7, 8, 9] r (by kernel_rfl) (an h0 (an (rfI ((i : Nat) : Int)) (an (nums_at ge_a_i) (an u2 (an h2 (an (rfI ((i : Nat) : Int)) (an (nums_at ge_b_i) (an h3 (an (wiS i (by omega)) trivial))))))))) fun ac wd r => again0 (by omega) ac wd ⟨(fun j x hj hx => by rcases Nat.lt_succ_iff_lt_or_eq.1 hj with h | rfl; exact hv0 j x h hx; rw [ge_a_i] at hx; cases hx; rw [ge_b_i]; congr 1; omega), r⟩
   | true =>
    have qh3 : ¬ _ = _ := bne_iff_ne.1 h3
    rw [show (.v (.bool (decide (a = b))) : DV) = .v (.bool false) from (by first | rw [decide_eq_true (nums_eq (by omega) hv0 (by omega))] | rw [decide_eq_false (fun e => by subst e; omega)] | rw [decide_eq_false (nums_ne ge_a_i ge_b_i (by omega))] | rw [decide_eq_false (nums_short ge_a_i (by omega))])]
    exact toRet tk mo hK rfl [(2, [(0, .b true)]), (3, [(1, .ix (i) [.u e_a_i])]), (4, [(2, .z (((b.length : Nat) : Int))), (3, .b false), (8, .ix (i) [.u e_b_i]), (10, .b true)])] 2000 r (by kernel_rfl) (an h0 (an (rfI ((i : Nat) : Int)) (an (nums_at ge_a_i) (an u2 (an h2 (an (rfI ((i : Nat) : Int)) (an (nums_at ge_b_i) (an h3 trivial))))))))
  | true =>
   have qh2 := of_decide_eq_true h2
   rw [show (.v (.bool (decide (a = b))) : DV) = .v (.bool false) from (by first | rw [decide_eq_true (nums_eq (by omega) hv0 (by omega))] | rw [decide_eq_false (fun e => by subst e; omega)] | rw [decide_eq_false (nums_ne ge_a_i ge_b_i (by omega))] | rw [decide_eq_false (nums_short ge_a_i (by omega))])]
   exact toRet tk mo hK rfl [(2, [(0, .b true)]), (3, [(1, .ix (i) [.u e_a_i])]), (4, [(2, .z (((b.length : Nat) : Int))), (3, .b true)])] 2000 r (by kernel_rfl) (an h0 (an (rfI ((i : Nat) : Int)) (an (nums_at ge_a_i) (an u2 (an h2 trivial)))))
end Go.Proofs.YtilhbhpldkjkaaaGreat
namespace Go.Proofs.YtilhbhpldkjkaaaGreat
open Go.RowKit
theorem ind_procsL (T : Nat) (l : List Proc) : Ind (.em T 2 (procs l)) := by
 intro K K' y H h
 cases h with
 | em X F hl hs hr =>
  refine .em X F hl hs fun i r j c x h1 h2 h3 => ?_
  have := hr i r j c x h1 h2 h3
  rw [List.getElem?_map, Option.map_eq_some_iff] at h1
  obtain ⟨p, -, rfl⟩ := h1
  unfold Proc.row at h2
  match j with
  | 0 => simp at h2; subst h2; exact (ind_v _) _ _ _ _ this
  | 1 => simp at h2; subst h2; exact (ind_v _) _ _ _ _ this
  | j + 2 => simp at h2
theorem View.may_ss {v : View} (h : v.may = true) : SS v.members ∧ v.members.length ≤ 6 := by
 unfold View.may at h
 split at h
 ·simp only [Bool.and_eq_true, decide_eq_true_eq] at h
  rw [h.2]
  exact ⟨List.pairwise_singleton _ _, by simp [View.first]⟩
 ·simp only [Bool.and_eq_true, decide_eq_true_eq] at h
  exact ⟨set_ss h.1.1.2, h.1.1.1.1.2⟩
theorem View.may_starts {v : View} (h : v.may = true) : v.starts.length ≤ 6 := by
 unfold View.may at h
 split at h
 ·simp only [Bool.and_eq_true, decide_eq_true_eq] at h
  rw [h.2]; simp [View.first]
 ·simp only [Bool.and_eq_true, decide_eq_true_eq] at h
  omega
theorem View.may_bounded {v : View} (h : v.may = true) : v.bounded := ⟨by have := (View.may_ss h).2; omega, by have := View.may_starts h; omega⟩
structure Ev.Ok (e : Ev) : Prop where
 who : e.who.okP
 frm : e.frm.okP
 n : e.n ≤ 18446744073709551615
 vid : e.view.id.okV
 body : e.body.length ≤ 1000
 members : e.view.members.length ≤ 50
 starts : e.view.starts.length ≤ 50
 transit : e.transit.length ≤ 50
def mayT (v : View) (e : Ev) : Bool := isSet e.transit && decide (e.who ∈ e.transit) && decide ((chs e.transit (common v e.view) false).length = 0)
theorem mayT_end {v : View} {e : Ev} {b : Bool} (h1 : isSet e.transit = true) (h2 : decide (e.who ∈ e.transit) = true) (h3 : ((((chs e.transit (common v e.view) false).length : Nat) : Int) == 0) = b) : mayT v e = b := by
 unfold mayT; rw [h1, h2, ← h3, Bool.true_and, Bool.true_and, Bool.eq_iff_iff, decide_eq_true_eq, beq_iff_eq]; omega
def okO (v : View) (e : Ev) (o : Comer) : Bool := (!(decide (o.who ∈ v.members)) || (decide (o.who ∈ e.transit) == decide (o.frm.id = v.id))) && (!(decide (e.who ∈ o.frm.members)) || (decide (e.who ∈ o.transit) == decide (o.frm.id = v.id)))
def agreesB (c : Come) (v : View) (e : Ev) : Bool := c.came.all (okO v e)
structure Comer.Ok (o : Comer) : Prop where
 members : o.frm.members.length ≤ 1000
 transit : o.transit.length ≤ 1000
theorem agrees_yes {c : Come} {v : View} {e : Ev} {i : Nat} (hi : c.came.length ≤ i) (h : ∀ j o, j < i → c.came[j]? = some o → okO v e o = true) : agreesB c v e = true := by
 unfold agreesB; rw [List.all_eq_true]; intro o ho
 obtain ⟨j, hj, rfl⟩ := List.getElem_of_mem ho
 exact h j _ (by omega) (List.getElem?_eq_getElem hj)
theorem agrees_no {c : Come} {v : View} {e : Ev} {i : Nat} {o : Comer} (ho : c.came[i]? = some o) (h : okO v e o = false) : agreesB c v e = false := by
 unfold agreesB
 cases ha : c.came.all (okO v e) with
 | false => rfl
 | true => rw [List.all_eq_true] at ha; rw [ha o (List.mem_of_getElem? ho)] at h; cases h
set_option maxRecDepth 100000 in
theorem mayTransitOk (v : View) (e : Ev) (ho : e.Ok) (hv : SS v.members) (hvl : v.members.length ≤ 6) (hw : SS e.view.members) : Con Tryz.prog 46 [.ag (v.avs []), .ag e.av] (.v (.bool (mayT v e))) := by
 have hk := ho.transit
 refine Con.intro (by kernel_rfl) rfl rfl 26 rfl rfl fun w0 K ac hK r => ?_
 cases h0 : (isSet e.transit) with
 | false =>
  rw [show (.v (.bool (mayT v e)) : DV) = .v (.bool false) from (by first | rw [mayT_end (by assumption) (by assumption) (by assumption)] | simp [mayT, *])]
  exact toRet tk mo hK rfl [(1, [(2, .con (.v (.bool false)))])] 2000 r (by kernel_rfl) (an ((by have k := procSet e.transit (by omega); rw [h0] at k; exact k) : Con Tryz.prog 78 [.d (.ro 2 (procs e.transit))] (.v (.bool false))) trivial)
 | true =>
  have u0 := ((by have k := procSet e.transit (by omega); rw [h0] at k; exact k) : Con Tryz.prog 78 [.d (.ro 2 (procs e.transit))] (.v (.bool true)))
  cases h1 : (decide (e.who ∈ e.transit)) with
  | false =>
   have qh1 := of_decide_eq_false h1
   rw [show (.v (.bool (mayT v e)) : DV) = .v (.bool false) from (by first | rw [mayT_end (by assumption) (by assumption) (by assumption)] | simp [mayT, *])]
   exact toRet tk mo hK rfl [(1, [(2, .con (.v (.bool true))), (9, .con (.v (.bool false)))])] 2000 r (by kernel_rfl) (an u0 (an ((by have k := procHas e.transit e.who (by first | omega | (have := hk; have := ho; omega)); rw [h1] at k; exact k) : Con Tryz.prog 42 [.d (.ro 2 (procs e.transit)), .ag [.z e.who.node, .u e.who.inc]] (.v (.bool false))) trivial))
  | true =>
   have qh1 := of_decide_eq_true h1
   have u1 := ((by have k := procHas e.transit e.who (by first | omega | (have := hk; have := ho; omega)); rw [h1] at k; exact k) : Con Tryz.prog 42 [.d (.ro 2 (procs e.transit)), .ag [.z e.who.node, .u e.who.inc]] (.v (.bool true)))
   have u2 := (procMinus e.transit (common v e.view) (set_ss (by assumption)) (chs_ss hv) (by have := ho.transit; omega) (by have := chs_len v.members e.view.members true; unfold common; omega))
   have u3 := ((by first | exact ind_v _ | exact ind_procsL _ _) : Ind (.em 38 2 (procs (chs e.transit (common v e.view) false))))
   have u4 := ((froz_procs _) : frozR (procs (common v e.view)) = procs (common v e.view))
   have u5 := ((by first | rfl | simp [bytesR]) : (((procs (chs e.transit (common v e.view) false)).length : Nat) : Int) = (((chs e.transit (common v e.view) false).length : Nat) : Int))
   cases h2 : (((((chs e.transit (common v e.view) false).length : Nat) : Int) : Int) == 0) with
   | false =>
    have qh2 := ne_of_beq_false h2
    rw [show (.v (.bool (mayT v e)) : DV) = .v (.bool false) from (by first | rw [mayT_end (by assumption) (by assumption) (by assumption)] | simp [mayT, *])]
    exact toRet tk mo hK rfl [(1, [(2, .con (.v (.bool true))), (9, .con (.v (.bool true)))]), (3, [(5, .con (.em 38 2 (procs (common v e.view)))), (6, .call [.d (.ro 2 (procs e.transit)), .d (.ro 2 (procs (common v e.view)))] (.em 38 2 (procs (chs e.transit (common v e.view) false)))), (7, .z ((((chs e.transit (common v e.view) false).length : Nat) : Int))), (8, .b false)])] 2000 r (by kernel_rfl) (an u0 (an u1 (an (viewCommon v e.view hv hw (by omega) (by have := ho.members; omega)) (an u2 (an u3 (an (rfD (.ro 2 (procs e.transit))) (an (rfN (2)) (an (rfN ((procs (common v e.view)).length)) (an u4 (an u5 (an h2 trivial)))))))))))
   | true =>
    have qh2 := eq_of_beq h2
    rw [show (.v (.bool (mayT v e)) : DV) = .v (.bool true) from (by first | rw [mayT_end (by assumption) (by assumption) (by assumption)] | simp [mayT, *])]
    exact toRet tk mo hK rfl [(1, [(2, .con (.v (.bool true))), (9, .con (.v (.bool true)))]), (3, [(5, .con (.em 38 2 (procs (common v e.view)))), (6, .call [.d (.ro 2 (procs e.transit)), .d (.ro 2 (procs (common v e.view)))] (.em 38 2 (procs (chs e.transit (common v e.view) false)))), (7, .z ((((chs e.transit (common v e.view) false).length : Nat) : Int))), (8, .b true)])] 2000 r (by kernel_rfl) (an u0 (an u1 (an (viewCommon v e.view hv hw (by omega) (by have := ho.members; omega)) (an u2 (an u3 (an (rfD (.ro 2 (procs e.transit))) (an (rfN (2)) (an (rfN ((procs (common v e.view)).length)) (an u4 (an u5 (an h2 trivial)))))))))))
set_option maxRecDepth 100000 in
theorem agreesOk (c : Come) (v : View) (e : Ev) (ho : e.Ok) (hvl : v.members.length ≤ 6) (hc : ∀ o ∈ c.came, o.Ok) (hl : c.came.length ≤ 1000000) : ConM Tryz.prog 47 [.pt 0 0, .ag (v.avs []), .ag e.av] [.bx 122 (c.view.avs [.sl 1 ((comers c.came).length)]), .rw 129 8 (comers c.came)] (.d (.v (.bool (agreesB c v e)))) ([.bx 122 (c.view.avs [.sl 1 ((comers c.came).length)]), .rw 129 8 (comers c.came)]) := by
 refine ConM.intro (by kernel_rfl) rfl rfl 55 rfl rfl fun D w0 K bs ac wd hK (hbm : bs.m = 2) r => ?_
 refine toHeadM (todo' := hd Tryz.f47 0) (E' := [(0, .pt 0 0), (4, .pt 2 0), (5, .pt 3 0), (6, .d (.v (.bool false))), (13, .sl 1 ((comers c.came).length)), (14, .n c.came.length), (15, .n 0)]) (M' := [.bx 122 (c.view.avs [.sl 1 ((comers c.came).length)]), .rw 129 8 (comers c.came), .bx 44 (v.avs []), .bx 46 e.av]) tk mo hK hbm [(1, [(4, .z (((c.came.length : Nat) : Int)))])] 2000 [0, 1, 2, 3] [0, 4, 5, 6, 13, 14, 15] r (by kernel_rfl) (an ((by first | rfl | simp [bytesR]) : (((comers c.came).length : Nat) : Int) = ((c.came.length : Nat) : Int)) trivial) fun ac wd r => ?_
 refine Goes.rounds (Φ := fun (i : Nat) ac wd => (∀ j o, j < i → c.came[j]? = some o → okO v e o = true) ∧ RB D w0 K 55 bs [(0, .pt 0 0), (4, .pt 2 0), (5, .pt 3 0), (6, .d (.v (.bool false))), (13, .sl 1 ((comers c.came).length)), (14, .n c.came.length), (15, .n i)] [.bx 122 (c.view.avs [.sl 1 ((comers c.came).length)]), .rw 129 8 (comers c.came), .bx 44 (v.avs []), .bx 46 e.av] ac wd) (c.came.length) ?_ (Nat.zero_le _) ⟨(fun j o h => absurd h (Nat.not_lt_zero _)), r⟩
 clear r
 rintro i hi0 again0 ac wd ⟨hv0, r⟩
 cases h0 : (decide (((i : Nat) : Int) < ((c.came.length : Nat) : Int))) with
 | false =>
  have qh0 := of_decide_eq_false h0
  refine castM (y := .d (.v (.bool true))) (N' := [.bx 122 (c.view.avs [.sl 1 ((comers c.came).length)]), .rw 129 8 (comers c.came)]) ((by first | rw [agrees_yes (by omega) hv0] | rw [agrees_no ge_c_came_i (by unfold okO; simp [*])])) (rfl) ?_
  exact toRetM tk mo hK rfl hbm [(2, [(0, .b false)])] 2000 [0, 1] r (by kernel_rfl) (an h0 trivial)
 | true =>
  have qh0 := of_decide_eq_true h0
  obtain ⟨e_c_came_i, ge_c_came_i⟩ : ∃ x, c.came[i]? = some x := ⟨_, List.getElem?_eq_getElem (by omega)⟩
  have hk := (hc _ (List.mem_of_getElem? ge_c_came_i)).members
  have hk2 := (hc _ (List.mem_of_getElem? ge_c_came_i)).transit
  have u0 := ((by first | omega | decide | (simp; done) | (simp; omega)) : (i) < ((comers c.came).length))
  have u1 := ((by first | rfl | (simp; done) | (simp <;> omega)) : ((comers c.came).length) ≤ (comers c.came : List (List DV)).length)
  cases h1 : (decide (e_c_came_i.frm.id = v.id)) with
  | false =>
   have qh1 := of_decide_eq_false h1
   have u2 := ((eqT (eqVid _ _) h1) : EqAgg Tryz.prog 40 [(.int .u64 (((e_c_came_i.frm.id.round : Nat) : Int))), (.int .i64 (e_c_came_i.frm.id.server.node)), (.int .u64 (((e_c_came_i.frm.id.server.inc : Nat) : Int)))] [(.int .u64 (((v.id.round : Nat) : Int))), (.int .i64 (v.id.server.node)), (.int .u64 (((v.id.server.inc : Nat) : Int)))] false)
   cases h2 : (decide (e_c_came_i.who ∈ v.members)) with
   | false =>
    have qh2 := of_decide_eq_false h2
    have u3 := ((by have k := procHas v.members e_c_came_i.who (by have := ho.transit; omega); rw [h2] at k; exact k) : Con Tryz.prog 42 [.d (.ro 2 (procs v.members)), .ag [.z e_c_came_i.who.node, .u e_c_came_i.who.inc]] (.v (.bool false)))
    cases h3 : (decide (e.who ∈ e_c_came_i.frm.members)) with
    | false =>
     have qh3 := of_decide_eq_false h3
     exact toHeadM (todo' := hd Tryz.f47 0) tk mo hK hbm [(2, [(0, .b true)]), (3, [(0, .n (i)), (1, .ix 0 e_c_came_i.row)]), (4, [(5, .b false)]), (5, [(4, .con (.v (.bool false)))]), (7, [(5, .con (.v (.bool false)))]), (9, [(0, .z (((i + 1 : Nat) : Int)))])] 2000 [0, 1, 2, 3] [0, 4, 5, 6, 13, 14, 15] r (by kernel_rfl) (an h0 (an (rfI ((i : Nat) : Int)) (an u0 (an u1 (an (comers_at ge_c_came_i) (an u2 (an u3 (an ((by have k := procHas e_c_came_i.frm.members e.who (by have := ho.transit; omega); rw [h3] at k; exact k) : Con Tryz.prog 42 [.d (.ro 2 (procs e_c_came_i.frm.members)), .ag [.z e.who.node, .u e.who.inc]] (.v (.bool false))) (an (wiS i (by omega)) trivial))))))))) fun ac wd r => again0 (by omega) ac wd ⟨(fun j o hj hx => by rcases Nat.lt_succ_iff_lt_or_eq.1 hj with h | rfl; exact hv0 j o h hx; rw [ge_c_came_i] at hx; cases hx; unfold okO; simp [*]), r⟩
    | true =>
     have qh3 := of_decide_eq_true h3
     have u4 := ((by have k := procHas e_c_came_i.frm.members e.who (by have := ho.transit; omega); rw [h3] at k; exact k) : Con Tryz.prog 42 [.d (.ro 2 (procs e_c_came_i.frm.members)), .ag [.z e.who.node, .u e.who.inc]] (.v (.bool true)))
     cases h4 : (decide (e.who ∈ e_c_came_i.transit)) with
     | false =>
      have qh4 := of_decide_eq_false h4
      exact toHeadM (todo' := hd Tryz.f47 0) tk mo hK hbm [(2, [(0, .b true)]), (3, [(0, .n (i)), (1, .ix 0 e_c_came_i.row)]), (4, [(5, .b false)]), (5, [(4, .con (.v (.bool false)))]), (7, [(5, .con (.v (.bool true))), (11, .con (.v (.bool false)))]), (9, [(0, .z (((i + 1 : Nat) : Int)))])] 2000 [0, 1, 2, 3] [0, 4, 5, 6, 13, 14, 15] r (by kernel_rfl) (an h0 (an (rfI ((i : Nat) : Int)) (an u0 (an u1 (an (comers_at ge_c_came_i) (an u2 (an u3 (an u4 (an ((by have k := procHas e_c_came_i.transit e.who (by have := ho.transit; omega); rw [h4] at k; exact k) : Con Tryz.prog 42 [.d (.ro 2 (procs e_c_came_i.transit)), .ag [.z e.who.node, .u e.who.inc]] (.v (.bool false))) (an (wiS i (by omega)) trivial)))))))))) fun ac wd r => again0 (by omega) ac wd ⟨(fun j o hj hx => by rcases Nat.lt_succ_iff_lt_or_eq.1 hj with h | rfl; exact hv0 j o h hx; rw [ge_c_came_i] at hx; cases hx; unfold okO; simp [*]), r⟩
     | true =>
      have qh4 := of_decide_eq_true h4
      refine castM (y := .d (.v (.bool false))) (N' := [.bx 122 (c.view.avs [.sl 1 ((comers c.came).length)]), .rw 129 8 (comers c.came)]) ((by first | rw [agrees_yes (by omega) hv0] | rw [agrees_no ge_c_came_i (by unfold okO; simp [*])])) (rfl) ?_
      exact toRetM tk mo hK rfl hbm [(2, [(0, .b true)]), (3, [(0, .n (i)), (1, .ix 0 e_c_came_i.row)]), (4, [(5, .b false)]), (5, [(4, .con (.v (.bool false)))]), (7, [(5, .con (.v (.bool true))), (11, .con (.v (.bool true)))])] 2000 [0, 1] r (by kernel_rfl) (an h0 (an (rfI ((i : Nat) : Int)) (an u0 (an u1 (an (comers_at ge_c_came_i) (an u2 (an u3 (an u4 (an ((by have k := procHas e_c_came_i.transit e.who (by have := ho.transit; omega); rw [h4] at k; exact k) : Con Tryz.prog 42 [.d (.ro 2 (procs e_c_came_i.transit)), .ag [.z e.who.node, .u e.who.inc]] (.v (.bool true))) trivial)))))))))
   | true =>
    have qh2 := of_decide_eq_true h2
    have u5 := ((by have k := procHas v.members e_c_came_i.who (by have := ho.transit; omega); rw [h2] at k; exact k) : Con Tryz.prog 42 [.d (.ro 2 (procs v.members)), .ag [.z e_c_came_i.who.node, .u e_c_came_i.who.inc]] (.v (.bool true)))
    cases h5 : (decide (e_c_came_i.who ∈ e.transit)) with
    | false =>
     have qh5 := of_decide_eq_false h5
     have u6 := ((by have k := procHas e.transit e_c_came_i.who (by have := ho.transit; omega); rw [h5] at k; exact k) : Con Tryz.prog 42 [.d (.ro 2 (procs e.transit)), .ag [.z e_c_came_i.who.node, .u e_c_came_i.who.inc]] (.v (.bool false)))
     cases h6 : (decide (e.who ∈ e_c_came_i.frm.members)) with
     | false =>
      have qh6 := of_decide_eq_false h6
      exact toHeadM (todo' := hd Tryz.f47 0) tk mo hK hbm [(2, [(0, .b true)]), (3, [(0, .n (i)), (1, .ix 0 e_c_came_i.row)]), (4, [(5, .b false)]), (5, [(4, .con (.v (.bool true))), (10, .con (.v (.bool false)))]), (7, [(5, .con (.v (.bool false)))]), (9, [(0, .z (((i + 1 : Nat) : Int)))])] 2000 [0, 1, 2, 3] [0, 4, 5, 6, 13, 14, 15] r (by kernel_rfl) (an h0 (an (rfI ((i : Nat) : Int)) (an u0 (an u1 (an (comers_at ge_c_came_i) (an u2 (an u5 (an u6 (an ((by have k := procHas e_c_came_i.frm.members e.who (by have := ho.transit; omega); rw [h6] at k; exact k) : Con Tryz.prog 42 [.d (.ro 2 (procs e_c_came_i.frm.members)), .ag [.z e.who.node, .u e.who.inc]] (.v (.bool false))) (an (wiS i (by omega)) trivial)))))))))) fun ac wd r => again0 (by omega) ac wd ⟨(fun j o hj hx => by rcases Nat.lt_succ_iff_lt_or_eq.1 hj with h | rfl; exact hv0 j o h hx; rw [ge_c_came_i] at hx; cases hx; unfold okO; simp [*]), r⟩
     | true =>
      have qh6 := of_decide_eq_true h6
      have u7 := ((by have k := procHas e_c_came_i.frm.members e.who (by have := ho.transit; omega); rw [h6] at k; exact k) : Con Tryz.prog 42 [.d (.ro 2 (procs e_c_came_i.frm.members)), .ag [.z e.who.node, .u e.who.inc]] (.v (.bool true)))
      cases h7 : (decide (e.who ∈ e_c_came_i.transit)) with
      | false =>
       have qh7 := of_decide_eq_false h7
       exact toHeadM (todo' := hd Tryz.f47 0) tk mo hK hbm [(2, [(0, .b true)]), (3, [(0, .n (i)), (1, .ix 0 e_c_came_i.row)]), (4, [(5, .b false)]), (5, [(4, .con (.v (.bool true))), (10, .con (.v (.bool false)))]), (7, [(5, .con (.v (.bool true))), (11, .con (.v (.bool false)))]), (9, [(0, .z (((i + 1 : Nat) : Int)))])] 2000 [0, 1, 2, 3] [0, 4, 5, 6, 13, 14, 15] r (by kernel_rfl) (an h0 (an (rfI ((i : Nat) : Int)) (an u0 (an u1 (an (comers_at ge_c_came_i) (an u2 (an u5 (an u6 (an u7 (an ((by have k := procHas e_c_came_i.transit e.who (by have := ho.transit; omega); rw [h7] at k; exact k) : Con Tryz.prog 42 [.d (.ro 2 (procs e_c_came_i.transit)), .ag [.z e.who.node, .u e.who.inc]] (.v (.bool false))) (an (wiS i (by omega)) trivial))))))))))) fun ac wd r => again0 (by omega) ac wd ⟨(fun j o hj hx => by rcases Nat.lt_succ_iff_lt_or_eq.1 hj with h | rfl; exact hv0 j o h hx; rw [ge_c_came_i] at hx; cases hx; unfold okO; simp [*]), r⟩
      | true =>
       have qh7 := of_decide_eq_true h7
       refine castM (y := .d (.v (.bool false))) (N' := [.bx 122 (c.view.avs [.sl 1 ((comers c.came).length)]), .rw 129 8 (comers c.came)]) ((by first | rw [agrees_yes (by omega) hv0] | rw [agrees_no ge_c_came_i (by unfold okO; simp [*])])) (rfl) ?_
       exact toRetM tk mo hK rfl hbm [(2, [(0, .b true)]), (3, [(0, .n (i)), (1, .ix 0 e_c_came_i.row)]), (4, [(5, .b false)]), (5, [(4, .con (.v (.bool true))), (10, .con (.v (.bool false)))]), (7, [(5, .con (.v (.bool true))), (11, .con (.v (.bool true)))])] 2000 [0, 1] r (by kernel_rfl) (an h0 (an (rfI ((i : Nat) : Int)) (an u0 (an u1 (an (comers_at ge_c_came_i) (an u2 (an u5 (an u6 (an u7 (an ((by have k := procHas e_c_came_i.transit e.who (by have := ho.transit; omega); rw [h7] at k; exact k) : Con Tryz.prog 42 [.d (.ro 2 (procs e_c_came_i.transit)), .ag [.z e.who.node, .u e.who.inc]] (.v (.bool true))) trivial))))))))))
    | true =>
     have qh5 := of_decide_eq_true h5
     refine castM (y := .d (.v (.bool false))) (N' := [.bx 122 (c.view.avs [.sl 1 ((comers c.came).length)]), .rw 129 8 (comers c.came)]) ((by first | rw [agrees_yes (by omega) hv0] | rw [agrees_no ge_c_came_i (by unfold okO; simp [*])])) (rfl) ?_
     exact toRetM tk mo hK rfl hbm [(2, [(0, .b true)]), (3, [(0, .n (i)), (1, .ix 0 e_c_came_i.row)]), (4, [(5, .b false)]), (5, [(4, .con (.v (.bool true))), (10, .con (.v (.bool true)))])] 2000 [0, 1] r (by kernel_rfl) (an h0 (an (rfI ((i : Nat) : Int)) (an u0 (an u1 (an (comers_at ge_c_came_i) (an u2 (an u5 (an ((by have k := procHas e.transit e_c_came_i.who (by have := ho.transit; omega); rw [h5] at k; exact k) : Con Tryz.prog 42 [.d (.ro 2 (procs e.transit)), .ag [.z e_c_came_i.who.node, .u e_c_came_i.who.inc]] (.v (.bool true))) trivial))))))))
  | true =>
   have qh1 := of_decide_eq_true h1
   have u8 := ((eqT (eqVid _ _) h1) : EqAgg Tryz.prog 40 [(.int .u64 (((e_c_came_i.frm.id.round : Nat) : Int))), (.int .i64 (e_c_came_i.frm.id.server.node)), (.int .u64 (((e_c_came_i.frm.id.server.inc : Nat) : Int)))] [(.int .u64 (((v.id.round : Nat) : Int))), (.int .i64 (v.id.server.node)), (.int .u64 (((v.id.server.inc : Nat) : Int)))] true)
   cases h8 : (decide (e_c_came_i.who ∈ v.members)) with
   | false =>
    have qh8 := of_decide_eq_false h8
    have u9 := ((by have k := procHas v.members e_c_came_i.who (by have := ho.transit; omega); rw [h8] at k; exact k) : Con Tryz.prog 42 [.d (.ro 2 (procs v.members)), .ag [.z e_c_came_i.who.node, .u e_c_came_i.who.inc]] (.v (.bool false)))
    cases h9 : (decide (e.who ∈ e_c_came_i.frm.members)) with
    | false =>
     have qh9 := of_decide_eq_false h9
     exact toHeadM (todo' := hd Tryz.f47 0) tk mo hK hbm [(2, [(0, .b true)]), (3, [(0, .n (i)), (1, .ix 0 e_c_came_i.row)]), (4, [(5, .b true)]), (5, [(4, .con (.v (.bool false)))]), (7, [(5, .con (.v (.bool false)))]), (9, [(0, .z (((i + 1 : Nat) : Int)))])] 2000 [0, 1, 2, 3] [0, 4, 5, 6, 13, 14, 15] r (by kernel_rfl) (an h0 (an (rfI ((i : Nat) : Int)) (an u0 (an u1 (an (comers_at ge_c_came_i) (an u8 (an u9 (an ((by have k := procHas e_c_came_i.frm.members e.who (by have := ho.transit; omega); rw [h9] at k; exact k) : Con Tryz.prog 42 [.d (.ro 2 (procs e_c_came_i.frm.members)), .ag [.z e.who.node, .u e.who.inc]] (.v (.bool false))) (an (wiS i (by omega)) trivial))))))))) fun ac wd r => again0 (by omega) ac wd ⟨(fun j o hj hx => by rcases Nat.lt_succ_iff_lt_or_eq.1 hj with h | rfl; exact hv0 j o h hx; rw [ge_c_came_i] at hx; cases hx; unfold okO; simp [*]), r⟩
    | true =>
     have qh9 := of_decide_eq_true h9
     have u10 := ((by have k := procHas e_c_came_i.frm.members e.who (by have := ho.transit; omega); rw [h9] at k; exact k) : Con Tryz.prog 42 [.d (.ro 2 (procs e_c_came_i.frm.members)), .ag [.z e.who.node, .u e.who.inc]] (.v (.bool true)))
     cases h10 : (decide (e.who ∈ e_c_came_i.transit)) with
     | false =>
      have qh10 := of_decide_eq_false h10
      refine castM (y := .d (.v (.bool false))) (N' := [.bx 122 (c.view.avs [.sl 1 ((comers c.came).length)]), .rw 129 8 (comers c.came)]) ((by first | rw [agrees_yes (by omega) hv0] | rw [agrees_no ge_c_came_i (by unfold okO; simp [*])])) (rfl) ?_
      exact toRetM tk mo hK rfl hbm [(2, [(0, .b true)]), (3, [(0, .n (i)), (1, .ix 0 e_c_came_i.row)]), (4, [(5, .b true)]), (5, [(4, .con (.v (.bool false)))]), (7, [(5, .con (.v (.bool true))), (11, .con (.v (.bool false)))])] 2000 [0, 1] r (by kernel_rfl) (an h0 (an (rfI ((i : Nat) : Int)) (an u0 (an u1 (an (comers_at ge_c_came_i) (an u8 (an u9 (an u10 (an ((by have k := procHas e_c_came_i.transit e.who (by have := ho.transit; omega); rw [h10] at k; exact k) : Con Tryz.prog 42 [.d (.ro 2 (procs e_c_came_i.transit)), .ag [.z e.who.node, .u e.who.inc]] (.v (.bool false))) trivial)))))))))
     | true =>
      have qh10 := of_decide_eq_true h10
      exact toHeadM (todo' := hd Tryz.f47 0) tk mo hK hbm [(2, [(0, .b true)]), (3, [(0, .n (i)), (1, .ix 0 e_c_came_i.row)]), (4, [(5, .b true)]), (5, [(4, .con (.v (.bool false)))]), (7, [(5, .con (.v (.bool true))), (11, .con (.v (.bool true)))]), (9, [(0, .z (((i + 1 : Nat) : Int)))])] 2000 [0, 1, 2, 3] [0, 4, 5, 6, 13, 14, 15] r (by kernel_rfl) (an h0 (an (rfI ((i : Nat) : Int)) (an u0 (an u1 (an (comers_at ge_c_came_i) (an u8 (an u9 (an u10 (an ((by have k := procHas e_c_came_i.transit e.who (by have := ho.transit; omega); rw [h10] at k; exact k) : Con Tryz.prog 42 [.d (.ro 2 (procs e_c_came_i.transit)), .ag [.z e.who.node, .u e.who.inc]] (.v (.bool true))) (an (wiS i (by omega)) trivial)))))))))) fun ac wd r => again0 (by omega) ac wd ⟨(fun j o hj hx => by rcases Nat.lt_succ_iff_lt_or_eq.1 hj with h | rfl; exact hv0 j o h hx; rw [ge_c_came_i] at hx; cases hx; unfold okO; simp [*]), r⟩
   | true =>
    have qh8 := of_decide_eq_true h8
    have u11 := ((by have k := procHas v.members e_c_came_i.who (by have := ho.transit; omega); rw [h8] at k; exact k) : Con Tryz.prog 42 [.d (.ro 2 (procs v.members)), .ag [.z e_c_came_i.who.node, .u e_c_came_i.who.inc]] (.v (.bool true)))
    cases h11 : (decide (e_c_came_i.who ∈ e.transit)) with
    | false =>
     have qh11 := of_decide_eq_false h11
     refine castM (y := .d (.v (.bool false))) (N' := [.bx 122 (c.view.avs [.sl 1 ((comers c.came).length)]), .rw 129 8 (comers c.came)]) ((by first | rw [agrees_yes (by omega) hv0] | rw [agrees_no ge_c_came_i (by unfold okO; simp [*])])) (rfl) ?_
     exact toRetM tk mo hK rfl hbm [(2, [(0, .b true)]), (3, [(0, .n (i)), (1, .ix 0 e_c_came_i.row)]), (4, [(5, .b true)]), (5, [(4, .con (.v (.bool true))), (10, .con (.v (.bool false)))])] 2000 [0, 1] r (by kernel_rfl) (an h0 (an (rfI ((i : Nat) : Int)) (an u0 (an u1 (an (comers_at ge_c_came_i) (an u8 (an u11 (an ((by have k := procHas e.transit e_c_came_i.who (by have := ho.transit; omega); rw [h11] at k; exact k) : Con Tryz.prog 42 [.d (.ro 2 (procs e.transit)), .ag [.z e_c_came_i.who.node, .u e_c_came_i.who.inc]] (.v (.bool false))) trivial))))))))
    | true =>
     have qh11 := of_decide_eq_true h11
     have u12 := ((by have k := procHas e.transit e_c_came_i.who (by have := ho.transit; omega); rw [h11] at k; exact k) : Con Tryz.prog 42 [.d (.ro 2 (procs e.transit)), .ag [.z e_c_came_i.who.node, .u e_c_came_i.who.inc]] (.v (.bool true)))
     cases h12 : (decide (e.who ∈ e_c_came_i.frm.members)) with
     | false =>
      have qh12 := of_decide_eq_false h12
      exact toHeadM (todo' := hd Tryz.f47 0) tk mo hK hbm [(2, [(0, .b true)]), (3, [(0, .n (i)), (1, .ix 0 e_c_came_i.row)]), (4, [(5, .b true)]), (5, [(4, .con (.v (.bool true))), (10, .con (.v (.bool true)))]), (7, [(5, .con (.v (.bool false)))]), (9, [(0, .z (((i + 1 : Nat) : Int)))])] 2000 [0, 1, 2, 3] [0, 4, 5, 6, 13, 14, 15] r (by kernel_rfl) (an h0 (an (rfI ((i : Nat) : Int)) (an u0 (an u1 (an (comers_at ge_c_came_i) (an u8 (an u11 (an u12 (an ((by have k := procHas e_c_came_i.frm.members e.who (by have := ho.transit; omega); rw [h12] at k; exact k) : Con Tryz.prog 42 [.d (.ro 2 (procs e_c_came_i.frm.members)), .ag [.z e.who.node, .u e.who.inc]] (.v (.bool false))) (an (wiS i (by omega)) trivial)))))))))) fun ac wd r => again0 (by omega) ac wd ⟨(fun j o hj hx => by rcases Nat.lt_succ_iff_lt_or_eq.1 hj with h | rfl; exact hv0 j o h hx; rw [ge_c_came_i] at hx; cases hx; unfold okO; simp [*]), r⟩
     | true =>
      have qh12 := of_decide_eq_true h12
      have u13 := ((by have k := procHas e_c_came_i.frm.members e.who (by have := ho.transit; omega); rw [h12] at k; exact k) : Con Tryz.prog 42 [.d (.ro 2 (procs e_c_came_i.frm.members)), .ag [.z e.who.node, .u e.who.inc]] (.v (.bool true)))
      cases h13 : (decide (e.who ∈ e_c_came_i.transit)) with
      | false =>
       have qh13 := of_decide_eq_false h13
       refine castM (y := .d (.v (.bool false))) (N' := [.bx 122 (c.view.avs [.sl 1 ((comers c.came).length)]), .rw 129 8 (comers c.came)]) ((by first | rw [agrees_yes (by omega) hv0] | rw [agrees_no ge_c_came_i (by unfold okO; simp [*])])) (rfl) ?_
       exact toRetM tk mo hK rfl hbm [(2, [(0, .b true)]), (3, [(0, .n (i)), (1, .ix 0 e_c_came_i.row)]), (4, [(5, .b true)]), (5, [(4, .con (.v (.bool true))), (10, .con (.v (.bool true)))]), (7, [(5, .con (.v (.bool true))), (11, .con (.v (.bool false)))])] 2000 [0, 1] r (by kernel_rfl) (an h0 (an (rfI ((i : Nat) : Int)) (an u0 (an u1 (an (comers_at ge_c_came_i) (an u8 (an u11 (an u12 (an u13 (an ((by have k := procHas e_c_came_i.transit e.who (by have := ho.transit; omega); rw [h13] at k; exact k) : Con Tryz.prog 42 [.d (.ro 2 (procs e_c_came_i.transit)), .ag [.z e.who.node, .u e.who.inc]] (.v (.bool false))) trivial))))))))))
      | true =>
       have qh13 := of_decide_eq_true h13
       exact toHeadM (todo' := hd Tryz.f47 0) tk mo hK hbm [(2, [(0, .b true)]), (3, [(0, .n (i)), (1, .ix 0 e_c_came_i.row)]), (4, [(5, .b true)]), (5, [(4, .con (.v (.bool true))), (10, .con (.v (.bool true)))]), (7, [(5, .con (.v (.bool true))), (11, .con (.v (.bool true)))]), (9, [(0, .z (((i + 1 : Nat) : Int)))])] 2000 [0, 1, 2, 3] [0, 4, 5, 6, 13, 14, 15] r (by kernel_rfl) (an h0 (an (rfI ((i : Nat) : Int)) (an u0 (an u1 (an (comers_at ge_c_came_i) (an u8 (an u11 (an u12 (an u13 (an ((by have k := procHas e_c_came_i.transit e.who (by have := ho.transit; omega); rw [h13] at k; exact k) : Con Tryz.prog 42 [.d (.ro 2 (procs e_c_came_i.transit)), .ag [.z e.who.node, .u e.who.inc]] (.v (.bool true))) (an (wiS i (by omega)) trivial))))))))))) fun ac wd r => again0 (by omega) ac wd ⟨(fun j o hj hx => by rcases Nat.lt_succ_iff_lt_or_eq.1 hj with h | rfl; exact hv0 j o h hx; rw [ge_c_came_i] at hx; cases hx; unfold okO; simp [*]), r⟩
end Go.Proofs.YtilhbhpldkjkaaaGreat
namespace Go.Proofs.YtilhbhpldkjkaaaGreat
open Go.RowKit
abbrev Sent := List (Nat × MsgK × List UInt8)
section
variable {κ α : Type} [DecidableEq κ] {k : κ → MK} {d : α → DV} {l : List (Nat × κ × α)} {c j b : Nat} {q : κ} {x y : α}
theorem putOld (hn : keysN l) (h : l[j]? = some (b, q, y)) (hs : (getK l q).isSome = true) : emap k d (putK l c q x) = List.modify (emap k d l) j fun zz => (zz.1, zz.2.1, d x) := by unfold putK; rw [if_pos hs, setK_mod hn h, emap_mod]
theorem putOldC (hs : (getK l q).isSome = true) : putC l c q = c := by unfold putC; rw [if_pos hs]
theorem putNew (hs : (getK l q).isSome = false) : emap k d (putK l c q x) = emap k d l ++ [(c, k q, d x)] := by unfold putK; rw [if_neg (by rw [hs]; decide), emap_app]
theorem putNewC (hs : (getK l q).isSome = false) : putC l c q = c + 1 := by unfold putC; rw [if_neg (by rw [hs]; decide)]
end
structure SendR where
 err : Int
 A : Sent
 ns : Nat
 f : Life
def sendJ (A : Sent) (ns : Nat) (f : Life) (e : Ev) : SendR :=
 if f.stands = 2 then ⟨231, A, ns, f⟩ else if e.n = 0 ∨ e.n - 1 ≠ f.sent then ⟨232, A, ns, f⟩ else ⟨0, putK A ns (f.view.id, e.who, e.n) e.body, putC A ns (f.view.id, e.who, e.n), { f with sent := e.n }⟩
theorem sendJ1 {A : Sent} {ns : Nat} {f : Life} {e : Ev} (h : f.stands = 2) : sendJ A ns f e = ⟨231, A, ns, f⟩ := by unfold sendJ; rw [if_pos h]
theorem sendJ2 {A : Sent} {ns : Nat} {f : Life} {e : Ev} (h : ¬ f.stands = 2) (h2 : e.n = 0 ∨ e.n - 1 ≠ f.sent) : sendJ A ns f e = ⟨232, A, ns, f⟩ := by unfold sendJ; rw [if_neg h, if_pos h2]
theorem sendJ3 {A : Sent} {ns : Nat} {f : Life} {e : Ev} (h : ¬ f.stands = 2) (h2 : ¬ e.n = 0) (h3 : e.n - 1 = f.sent) : sendJ A ns f e = ⟨0, putK A ns (f.view.id, e.who, e.n) e.body, putC A ns (f.view.id, e.who, e.n), { f with sent := e.n }⟩ := by unfold sendJ; rw [if_neg h, if_neg (by rintro (h | h); exact h2 h; exact h h3)]
structure SentOk (A : Sent) : Prop where
 n : keysN A
 ok : ∀ x ∈ A, MsgK.ok x.2.1
structure DelR where
 err : Int
 f : Life
def handedAt (f : Life) (p : Proc) : Nat := (f.handed[placeN f.view.members p]?).getD 0
def deliverJ (A : Sent) (f : Life) (e : Ev) : DelR :=
 if placeB f.view.members e.frm = false then ⟨233, f⟩ else if e.n = 0 ∨ e.n - 1 ≠ handedAt f e.frm then ⟨232, f⟩ else if getK A (f.view.id, e.frm, e.n) = some e.body then ⟨0, { f with handed := f.handed.set (placeN f.view.members e.frm) e.n }⟩ else ⟨233, f⟩
theorem deliverJ1 {A : Sent} {f : Life} {e : Ev} (h : placeB f.view.members e.frm = false) : deliverJ A f e = ⟨233, f⟩ := by unfold deliverJ; rw [if_pos h]
theorem deliverJ2 {A : Sent} {f : Life} {e : Ev} (h : placeB f.view.members e.frm = true) (h2 : e.n = 0 ∨ e.n - 1 ≠ handedAt f e.frm) : deliverJ A f e = ⟨232, f⟩ := by unfold deliverJ; rw [if_neg (by rw [h]; decide), if_pos h2]
theorem deliverJ3 {A : Sent} {f : Life} {e : Ev} (h : placeB f.view.members e.frm = true) (h2 : ¬ e.n = 0) (h3 : e.n - 1 = handedAt f e.frm) (h4 : getK A (f.view.id, e.frm, e.n) ≠ some e.body) : deliverJ A f e = ⟨233, f⟩ := by unfold deliverJ; rw [if_neg (by rw [h]; decide), if_neg (by rintro (h | h); exact h2 h; exact h h3), if_neg h4]
theorem deliverJ4 {A : Sent} {f : Life} {e : Ev} (h : placeB f.view.members e.frm = true) (h2 : ¬ e.n = 0) (h3 : e.n - 1 = handedAt f e.frm) (h4 : getK A (f.view.id, e.frm, e.n) = some e.body) : deliverJ A f e = ⟨0, { f with handed := f.handed.set (placeN f.view.members e.frm) e.n }⟩ := by unfold deliverJ; rw [if_neg (by rw [h]; decide), if_neg (by rintro (h | h); exact h2 h; exact h h3), if_pos h4]
theorem place_lt {l : List Proc} {p : Proc} (h : placeB l p = true) : placeN l p < l.length := by
 unfold placeB at h; unfold placeN
 obtain ⟨i, h1, h2⟩ := idx_some (of_decide_eq_true h)
 have := (List.getElem?_eq_some_iff.1 h2).1
 omega
theorem place_at {l : List Proc} {p : Proc} (h : placeB l p = true) : l[placeN l p]? = some p := by
 unfold placeB at h; unfold placeN
 obtain ⟨i, h1, h2⟩ := idx_some (of_decide_eq_true h)
 rw [h1, show ((0 + i : Nat) : Int).toNat = i by omega]; exact h2
theorem place_mem {l : List Proc} {p : Proc} : placeB l p = true ↔ p ∈ l := by
 constructor
 ·intro h; exact List.mem_of_getElem? (place_at h)
 ·intro h; exact decide_eq_true (idx_mem h)
theorem nums_setN (l : List Nat) (i n : Nat) : List.set (nums l) i [.v (.int .u64 (n : Int))] = nums (l.set i n) := by unfold nums; rw [List.map_set]
set_option maxRecDepth 100000 in
theorem sendOk (X1 X2 X3 : List (Nat × MK × DV)) (cl cc cg : Nat) (A : Sent) (ns : Nat) (f : Life) (e : Ev) (ho : e.Ok) (hA : SentOk A) (hv : f.view.id.okV) : ConM Tryz.prog 16 [.pt 0 0, .pt 5 0, .ag e.av] [.bx 54 [.mv 1, .mv 2, .mv 3, .mv 4], .mp 49 (cl) (X1), .mp 50 (ns) (emap mk6 textD A), .mp 51 (cc) (X2), .mp 52 (cg) (X3), .bx 82 (f.lav 6), .rw 36 1 (nums f.handed)] (.d (.z (sendJ A ns f e).err)) ([.bx 54 [.mv 1, .mv 2, .mv 3, .mv 4], .mp 49 (cl) (X1), .mp 50 ((sendJ A ns f e).ns) (emap mk6 textD (sendJ A ns f e).A), .mp 51 (cc) (X2), .mp 52 (cg) (X3), .bx 82 ((sendJ A ns f e).f.view.avs [.d (.v (.bool ((sendJ A ns f e).f.on))), .z ((sendJ A ns f e).f.stands), .u ((sendJ A ns f e).f.sent), .sl 6 ((sendJ A ns f e).f.handed.length)]), .rw 36 1 (nums (sendJ A ns f e).f.handed)]) := by
 refine ConM.intro (by kernel_rfl) rfl rfl 47 rfl rfl fun D w0 K bs ac wd hK (hbm : bs.m = 7) r => ?_
 cases h0 : ((f.stands : Int) == 2) with
 | false =>
  have qh0 := ne_of_beq_false h0
  cases h1 : (((e.n : Nat) : Int) == 0) with
  | false =>
   have qh1 := ne_of_beq_false h1
   have u0 := ((wu (by have := ho.n; omega)) : IntKind.u64.wrap (((e.n : Nat) : Int) - 1) = ((e.n - 1 : Nat) : Int))
   cases h2 : (((e.n - 1 : Nat) : Int) != ((f.sent : Nat) : Int)) with
   | false =>
    have qh2 := eq_of_bne h2
    cases h3 : ((getK A (f.view.id, e.who, e.n)).isSome) with
    | false =>
     have hno : getK A (f.view.id, e.who, e.n) = none := by simpa using (show (getK A (f.view.id, e.who, e.n)).isSome = false by assumption)
     refine castM (y := .z 0) (N' := [.bx 54 [.mv 1, .mv 2, .mv 3, .mv 4], .mp 49 (cl) (X1), .mp 50 (ns + 1) (emap mk6 textD A ++ [(ns, .a [(.u64, ((f.view.id.round : Nat) : Int)), (.i64, (f.view.id.server.node : Int)), (.u64, ((f.view.id.server.inc : Nat) : Int)), (.i64, (e.who.node : Int)), (.u64, ((e.who.inc : Nat) : Int)), (.u64, ((e.n : Nat) : Int))], .ag [.ro 1 (bytesR e.body)])]), .mp 51 (cc) (X2), .mp 52 (cg) (X3), .bx 82 (f.view.avs [.d (.v (.bool (f.on))), .z f.stands, .u e.n, .sl 6 (f.handed.length)]), .rw 36 1 (nums f.handed)]) ((by rw [sendJ3 (by omega) (by omega) (by omega)])) ((by rw [sendJ3 (by omega) (by omega) (by omega)]; dsimp only; rw [putNew (by assumption), putNewC (by assumption)])) ?_
     exact toRetM tk mo hK rfl hbm [(1, [(4, .b false)]), (3, [(2, .b false), (6, .z (((e.n - 1 : Nat) : Int))), (11, .b false)]), (6, [(17, .b false)])] 2000 [0, 1, 2, 3, 4, 5, 6] r (by kernel_rfl) (an h0 (an h1 (an u0 (an h2 (an ((keysM hA.ok (q := (f.view.id, e.who, e.n)) ⟨hv, ho.who, ho.n⟩) : KeysOk Tryz.prog 111 ((.a [(.u64, ((f.view.id.round : Nat) : Int)), (.i64, (f.view.id.server.node : Int)), (.u64, ((f.view.id.server.inc : Nat) : Int)), (.i64, (e.who.node : Int)), (.u64, ((e.who.inc : Nat) : Int)), (.u64, ((e.n : Nat) : Int))]) :: List.map (fun (e : Nat × MK × DV) => e.2.1) (emap mk6 textD A))) (an ((emap_fresh (fun _ _ h => mk6_inj h) (q := (f.view.id, e.who, e.n)) hno) : ∀ zz ∈ (emap mk6 textD A : List (Nat × MK × DV)), zz.2.1 ≠ .a [(.u64, ((f.view.id.round : Nat) : Int)), (.i64, (f.view.id.server.node : Int)), (.u64, ((f.view.id.server.inc : Nat) : Int)), (.i64, (e.who.node : Int)), (.u64, ((e.who.inc : Nat) : Int)), (.u64, ((e.n : Nat) : Int))]) trivial))))))
    | true =>
     obtain ⟨bo, hbo⟩ := Option.isSome_iff_exists.1 (show (getK A (f.view.id, e.who, e.n)).isSome = true by assumption)
     obtain ⟨jo, bb, hjo⟩ := getK_some hbo
     refine castM (y := .z 0) (N' := [.bx 54 [.mv 1, .mv 2, .mv 3, .mv 4], .mp 49 (cl) (X1), .mp 50 (ns) (List.modify (emap mk6 textD A) (jo) fun zz => (zz.1, zz.2.1, .ag [.ro 1 (bytesR e.body)])), .mp 51 (cc) (X2), .mp 52 (cg) (X3), .bx 82 (f.view.avs [.d (.v (.bool (f.on))), .z f.stands, .u e.n, .sl 6 (f.handed.length)]), .rw 36 1 (nums f.handed)]) ((by rw [sendJ3 (by omega) (by omega) (by omega)])) ((by rw [sendJ3 (by omega) (by omega) (by omega)]; dsimp only; rw [putOld hA.n hjo (by assumption), putOldC (by assumption)])) ?_
     exact toRetM tk mo hK rfl hbm [(1, [(4, .b false)]), (3, [(2, .b false), (6, .z (((e.n - 1 : Nat) : Int))), (11, .b false)]), (6, [(17, .mk (jo) (.a [(.u64, ((f.view.id.round : Nat) : Int)), (.i64, (f.view.id.server.node : Int)), (.u64, ((f.view.id.server.inc : Nat) : Int)), (.i64, (e.who.node : Int)), (.u64, ((e.who.inc : Nat) : Int)), (.u64, ((e.n : Nat) : Int))]) (.ag [.ro 1 (bytesR bo)]))])] 2000 [0, 1, 2, 3, 4, 5, 6] r (by kernel_rfl) (an h0 (an h1 (an u0 (an h2 (an ((keysM hA.ok (q := (f.view.id, e.who, e.n)) ⟨hv, ho.who, ho.n⟩) : KeysOk Tryz.prog 111 ((.a [(.u64, ((f.view.id.round : Nat) : Int)), (.i64, (f.view.id.server.node : Int)), (.u64, ((f.view.id.server.inc : Nat) : Int)), (.i64, (e.who.node : Int)), (.u64, ((e.who.inc : Nat) : Int)), (.u64, ((e.n : Nat) : Int))]) :: List.map (fun (e : Nat × MK × DV) => e.2.1) (emap mk6 textD A))) (an (rfl : (.a [(.u64, ((f.view.id.round : Nat) : Int)), (.i64, (f.view.id.server.node : Int)), (.u64, ((f.view.id.server.inc : Nat) : Int)), (.i64, (e.who.node : Int)), (.u64, ((e.who.inc : Nat) : Int)), (.u64, ((e.n : Nat) : Int))] : MK) = .a [(.u64, ((f.view.id.round : Nat) : Int)), (.i64, (f.view.id.server.node : Int)), (.u64, ((f.view.id.server.inc : Nat) : Int)), (.i64, (e.who.node : Int)), (.u64, ((e.who.inc : Nat) : Int)), (.u64, ((e.n : Nat) : Int))]) (an ((emap_nodup (fun _ _ h => mk6_inj h) hA.n) : (List.map (fun (e : Nat × MK × DV) => e.2.1) (emap mk6 textD A)).Nodup) (an (rfl : DV.cp2 (.ag [.ro 1 (bytesR bo)]) = true) (an (⟨_, emap_at hjo⟩ : ∃ b0, (emap mk6 textD A : List (Nat × MK × DV))[jo]? = some (b0, .a [(.u64, ((f.view.id.round : Nat) : Int)), (.i64, (f.view.id.server.node : Int)), (.u64, ((f.view.id.server.inc : Nat) : Int)), (.i64, (e.who.node : Int)), (.u64, ((e.who.inc : Nat) : Int)), (.u64, ((e.n : Nat) : Int))], .ag [.ro 1 (bytesR bo)])) trivial)))))))))
   | true =>
    have qh2 : ¬ _ = _ := bne_iff_ne.1 h2
    refine castM (y := .z 232) (N' := [.bx 54 [.mv 1, .mv 2, .mv 3, .mv 4], .mp 49 (cl) (X1), .mp 50 (ns) (emap mk6 textD A), .mp 51 (cc) (X2), .mp 52 (cg) (X3), .bx 82 (f.lav 6), .rw 36 1 (nums f.handed)]) ((by rw [sendJ2 (by omega) (by omega)])) ((by rw [sendJ2 (by omega) (by omega)])) ?_
    exact toRetM tk mo hK rfl hbm [(1, [(4, .b false)]), (3, [(2, .b false), (6, .z (((e.n - 1 : Nat) : Int))), (11, .b true)])] 2000 [0, 1, 2, 3, 4, 5, 6] r (by kernel_rfl) (an h0 (an h1 (an u0 (an h2 trivial))))
  | true =>
   have qh1 := eq_of_beq h1
   refine castM (y := .z 232) (N' := [.bx 54 [.mv 1, .mv 2, .mv 3, .mv 4], .mp 49 (cl) (X1), .mp 50 (ns) (emap mk6 textD A), .mp 51 (cc) (X2), .mp 52 (cg) (X3), .bx 82 (f.lav 6), .rw 36 1 (nums f.handed)]) ((by rw [sendJ2 (by omega) (by omega)])) ((by rw [sendJ2 (by omega) (by omega)])) ?_
   exact toRetM tk mo hK rfl hbm [(1, [(4, .b false)]), (3, [(2, .b true)])] 2000 [0, 1, 2, 3, 4, 5, 6] r (by kernel_rfl) (an h0 (an h1 trivial))
 | true =>
  have qh0 := eq_of_beq h0
  refine castM (y := .z 231) (N' := [.bx 54 [.mv 1, .mv 2, .mv 3, .mv 4], .mp 49 (cl) (X1), .mp 50 (ns) (emap mk6 textD A), .mp 51 (cc) (X2), .mp 52 (cg) (X3), .bx 82 (f.lav 6), .rw 36 1 (nums f.handed)]) ((by rw [sendJ1 (by omega)])) ((by rw [sendJ1 (by omega)])) ?_
  exact toRetM tk mo hK rfl hbm [(1, [(4, .b true)])] 2000 [0, 1, 2, 3, 4, 5, 6] r (by kernel_rfl) (an h0 trivial)
set_option maxRecDepth 100000 in
theorem deliverOk (X1 X2 X3 : List (Nat × MK × DV)) (cl cc cg : Nat) (A : Sent) (ns : Nat) (f : Life) (e : Ev) (ho : e.Ok) (hA : SentOk A) (hv : f.view.id.okV) (hb : f.view.bounded) (hh : f.handed.length = f.view.members.length) : ConM Tryz.prog 17 [.pt 0 0, .pt 5 0, .ag e.av] [.bx 54 [.mv 1, .mv 2, .mv 3, .mv 4], .mp 49 (cl) (X1), .mp 50 (ns) (emap mk6 textD A), .mp 51 (cc) (X2), .mp 52 (cg) (X3), .bx 82 (f.lav 6), .rw 36 1 (nums f.handed)] (.d (.z (deliverJ A f e).err)) ([.bx 54 [.mv 1, .mv 2, .mv 3, .mv 4], .mp 49 (cl) (X1), .mp 50 (ns) (emap mk6 textD A), .mp 51 (cc) (X2), .mp 52 (cg) (X3), .bx 82 ((deliverJ A f e).f.view.avs [.d (.v (.bool ((deliverJ A f e).f.on))), .z ((deliverJ A f e).f.stands), .u ((deliverJ A f e).f.sent), .sl 6 ((deliverJ A f e).f.handed.length)]), .rw 36 1 (nums (deliverJ A f e).f.handed)]) := by
 refine ConM.intro (by kernel_rfl) rfl rfl 74 rfl rfl fun D w0 K bs ac wd hK (hbm : bs.m = 7) r => ?_
 cases h0 : (placeB f.view.members e.frm) with
 | false =>
  refine castM (y := .z 233) (N' := [.bx 54 [.mv 1, .mv 2, .mv 3, .mv 4], .mp 49 (cl) (X1), .mp 50 (ns) (emap mk6 textD A), .mp 51 (cc) (X2), .mp 52 (cg) (X3), .bx 82 (f.lav 6), .rw 36 1 (nums f.handed)]) ((by rw [deliverJ1 (by assumption)])) ((by rw [deliverJ1 (by assumption)])) ?_
  exact toRetM tk mo hK rfl hbm [(1, [(6, .con (.tu [.n (placeN f.view.members e.frm), .v (.bool false)]))])] 2000 [0, 1, 2, 3, 4, 5, 6] r (by kernel_rfl) (an ((by have k := viewPlace f.view e.frm hb; rw [h0] at k; exact k) : Con Tryz.prog 39 [.ag (f.view.avs []), .ag [.z e.frm.node, .u e.frm.inc]] (.tu [.n (placeN f.view.members e.frm), .v (.bool false)])) trivial)
 | true =>
  have hpl := place_lt (show placeB f.view.members e.frm = true by assumption)
  obtain ⟨hn, gh⟩ : ∃ x, f.handed[(placeN f.view.members e.frm)]? = some x := ⟨_, List.getElem?_eq_getElem (by omega)⟩
  have u0 := ((by have k := viewPlace f.view e.frm hb; rw [h0] at k; exact k) : Con Tryz.prog 39 [.ag (f.view.avs []), .ag [.z e.frm.node, .u e.frm.inc]] (.tu [.n (placeN f.view.members e.frm), .v (.bool true)]))
  cases h1 : (((e.n : Nat) : Int) == 0) with
  | false =>
   have qh1 := ne_of_beq_false h1
   have u1 := ((wu (by have := ho.n; omega)) : IntKind.u64.wrap (((e.n : Nat) : Int) - 1) = ((e.n - 1 : Nat) : Int))
   have u2 := ((by first | omega | decide | (simp; done) | (simp; omega)) : (placeN f.view.members e.frm) < (f.handed.length))
   have u3 := ((by first | rfl | (simp; done) | (simp <;> omega)) : (f.handed.length) ≤ (nums f.handed).length)
   cases h2 : (((e.n - 1 : Nat) : Int) != ((hn : Nat) : Int)) with
   | false =>
    have qh2 := eq_of_bne h2
    cases h3 : ((getK A (f.view.id, e.frm, e.n)).isSome) with
    | false =>
     have hno : getK A (f.view.id, e.frm, e.n) = none := by simpa using (show (getK A (f.view.id, e.frm, e.n)).isSome = false by assumption)
     have v6_0 := ((by have k := viewPlace f.view e.frm hb; rw [h0] at k; exact k) : Con Tryz.prog 39 [.ag (f.view.avs []), .ag [.z e.frm.node, .u e.frm.inc]] (.tu [.n (placeN f.view.members e.frm), .v (.bool true)]))
     have v6_1 := ((wu (by have := ho.n; omega)) : IntKind.u64.wrap (((e.n : Nat) : Int) - 1) = ((e.n - 1 : Nat) : Int))
     have v6_2 := (rfI ((placeN f.view.members e.frm : Nat) : Int))
     have v6_3 := ((by first | omega | decide | (simp; done) | (simp; omega)) : (placeN f.view.members e.frm) < (f.handed.length))
     have v6_4 := ((by first | rfl | (simp; done) | (simp <;> omega)) : (f.handed.length) ≤ (nums f.handed).length)
     have v6_5 := ((keysM hA.ok (q := (f.view.id, e.frm, e.n)) ⟨hv, ho.frm, ho.n⟩) : KeysOk Tryz.prog 111 ((.a [(.u64, ((f.view.id.round : Nat) : Int)), (.i64, (f.view.id.server.node : Int)), (.u64, ((f.view.id.server.inc : Nat) : Int)), (.i64, (e.frm.node : Int)), (.u64, ((e.frm.inc : Nat) : Int)), (.u64, ((e.n : Nat) : Int))]) :: List.map (fun (e : Nat × MK × DV) => e.2.1) (emap mk6 textD A)))
     have v6_6 := ((fun _ => rfl) : ZeroIs Tryz.prog 109 (.agg [(.slice none 0 0)].toArray))
     have v6_7 := ((emap_fresh (fun _ _ h => mk6_inj h) (q := (f.view.id, e.frm, e.n)) hno) : ∀ zz ∈ (emap mk6 textD A : List (Nat × MK × DV)), zz.2.1 ≠ .a [(.u64, ((f.view.id.round : Nat) : Int)), (.i64, (f.view.id.server.node : Int)), (.u64, ((f.view.id.server.inc : Nat) : Int)), (.i64, (e.frm.node : Int)), (.u64, ((e.frm.inc : Nat) : Int)), (.u64, ((e.n : Nat) : Int))])
     refine toDrawM (todo' := aft Tryz.f17 6) (E' := [(1, .pt 5 0), (5, .pt 7 0), (6, .z 0), (7, .n (placeN f.view.members e.frm)), (8, .d (.v (.bool false))), (9, .pt 8 0)]) (M' := [.bx 54 [.mv 1, .mv 2, .mv 3, .mv 4], .mp 49 (cl) (X1), .mp 50 (ns) (emap mk6 textD A), .mp 51 (cc) (X2), .mp 52 (cg) (X3), .bx 82 (f.lav 6), .rw 36 1 (nums f.handed), .bx 46 e.av, .bx 109 [.d (.v (.slice none 0 0))]]) tk mo hK hbm [(1, [(6, .con (.tu [.n (placeN f.view.members e.frm), .v (.bool true)]))]), (4, [(2, .b false), (6, .z (((e.n - 1 : Nat) : Int))), (12, .n (placeN f.view.members e.frm)), (13, .ix 0 [.u hn]), (14, .b false)]), (6, [(14, .b false)])] 15 2 [] [[0, 1, 2, 3, 4, 5, 6, 7, 8], [0, 1, 2, 3, 4, 5, 6, 7, 8]] [1, 5, 6, 7, 8, 9] r (by kernel_rfl) (an (an v6_0 (an h1 (an v6_1 (an v6_2 (an v6_3 (an v6_4 (an (nums_at gh) (an h2 (an v6_5 (an v6_6 (an v6_7 trivial))))))))))) (an (an v6_0 (an h1 (an v6_1 (an v6_2 (an v6_3 (an v6_4 (an (nums_at gh) (an h2 (an v6_5 (an v6_6 (an v6_7 trivial))))))))))) trivial)) fun ac wd r => ?_
     refine castM (y := .z 233) (N' := [.bx 54 [.mv 1, .mv 2, .mv 3, .mv 4], .mp 49 (cl) (X1), .mp 50 (ns) (emap mk6 textD A), .mp 51 (cc) (X2), .mp 52 (cg) (X3), .bx 82 (f.lav 6), .rw 36 1 (nums f.handed)]) ((by rw [deliverJ3 (by assumption) (by omega) (by unfold handedAt; rw [gh]; simp only [Option.getD_some]; omega) (by rw [hno]; intro hc; cases hc)])) ((by rw [deliverJ3 (by assumption) (by omega) (by unfold handedAt; rw [gh]; simp only [Option.getD_some]; omega) (by rw [hno]; intro hc; cases hc)])) ?_
     exact toRetM tk mo hK rfl hbm [] 2000 [0, 1, 2, 3, 4, 5, 6] r (by kernel_rfl) trivial
    | true =>
     obtain ⟨bo, hbo⟩ := Option.isSome_iff_exists.1 (show (getK A (f.view.id, e.frm, e.n)).isSome = true by assumption)
     obtain ⟨jo, bb, hjo⟩ := getK_some hbo
     have v6_0 := ((by have k := viewPlace f.view e.frm hb; rw [h0] at k; exact k) : Con Tryz.prog 39 [.ag (f.view.avs []), .ag [.z e.frm.node, .u e.frm.inc]] (.tu [.n (placeN f.view.members e.frm), .v (.bool true)]))
     have v6_1 := ((wu (by have := ho.n; omega)) : IntKind.u64.wrap (((e.n : Nat) : Int) - 1) = ((e.n - 1 : Nat) : Int))
     have v6_2 := (rfI ((placeN f.view.members e.frm : Nat) : Int))
     have v6_3 := ((by first | omega | decide | (simp; done) | (simp; omega)) : (placeN f.view.members e.frm) < (f.handed.length))
     have v6_4 := ((by first | rfl | (simp; done) | (simp <;> omega)) : (f.handed.length) ≤ (nums f.handed).length)
     have v6_5 := ((keysM hA.ok (q := (f.view.id, e.frm, e.n)) ⟨hv, ho.frm, ho.n⟩) : KeysOk Tryz.prog 111 ((.a [(.u64, ((f.view.id.round : Nat) : Int)), (.i64, (f.view.id.server.node : Int)), (.u64, ((f.view.id.server.inc : Nat) : Int)), (.i64, (e.frm.node : Int)), (.u64, ((e.frm.inc : Nat) : Int)), (.u64, ((e.n : Nat) : Int))]) :: List.map (fun (e : Nat × MK × DV) => e.2.1) (emap mk6 textD A)))
     have v6_6 := (rfl : (.a [(.u64, ((f.view.id.round : Nat) : Int)), (.i64, (f.view.id.server.node : Int)), (.u64, ((f.view.id.server.inc : Nat) : Int)), (.i64, (e.frm.node : Int)), (.u64, ((e.frm.inc : Nat) : Int)), (.u64, ((e.n : Nat) : Int))] : MK) = .a [(.u64, ((f.view.id.round : Nat) : Int)), (.i64, (f.view.id.server.node : Int)), (.u64, ((f.view.id.server.inc : Nat) : Int)), (.i64, (e.frm.node : Int)), (.u64, ((e.frm.inc : Nat) : Int)), (.u64, ((e.n : Nat) : Int))])
     have v6_7 := ((emap_nodup (fun _ _ h => mk6_inj h) hA.n) : (List.map (fun (e : Nat × MK × DV) => e.2.1) (emap mk6 textD A)).Nodup)
     have v6_8 := (⟨_, emap_at hjo⟩ : ∃ b0, (emap mk6 textD A : List (Nat × MK × DV))[jo]? = some (b0, .a [(.u64, ((f.view.id.round : Nat) : Int)), (.i64, (f.view.id.server.node : Int)), (.u64, ((f.view.id.server.inc : Nat) : Int)), (.i64, (e.frm.node : Int)), (.u64, ((e.frm.inc : Nat) : Int)), (.u64, ((e.n : Nat) : Int))], .ag [.ro 1 (bytesR bo)]))
     refine toDrawM (todo' := aft Tryz.f17 6) (E' := [(1, .pt 5 0), (5, .pt 7 0), (6, .z 0), (7, .n (placeN f.view.members e.frm)), (8, .d (.v (.bool true))), (9, .pt 8 0)]) (M' := [.bx 54 [.mv 1, .mv 2, .mv 3, .mv 4], .mp 49 (cl) (X1), .mp 50 (ns) (emap mk6 textD A), .mp 51 (cc) (X2), .mp 52 (cg) (X3), .bx 82 (f.lav 6), .rw 36 1 (nums f.handed), .bx 46 e.av, .bx 109 [.d (.ro 1 (bytesR bo))]]) tk mo hK hbm [(1, [(6, .con (.tu [.n (placeN f.view.members e.frm), .v (.bool true)]))]), (4, [(2, .b false), (6, .z (((e.n - 1 : Nat) : Int))), (12, .n (placeN f.view.members e.frm)), (13, .ix 0 [.u hn]), (14, .b false)]), (6, [(14, .mk (jo) (.a [(.u64, ((f.view.id.round : Nat) : Int)), (.i64, (f.view.id.server.node : Int)), (.u64, ((f.view.id.server.inc : Nat) : Int)), (.i64, (e.frm.node : Int)), (.u64, ((e.frm.inc : Nat) : Int)), (.u64, ((e.n : Nat) : Int))]) (.ag [.ro 1 (bytesR bo)]))])] 15 2 [] [[0, 1, 2, 3, 4, 5, 6, 7, 8], [0, 1, 2, 3, 4, 5, 6, 7, 8]] [1, 5, 6, 7, 8, 9] r (by kernel_rfl) (an (an v6_0 (an h1 (an v6_1 (an v6_2 (an v6_3 (an v6_4 (an (nums_at gh) (an h2 (an v6_5 (an v6_6 (an v6_7 (an v6_8 trivial)))))))))))) (an (an v6_0 (an h1 (an v6_1 (an v6_2 (an v6_3 (an v6_4 (an (nums_at gh) (an h2 (an v6_5 (an v6_6 (an v6_7 (an v6_8 trivial)))))))))))) trivial)) fun ac wd r => ?_
     cases h4 : (decide (bo = e.body)) with
     | false =>
      have qh4 := of_decide_eq_false h4
      refine castM (y := .z 233) (N' := [.bx 54 [.mv 1, .mv 2, .mv 3, .mv 4], .mp 49 (cl) (X1), .mp 50 (ns) (emap mk6 textD A), .mp 51 (cc) (X2), .mp 52 (cg) (X3), .bx 82 (f.lav 6), .rw 36 1 (nums f.handed)]) ((by rw [deliverJ3 (by assumption) (by omega) (by unfold handedAt; rw [gh]; simp only [Option.getD_some]; omega) (by rw [hbo]; intro hc; exact absurd (Option.some.inj hc) (of_decide_eq_false (show decide (bo = e.body) = false by assumption)))])) ((by rw [deliverJ3 (by assumption) (by omega) (by unfold handedAt; rw [gh]; simp only [Option.getD_some]; omega) (by rw [hbo]; intro hc; exact absurd (Option.some.inj hc) (of_decide_eq_false (show decide (bo = e.body) = false by assumption)))])) ?_
      exact toRetM tk mo hK rfl hbm [(7, [(7, .con (.v (.bool false)))])] 2000 [0, 1, 2, 3, 4, 5, 6] r (by kernel_rfl) (an ((by have k := bytesEqual bo e.body; rw [h4] at k; exact k) : Con Tryz.prog 40 [.d (.ro 1 (bytesR bo)), .d (.ro 1 (bytesR e.body))] (.v (.bool false))) trivial)
     | true =>
      have qh4 := of_decide_eq_true h4
      refine castM (y := .z 0) (N' := [.bx 54 [.mv 1, .mv 2, .mv 3, .mv 4], .mp 49 (cl) (X1), .mp 50 (ns) (emap mk6 textD A), .mp 51 (cc) (X2), .mp 52 (cg) (X3), .bx 82 (f.lav 6), .rw 36 1 (List.set (nums f.handed) (placeN f.view.members e.frm) [.u e.n])]) ((by rw [deliverJ4 (by assumption) (by omega) (by unfold handedAt; rw [gh]; simp only [Option.getD_some]; omega) (by rw [hbo, of_decide_eq_true (show decide (bo = e.body) = true by assumption)])])) ((by rw [deliverJ4 (by assumption) (by omega) (by unfold handedAt; rw [gh]; simp only [Option.getD_some]; omega) (by rw [hbo, of_decide_eq_true (show decide (bo = e.body) = true by assumption)])]; dsimp only; rw [nums_setN, List.length_set])) ?_
      exact toRetM tk mo hK rfl hbm [(7, [(7, .con (.v (.bool true)))]), (9, [(7, .n (placeN f.view.members e.frm)), (8, .ix 0 [.u hn])])] 2000 [0, 1, 2, 3, 4, 5, 6] r (by kernel_rfl) (an ((by have k := bytesEqual bo e.body; rw [h4] at k; exact k) : Con Tryz.prog 40 [.d (.ro 1 (bytesR bo)), .d (.ro 1 (bytesR e.body))] (.v (.bool true))) (an (rfI ((placeN f.view.members e.frm : Nat) : Int)) (an u2 (an u3 (an (nums_at gh) trivial)))))
   | true =>
    have qh2 : ¬ _ = _ := bne_iff_ne.1 h2
    refine castM (y := .z 232) (N' := [.bx 54 [.mv 1, .mv 2, .mv 3, .mv 4], .mp 49 (cl) (X1), .mp 50 (ns) (emap mk6 textD A), .mp 51 (cc) (X2), .mp 52 (cg) (X3), .bx 82 (f.lav 6), .rw 36 1 (nums f.handed)]) ((by rw [deliverJ2 (by assumption) (by unfold handedAt; rw [gh]; simp only [Option.getD_some]; omega)])) ((by rw [deliverJ2 (by assumption) (by unfold handedAt; rw [gh]; simp only [Option.getD_some]; omega)])) ?_
    exact toRetM tk mo hK rfl hbm [(1, [(6, .con (.tu [.n (placeN f.view.members e.frm), .v (.bool true)]))]), (4, [(2, .b false), (6, .z (((e.n - 1 : Nat) : Int))), (12, .n (placeN f.view.members e.frm)), (13, .ix 0 [.u hn]), (14, .b true)])] 2000 [0, 1, 2, 3, 4, 5, 6] r (by kernel_rfl) (an u0 (an h1 (an u1 (an (rfI ((placeN f.view.members e.frm : Nat) : Int)) (an u2 (an u3 (an (nums_at gh) (an h2 trivial))))))))
  | true =>
   have qh1 := eq_of_beq h1
   refine castM (y := .z 232) (N' := [.bx 54 [.mv 1, .mv 2, .mv 3, .mv 4], .mp 49 (cl) (X1), .mp 50 (ns) (emap mk6 textD A), .mp 51 (cc) (X2), .mp 52 (cg) (X3), .bx 82 (f.lav 6), .rw 36 1 (nums f.handed)]) ((by rw [deliverJ2 (by assumption) (by unfold handedAt; rw [gh]; simp only [Option.getD_some]; omega)])) ((by rw [deliverJ2 (by assumption) (by unfold handedAt; rw [gh]; simp only [Option.getD_some]; omega)])) ?_
   exact toRetM tk mo hK rfl hbm [(1, [(6, .con (.tu [.n (placeN f.view.members e.frm), .v (.bool true)]))]), (4, [(2, .b true)])] 2000 [0, 1, 2, 3, 4, 5, 6] r (by kernel_rfl) (an u0 (an h1 trivial))
end Go.Proofs.YtilhbhpldkjkaaaGreat
