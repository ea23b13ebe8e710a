/-
  graphNexts_holds, part 5 of 5: merged by program from the texts that it needs.
-/
import Derived.Test.YtikmdkicccfjpaaNxD
set_option linter.unusedSimpArgs false
set_option linter.unusedVariables false
set_option linter.unnecessarySimpa false
namespace Go.Proofs.Ytikmdkicccfjpaa
open Go.RowKit
def side (b : List Advert) (p q : Proc) (i : Nat) : Bool := (b.take i).any fun a => decide (a.server = p) && decide (q ∈ a.peers)
theorem side_succ {b : List Advert} {i : Nat} {a : Advert} (h : b[i]? = some a) (p q : Proc) : side b p q (i + 1) = (side b p q i || (decide (a.server = p) && decide (q ∈ a.peers))) := by
  obtain ⟨hi, rfl⟩ := List.getElem?_eq_some_iff.1 h
  rw [side, List.take_succ_eq_append_getElem hi, List.any_append]; simp [side]
def joinedR (b : List Advert) (p q : Proc) : Bool := side b p q b.length && side b q p b.length
theorem side_is {b : List Advert} (g : Book b) {p q : Proc} : side b p q b.length = true ↔ q ∈ peersOf b p := by
  unfold side
  rw [List.take_length, List.any_eq_true]
  constructor
  · rintro ⟨a, ha, h⟩
    simp only [Bool.and_eq_true, decide_eq_true_eq] at h
    obtain ⟨i, hi, rfl⟩ := List.getElem_of_mem ha
    rw [peersOf_at (List.getElem?_eq_getElem hi) h.1 fun j x hj hx e => ?_]
    · exact h.2
    · obtain ⟨hj2, rfl⟩ := List.getElem?_eq_some_iff.1 hx
      have := List.pairwise_iff_getElem.1 g.up j i hj2 hi hj
      rw [e, h.1] at this; omega
  · intro h
    obtain ⟨a, h1, h2, h3⟩ := peersOf_mem h
    exact ⟨a, h1, by simp [h2, h3]⟩
theorem joinedR_is {b : List Advert} (g : Book b) {p q : Proc} : joinedR b p q = true ↔ q ∈ jn b p := by
  rw [joinedR, Bool.and_eq_true, side_is g, side_is g, mem_jn]
set_option maxRecDepth 100000 in
theorem refJoined (b : List Advert) (p q : Proc) (hb : b.length ≤ 9223372036854775807) (hp : ∀ x ∈ b, x.peers.length ≤ 9223372036854775807) : Con Try.prog 44 [.d (.ro 4 (adverts b)), .ag [.z p.node, .u p.inc], .ag [.z q.node, .u q.inc]] (DV.v (.bool (joinedR b p q))) := by
  refine Con.intro (by kernel_rfl) rfl rfl 58 rfl rfl fun w0 K ac hK r => ?_
  refine toHead (todo' := hd Try.f44 0) (E' := [(0, .d (.ro 4 (adverts b))), (4, .pt 0 0), (5, .pt 1 0), (7, .d (.v (.bool false))), (8, .d (.v (.bool false))), (9, .n 0)]) (M' := [.bx 30 [.z p.node, .u p.inc], .bx 30 [.z q.node, .u q.inc]]) tb_ok mixed_ok hK [] 2000 [0, 1] [0, 4, 5, 7, 8, 9] r (by kernel_rfl) trivial fun ac wd r => ?_
  refine Goes.rounds (Φ := fun (i : Nat) ac wd => ∃ o1 : Bool, ∃ o2 : Bool, (i ≤ b.length ∧ o1 = side b p q i ∧ o2 = side b q p i) ∧ RE' [] w0 K 58 [(0, .d (.ro 4 (adverts b))), (4, .pt 0 0), (5, .pt 1 0), (7, .d (.v (.bool o1))), (8, .d (.v (.bool o2))), (9, .n i)] [.bx 30 [.z p.node, .u p.inc], .bx 30 [.z q.node, .u q.inc]] ac wd) (b.length) ?_ (Nat.zero_le _) ⟨false, false, ⟨Nat.zero_le _, by simp [side], by simp [side]⟩, r⟩
  clear r
  rintro i hi0 again0 ac wd ⟨o1, o2, hv0, r⟩
  obtain ⟨hi1, hv2, hv3⟩ := hv0
  cases o1 with
  | false =>
    cases o2 with
    | false =>
      cases h0 : (decide ((((i : Nat) : Int) : Int) < ((b.length : Nat) : Int))) with
      | false =>
        have qh0 := of_decide_eq_false h0
        obtain rfl : i = b.length := by omega
        rw [show (DV.v (.bool (joinedR b p q)) : DV) = .v (.bool false) from (bv (by rw [joinedR, ← hv2, ← hv3]; rfl))]
        exact toRet tb_ok mixed_ok hK rfl [(3, [(2, .z (((b.length : Nat) : Int))), (3, .b false)])] 2000 r (by kernel_rfl) (an ((by simp) : (((adverts b).length : Nat) : Int) = ((b.length : Nat) : Int)) (an h0 trivial))
      | true =>
        have qh0 := of_decide_eq_true h0
        obtain ⟨e_b_i, ge_b_i⟩ : ∃ x, b[i]? = some x := ⟨_, List.getElem?_eq_getElem (by omega)⟩
        cases h1 : (decide (e_b_i.server = p)) with
        | false =>
          have qh1 := of_decide_eq_false h1
          cases h2 : (decide (e_b_i.server = q)) with
          | false =>
            have qh2 := of_decide_eq_false h2
            exact toHead (todo' := hd Try.f44 0) tb_ok mixed_ok hK [(3, [(2, .z (((b.length : Nat) : Int))), (3, .b true)]), (4, [(1, .z (((i + 1 : Nat) : Int)))]), (5, [(4, .ix (i) [.z e_b_i.server.node, .u e_b_i.server.inc, .u e_b_i.seq, .ro 2 (procs e_b_i.peers)]), (8, .b false)]), (6, [(4, .ix (i) [.z e_b_i.server.node, .u e_b_i.server.inc, .u e_b_i.seq, .ro 2 (procs e_b_i.peers)]), (8, .b false)])] 2000 [0, 1] [0, 4, 5, 7, 8, 9] r (by kernel_rfl) (an ((by simp) : (((adverts b).length : Nat) : Int) = ((b.length : Nat) : Int)) (an h0 (an (rfI ((i : Nat) : Int)) (an (adverts_at ge_b_i) (an ((eqT (eqProcD _ _) h1) : EqAgg Try.prog 30 [(.int .i64 (e_b_i.server.node)), (.int .u64 (((e_b_i.server.inc : Nat) : Int)))] [(.int .i64 (p.node)), (.int .u64 (((p.inc : Nat) : Int)))] false) (an (rfI ((i : Nat) : Int)) (an (adverts_at ge_b_i) (an ((eqT (eqProcD _ _) h2) : EqAgg Try.prog 30 [(.int .i64 (e_b_i.server.node)), (.int .u64 (((e_b_i.server.inc : Nat) : Int)))] [(.int .i64 (q.node)), (.int .u64 (((q.inc : Nat) : Int)))] false) (an ((wi (by omega)) : IntKind.i64.wrap ((((i : Nat) : Int) : Int) + 1) = ((i + 1 : Nat) : Int)) trivial))))))))) fun ac wd r => again0 (by omega) ac wd ⟨false, false, ⟨by omega, by rw [side_succ ge_b_i, ← hv2]; first | rfl | (rw [‹decide (e_b_i.server = p) = false›]; rfl) | (rw [‹decide (e_b_i.server = p) = true›, ‹decide (q ∈ e_b_i.peers) = true›]; rfl) | (rw [‹decide (e_b_i.server = p) = true›, ‹decide (q ∈ e_b_i.peers) = false›]; rfl), by rw [side_succ ge_b_i, ← hv3]; first | rfl | (rw [‹decide (e_b_i.server = q) = false›]; rfl) | (rw [‹decide (e_b_i.server = q) = true›, ‹decide (p ∈ e_b_i.peers) = true›]; rfl) | (rw [‹decide (e_b_i.server = q) = true›, ‹decide (p ∈ e_b_i.peers) = false›]; rfl)⟩, r⟩
          | true =>
            have qh2 := of_decide_eq_true h2
            cases h3 : (decide (p ∈ e_b_i.peers)) with
            | false =>
              have qh3 := of_decide_eq_false h3
              exact toHead (todo' := hd Try.f44 0) tb_ok mixed_ok hK [(3, [(2, .z (((b.length : Nat) : Int))), (3, .b true)]), (4, [(1, .z (((i + 1 : Nat) : Int)))]), (5, [(4, .ix (i) [.z e_b_i.server.node, .u e_b_i.server.inc, .u e_b_i.seq, .ro 2 (procs e_b_i.peers)]), (8, .b false)]), (6, [(4, .ix (i) [.z e_b_i.server.node, .u e_b_i.server.inc, .u e_b_i.seq, .ro 2 (procs e_b_i.peers)]), (8, .b true), (12, .ix (i) [.z e_b_i.server.node, .u e_b_i.server.inc, .u e_b_i.seq, .ro 2 (procs e_b_i.peers)]), (16, .con (.v (.bool false)))])] 2000 [0, 1] [0, 4, 5, 7, 8, 9] r (by kernel_rfl) (an ((by simp) : (((adverts b).length : Nat) : Int) = ((b.length : Nat) : Int)) (an h0 (an (rfI ((i : Nat) : Int)) (an (adverts_at ge_b_i) (an ((eqT (eqProcD _ _) h1) : EqAgg Try.prog 30 [(.int .i64 (e_b_i.server.node)), (.int .u64 (((e_b_i.server.inc : Nat) : Int)))] [(.int .i64 (p.node)), (.int .u64 (((p.inc : Nat) : Int)))] false) (an (rfI ((i : Nat) : Int)) (an (adverts_at ge_b_i) (an ((eqT (eqProcD _ _) h2) : EqAgg Try.prog 30 [(.int .i64 (e_b_i.server.node)), (.int .u64 (((e_b_i.server.inc : Nat) : Int)))] [(.int .i64 (q.node)), (.int .u64 (((q.inc : Nat) : Int)))] true) (an (rfI ((i : Nat) : Int)) (an (adverts_at ge_b_i) (an ((by have k := refHas e_b_i.peers p (hp _ (List.mem_of_getElem? ge_b_i)); rw [h3] at k; exact k) : Con Try.prog 25 [.d (.ro 2 (procs e_b_i.peers)), .ag [.z p.node, .u p.inc]] (.v (.bool false))) (an ((wi (by omega)) : IntKind.i64.wrap ((((i : Nat) : Int) : Int) + 1) = ((i + 1 : Nat) : Int)) trivial)))))))))))) fun ac wd r => again0 (by omega) ac wd ⟨false, false, ⟨by omega, by rw [side_succ ge_b_i, ← hv2]; first | rfl | (rw [‹decide (e_b_i.server = p) = false›]; rfl) | (rw [‹decide (e_b_i.server = p) = true›, ‹decide (q ∈ e_b_i.peers) = true›]; rfl) | (rw [‹decide (e_b_i.server = p) = true›, ‹decide (q ∈ e_b_i.peers) = false›]; rfl), by rw [side_succ ge_b_i, ← hv3]; first | rfl | (rw [‹decide (e_b_i.server = q) = false›]; rfl) | (rw [‹decide (e_b_i.server = q) = true›, ‹decide (p ∈ e_b_i.peers) = true›]; rfl) | (rw [‹decide (e_b_i.server = q) = true›, ‹decide (p ∈ e_b_i.peers) = false›]; rfl)⟩, r⟩
            | true =>
              have qh3 := of_decide_eq_true h3
              exact toHead (todo' := hd Try.f44 0) tb_ok mixed_ok hK [(3, [(2, .z (((b.length : Nat) : Int))), (3, .b true)]), (4, [(1, .z (((i + 1 : Nat) : Int)))]), (5, [(4, .ix (i) [.z e_b_i.server.node, .u e_b_i.server.inc, .u e_b_i.seq, .ro 2 (procs e_b_i.peers)]), (8, .b false)]), (6, [(4, .ix (i) [.z e_b_i.server.node, .u e_b_i.server.inc, .u e_b_i.seq, .ro 2 (procs e_b_i.peers)]), (8, .b true), (12, .ix (i) [.z e_b_i.server.node, .u e_b_i.server.inc, .u e_b_i.seq, .ro 2 (procs e_b_i.peers)]), (16, .con (.v (.bool true)))])] 2000 [0, 1] [0, 4, 5, 7, 8, 9] r (by kernel_rfl) (an ((by simp) : (((adverts b).length : Nat) : Int) = ((b.length : Nat) : Int)) (an h0 (an (rfI ((i : Nat) : Int)) (an (adverts_at ge_b_i) (an ((eqT (eqProcD _ _) h1) : EqAgg Try.prog 30 [(.int .i64 (e_b_i.server.node)), (.int .u64 (((e_b_i.server.inc : Nat) : Int)))] [(.int .i64 (p.node)), (.int .u64 (((p.inc : Nat) : Int)))] false) (an (rfI ((i : Nat) : Int)) (an (adverts_at ge_b_i) (an ((eqT (eqProcD _ _) h2) : EqAgg Try.prog 30 [(.int .i64 (e_b_i.server.node)), (.int .u64 (((e_b_i.server.inc : Nat) : Int)))] [(.int .i64 (q.node)), (.int .u64 (((q.inc : Nat) : Int)))] true) (an (rfI ((i : Nat) : Int)) (an (adverts_at ge_b_i) (an ((by have k := refHas e_b_i.peers p (hp _ (List.mem_of_getElem? ge_b_i)); rw [h3] at k; exact k) : Con Try.prog 25 [.d (.ro 2 (procs e_b_i.peers)), .ag [.z p.node, .u p.inc]] (.v (.bool true))) (an ((wi (by omega)) : IntKind.i64.wrap ((((i : Nat) : Int) : Int) + 1) = ((i + 1 : Nat) : Int)) trivial)))))))))))) fun ac wd r => again0 (by omega) ac wd ⟨false, true, ⟨by omega, by rw [side_succ ge_b_i, ← hv2]; first | rfl | (rw [‹decide (e_b_i.server = p) = false›]; rfl) | (rw [‹decide (e_b_i.server = p) = true›, ‹decide (q ∈ e_b_i.peers) = true›]; rfl) | (rw [‹decide (e_b_i.server = p) = true›, ‹decide (q ∈ e_b_i.peers) = false›]; rfl), by rw [side_succ ge_b_i, ← hv3]; first | rfl | (rw [‹decide (e_b_i.server = q) = false›]; rfl) | (rw [‹decide (e_b_i.server = q) = true›, ‹decide (p ∈ e_b_i.peers) = true›]; rfl) | (rw [‹decide (e_b_i.server = q) = true›, ‹decide (p ∈ e_b_i.peers) = false›]; rfl)⟩, r⟩
        | true =>
          have qh1 := of_decide_eq_true h1
          cases h4 : (decide (q ∈ e_b_i.peers)) with
          | false =>
            have qh4 := of_decide_eq_false h4
            cases h5 : (decide (e_b_i.server = q)) with
            | false =>
              have qh5 := of_decide_eq_false h5
              exact toHead (todo' := hd Try.f44 0) tb_ok mixed_ok hK [(3, [(2, .z (((b.length : Nat) : Int))), (3, .b true)]), (4, [(1, .z (((i + 1 : Nat) : Int)))]), (5, [(4, .ix (i) [.z e_b_i.server.node, .u e_b_i.server.inc, .u e_b_i.seq, .ro 2 (procs e_b_i.peers)]), (8, .b true), (12, .ix (i) [.z e_b_i.server.node, .u e_b_i.server.inc, .u e_b_i.seq, .ro 2 (procs e_b_i.peers)]), (16, .con (.v (.bool false)))]), (6, [(4, .ix (i) [.z e_b_i.server.node, .u e_b_i.server.inc, .u e_b_i.seq, .ro 2 (procs e_b_i.peers)]), (8, .b false)])] 2000 [0, 1] [0, 4, 5, 7, 8, 9] r (by kernel_rfl) (an ((by simp) : (((adverts b).length : Nat) : Int) = ((b.length : Nat) : Int)) (an h0 (an (rfI ((i : Nat) : Int)) (an (adverts_at ge_b_i) (an ((eqT (eqProcD _ _) h1) : EqAgg Try.prog 30 [(.int .i64 (e_b_i.server.node)), (.int .u64 (((e_b_i.server.inc : Nat) : Int)))] [(.int .i64 (p.node)), (.int .u64 (((p.inc : Nat) : Int)))] true) (an (rfI ((i : Nat) : Int)) (an (adverts_at ge_b_i) (an ((by have k := refHas e_b_i.peers q (hp _ (List.mem_of_getElem? ge_b_i)); rw [h4] at k; exact k) : Con Try.prog 25 [.d (.ro 2 (procs e_b_i.peers)), .ag [.z q.node, .u q.inc]] (.v (.bool false))) (an (rfI ((i : Nat) : Int)) (an (adverts_at ge_b_i) (an ((eqT (eqProcD _ _) h5) : EqAgg Try.prog 30 [(.int .i64 (e_b_i.server.node)), (.int .u64 (((e_b_i.server.inc : Nat) : Int)))] [(.int .i64 (q.node)), (.int .u64 (((q.inc : Nat) : Int)))] false) (an ((wi (by omega)) : IntKind.i64.wrap ((((i : Nat) : Int) : Int) + 1) = ((i + 1 : Nat) : Int)) trivial)))))))))))) fun ac wd r => again0 (by omega) ac wd ⟨false, false, ⟨by omega, by rw [side_succ ge_b_i, ← hv2]; first | rfl | (rw [‹decide (e_b_i.server = p) = false›]; rfl) | (rw [‹decide (e_b_i.server = p) = true›, ‹decide (q ∈ e_b_i.peers) = true›]; rfl) | (rw [‹decide (e_b_i.server = p) = true›, ‹decide (q ∈ e_b_i.peers) = false›]; rfl), by rw [side_succ ge_b_i, ← hv3]; first | rfl | (rw [‹decide (e_b_i.server = q) = false›]; rfl) | (rw [‹decide (e_b_i.server = q) = true›, ‹decide (p ∈ e_b_i.peers) = true›]; rfl) | (rw [‹decide (e_b_i.server = q) = true›, ‹decide (p ∈ e_b_i.peers) = false›]; rfl)⟩, r⟩
            | true =>
              have qh5 := of_decide_eq_true h5
              cases h6 : (decide (p ∈ e_b_i.peers)) with
              | false =>
                have qh6 := of_decide_eq_false h6
                exact toHead (todo' := hd Try.f44 0) tb_ok mixed_ok hK [(3, [(2, .z (((b.length : Nat) : Int))), (3, .b true)]), (4, [(1, .z (((i + 1 : Nat) : Int)))]), (5, [(4, .ix (i) [.z e_b_i.server.node, .u e_b_i.server.inc, .u e_b_i.seq, .ro 2 (procs e_b_i.peers)]), (8, .b true), (12, .ix (i) [.z e_b_i.server.node, .u e_b_i.server.inc, .u e_b_i.seq, .ro 2 (procs e_b_i.peers)]), (16, .con (.v (.bool false)))]), (6, [(4, .ix (i) [.z e_b_i.server.node, .u e_b_i.server.inc, .u e_b_i.seq, .ro 2 (procs e_b_i.peers)]), (8, .b true), (12, .ix (i) [.z e_b_i.server.node, .u e_b_i.server.inc, .u e_b_i.seq, .ro 2 (procs e_b_i.peers)]), (16, .con (.v (.bool false)))])] 2000 [0, 1] [0, 4, 5, 7, 8, 9] r (by kernel_rfl) (an ((by simp) : (((adverts b).length : Nat) : Int) = ((b.length : Nat) : Int)) (an h0 (an (rfI ((i : Nat) : Int)) (an (adverts_at ge_b_i) (an ((eqT (eqProcD _ _) h1) : EqAgg Try.prog 30 [(.int .i64 (e_b_i.server.node)), (.int .u64 (((e_b_i.server.inc : Nat) : Int)))] [(.int .i64 (p.node)), (.int .u64 (((p.inc : Nat) : Int)))] true) (an (rfI ((i : Nat) : Int)) (an (adverts_at ge_b_i) (an ((by have k := refHas e_b_i.peers q (hp _ (List.mem_of_getElem? ge_b_i)); rw [h4] at k; exact k) : Con Try.prog 25 [.d (.ro 2 (procs e_b_i.peers)), .ag [.z q.node, .u q.inc]] (.v (.bool false))) (an (rfI ((i : Nat) : Int)) (an (adverts_at ge_b_i) (an ((eqT (eqProcD _ _) h5) : EqAgg Try.prog 30 [(.int .i64 (e_b_i.server.node)), (.int .u64 (((e_b_i.server.inc : Nat) : Int)))] [(.int .i64 (q.node)), (.int .u64 (((q.inc : Nat) : Int)))] true) (an (rfI ((i : Nat) : Int)) (an (adverts_at ge_b_i) (an ((by have k := refHas e_b_i.peers p (hp _ (List.mem_of_getElem? ge_b_i)); rw [h6] at k; exact k) : Con Try.prog 25 [.d (.ro 2 (procs e_b_i.peers)), .ag [.z p.node, .u p.inc]] (.v (.bool false))) (an ((wi (by omega)) : IntKind.i64.wrap ((((i : Nat) : Int) : Int) + 1) = ((i + 1 : Nat) : Int)) trivial))))))))))))))) fun ac wd r => again0 (by omega) ac wd ⟨false, false, ⟨by omega, by rw [side_succ ge_b_i, ← hv2]; first | rfl | (rw [‹decide (e_b_i.server = p) = false›]; rfl) | (rw [‹decide (e_b_i.server = p) = true›, ‹decide (q ∈ e_b_i.peers) = true›]; rfl) | (rw [‹decide (e_b_i.server = p) = true›, ‹decide (q ∈ e_b_i.peers) = false›]; rfl), by rw [side_succ ge_b_i, ← hv3]; first | rfl | (rw [‹decide (e_b_i.server = q) = false›]; rfl) | (rw [‹decide (e_b_i.server = q) = true›, ‹decide (p ∈ e_b_i.peers) = true›]; rfl) | (rw [‹decide (e_b_i.server = q) = true›, ‹decide (p ∈ e_b_i.peers) = false›]; rfl)⟩, r⟩
              | true =>
                have qh6 := of_decide_eq_true h6
                exact toHead (todo' := hd Try.f44 0) tb_ok mixed_ok hK [(3, [(2, .z (((b.length : Nat) : Int))), (3, .b true)]), (4, [(1, .z (((i + 1 : Nat) : Int)))]), (5, [(4, .ix (i) [.z e_b_i.server.node, .u e_b_i.server.inc, .u e_b_i.seq, .ro 2 (procs e_b_i.peers)]), (8, .b true), (12, .ix (i) [.z e_b_i.server.node, .u e_b_i.server.inc, .u e_b_i.seq, .ro 2 (procs e_b_i.peers)]), (16, .con (.v (.bool false)))]), (6, [(4, .ix (i) [.z e_b_i.server.node, .u e_b_i.server.inc, .u e_b_i.seq, .ro 2 (procs e_b_i.peers)]), (8, .b true), (12, .ix (i) [.z e_b_i.server.node, .u e_b_i.server.inc, .u e_b_i.seq, .ro 2 (procs e_b_i.peers)]), (16, .con (.v (.bool true)))])] 2000 [0, 1] [0, 4, 5, 7, 8, 9] r (by kernel_rfl) (an ((by simp) : (((adverts b).length : Nat) : Int) = ((b.length : Nat) : Int)) (an h0 (an (rfI ((i : Nat) : Int)) (an (adverts_at ge_b_i) (an ((eqT (eqProcD _ _) h1) : EqAgg Try.prog 30 [(.int .i64 (e_b_i.server.node)), (.int .u64 (((e_b_i.server.inc : Nat) : Int)))] [(.int .i64 (p.node)), (.int .u64 (((p.inc : Nat) : Int)))] true) (an (rfI ((i : Nat) : Int)) (an (adverts_at ge_b_i) (an ((by have k := refHas e_b_i.peers q (hp _ (List.mem_of_getElem? ge_b_i)); rw [h4] at k; exact k) : Con Try.prog 25 [.d (.ro 2 (procs e_b_i.peers)), .ag [.z q.node, .u q.inc]] (.v (.bool false))) (an (rfI ((i : Nat) : Int)) (an (adverts_at ge_b_i) (an ((eqT (eqProcD _ _) h5) : EqAgg Try.prog 30 [(.int .i64 (e_b_i.server.node)), (.int .u64 (((e_b_i.server.inc : Nat) : Int)))] [(.int .i64 (q.node)), (.int .u64 (((q.inc : Nat) : Int)))] true) (an (rfI ((i : Nat) : Int)) (an (adverts_at ge_b_i) (an ((by have k := refHas e_b_i.peers p (hp _ (List.mem_of_getElem? ge_b_i)); rw [h6] at k; exact k) : Con Try.prog 25 [.d (.ro 2 (procs e_b_i.peers)), .ag [.z p.node, .u p.inc]] (.v (.bool true))) (an ((wi (by omega)) : IntKind.i64.wrap ((((i : Nat) : Int) : Int) + 1) = ((i + 1 : Nat) : Int)) trivial))))))))))))))) fun ac wd r => again0 (by omega) ac wd ⟨false, true, ⟨by omega, by rw [side_succ ge_b_i, ← hv2]; first | rfl | (rw [‹decide (e_b_i.server = p) = false›]; rfl) | (rw [‹decide (e_b_i.server = p) = true›, ‹decide (q ∈ e_b_i.peers) = true›]; rfl) | (rw [‹decide (e_b_i.server = p) = true›, ‹decide (q ∈ e_b_i.peers) = false›]; rfl), by rw [side_succ ge_b_i, ← hv3]; first | rfl | (rw [‹decide (e_b_i.server = q) = false›]; rfl) | (rw [‹decide (e_b_i.server = q) = true›, ‹decide (p ∈ e_b_i.peers) = true›]; rfl) | (rw [‹decide (e_b_i.server = q) = true›, ‹decide (p ∈ e_b_i.peers) = false›]; rfl)⟩, r⟩
          | true =>
            have qh4 := of_decide_eq_true h4
            cases h7 : (decide (e_b_i.server = q)) with
            | false =>
              have qh7 := of_decide_eq_false h7
              exact toHead (todo' := hd Try.f44 0) tb_ok mixed_ok hK [(3, [(2, .z (((b.length : Nat) : Int))), (3, .b true)]), (4, [(1, .z (((i + 1 : Nat) : Int)))]), (5, [(4, .ix (i) [.z e_b_i.server.node, .u e_b_i.server.inc, .u e_b_i.seq, .ro 2 (procs e_b_i.peers)]), (8, .b true), (12, .ix (i) [.z e_b_i.server.node, .u e_b_i.server.inc, .u e_b_i.seq, .ro 2 (procs e_b_i.peers)]), (16, .con (.v (.bool true)))]), (6, [(4, .ix (i) [.z e_b_i.server.node, .u e_b_i.server.inc, .u e_b_i.seq, .ro 2 (procs e_b_i.peers)]), (8, .b false)])] 2000 [0, 1] [0, 4, 5, 7, 8, 9] r (by kernel_rfl) (an ((by simp) : (((adverts b).length : Nat) : Int) = ((b.length : Nat) : Int)) (an h0 (an (rfI ((i : Nat) : Int)) (an (adverts_at ge_b_i) (an ((eqT (eqProcD _ _) h1) : EqAgg Try.prog 30 [(.int .i64 (e_b_i.server.node)), (.int .u64 (((e_b_i.server.inc : Nat) : Int)))] [(.int .i64 (p.node)), (.int .u64 (((p.inc : Nat) : Int)))] true) (an (rfI ((i : Nat) : Int)) (an (adverts_at ge_b_i) (an ((by have k := refHas e_b_i.peers q (hp _ (List.mem_of_getElem? ge_b_i)); rw [h4] at k; exact k) : Con Try.prog 25 [.d (.ro 2 (procs e_b_i.peers)), .ag [.z q.node, .u q.inc]] (.v (.bool true))) (an (rfI ((i : Nat) : Int)) (an (adverts_at ge_b_i) (an ((eqT (eqProcD _ _) h7) : EqAgg Try.prog 30 [(.int .i64 (e_b_i.server.node)), (.int .u64 (((e_b_i.server.inc : Nat) : Int)))] [(.int .i64 (q.node)), (.int .u64 (((q.inc : Nat) : Int)))] false) (an ((wi (by omega)) : IntKind.i64.wrap ((((i : Nat) : Int) : Int) + 1) = ((i + 1 : Nat) : Int)) trivial)))))))))))) fun ac wd r => again0 (by omega) ac wd ⟨true, false, ⟨by omega, by rw [side_succ ge_b_i, ← hv2]; first | rfl | (rw [‹decide (e_b_i.server = p) = false›]; rfl) | (rw [‹decide (e_b_i.server = p) = true›, ‹decide (q ∈ e_b_i.peers) = true›]; rfl) | (rw [‹decide (e_b_i.server = p) = true›, ‹decide (q ∈ e_b_i.peers) = false›]; rfl), by rw [side_succ ge_b_i, ← hv3]; first | rfl | (rw [‹decide (e_b_i.server = q) = false›]; rfl) | (rw [‹decide (e_b_i.server = q) = true›, ‹decide (p ∈ e_b_i.peers) = true›]; rfl) | (rw [‹decide (e_b_i.server = q) = true›, ‹decide (p ∈ e_b_i.peers) = false›]; rfl)⟩, r⟩
            | true =>
              have qh7 := of_decide_eq_true h7
              cases h8 : (decide (p ∈ e_b_i.peers)) with
              | false =>
                have qh8 := of_decide_eq_false h8
                exact toHead (todo' := hd Try.f44 0) tb_ok mixed_ok hK [(3, [(2, .z (((b.length : Nat) : Int))), (3, .b true)]), (4, [(1, .z (((i + 1 : Nat) : Int)))]), (5, [(4, .ix (i) [.z e_b_i.server.node, .u e_b_i.server.inc, .u e_b_i.seq, .ro 2 (procs e_b_i.peers)]), (8, .b true), (12, .ix (i) [.z e_b_i.server.node, .u e_b_i.server.inc, .u e_b_i.seq, .ro 2 (procs e_b_i.peers)]), (16, .con (.v (.bool true)))]), (6, [(4, .ix (i) [.z e_b_i.server.node, .u e_b_i.server.inc, .u e_b_i.seq, .ro 2 (procs e_b_i.peers)]), (8, .b true), (12, .ix (i) [.z e_b_i.server.node, .u e_b_i.server.inc, .u e_b_i.seq, .ro 2 (procs e_b_i.peers)]), (16, .con (.v (.bool false)))])] 2000 [0, 1] [0, 4, 5, 7, 8, 9] r (by kernel_rfl) (an ((by simp) : (((adverts b).length : Nat) : Int) = ((b.length : Nat) : Int)) (an h0 (an (rfI ((i : Nat) : Int)) (an (adverts_at ge_b_i) (an ((eqT (eqProcD _ _) h1) : EqAgg Try.prog 30 [(.int .i64 (e_b_i.server.node)), (.int .u64 (((e_b_i.server.inc : Nat) : Int)))] [(.int .i64 (p.node)), (.int .u64 (((p.inc : Nat) : Int)))] true) (an (rfI ((i : Nat) : Int)) (an (adverts_at ge_b_i) (an ((by have k := refHas e_b_i.peers q (hp _ (List.mem_of_getElem? ge_b_i)); rw [h4] at k; exact k) : Con Try.prog 25 [.d (.ro 2 (procs e_b_i.peers)), .ag [.z q.node, .u q.inc]] (.v (.bool true))) (an (rfI ((i : Nat) : Int)) (an (adverts_at ge_b_i) (an ((eqT (eqProcD _ _) h7) : EqAgg Try.prog 30 [(.int .i64 (e_b_i.server.node)), (.int .u64 (((e_b_i.server.inc : Nat) : Int)))] [(.int .i64 (q.node)), (.int .u64 (((q.inc : Nat) : Int)))] true) (an (rfI ((i : Nat) : Int)) (an (adverts_at ge_b_i) (an ((by have k := refHas e_b_i.peers p (hp _ (List.mem_of_getElem? ge_b_i)); rw [h8] at k; exact k) : Con Try.prog 25 [.d (.ro 2 (procs e_b_i.peers)), .ag [.z p.node, .u p.inc]] (.v (.bool false))) (an ((wi (by omega)) : IntKind.i64.wrap ((((i : Nat) : Int) : Int) + 1) = ((i + 1 : Nat) : Int)) trivial))))))))))))))) fun ac wd r => again0 (by omega) ac wd ⟨true, false, ⟨by omega, by rw [side_succ ge_b_i, ← hv2]; first | rfl | (rw [‹decide (e_b_i.server = p) = false›]; rfl) | (rw [‹decide (e_b_i.server = p) = true›, ‹decide (q ∈ e_b_i.peers) = true›]; rfl) | (rw [‹decide (e_b_i.server = p) = true›, ‹decide (q ∈ e_b_i.peers) = false›]; rfl), by rw [side_succ ge_b_i, ← hv3]; first | rfl | (rw [‹decide (e_b_i.server = q) = false›]; rfl) | (rw [‹decide (e_b_i.server = q) = true›, ‹decide (p ∈ e_b_i.peers) = true›]; rfl) | (rw [‹decide (e_b_i.server = q) = true›, ‹decide (p ∈ e_b_i.peers) = false›]; rfl)⟩, r⟩
              | true =>
                have qh8 := of_decide_eq_true h8
                exact toHead (todo' := hd Try.f44 0) tb_ok mixed_ok hK [(3, [(2, .z (((b.length : Nat) : Int))), (3, .b true)]), (4, [(1, .z (((i + 1 : Nat) : Int)))]), (5, [(4, .ix (i) [.z e_b_i.server.node, .u e_b_i.server.inc, .u e_b_i.seq, .ro 2 (procs e_b_i.peers)]), (8, .b true), (12, .ix (i) [.z e_b_i.server.node, .u e_b_i.server.inc, .u e_b_i.seq, .ro 2 (procs e_b_i.peers)]), (16, .con (.v (.bool true)))]), (6, [(4, .ix (i) [.z e_b_i.server.node, .u e_b_i.server.inc, .u e_b_i.seq, .ro 2 (procs e_b_i.peers)]), (8, .b true), (12, .ix (i) [.z e_b_i.server.node, .u e_b_i.server.inc, .u e_b_i.seq, .ro 2 (procs e_b_i.peers)]), (16, .con (.v (.bool true)))])] 2000 [0, 1] [0, 4, 5, 7, 8, 9] r (by kernel_rfl) (an ((by simp) : (((adverts b).length : Nat) : Int) = ((b.length : Nat) : Int)) (an h0 (an (rfI ((i : Nat) : Int)) (an (adverts_at ge_b_i) (an ((eqT (eqProcD _ _) h1) : EqAgg Try.prog 30 [(.int .i64 (e_b_i.server.node)), (.int .u64 (((e_b_i.server.inc : Nat) : Int)))] [(.int .i64 (p.node)), (.int .u64 (((p.inc : Nat) : Int)))] true) (an (rfI ((i : Nat) : Int)) (an (adverts_at ge_b_i) (an ((by have k := refHas e_b_i.peers q (hp _ (List.mem_of_getElem? ge_b_i)); rw [h4] at k; exact k) : Con Try.prog 25 [.d (.ro 2 (procs e_b_i.peers)), .ag [.z q.node, .u q.inc]] (.v (.bool true))) (an (rfI ((i : Nat) : Int)) (an (adverts_at ge_b_i) (an ((eqT (eqProcD _ _) h7) : EqAgg Try.prog 30 [(.int .i64 (e_b_i.server.node)), (.int .u64 (((e_b_i.server.inc : Nat) : Int)))] [(.int .i64 (q.node)), (.int .u64 (((q.inc : Nat) : Int)))] true) (an (rfI ((i : Nat) : Int)) (an (adverts_at ge_b_i) (an ((by have k := refHas e_b_i.peers p (hp _ (List.mem_of_getElem? ge_b_i)); rw [h8] at k; exact k) : Con Try.prog 25 [.d (.ro 2 (procs e_b_i.peers)), .ag [.z p.node, .u p.inc]] (.v (.bool true))) (an ((wi (by omega)) : IntKind.i64.wrap ((((i : Nat) : Int) : Int) + 1) = ((i + 1 : Nat) : Int)) trivial))))))))))))))) fun ac wd r => again0 (by omega) ac wd ⟨true, true, ⟨by omega, by rw [side_succ ge_b_i, ← hv2]; first | rfl | (rw [‹decide (e_b_i.server = p) = false›]; rfl) | (rw [‹decide (e_b_i.server = p) = true›, ‹decide (q ∈ e_b_i.peers) = true›]; rfl) | (rw [‹decide (e_b_i.server = p) = true›, ‹decide (q ∈ e_b_i.peers) = false›]; rfl), by rw [side_succ ge_b_i, ← hv3]; first | rfl | (rw [‹decide (e_b_i.server = q) = false›]; rfl) | (rw [‹decide (e_b_i.server = q) = true›, ‹decide (p ∈ e_b_i.peers) = true›]; rfl) | (rw [‹decide (e_b_i.server = q) = true›, ‹decide (p ∈ e_b_i.peers) = false›]; rfl)⟩, r⟩
    | true =>
      cases h9 : (decide ((((i : Nat) : Int) : Int) < ((b.length : Nat) : Int))) with
      | false =>
        have qh9 := of_decide_eq_false h9
        obtain rfl : i = b.length := by omega
        rw [show (DV.v (.bool (joinedR b p q)) : DV) = .v (.bool false) from (bv (by rw [joinedR, ← hv2, ← hv3]; rfl))]
        exact toRet tb_ok mixed_ok hK rfl [(3, [(2, .z (((b.length : Nat) : Int))), (3, .b false)])] 2000 r (by kernel_rfl) (an ((by simp) : (((adverts b).length : Nat) : Int) = ((b.length : Nat) : Int)) (an h9 trivial))
      | true =>
        have qh9 := of_decide_eq_true h9
        obtain ⟨e_b_i, ge_b_i⟩ : ∃ x, b[i]? = some x := ⟨_, List.getElem?_eq_getElem (by omega)⟩
        cases h10 : (decide (e_b_i.server = p)) with
        | false =>
          have qh10 := of_decide_eq_false h10
          exact toHead (todo' := hd Try.f44 0) tb_ok mixed_ok hK [(3, [(2, .z (((b.length : Nat) : Int))), (3, .b true)]), (4, [(1, .z (((i + 1 : Nat) : Int)))]), (5, [(4, .ix (i) [.z e_b_i.server.node, .u e_b_i.server.inc, .u e_b_i.seq, .ro 2 (procs e_b_i.peers)]), (8, .b false)])] 2000 [0, 1] [0, 4, 5, 7, 8, 9] r (by kernel_rfl) (an ((by simp) : (((adverts b).length : Nat) : Int) = ((b.length : Nat) : Int)) (an h9 (an (rfI ((i : Nat) : Int)) (an (adverts_at ge_b_i) (an ((eqT (eqProcD _ _) h10) : EqAgg Try.prog 30 [(.int .i64 (e_b_i.server.node)), (.int .u64 (((e_b_i.server.inc : Nat) : Int)))] [(.int .i64 (p.node)), (.int .u64 (((p.inc : Nat) : Int)))] false) (an ((wi (by omega)) : IntKind.i64.wrap ((((i : Nat) : Int) : Int) + 1) = ((i + 1 : Nat) : Int)) trivial)))))) fun ac wd r => again0 (by omega) ac wd ⟨false, true, ⟨by omega, by rw [side_succ ge_b_i, ← hv2]; first | rfl | (rw [‹decide (e_b_i.server = p) = false›]; rfl) | (rw [‹decide (e_b_i.server = p) = true›, ‹decide (q ∈ e_b_i.peers) = true›]; rfl) | (rw [‹decide (e_b_i.server = p) = true›, ‹decide (q ∈ e_b_i.peers) = false›]; rfl), by rw [side_succ ge_b_i, ← hv3]; first | rfl | (rw [‹decide (e_b_i.server = q) = false›]; rfl) | (rw [‹decide (e_b_i.server = q) = true›, ‹decide (p ∈ e_b_i.peers) = true›]; rfl) | (rw [‹decide (e_b_i.server = q) = true›, ‹decide (p ∈ e_b_i.peers) = false›]; rfl)⟩, r⟩
        | true =>
          have qh10 := of_decide_eq_true h10
          cases h11 : (decide (q ∈ e_b_i.peers)) with
          | false =>
            have qh11 := of_decide_eq_false h11
            exact toHead (todo' := hd Try.f44 0) tb_ok mixed_ok hK [(3, [(2, .z (((b.length : Nat) : Int))), (3, .b true)]), (4, [(1, .z (((i + 1 : Nat) : Int)))]), (5, [(4, .ix (i) [.z e_b_i.server.node, .u e_b_i.server.inc, .u e_b_i.seq, .ro 2 (procs e_b_i.peers)]), (8, .b true), (12, .ix (i) [.z e_b_i.server.node, .u e_b_i.server.inc, .u e_b_i.seq, .ro 2 (procs e_b_i.peers)]), (16, .con (.v (.bool false)))])] 2000 [0, 1] [0, 4, 5, 7, 8, 9] r (by kernel_rfl) (an ((by simp) : (((adverts b).length : Nat) : Int) = ((b.length : Nat) : Int)) (an h9 (an (rfI ((i : Nat) : Int)) (an (adverts_at ge_b_i) (an ((eqT (eqProcD _ _) h10) : EqAgg Try.prog 30 [(.int .i64 (e_b_i.server.node)), (.int .u64 (((e_b_i.server.inc : Nat) : Int)))] [(.int .i64 (p.node)), (.int .u64 (((p.inc : Nat) : Int)))] true) (an (rfI ((i : Nat) : Int)) (an (adverts_at ge_b_i) (an ((by have k := refHas e_b_i.peers q (hp _ (List.mem_of_getElem? ge_b_i)); rw [h11] at k; exact k) : Con Try.prog 25 [.d (.ro 2 (procs e_b_i.peers)), .ag [.z q.node, .u q.inc]] (.v (.bool false))) (an ((wi (by omega)) : IntKind.i64.wrap ((((i : Nat) : Int) : Int) + 1) = ((i + 1 : Nat) : Int)) trivial))))))))) fun ac wd r => again0 (by omega) ac wd ⟨false, true, ⟨by omega, by rw [side_succ ge_b_i, ← hv2]; first | rfl | (rw [‹decide (e_b_i.server = p) = false›]; rfl) | (rw [‹decide (e_b_i.server = p) = true›, ‹decide (q ∈ e_b_i.peers) = true›]; rfl) | (rw [‹decide (e_b_i.server = p) = true›, ‹decide (q ∈ e_b_i.peers) = false›]; rfl), by rw [side_succ ge_b_i, ← hv3]; first | rfl | (rw [‹decide (e_b_i.server = q) = false›]; rfl) | (rw [‹decide (e_b_i.server = q) = true›, ‹decide (p ∈ e_b_i.peers) = true›]; rfl) | (rw [‹decide (e_b_i.server = q) = true›, ‹decide (p ∈ e_b_i.peers) = false›]; rfl)⟩, r⟩
          | true =>
            have qh11 := of_decide_eq_true h11
            exact toHead (todo' := hd Try.f44 0) tb_ok mixed_ok hK [(3, [(2, .z (((b.length : Nat) : Int))), (3, .b true)]), (4, [(1, .z (((i + 1 : Nat) : Int)))]), (5, [(4, .ix (i) [.z e_b_i.server.node, .u e_b_i.server.inc, .u e_b_i.seq, .ro 2 (procs e_b_i.peers)]), (8, .b true), (12, .ix (i) [.z e_b_i.server.node, .u e_b_i.server.inc, .u e_b_i.seq, .ro 2 (procs e_b_i.peers)]), (16, .con (.v (.bool true)))])] 2000 [0, 1] [0, 4, 5, 7, 8, 9] r (by kernel_rfl) (an ((by simp) : (((adverts b).length : Nat) : Int) = ((b.length : Nat) : Int)) (an h9 (an (rfI ((i : Nat) : Int)) (an (adverts_at ge_b_i) (an ((eqT (eqProcD _ _) h10) : EqAgg Try.prog 30 [(.int .i64 (e_b_i.server.node)), (.int .u64 (((e_b_i.server.inc : Nat) : Int)))] [(.int .i64 (p.node)), (.int .u64 (((p.inc : Nat) : Int)))] true) (an (rfI ((i : Nat) : Int)) (an (adverts_at ge_b_i) (an ((by have k := refHas e_b_i.peers q (hp _ (List.mem_of_getElem? ge_b_i)); rw [h11] at k; exact k) : Con Try.prog 25 [.d (.ro 2 (procs e_b_i.peers)), .ag [.z q.node, .u q.inc]] (.v (.bool true))) (an ((wi (by omega)) : IntKind.i64.wrap ((((i : Nat) : Int) : Int) + 1) = ((i + 1 : Nat) : Int)) trivial))))))))) fun ac wd r => again0 (by omega) ac wd ⟨true, true, ⟨by omega, by rw [side_succ ge_b_i, ← hv2]; first | rfl | (rw [‹decide (e_b_i.server = p) = false›]; rfl) | (rw [‹decide (e_b_i.server = p) = true›, ‹decide (q ∈ e_b_i.peers) = true›]; rfl) | (rw [‹decide (e_b_i.server = p) = true›, ‹decide (q ∈ e_b_i.peers) = false›]; rfl), by rw [side_succ ge_b_i, ← hv3]; first | rfl | (rw [‹decide (e_b_i.server = q) = false›]; rfl) | (rw [‹decide (e_b_i.server = q) = true›, ‹decide (p ∈ e_b_i.peers) = true›]; rfl) | (rw [‹decide (e_b_i.server = q) = true›, ‹decide (p ∈ e_b_i.peers) = false›]; rfl)⟩, r⟩
  | true =>
    cases o2 with
    | false =>
      cases h12 : (decide ((((i : Nat) : Int) : Int) < ((b.length : Nat) : Int))) with
      | false =>
        have qh12 := of_decide_eq_false h12
        obtain rfl : i = b.length := by omega
        rw [show (DV.v (.bool (joinedR b p q)) : DV) = .v (.bool false) from (bv (by rw [joinedR, ← hv2, ← hv3]; rfl))]
        exact toRet tb_ok mixed_ok hK rfl [(3, [(2, .z (((b.length : Nat) : Int))), (3, .b false)])] 2000 r (by kernel_rfl) (an ((by simp) : (((adverts b).length : Nat) : Int) = ((b.length : Nat) : Int)) (an h12 trivial))
      | true =>
        have qh12 := of_decide_eq_true h12
        obtain ⟨e_b_i, ge_b_i⟩ : ∃ x, b[i]? = some x := ⟨_, List.getElem?_eq_getElem (by omega)⟩
        cases h13 : (decide (e_b_i.server = q)) with
        | false =>
          have qh13 := of_decide_eq_false h13
          exact toHead (todo' := hd Try.f44 0) tb_ok mixed_ok hK [(3, [(2, .z (((b.length : Nat) : Int))), (3, .b true)]), (4, [(1, .z (((i + 1 : Nat) : Int)))]), (6, [(4, .ix (i) [.z e_b_i.server.node, .u e_b_i.server.inc, .u e_b_i.seq, .ro 2 (procs e_b_i.peers)]), (8, .b false)])] 2000 [0, 1] [0, 4, 5, 7, 8, 9] r (by kernel_rfl) (an ((by simp) : (((adverts b).length : Nat) : Int) = ((b.length : Nat) : Int)) (an h12 (an (rfI ((i : Nat) : Int)) (an (adverts_at ge_b_i) (an ((eqT (eqProcD _ _) h13) : EqAgg Try.prog 30 [(.int .i64 (e_b_i.server.node)), (.int .u64 (((e_b_i.server.inc : Nat) : Int)))] [(.int .i64 (q.node)), (.int .u64 (((q.inc : Nat) : Int)))] false) (an ((wi (by omega)) : IntKind.i64.wrap ((((i : Nat) : Int) : Int) + 1) = ((i + 1 : Nat) : Int)) trivial)))))) fun ac wd r => again0 (by omega) ac wd ⟨true, false, ⟨by omega, by rw [side_succ ge_b_i, ← hv2]; first | rfl | (rw [‹decide (e_b_i.server = p) = false›]; rfl) | (rw [‹decide (e_b_i.server = p) = true›, ‹decide (q ∈ e_b_i.peers) = true›]; rfl) | (rw [‹decide (e_b_i.server = p) = true›, ‹decide (q ∈ e_b_i.peers) = false›]; rfl), by rw [side_succ ge_b_i, ← hv3]; first | rfl | (rw [‹decide (e_b_i.server = q) = false›]; rfl) | (rw [‹decide (e_b_i.server = q) = true›, ‹decide (p ∈ e_b_i.peers) = true›]; rfl) | (rw [‹decide (e_b_i.server = q) = true›, ‹decide (p ∈ e_b_i.peers) = false›]; rfl)⟩, r⟩
        | true =>
          have qh13 := of_decide_eq_true h13
          cases h14 : (decide (p ∈ e_b_i.peers)) with
          | false =>
            have qh14 := of_decide_eq_false h14
            exact toHead (todo' := hd Try.f44 0) tb_ok mixed_ok hK [(3, [(2, .z (((b.length : Nat) : Int))), (3, .b true)]), (4, [(1, .z (((i + 1 : Nat) : Int)))]), (6, [(4, .ix (i) [.z e_b_i.server.node, .u e_b_i.server.inc, .u e_b_i.seq, .ro 2 (procs e_b_i.peers)]), (8, .b true), (12, .ix (i) [.z e_b_i.server.node, .u e_b_i.server.inc, .u e_b_i.seq, .ro 2 (procs e_b_i.peers)]), (16, .con (.v (.bool false)))])] 2000 [0, 1] [0, 4, 5, 7, 8, 9] r (by kernel_rfl) (an ((by simp) : (((adverts b).length : Nat) : Int) = ((b.length : Nat) : Int)) (an h12 (an (rfI ((i : Nat) : Int)) (an (adverts_at ge_b_i) (an ((eqT (eqProcD _ _) h13) : EqAgg Try.prog 30 [(.int .i64 (e_b_i.server.node)), (.int .u64 (((e_b_i.server.inc : Nat) : Int)))] [(.int .i64 (q.node)), (.int .u64 (((q.inc : Nat) : Int)))] true) (an (rfI ((i : Nat) : Int)) (an (adverts_at ge_b_i) (an ((by have k := refHas e_b_i.peers p (hp _ (List.mem_of_getElem? ge_b_i)); rw [h14] at k; exact k) : Con Try.prog 25 [.d (.ro 2 (procs e_b_i.peers)), .ag [.z p.node, .u p.inc]] (.v (.bool false))) (an ((wi (by omega)) : IntKind.i64.wrap ((((i : Nat) : Int) : Int) + 1) = ((i + 1 : Nat) : Int)) trivial))))))))) fun ac wd r => again0 (by omega) ac wd ⟨true, false, ⟨by omega, by rw [side_succ ge_b_i, ← hv2]; first | rfl | (rw [‹decide (e_b_i.server = p) = false›]; rfl) | (rw [‹decide (e_b_i.server = p) = true›, ‹decide (q ∈ e_b_i.peers) = true›]; rfl) | (rw [‹decide (e_b_i.server = p) = true›, ‹decide (q ∈ e_b_i.peers) = false›]; rfl), by rw [side_succ ge_b_i, ← hv3]; first | rfl | (rw [‹decide (e_b_i.server = q) = false›]; rfl) | (rw [‹decide (e_b_i.server = q) = true›, ‹decide (p ∈ e_b_i.peers) = true›]; rfl) | (rw [‹decide (e_b_i.server = q) = true›, ‹decide (p ∈ e_b_i.peers) = false›]; rfl)⟩, r⟩
          | true =>
            have qh14 := of_decide_eq_true h14
            exact toHead (todo' := hd Try.f44 0) tb_ok mixed_ok hK [(3, [(2, .z (((b.length : Nat) : Int))), (3, .b true)]), (4, [(1, .z (((i + 1 : Nat) : Int)))]), (6, [(4, .ix (i) [.z e_b_i.server.node, .u e_b_i.server.inc, .u e_b_i.seq, .ro 2 (procs e_b_i.peers)]), (8, .b true), (12, .ix (i) [.z e_b_i.server.node, .u e_b_i.server.inc, .u e_b_i.seq, .ro 2 (procs e_b_i.peers)]), (16, .con (.v (.bool true)))])] 2000 [0, 1] [0, 4, 5, 7, 8, 9] r (by kernel_rfl) (an ((by simp) : (((adverts b).length : Nat) : Int) = ((b.length : Nat) : Int)) (an h12 (an (rfI ((i : Nat) : Int)) (an (adverts_at ge_b_i) (an ((eqT (eqProcD _ _) h13) : EqAgg Try.prog 30 [(.int .i64 (e_b_i.server.node)), (.int .u64 (((e_b_i.server.inc : Nat) : Int)))] [(.int .i64 (q.node)), (.int .u64 (((q.inc : Nat) : Int)))] true) (an (rfI ((i : Nat) : Int)) (an (adverts_at ge_b_i) (an ((by have k := refHas e_b_i.peers p (hp _ (List.mem_of_getElem? ge_b_i)); rw [h14] at k; exact k) : Con Try.prog 25 [.d (.ro 2 (procs e_b_i.peers)), .ag [.z p.node, .u p.inc]] (.v (.bool true))) (an ((wi (by omega)) : IntKind.i64.wrap ((((i : Nat) : Int) : Int) + 1) = ((i + 1 : Nat) : Int)) trivial))))))))) fun ac wd r => again0 (by omega) ac wd ⟨true, true, ⟨by omega, by rw [side_succ ge_b_i, ← hv2]; first | rfl | (rw [‹decide (e_b_i.server = p) = false›]; rfl) | (rw [‹decide (e_b_i.server = p) = true›, ‹decide (q ∈ e_b_i.peers) = true›]; rfl) | (rw [‹decide (e_b_i.server = p) = true›, ‹decide (q ∈ e_b_i.peers) = false›]; rfl), by rw [side_succ ge_b_i, ← hv3]; first | rfl | (rw [‹decide (e_b_i.server = q) = false›]; rfl) | (rw [‹decide (e_b_i.server = q) = true›, ‹decide (p ∈ e_b_i.peers) = true›]; rfl) | (rw [‹decide (e_b_i.server = q) = true›, ‹decide (p ∈ e_b_i.peers) = false›]; rfl)⟩, r⟩
    | true =>
      cases h15 : (decide ((((i : Nat) : Int) : Int) < ((b.length : Nat) : Int))) with
      | false =>
        have qh15 := of_decide_eq_false h15
        obtain rfl : i = b.length := by omega
        rw [show (DV.v (.bool (joinedR b p q)) : DV) = .v (.bool true) from (bv (by rw [joinedR, ← hv2, ← hv3]; rfl))]
        exact toRet tb_ok mixed_ok hK rfl [(3, [(2, .z (((b.length : Nat) : Int))), (3, .b false)])] 2000 r (by kernel_rfl) (an ((by simp) : (((adverts b).length : Nat) : Int) = ((b.length : Nat) : Int)) (an h15 trivial))
      | true =>
        have qh15 := of_decide_eq_true h15
        obtain ⟨e_b_i, ge_b_i⟩ : ∃ x, b[i]? = some x := ⟨_, List.getElem?_eq_getElem (by omega)⟩
        exact toHead (todo' := hd Try.f44 0) tb_ok mixed_ok hK [(3, [(2, .z (((b.length : Nat) : Int))), (3, .b true)]), (4, [(1, .z (((i + 1 : Nat) : Int)))])] 2000 [0, 1] [0, 4, 5, 7, 8, 9] r (by kernel_rfl) (an ((by simp) : (((adverts b).length : Nat) : Int) = ((b.length : Nat) : Int)) (an h15 (an ((wi (by omega)) : IntKind.i64.wrap ((((i : Nat) : Int) : Int) + 1) = ((i + 1 : Nat) : Int)) trivial))) fun ac wd r => again0 (by omega) ac wd ⟨true, true, ⟨by omega, by rw [side_succ ge_b_i, ← hv2]; first | rfl | (rw [‹decide (e_b_i.server = p) = false›]; rfl) | (rw [‹decide (e_b_i.server = p) = true›, ‹decide (q ∈ e_b_i.peers) = true›]; rfl) | (rw [‹decide (e_b_i.server = p) = true›, ‹decide (q ∈ e_b_i.peers) = false›]; rfl), by rw [side_succ ge_b_i, ← hv3]; first | rfl | (rw [‹decide (e_b_i.server = q) = false›]; rfl) | (rw [‹decide (e_b_i.server = q) = true›, ‹decide (p ∈ e_b_i.peers) = true›]; rfl) | (rw [‹decide (e_b_i.server = q) = true›, ‹decide (p ∈ e_b_i.peers) = false›]; rfl)⟩, r⟩
def Proc.low (p : Proc) : Bool := p.may && decide (p.node ≤ 4)
set_option maxRecDepth 100000 in
theorem refSrv (p : Proc) : Con Try.prog 40 [.ag [.z p.node, .u p.inc]] (DV.v (.bool p.low)) := by
  refine Con.intro (by kernel_rfl) rfl rfl 10 rfl rfl fun w0 K ac hK r => ?_
  cases h0 : (p.may) with
  | false =>
    rw [show (DV.v (.bool p.low) : DV) = .v (.bool false) from (bv (by unfold Proc.low; first | (rw [‹p.may = false›]; rfl) | (rw [‹p.may = true›, Bool.true_and]; first | (apply decide_eq_true; omega) | (apply decide_eq_false; omega))))]
    exact toRet tb_ok mixed_ok hK rfl [(1, [(1, .con (.v (.bool false)))])] 2000 r (by kernel_rfl) (an ((by have k := refProcMay p; rw [h0] at k; exact k) : Con Try.prog 55 [.ag [.z p.node, .u p.inc]] (.v (.bool false))) trivial)
  | true =>
    cases h1 : (decide ((p.node : Int) ≤ 4)) with
    | false =>
      have qh1 := of_decide_eq_false h1
      rw [show (DV.v (.bool p.low) : DV) = .v (.bool false) from (bv (by unfold Proc.low; first | (rw [‹p.may = false›]; rfl) | (rw [‹p.may = true›, Bool.true_and]; first | (apply decide_eq_true; omega) | (apply decide_eq_false; omega))))]
      exact toRet tb_ok mixed_ok hK rfl [(1, [(1, .con (.v (.bool true))), (5, .b false)])] 2000 r (by kernel_rfl) (an ((by have k := refProcMay p; rw [h0] at k; exact k) : Con Try.prog 55 [.ag [.z p.node, .u p.inc]] (.v (.bool true))) (an h1 trivial))
    | true =>
      have qh1 := of_decide_eq_true h1
      rw [show (DV.v (.bool p.low) : DV) = .v (.bool true) from (bv (by unfold Proc.low; first | (rw [‹p.may = false›]; rfl) | (rw [‹p.may = true›, Bool.true_and]; first | (apply decide_eq_true; omega) | (apply decide_eq_false; omega))))]
      exact toRet tb_ok mixed_ok hK rfl [(1, [(1, .con (.v (.bool true))), (5, .b true)])] 2000 r (by kernel_rfl) (an ((by have k := refProcMay p; rw [h0] at k; exact k) : Con Try.prog 55 [.ag [.z p.node, .u p.inc]] (.v (.bool true))) (an h1 trivial))
def nbTo (b : List Advert) (r : Proc) (k : Nat) : List Proc := ((b.take k).filter fun a => joinedR b r a.server).map Advert.server
theorem nbTo_yes {b : List Advert} {r : Proc} {k : Nat} {a : Advert} (h : b[k]? = some a) (hj : joinedR b r a.server = true) : nbTo b r (k + 1) = nbTo b r k ++ [a.server] := by
  obtain ⟨hi, rfl⟩ := List.getElem?_eq_some_iff.1 h
  rw [nbTo, List.take_succ_eq_append_getElem hi, List.filter_append, List.filter_cons, if_pos hj, List.map_append]; rfl
theorem nbTo_no {b : List Advert} {r : Proc} {k : Nat} {a : Advert} (h : b[k]? = some a) (hj : joinedR b r a.server = false) : nbTo b r (k + 1) = nbTo b r k := by
  obtain ⟨hi, rfl⟩ := List.getElem?_eq_some_iff.1 h
  rw [nbTo, List.take_succ_eq_append_getElem hi, List.filter_append, List.filter_cons, if_neg (by rw [hj]; decide), List.filter_nil, List.append_nil]; rfl
def moreTo (b : List Advert) (l : List Proc) (i : Nat) : List Proc := (l.take i).flatMap fun r => nbTo b r b.length
theorem moreTo_succ {b : List Advert} {l : List Proc} {i : Nat} {r : Proc} (h : l[i]? = some r) : moreTo b l (i + 1) = moreTo b l i ++ nbTo b r b.length := by
  obtain ⟨hi, rfl⟩ := List.getElem?_eq_some_iff.1 h
  rw [moreTo, List.take_succ_eq_append_getElem hi, List.flatMap_append]; simp [moreTo]
def met (b : List Advert) (p : Proc) : Nat → List Proc
  | 0 => [p]
  | n + 1 => srt (met b p n ++ moreTo b (met b p n) (met b p n).length)
theorem nbTo_len (b : List Advert) (r : Proc) (k : Nat) : (nbTo b r k).length ≤ b.length := by
  unfold nbTo; rw [List.length_map]
  exact Nat.le_trans (List.length_filter_le _ _) (by simp; omega)
theorem moreTo_len (b : List Advert) (l : List Proc) : ∀ i, (moreTo b l i).length ≤ i * b.length
  | 0 => by simp [moreTo]
  | i + 1 => by
    have ih := moreTo_len b l i
    rcases Nat.lt_or_ge i l.length with h | h
    · rw [moreTo_succ (List.getElem?_eq_getElem h), List.length_append, Nat.succ_mul]
      have := nbTo_len b l[i] b.length; omega
    · have : moreTo b l (i + 1) = moreTo b l i := by rw [moreTo, moreTo, List.take_of_length_le (by omega), List.take_of_length_le h]
      rw [this, Nat.succ_mul]; omega
theorem met_who {b : List Advert} {p q : Proc} : ∀ {n : Nat}, q ∈ met b p n → q ∈ p :: b.map Advert.server
  | 0, h => by simp only [met, List.mem_singleton] at h; rw [h]; exact List.mem_cons_self
  | n + 1, h => by
    rw [met, mem_srt, List.mem_append] at h
    rcases h with h | h
    · exact met_who h
    · unfold moreTo at h
      obtain ⟨r, -, hr⟩ := List.mem_flatMap.1 h
      obtain ⟨a, ha, rfl⟩ := List.mem_map.1 hr
      exact List.mem_cons_of_mem _ (List.mem_map.2 ⟨a, List.mem_of_mem_take (List.mem_filter.1 ha).1, rfl⟩)
theorem met_len {b : List Advert} (g : Book b) (p : Proc) (n : Nat) : (met b p n).length ≤ 5 := by
  have hn : (met b p n).Nodup := by
    cases n with
    | zero => simp [met]
    | succ n => exact (srt_ss _).nodup
  have := nodup_sub hn (m := p :: b.map Advert.server) fun q hq => met_who hq
  have := g.len
  simp at *; omega
theorem met_is {b : List Advert} (g : Book b) {p : Proc} : ∀ {n : Nat} {q : Proc}, q ∈ met b p n ↔ Can b p n q
  | 0, q => by simp [met, Can]
  | n + 1, q => by
    rw [met, mem_srt, List.mem_append, met_is g, Can]
    have : q ∈ moreTo b (met b p n) (met b p n).length ↔ ∃ r, Can b p n r ∧ q ∈ jn b r := by
      unfold moreTo
      rw [List.take_length, List.mem_flatMap]
      constructor
      · rintro ⟨r, h1, h2⟩
        unfold nbTo at h2
        rw [List.take_length] at h2
        obtain ⟨a, ha, rfl⟩ := List.mem_map.1 h2
        exact ⟨r, (met_is g).1 h1, (joinedR_is g).1 (List.mem_filter.1 ha).2⟩
      · rintro ⟨r, h1, h2⟩
        obtain ⟨a, ha, rfl⟩ := jn_server h2
        refine ⟨r, (met_is g).2 h1, ?_⟩
        unfold nbTo
        rw [List.take_length]
        exact List.mem_map.2 ⟨a, List.mem_filter.2 ⟨ha, (joinedR_is g).2 h2⟩, rfl⟩
    rw [this]
def stepsR (b : List Advert) (p q : Proc) : Int := match (List.range 5).find? (fun n => decide (q ∈ met b p n)) with | some n => (n : Int) | none => -1
theorem stepsR_at {b : List Advert} {p q : Proc} {n : Nat} (hn : n < 5) (h : q ∈ met b p n) (hb : ∀ k, k < n → q ∉ met b p k) : stepsR b p q = (n : Int) := by
  have : (List.range 5).find? (fun n => decide (q ∈ met b p n)) = some n := by
    rw [List.find?_eq_some_iff_getElem]
    exact ⟨decide_eq_true h, n, by simpa using hn, by simp, fun j hj => by simpa using hb j hj⟩
  rw [stepsR, this]
theorem stepsR_none {b : List Advert} {p q : Proc} (hb : ∀ k, k < 5 → q ∉ met b p k) : stepsR b p q = -1 := by
  have : (List.range 5).find? (fun n => decide (q ∈ met b p n)) = none := by
    rw [List.find?_eq_none]; intro k hk; simpa using hb k (by simpa using hk)
  rw [stepsR, this]
theorem ind_procs (T : Nat) (l : List Proc) : Ind (.em T 2 (procs l)) := by
  intro K K' y H h
  cases h with
  | em X F hl hs hr =>
    refine .em X F hl hs fun i r j c x h1 h2 h3 => ?_
    have := hr i r j c x h1 h2 h3
    rw [List.getElem?_map, Option.map_eq_some_iff] at h1
    obtain ⟨p, -, rfl⟩ := h1
    unfold Proc.row at h2
    match j with
    | 0 => simp at h2; subst h2; exact (ind_v _) _ _ _ _ this
    | 1 => simp at h2; subst h2; exact (ind_v _) _ _ _ _ this
    | j + 2 => simp at h2
set_option maxRecDepth 100000 in
theorem refSteps (b : List Advert) (p q : Proc) (g : Book b) : Con Try.prog 41 [.d (.ro 4 (adverts b)), .ag [.z p.node, .u p.inc], .ag [.z q.node, .u q.inc]] (DV.v (.int .i64 (stepsR b p q))) := by
  refine Con.intro (by kernel_rfl) rfl rfl 58 rfl rfl fun w0 K ac hK r => ?_
  refine toHead (todo' := hd Try.f41 0) (E' := [(0, .d (.ro 4 (adverts b))), (5, .pt 0 0), (7, .sl 1 (1)), (8, .z 0)]) (M' := [.bx 30 [.z q.node, .u q.inc], .rw 30 2 ([[.z p.node, .u p.inc]])]) tb_ok mixed_ok hK [] 2000 [1, 2] [0, 5, 7, 8] r (by kernel_rfl) trivial fun ac wd r => ?_
  refine Goes.rounds (Φ := fun (n : Nat) ac wd => (n ≤ 5 ∧ ∀ k, k < n → q ∉ met b p k) ∧ RE' [] w0 K 58 [(0, .d (.ro 4 (adverts b))), (5, .pt 0 0), (7, .sl 1 ((met b p n).length)), (8, .n n)] [.bx 30 [.z q.node, .u q.inc], .rw 30 2 (procs (met b p n))] ac wd) (5) ?_ (Nat.zero_le _) ⟨⟨by omega, by omega⟩, (r).cast rfl rfl⟩
  clear r
  rintro n hi0 again0 ac wd ⟨hv0, r⟩
  obtain ⟨hn1, hv0⟩ := hv0
  have hml := met_len g p n
  have hbl := g.len
  cases h0 : (decide ((((n : Nat) : Int) : Int) ≤ 4)) with
  | false =>
    have qh0 := of_decide_eq_false h0
    rw [show (DV.v (.int .i64 (stepsR b p q)) : DV) = .z (-1) from (iv (stepsR_none fun k hk => hv0 k (by omega)))]
    exact toRet tb_ok mixed_ok hK rfl [(3, [(1, .b false)])] 2000 r (by kernel_rfl) (an h0 trivial)
  | true =>
    have qh0 := of_decide_eq_true h0
    cases h1 : (decide (q ∈ (met b p n))) with
    | false =>
      have qh1 := of_decide_eq_false h1
      refine toHead (todo' := hd Try.f41 1) (E' := [(0, .d (.ro 4 (adverts b))), (5, .pt 0 0), (7, .sl 1 ((met b p n).length)), (8, .n n), (9, .d (.v (.slice none 0 0))), (10, .z 0)]) (M' := [.bx 30 [.z q.node, .u q.inc], .rw 30 2 (procs (met b p n))]) tb_ok mixed_ok hK [(3, [(1, .b true)]), (5, [(2, .call [.d (.ro 2 (procs (met b p n))), .ag [.z q.node, .u q.inc]] (.v (.bool false)))])] 2000 [0, 1] [0, 5, 7, 8, 9, 10] r (by kernel_rfl) (an h0 (an ((by have k := refHas (met b p n) q (by omega); rw [h1] at k; exact k) : Con Try.prog 25 [.d (.ro 2 (procs (met b p n))), .ag [.z q.node, .u q.inc]] (.v (.bool false))) (an ((by first | exact ind_v _ | exact ind_procs _ _) : Ind (.v (.bool false))) (an (rfN (2)) (an ((by first | rfl | (simp; done) | (simp <;> omega)) : ((met b p n).length) = (procs (met b p n)).length) (an ((by first | exact froz_procs _ | (rw [show ∀ (x y : List Proc), procs x ++ procs y = procs (x ++ y) from fun x y => by simp [procs]]; exact froz_procs _)) : frozR (procs (met b p n)) = procs (met b p n)) (an (rfD (.z q.node)) (an (rfD (.u q.inc)) trivial)))))))) fun ac wd r => ?_
      refine Goes.rounds (Φ := fun (i : Nat) ac wd => (i ≤ (met b p n).length) ∧ RE' [] w0 K 58 [(0, .d (.ro 4 (adverts b))), (5, .pt 0 0), (7, .sl 1 ((met b p n).length)), (8, .n n), (9, .sl 2 ((moreTo b (met b p n) i).length)), (10, .n i)] [.bx 30 [.z q.node, .u q.inc], .rw 30 2 (procs (met b p n)), .rw 30 2 (procs (moreTo b (met b p n) i))] ac wd) ((met b p n).length) ?_ (Nat.zero_le _) ⟨(Nat.zero_le _), (r.adopt (M1 := [.bx 30 [.z q.node, .u q.inc], .rw 30 2 (procs (met b p n)), .rw 30 2 []]) [(9, 30, 2)] [] (by kernel_rfl) (by kernel_rfl)).cast rfl rfl⟩
      clear r
      rintro i hi1 again1 ac wd ⟨hv1, r⟩
      cases h2 : (decide ((((i : Nat) : Int) : Int) < (((met b p n).length : Nat) : Int))) with
      | false =>
        have qh2 := of_decide_eq_false h2
        have hie : i = (met b p n).length := by omega
        have hmi := moreTo_len b (met b p n) i
        have hmm := Nat.mul_le_mul (show i ≤ 5 by omega) g.len
        exact toHead (todo' := hd Try.f41 0) (E' := [(0, .d (.ro 4 (adverts b))), (5, .pt 0 0), (7, .sl 1 ((procs (srt ((met b p n) ++ moreTo b (met b p n) i)) : List (List DV)).length)), (8, .n (n + 1))]) (M' := [.bx 30 [.z q.node, .u q.inc], .rw 30 2 (procs (srt ((met b p n) ++ moreTo b (met b p n) i)))]) tb_ok mixed_ok hK [(4, [(1, .z (((n + 1 : Nat) : Int)))]), (9, [(3, .b false)]), (17, [(1, .call [.d (.ro 2 (procs ((met b p n) ++ moreTo b (met b p n) i)))] (.em 30 2 (procs (srt ((met b p n) ++ moreTo b (met b p n) i)))))])] 2000 [0, 3] [0, 5, 7, 8] r (by kernel_rfl) (an h2 (an ((by first | rfl | (simp; done) | (simp <;> omega)) : ((met b p n).length) = (procs (met b p n)).length) (an ((by first | rfl | (simp; done) | (simp <;> omega)) : ((moreTo b (met b p n) i).length) = (procs (moreTo b (met b p n) i)).length) (an ((by first | omega | (simp; done) | (simp <;> omega)) : (2 * (((met b p n).length) + ((moreTo b (met b p n) i).length)) + 192) * 16 ≤ 281474976710656) (an ((by first | omega | (simp; done) | (simp <;> omega)) : ((met b p n).length) + ((moreTo b (met b p n) i).length) < 4611686018427387904) (an ((by first | exact one_procs _ | simp [OneR, AV.one, oneC]) : OneR (procs (moreTo b (met b p n) i))) (an (refSorted ((met b p n) ++ moreTo b (met b p n) i) (by simp; omega)) (an ((by first | exact ind_v _ | exact ind_procs _ _) : Ind (.em 30 2 (procs (srt ((met b p n) ++ moreTo b (met b p n) i))))) (an (rfN (2)) (an ((by first | rfl | (simp; done) | (simp <;> omega)) : ((met b p n).length + ((moreTo b (met b p n) i).length)) = (procs (met b p n) ++ (procs (moreTo b (met b p n) i)) : List (List DV)).length) (an ((by first | exact froz_procs _ | (rw [show ∀ (x y : List Proc), procs x ++ procs y = procs (x ++ y) from fun x y => by simp [procs]]; exact froz_procs _)) : frozR (procs (met b p n) ++ (procs (moreTo b (met b p n) i))) = procs ((met b p n) ++ moreTo b (met b p n) i)) (an ((wi (by omega)) : IntKind.i64.wrap ((((n : Nat) : Int) : Int) + 1) = ((n + 1 : Nat) : Int)) trivial)))))))))))) fun ac wd r => again0 (by omega) ac wd ⟨⟨by omega, fun k hk => by rcases Nat.lt_succ_iff_lt_or_eq.1 hk with h | rfl; exact hv0 k h; exact of_decide_eq_false (by assumption)⟩, r.cast (by rw [hie]; first | rfl | simp [met]) (by rw [hie]; rfl)⟩
      | true =>
        have qh2 := of_decide_eq_true h2
        obtain ⟨u0, gr⟩ : ∃ x, (met b p n)[i]? = some x := ⟨_, List.getElem?_eq_getElem (by omega)⟩
        have hmi := moreTo_len b (met b p n) i
        refine toHead (todo' := hd Try.f41 2) (E' := [(0, .d (.ro 4 (adverts b))), (5, .pt 0 0), (7, .sl 1 ((met b p n).length)), (8, .n n), (9, .sl 2 ((moreTo b (met b p n) i).length)), (10, .n i), (11, .z 0)]) (M' := [.bx 30 [.z q.node, .u q.inc], .rw 30 2 (procs (met b p n)), .rw 30 2 (procs (moreTo b (met b p n) i))]) tb_ok mixed_ok hK [(9, [(3, .b true)])] 2000 [0, 1, 2] [0, 5, 7, 8, 9, 10, 11] r (by kernel_rfl) (an h2 trivial) fun ac wd r => ?_
        refine Goes.rounds (Φ := fun (k : Nat) ac wd => (k ≤ b.length) ∧ RE' [] w0 K 58 [(0, .d (.ro 4 (adverts b))), (5, .pt 0 0), (7, .sl 1 ((met b p n).length)), (8, .n n), (9, .sl 2 ((moreTo b (met b p n) i ++ nbTo b u0 k).length)), (10, .n i), (11, .n k)] [.bx 30 [.z q.node, .u q.inc], .rw 30 2 (procs (met b p n)), .rw 30 2 (procs (moreTo b (met b p n) i ++ nbTo b u0 k))] ac wd) (b.length) ?_ (Nat.zero_le _) ⟨(Nat.zero_le _), (r).cast (by simp [nbTo]) (by simp [nbTo])⟩
        clear r
        rintro k hi2 again2 ac wd ⟨hv2, r⟩
        cases h3 : (decide ((((k : Nat) : Int) : Int) < ((b.length : Nat) : Int))) with
        | false =>
          have qh3 := of_decide_eq_false h3
          have hke : k = b.length := by omega
          exact toHead (todo' := hd Try.f41 1) (E' := [(0, .d (.ro 4 (adverts b))), (5, .pt 0 0), (7, .sl 1 ((met b p n).length)), (8, .n n), (9, .sl 2 ((moreTo b (met b p n) i ++ nbTo b u0 k).length)), (10, .n (i + 1))]) (M' := [.bx 30 [.z q.node, .u q.inc], .rw 30 2 (procs (met b p n)), .rw 30 2 (procs (moreTo b (met b p n) i ++ nbTo b u0 k))]) tb_ok mixed_ok hK [(10, [(1, .z (((i + 1 : Nat) : Int)))]), (12, [(2, .z (((b.length : Nat) : Int))), (3, .b false)])] 2000 [0, 1, 2] [0, 5, 7, 8, 9, 10] r (by kernel_rfl) (an ((by simp) : (((adverts b).length : Nat) : Int) = ((b.length : Nat) : Int)) (an h3 (an ((wi (by omega)) : IntKind.i64.wrap ((((i : Nat) : Int) : Int) + 1) = ((i + 1 : Nat) : Int)) trivial))) fun ac wd r => again1 (by omega) ac wd ⟨(by omega), r.cast (by rw [moreTo_succ gr, hke]) (by rw [moreTo_succ gr, hke])⟩
        | true =>
          have qh3 := of_decide_eq_true h3
          obtain ⟨e_a, ga⟩ : ∃ x, b[k]? = some x := ⟨_, List.getElem?_eq_getElem (by omega)⟩
          have hnk := nbTo_len b u0 k
          have hmm := Nat.mul_le_mul (show i ≤ 5 by omega) g.len
          cases h4 : (joinedR b u0 e_a.server) with
          | false =>
            exact toHead (todo' := hd Try.f41 2) (E' := [(0, .d (.ro 4 (adverts b))), (5, .pt 0 0), (7, .sl 1 ((met b p n).length)), (8, .n n), (9, .sl 2 ((moreTo b (met b p n) i ++ nbTo b u0 k).length)), (10, .n i), (11, .n (k + 1))]) (M' := [.bx 30 [.z q.node, .u q.inc], .rw 30 2 (procs (met b p n)), .rw 30 2 (procs (moreTo b (met b p n) i ++ nbTo b u0 k))]) tb_ok mixed_ok hK [(12, [(2, .z (((b.length : Nat) : Int))), (3, .b true)]), (13, [(1, .z (((k + 1 : Nat) : Int)))]), (14, [(3, .n (i)), (4, .ix 0 [.z u0.node, .u u0.inc]), (7, .ix (k) [.z e_a.server.node, .u e_a.server.inc, .u e_a.seq, .ro 2 (procs e_a.peers)]), (10, .con (.v (.bool false)))])] 2000 [0, 1, 2] [0, 5, 7, 8, 9, 10, 11] r (by kernel_rfl) (an ((by simp) : (((adverts b).length : Nat) : Int) = ((b.length : Nat) : Int)) (an h3 (an (rfI ((i : Nat) : Int)) (an ((by first | omega | decide | (simp; omega)) : (i) < ((met b p n).length)) (an ((by first | rfl | (simp; done) | (simp <;> omega)) : ((met b p n).length) ≤ (procs (met b p n)).length) (an (procs_at gr) (an (rfI ((k : Nat) : Int)) (an (adverts_at ga) (an ((by have k := refJoined b u0 e_a.server (by omega) (fun x hx => by have := Advert.few (g.may x hx); omega); rw [h4] at k; exact k) : Con Try.prog 44 [.d (.ro 4 (adverts b)), .ag [.z u0.node, .u u0.inc], .ag [.z e_a.server.node, .u e_a.server.inc]] (.v (.bool false))) (an ((wi (by omega)) : IntKind.i64.wrap ((((k : Nat) : Int) : Int) + 1) = ((k + 1 : Nat) : Int)) trivial)))))))))) fun ac wd r => again2 (by omega) ac wd ⟨(by omega), r.cast (by first | (rw [nbTo_no ga (by assumption)]; done) | (rw [nbTo_yes ga (by assumption)]; simp only [List.length_append, List.length_cons, List.length_nil, Nat.add_assoc, Nat.zero_add]; done)) (by first | (rw [nbTo_no ga (by assumption)]; done) | (rw [nbTo_yes ga (by assumption)]; simp [procs, Proc.row]))⟩
          | true =>
            exact toHead (todo' := hd Try.f41 2) (E' := [(0, .d (.ro 4 (adverts b))), (5, .pt 0 0), (7, .sl 1 ((met b p n).length)), (8, .n n), (9, .sl 2 ((moreTo b (met b p n) i ++ nbTo b u0 k).length + (1))), (10, .n i), (11, .n (k + 1))]) (M' := [.bx 30 [.z q.node, .u q.inc], .rw 30 2 (procs (met b p n)), .rw 30 2 (procs (moreTo b (met b p n) i ++ nbTo b u0 k) ++ [[.z e_a.server.node, .u e_a.server.inc]])]) tb_ok mixed_ok hK [(12, [(2, .z (((b.length : Nat) : Int))), (3, .b true)]), (13, [(1, .z (((k + 1 : Nat) : Int)))]), (14, [(3, .n (i)), (4, .ix 0 [.z u0.node, .u u0.inc]), (7, .ix (k) [.z e_a.server.node, .u e_a.server.inc, .u e_a.seq, .ro 2 (procs e_a.peers)]), (10, .con (.v (.bool true)))]), (15, [(3, .ix (k) [.z e_a.server.node, .u e_a.server.inc, .u e_a.seq, .ro 2 (procs e_a.peers)])])] 2000 [0, 1, 2] [0, 5, 7, 8, 9, 10, 11] r (by kernel_rfl) (an ((by simp) : (((adverts b).length : Nat) : Int) = ((b.length : Nat) : Int)) (an h3 (an (rfI ((i : Nat) : Int)) (an ((by first | omega | decide | (simp; omega)) : (i) < ((met b p n).length)) (an ((by first | rfl | (simp; done) | (simp <;> omega)) : ((met b p n).length) ≤ (procs (met b p n)).length) (an (procs_at gr) (an (rfI ((k : Nat) : Int)) (an (adverts_at ga) (an ((by have k := refJoined b u0 e_a.server (by omega) (fun x hx => by have := Advert.few (g.may x hx); omega); rw [h4] at k; exact k) : Con Try.prog 44 [.d (.ro 4 (adverts b)), .ag [.z u0.node, .u u0.inc], .ag [.z e_a.server.node, .u e_a.server.inc]] (.v (.bool true))) (an (rfI ((k : Nat) : Int)) (an (adverts_at ga) (an ((by first | rfl | (simp; done) | (simp <;> omega)) : ((moreTo b (met b p n) i ++ nbTo b u0 k).length) = (procs (moreTo b (met b p n) i ++ nbTo b u0 k) : List (List DV)).length) (an ((by first | rfl | (simp; done) | (simp <;> omega)) : (1) = ([[.z e_a.server.node, .u e_a.server.inc]] : List (List DV)).length) (an ((by first | omega | (simp; done) | (simp <;> omega)) : (2 * (((moreTo b (met b p n) i ++ nbTo b u0 k).length) + (1)) + 192) * 16 ≤ 281474976710656) (an ((by first | omega | (simp; done) | (simp <;> omega)) : ((moreTo b (met b p n) i ++ nbTo b u0 k).length) + (1) < 4611686018427387904) (an ((by first | exact one_procs _ | simp [OneR, AV.one, oneC]) : OneR ([[.z e_a.server.node, .u e_a.server.inc]])) (an ((wi (by omega)) : IntKind.i64.wrap ((((k : Nat) : Int) : Int) + 1) = ((k + 1 : Nat) : Int)) trivial))))))))))))))))) fun ac wd r => again2 (by omega) ac wd ⟨(by omega), r.cast (by first | (rw [nbTo_no ga (by assumption)]; done) | (rw [nbTo_yes ga (by assumption)]; simp only [List.length_append, List.length_cons, List.length_nil, Nat.add_assoc, Nat.zero_add]; done)) (by first | (rw [nbTo_no ga (by assumption)]; done) | (rw [nbTo_yes ga (by assumption)]; simp [procs, Proc.row]))⟩
    | true =>
      have qh1 := of_decide_eq_true h1
      rw [show (DV.v (.int .i64 (stepsR b p q)) : DV) = .n n from (iv (stepsR_at (by omega) (of_decide_eq_true (by assumption)) hv0))]
      exact toRet tb_ok mixed_ok hK rfl [(3, [(1, .b true)]), (5, [(2, .call [.d (.ro 2 (procs (met b p n))), .ag [.z q.node, .u q.inc]] (.v (.bool true)))])] 2000 r (by kernel_rfl) (an h0 (an ((by have k := refHas (met b p n) q (by omega); rw [h1] at k; exact k) : Con Try.prog 25 [.d (.ro 2 (procs (met b p n))), .ag [.z q.node, .u q.inc]] (.v (.bool true))) (an ((by first | exact ind_v _ | exact ind_procs _ _) : Ind (.v (.bool true))) (an (rfN (2)) (an ((by first | rfl | (simp; done) | (simp <;> omega)) : ((met b p n).length) = (procs (met b p n)).length) (an ((by first | exact froz_procs _ | (rw [show ∀ (x y : List Proc), procs x ++ procs y = procs (x ++ y) from fun x y => by simp [procs]]; exact froz_procs _)) : frozR (procs (met b p n)) = procs (met b p n)) (an (rfD (.z q.node)) (an (rfD (.u q.inc)) trivial))))))))
end Go.Proofs.Ytikmdkicccfjpaa
namespace Go.Proofs.Ytikmdkicccfjpaa
open Go.RowKit
theorem Can.head {b : List Advert} {p r : Proc} (h : r ∈ jn b p) : ∀ {n : Nat} {q : Proc}, Can b r n q → Can b p (n + 1) q
  | 0, q, hq => by rw [hq]; exact Or.inr ⟨p, rfl, h⟩
  | n + 1, q, hq => by
    rcases hq with hq | ⟨v, h1, h2⟩
    · exact Or.inl (Can.head h hq)
    · exact Or.inr ⟨v, Can.head h h1, h2⟩
theorem Can.symm {b : List Advert} : ∀ {n : Nat} {p q : Proc}, Can b p n q → Can b q n p
  | 0, p, q, h => Eq.symm h
  | n + 1, p, q, h => by
    rcases h with h | ⟨r, h1, h2⟩
    · exact Or.inl (Can.symm h)
    · exact Can.head (jn_symm.1 h2) (Can.symm h1)
theorem Lev.symm {b : List Advert} {p q : Proc} {d : Nat} (h : Lev b p d q) : Lev b q d p := ⟨h.1.symm, fun k hk hc => h.2 k hk hc.symm⟩
theorem stepsR_lev {b : List Advert} (g : Book b) {p q : Proc} {d : Nat} (h : Lev b p d q) : stepsR b p q = (d : Int) :=
  stepsR_at (by have := h.four g; omega) ((met_is g).2 h.1) fun k hk hc => h.2 k hk ((met_is g).1 hc)
theorem stepsR_far {b : List Advert} (g : Book b) {p q : Proc} (h : ∀ d, ¬ Lev b p d q) : stepsR b p q = -1 :=
  stepsR_none fun k _ hc => by
    obtain ⟨d, -, hd⟩ := ((met_is g).1 hc).lev
    exact h d hd
theorem stepsR_dOf {b : List Advert} (g : Book b) {p t : Proc} (ht : t.okP) : stepsR b p t = match dOf (farL b t) p with | some s => ((s : Nat) : Int) | none => -1 := by
  obtain ⟨k, hf⟩ := far_is g ht
  cases h : dOf (farL b t) p with
  | some s => exact stepsR_lev g (((hf p s).1 ((dOf_mem k).1 h)).symm)
  | none => exact stepsR_far g (fun d hd => by rw [(dOf_mem k).2 ((hf p d).2 hd.symm)] at h; cases h)
noncomputable def reTo (b : List Advert) (p : Proc) (i : Nat) : List Proc := p :: ((b.take i).filter fun a => decide (0 ≤ stepsR b p a.server)).map Advert.server
theorem reach_is {l : List Advert} {p : Proc} (hp : p.okP) (hl : p.low = true) {i : Nat} (hi : (book l).length ≤ i) : srt (reTo (book l) p i) = reachG l p := by
  unfold Proc.low at hl
  simp only [Bool.and_eq_true, decide_eq_true_eq] at hl
  unfold reachG
  rw [if_pos hl]
  obtain ⟨k, hf⟩ := far_is (book_good l) hp
  refine srt_set fun q => ?_
  unfold reTo
  rw [List.take_of_length_le hi, List.mem_cons, List.mem_map, List.mem_map]
  constructor
  · rintro (rfl | ⟨a, ha, rfl⟩)
    · exact ⟨(q, 0), (hf q 0).2 ⟨rfl, fun k hk => by omega⟩, rfl⟩
    · have h0 := of_decide_eq_true (List.mem_filter.1 ha).2
      by_cases h : ∃ d, Lev (book l) p d a.server
      · obtain ⟨d, hd⟩ := h; exact ⟨(_, d), (hf _ d).2 hd, rfl⟩
      · rw [stepsR_far (book_good l) fun d hd => h ⟨d, hd⟩] at h0; omega
  · rintro ⟨⟨q', d⟩, hx, rfl⟩
    have hd := (hf q' d).1 hx
    have hw := hd.who
    rcases List.mem_cons.1 hw with e | hw
    · exact Or.inl e
    · obtain ⟨a, ha, e⟩ := List.mem_map.1 hw
      dsimp only at *
      refine Or.inr ⟨a, List.mem_filter.2 ⟨ha, decide_eq_true ?_⟩, e⟩
      rw [e, stepsR_lev (book_good l) hd]; omega
theorem set_ss {l : List Proc} (h : isSet l = true) : SS l := by
  have hs := (isSet_iff l).1 h
  unfold SS
  rw [List.pairwise_iff_getElem]
  intro i j hi hj hij
  have key : ∀ d i (h1 : i < l.length) (h2 : i + d + 1 < l.length), (l[i]).lt (l[i + d + 1]) = true := by
    intro d
    induction d with
    | zero => intro i h1 h2; exact hs.2 i _ _ (by omega) (List.getElem?_eq_getElem h1) (List.getElem?_eq_getElem h2)
    | succ d ih =>
      intro i h1 h2
      have e1 := ih i h1 (by omega)
      have e2 := hs.2 (i + d + 1) _ _ (by omega) (List.getElem?_eq_getElem (by omega)) (List.getElem?_eq_getElem (by omega))
      exact lt_trans e1 e2
  have := key (j - i - 1) i hi (by omega)
  simp only [show i + (j - i - 1) + 1 = j by omega] at this
  exact this
theorem jn_ss {b : List Advert} (g : Book b) (p : Proc) : SS (jn b p) := by
  unfold jn SS
  refine List.Pairwise.filter _ ?_
  unfold peersOf
  split
  · rename_i a ha
    exact set_ss (Advert.may_iff.1 (g.may a (List.mem_of_find?_eq_some ha))).2.2.1
  · exact List.Pairwise.nil
theorem nb_ss {b : List Advert} (g : Book b) (p : Proc) : SS (nbTo b p b.length) := by
  unfold nbTo SS
  rw [List.take_length, List.pairwise_map]
  refine List.Pairwise.filter _ (g.up.imp fun {x y} h => ?_)
  unfold Proc.lt; exact decide_eq_true (Or.inl h)
theorem jn_nb {b : List Advert} (g : Book b) (p : Proc) : jn b p = nbTo b p b.length := by
  refine ss_ext (jn_ss g p) (nb_ss g p) fun q => ?_
  unfold nbTo
  rw [List.take_length, List.mem_map]
  constructor
  · intro hq
    obtain ⟨a, ha, rfl⟩ := jn_server hq
    exact ⟨a, List.mem_filter.2 ⟨ha, (joinedR_is g).2 hq⟩, rfl⟩
  · rintro ⟨a, ha, rfl⟩; exact (joinedR_is g).1 (List.mem_filter.1 ha).2
theorem refOfRo (l : List Advert) (hb : l.length ≤ 9223372036854775807) (hp : ∀ x ∈ l, x.peers.length ≤ 9223372036854775807) : Con Try.prog 16 [.d (.ro 4 (adverts l))] (.ro 4 (adverts (book l))) := by
  have h := (refOf l hb hp).froz
  rw [froz, froz_advertsO] at h; exact h
end Go.Proofs.Ytikmdkicccfjpaa
namespace Go.Proofs.Ytikmdkicccfjpaa
open Go.RowKit
theorem stepsR_range (b : List Advert) (p q : Proc) : -1 ≤ stepsR b p q ∧ stepsR b p q ≤ 4 := by
  unfold stepsR
  split
  · rename_i n h
    have := List.mem_of_find?_eq_some h
    simp at this; omega
  · omega
theorem steps_some {l : List Advert} {p : Proc} {i : Nat} {a : Advert} (ha : (book l)[i]? = some a) (h : ¬ stepsR (book l) p a.server < 0) (hn : a.server.node ≠ p.node) : ∃ s : Nat, dOf (farL (book l) a.server) p = some s ∧ stepsR (book l) p a.server = ((s : Nat) : Int) ∧ 1 ≤ s := by
  have ho := book_srv ha
  obtain ⟨k, hf⟩ := far_is (book_good l) ho
  have := stepsR_dOf (book_good l) (p := p) ho
  cases hd : dOf (farL (book l) a.server) p with
  | none => rw [hd] at this; dsimp only at this; omega
  | some s =>
    rw [hd] at this
    refine ⟨s, rfl, this, ?_⟩
    rcases dOf_pos k hf hd hn with h | h <;> omega
theorem steps_none {l : List Advert} {p : Proc} {i : Nat} {a : Advert} (ha : (book l)[i]? = some a) (h : stepsR (book l) p a.server < 0) : (dOf (farL (book l) a.server) p).isSome = false := by
  have := stepsR_dOf (book_good l) (p := p) (book_srv ha)
  cases hd : dOf (farL (book l) a.server) p with
  | none => rfl
  | some s =>
    rw [hd] at this
    have h0 : stepsR (book l) p a.server = ((s : Nat) : Int) := this
    omega
theorem steps_hit {l : List Advert} {q : Proc} {i s : Nat} {a : Advert} (ha : (book l)[i]? = some a) (hs : 1 ≤ s) {z : Int} (hz : z = ((s : Nat) : Int)) {c : Bool} (h : (stepsR (book l) q a.server == z - 1) = c) : hit (book l) a.server s q = c := by
  have := stepsR_dOf (book_good l) (p := q) (book_srv ha)
  unfold hit
  rw [← h, this]
  cases hd : dOf (farL (book l) a.server) q with
  | none =>
    rw [Bool.eq_iff_iff, decide_eq_true_iff, beq_iff_eq]
    constructor
    · intro e; cases e
    · intro e; dsimp only at e; omega
  | some d =>
    rw [Bool.eq_iff_iff, decide_eq_true_iff, beq_iff_eq, Option.some.injEq]; dsimp only; omega
theorem nb_sub {b : List Advert} {p : Proc} {k : Nat} : ∃ r, nbTo b p b.length = nbTo b p k ++ r := by
  refine ⟨((b.drop k).filter fun a => joinedR b p a.server).map Advert.server, ?_⟩
  unfold nbTo
  rw [← List.map_append, ← List.filter_append, List.take_append_drop, List.take_length]
theorem NoHit.findB {b : List Advert} (g : Book b) {t p : Proc} {s k : Nat} {a : Advert} (h : NoHit b t s (nbTo b p k)) (ha : b[k]? = some a) (hj : joinedR b p a.server = true) (hq : hit b t s a.server = true) : (jn b p).find? (hit b t s) = some a.server := by
  obtain ⟨r, hr⟩ := nb_sub (b := b) (p := p) (k := k + 1)
  rw [jn_nb g, hr, nbTo_yes ha hj, List.append_assoc, List.find?_append, List.find?_eq_none.2 (fun x hx => by rw [h x hx]; decide), Option.none_or]
  simp [hq]
theorem NoHit.noneB {b : List Advert} (g : Book b) {t p : Proc} {s k : Nat} (h : NoHit b t s (nbTo b p k)) (hk : b.length ≤ k) : (jn b p).find? (hit b t s) = Option.none := by
  rw [List.find?_eq_none]; intro x hx
  rw [jn_nb g] at hx
  have : nbTo b p k = nbTo b p b.length := by unfold nbTo; rw [List.take_of_length_le hk, List.take_length]
  rw [h x (by rw [this]; exact hx)]; decide
theorem next_low {l : List Advert} {p : Proc} {to : Int} (h : p.low = false) : nextG l p to = (0, false) := by
  unfold nextG
  split
  · rfl
  · rename_i hne
    split
    · rfl
    · rename_i a ha
      split
      · rfl
      · rename_i s hs
        exfalso
        have hm := List.mem_of_find?_eq_some ha
        have hn : a.server.node = to := by simpa using List.find?_some ha
        obtain ⟨k, hf⟩ := far_is (book_good l) (srv_okP (Advert.may_iff.1 ((book_good l).may a hm)).1)
        have hd := (hf p s).1 ((dOf_mem k).1 hs)
        rcases List.mem_cons.1 hd.who with e | hw
        · rw [e] at hne; exact hne hn.symm
        · obtain ⟨c, hc, e⟩ := List.mem_map.1 hw
          have := (Advert.may_iff.1 ((book_good l).may c hc)).1
          rw [e] at this
          have h2 := Proc.srv_iff.1 this
          unfold Proc.low Proc.may at h
          rw [decide_eq_true (by omega), decide_eq_true (by omega)] at h
          cases h
set_option maxRecDepth 100000 in
theorem refNext (l : List Advert) (p : Proc) (to : Int) (hb : l.length ≤ 9223372036854775807) (hl : ∀ x ∈ l, x.peers.length ≤ 9223372036854775807) : Con Try.prog 24 [.d (.ro 4 (adverts l)), .ag [.z p.node, .u p.inc], .z to] (.tu [.v (.int .i64 (nextG l p to).1), .v (.bool (nextG l p to).2)]) := by
  refine Con.intro (by kernel_rfl) rfl rfl 74 rfl rfl fun w0 K ac hK r => ?_
  cases h0 : (p.low) with
  | false =>
    rw [show (.tu [.v (.int .i64 (nextG l p to).1), .v (.bool (nextG l p to).2)] : DV) = .tu [.z 0, .v (.bool false)] from (by rw [show nextG l p to = (0, false) from next_low (by assumption)])]
    exact toRet tb_ok mixed_ok hK rfl [(1, [(1, .con (.v (.bool false)))])] 2000 r (by kernel_rfl) (an ((by have k := refSrv p; rw [h0] at k; exact k) : Con Try.prog 40 [.ag [.z p.node, .u p.inc]] (.v (.bool false))) trivial)
  | true =>
    cases h1 : ((to : Int) == p.node) with
    | false =>
      have qh1 := ne_of_beq_false h1
      refine toHead (todo' := hd Try.f24 0) (E' := [(0, .d (.ro 4 (adverts (book l)))), (2, .z to), (4, .pt 0 0), (8, .n 0)]) (M' := [.bx 30 [.z p.node, .u p.inc]]) tb_ok mixed_ok hK [(1, [(1, .con (.v (.bool true))), (7, .b false)]), (3, [(1, .con (.ro 4 (adverts (book l))))])] 2000 [0] [0, 2, 4, 8] r (by kernel_rfl) (an ((by have k := refSrv p; rw [h0] at k; exact k) : Con Try.prog 40 [.ag [.z p.node, .u p.inc]] (.v (.bool true))) (an h1 (an (refOfRo l hb hl) trivial))) fun ac wd r => ?_
      refine Goes.rounds (Φ := fun (i : Nat) ac wd => (i ≤ (book l).length ∧ NotYet l p to i) ∧ RE' [] w0 K 74 [(0, .d (.ro 4 (adverts (book l)))), (2, .z to), (4, .pt 0 0), (8, .n i)] [.bx 30 [.z p.node, .u p.inc]] ac wd) ((book l).length) ?_ (Nat.zero_le _) ⟨⟨Nat.zero_le _, Or.inl (by omega)⟩, r⟩
      clear r
      rintro i hi0 again0 ac wd ⟨hv0, r⟩
      obtain ⟨hi1, hv0⟩ := hv0
      have hbl := (book_good l).len
      cases h2 : (decide ((((i : Nat) : Int) : Int) < (((book l).length : Nat) : Int))) with
      | false =>
        have qh2 := of_decide_eq_false h2
        rw [show (.tu [.v (.int .i64 (nextG l p to).1), .v (.bool (nextG l p to).2)] : DV) = .tu [.z 0, .v (.bool false)] from (by rw [show nextG l p to = (0, false) from hv0.end (by omega)])]
        exact toRet tb_ok mixed_ok hK rfl [(5, [(2, .z ((((book l).length : Nat) : Int))), (3, .b false)])] 2000 r (by kernel_rfl) (an ((by simp) : (((adverts (book l)).length : Nat) : Int) = (((book l).length : Nat) : Int)) (an h2 trivial))
      | true =>
        have qh2 := of_decide_eq_true h2
        obtain ⟨e_a, ga⟩ : ∃ x, (book l)[i]? = some x := ⟨_, List.getElem?_eq_getElem (by omega)⟩
        have hrg := stepsR_range (book l) p e_a.server
        cases h3 : ((e_a.server.node : Int) != to) with
        | false =>
          have qh3 := eq_of_bne h3
          cases h4 : (decide ((stepsR (book l) p e_a.server : Int) < 0)) with
          | false =>
            have qh4 := of_decide_eq_false h4
            obtain ⟨s, hsd, hst, hs1⟩ := steps_some ga (by omega) (by omega)
            refine toHead (todo' := hd Try.f24 1) (E' := [(0, .d (.ro 4 (adverts (book l)))), (2, .z to), (4, .pt 0 0), (8, .n i), (9, .pt 1 0), (10, .n 0)]) (M' := [.bx 30 [.z p.node, .u p.inc], .bx 30 [.z e_a.server.node, .u e_a.server.inc]]) tb_ok mixed_ok hK [(5, [(2, .z ((((book l).length : Nat) : Int))), (3, .b true)]), (7, [(2, .ix (i) [.z e_a.server.node, .u e_a.server.inc, .u e_a.seq, .ro 2 (procs e_a.peers)])]), (8, [(3, .b false), (8, .con (.z (stepsR (book l) p e_a.server))), (9, .b false)])] 2000 [0, 1] [0, 2, 4, 8, 9, 10] r (by kernel_rfl) (an ((by simp) : (((adverts (book l)).length : Nat) : Int) = (((book l).length : Nat) : Int)) (an h2 (an (rfI ((i : Nat) : Int)) (an (adverts_at ga) (an h3 (an (refSteps (book l) p e_a.server (book_good l)) (an h4 trivial))))))) fun ac wd r => ?_
            refine Goes.rounds (Φ := fun (k : Nat) ac wd => (k ≤ (book l).length ∧ NoHit (book l) e_a.server s (nbTo (book l) p k)) ∧ RE' [] w0 K 74 [(0, .d (.ro 4 (adverts (book l)))), (2, .z to), (4, .pt 0 0), (8, .n i), (9, .pt 1 0), (10, .n k)] [.bx 30 [.z p.node, .u p.inc], .bx 30 [.z e_a.server.node, .u e_a.server.inc]] ac wd) ((book l).length) ?_ (Nat.zero_le _) ⟨⟨Nat.zero_le _, by simp [NoHit, nbTo]⟩, r⟩
            clear r
            rintro k hi1 again1 ac wd ⟨hv1, r⟩
            obtain ⟨hk1, hv1⟩ := hv1
            cases h5 : (decide ((((k : Nat) : Int) : Int) < (((book l).length : Nat) : Int))) with
            | false =>
              have qh5 := of_decide_eq_false h5
              exact toHead (todo' := hd Try.f24 0) tb_ok mixed_ok hK [(6, [(1, .z (((i + 1 : Nat) : Int)))]), (10, [(2, .z ((((book l).length : Nat) : Int))), (3, .b false)])] 2000 [0] [0, 2, 4, 8] r (by kernel_rfl) (an ((by simp) : (((adverts (book l)).length : Nat) : Int) = (((book l).length : Nat) : Int)) (an h5 (an ((wi (by omega)) : IntKind.i64.wrap ((((i : Nat) : Int) : Int) + 1) = ((i + 1 : Nat) : Int)) trivial))) fun ac wd r => again0 (by omega) ac wd ⟨⟨by omega, by first | exact hv0.pass ga (by omega) | exact NotYet.tried ga (by omega) (next_lost ga (by omega) (steps_none ga (by omega))) | exact NotYet.tried ga (by omega) (next_none ga (by omega) hsd (hv1.noneB (book_good l) (by omega)))⟩, r⟩
            | true =>
              have qh5 := of_decide_eq_true h5
              obtain ⟨e_c, gc⟩ : ∃ x, (book l)[k]? = some x := ⟨_, List.getElem?_eq_getElem (by omega)⟩
              cases h6 : (joinedR (book l) p e_c.server) with
              | false =>
                exact toHead (todo' := hd Try.f24 1) tb_ok mixed_ok hK [(10, [(2, .z ((((book l).length : Nat) : Int))), (3, .b true)]), (11, [(1, .z (((k + 1 : Nat) : Int)))]), (12, [(2, .ix (k) [.z e_c.server.node, .u e_c.server.inc, .u e_c.seq, .ro 2 (procs e_c.peers)])]), (13, [(3, .con (.v (.bool false)))])] 2000 [0, 1] [0, 2, 4, 8, 9, 10] r (by kernel_rfl) (an ((by simp) : (((adverts (book l)).length : Nat) : Int) = (((book l).length : Nat) : Int)) (an h5 (an (rfI ((k : Nat) : Int)) (an (adverts_at gc) (an ((by have k := refJoined (book l) p e_c.server (by omega) (fun x hx => by have := Advert.few ((book_good l).may x hx); omega); rw [h6] at k; exact k) : Con Try.prog 44 [.d (.ro 4 (adverts (book l))), .ag [.z p.node, .u p.inc], .ag [.z e_c.server.node, .u e_c.server.inc]] (.v (.bool false))) (an ((wi (by omega)) : IntKind.i64.wrap ((((k : Nat) : Int) : Int) + 1) = ((k + 1 : Nat) : Int)) trivial)))))) fun ac wd r => again1 (by omega) ac wd ⟨⟨by omega, by first | (rw [nbTo_no gc (by assumption)]; exact hv1) | (rw [nbTo_yes gc (by assumption)]; exact hv1.more (steps_hit ga hs1 hst (by assumption)))⟩, r⟩
              | true =>
                cases h7 : ((stepsR (book l) e_c.server e_a.server : Int) == stepsR (book l) p e_a.server - 1) with
                | false =>
                  have qh7 := ne_of_beq_false h7
                  exact toHead (todo' := hd Try.f24 1) tb_ok mixed_ok hK [(10, [(2, .z ((((book l).length : Nat) : Int))), (3, .b true)]), (11, [(1, .z (((k + 1 : Nat) : Int)))]), (12, [(2, .ix (k) [.z e_c.server.node, .u e_c.server.inc, .u e_c.seq, .ro 2 (procs e_c.peers)])]), (13, [(3, .con (.v (.bool true))), (8, .con (.z (stepsR (book l) e_c.server e_a.server))), (12, .con (.z (stepsR (book l) p e_a.server))), (13, .z (stepsR (book l) p e_a.server - 1)), (14, .b false)])] 2000 [0, 1] [0, 2, 4, 8, 9, 10] r (by kernel_rfl) (an ((by simp) : (((adverts (book l)).length : Nat) : Int) = (((book l).length : Nat) : Int)) (an h5 (an (rfI ((k : Nat) : Int)) (an (adverts_at gc) (an ((by have k := refJoined (book l) p e_c.server (by omega) (fun x hx => by have := Advert.few ((book_good l).may x hx); omega); rw [h6] at k; exact k) : Con Try.prog 44 [.d (.ro 4 (adverts (book l))), .ag [.z p.node, .u p.inc], .ag [.z e_c.server.node, .u e_c.server.inc]] (.v (.bool true))) (an (refSteps (book l) e_c.server e_a.server (book_good l)) (an (refSteps (book l) p e_a.server (book_good l)) (an ((wi (by omega)) : IntKind.i64.wrap ((stepsR (book l) p e_a.server : Int) - 1) = stepsR (book l) p e_a.server - 1) (an h7 (an ((wi (by omega)) : IntKind.i64.wrap ((((k : Nat) : Int) : Int) + 1) = ((k + 1 : Nat) : Int)) trivial)))))))))) fun ac wd r => again1 (by omega) ac wd ⟨⟨by omega, by first | (rw [nbTo_no gc (by assumption)]; exact hv1) | (rw [nbTo_yes gc (by assumption)]; exact hv1.more (steps_hit ga hs1 hst (by assumption)))⟩, r⟩
                | true =>
                  have qh7 := eq_of_beq h7
                  rw [show (.tu [.v (.int .i64 (nextG l p to).1), .v (.bool (nextG l p to).2)] : DV) = .tu [.z e_c.server.node, .v (.bool true)] from (by rw [show nextG l p to = (e_c.server.node, true) from next_some (by omega) ga (by omega) hsd (hv1.findB (book_good l) gc (by assumption) (steps_hit ga hs1 hst (by assumption)))])]
                  exact toRet tb_ok mixed_ok hK rfl [(10, [(2, .z ((((book l).length : Nat) : Int))), (3, .b true)]), (12, [(2, .ix (k) [.z e_c.server.node, .u e_c.server.inc, .u e_c.seq, .ro 2 (procs e_c.peers)])]), (13, [(3, .con (.v (.bool true))), (8, .con (.z (stepsR (book l) e_c.server e_a.server))), (12, .con (.z (stepsR (book l) p e_a.server))), (13, .z (stepsR (book l) p e_a.server - 1)), (14, .b true)])] 2000 r (by kernel_rfl) (an ((by simp) : (((adverts (book l)).length : Nat) : Int) = (((book l).length : Nat) : Int)) (an h5 (an (rfI ((k : Nat) : Int)) (an (adverts_at gc) (an ((by have k := refJoined (book l) p e_c.server (by omega) (fun x hx => by have := Advert.few ((book_good l).may x hx); omega); rw [h6] at k; exact k) : Con Try.prog 44 [.d (.ro 4 (adverts (book l))), .ag [.z p.node, .u p.inc], .ag [.z e_c.server.node, .u e_c.server.inc]] (.v (.bool true))) (an (refSteps (book l) e_c.server e_a.server (book_good l)) (an (refSteps (book l) p e_a.server (book_good l)) (an ((wi (by omega)) : IntKind.i64.wrap ((stepsR (book l) p e_a.server : Int) - 1) = stepsR (book l) p e_a.server - 1) (an h7 trivial)))))))))
          | true =>
            have qh4 := of_decide_eq_true h4
            exact toHead (todo' := hd Try.f24 0) tb_ok mixed_ok hK [(5, [(2, .z ((((book l).length : Nat) : Int))), (3, .b true)]), (6, [(1, .z (((i + 1 : Nat) : Int)))]), (7, [(2, .ix (i) [.z e_a.server.node, .u e_a.server.inc, .u e_a.seq, .ro 2 (procs e_a.peers)])]), (8, [(3, .b false), (8, .con (.z (stepsR (book l) p e_a.server))), (9, .b true)])] 2000 [0] [0, 2, 4, 8] r (by kernel_rfl) (an ((by simp) : (((adverts (book l)).length : Nat) : Int) = (((book l).length : Nat) : Int)) (an h2 (an (rfI ((i : Nat) : Int)) (an (adverts_at ga) (an h3 (an (refSteps (book l) p e_a.server (book_good l)) (an h4 (an ((wi (by omega)) : IntKind.i64.wrap ((((i : Nat) : Int) : Int) + 1) = ((i + 1 : Nat) : Int)) trivial)))))))) fun ac wd r => again0 (by omega) ac wd ⟨⟨by omega, by first | exact hv0.pass ga (by omega) | exact NotYet.tried ga (by omega) (next_lost ga (by omega) (steps_none ga (by omega))) | exact NotYet.tried ga (by omega) (next_none ga (by omega) hsd (hv1.noneB (book_good l) (by omega)))⟩, r⟩
        | true =>
          have qh3 : ¬ _ = _ := bne_iff_ne.1 h3
          exact toHead (todo' := hd Try.f24 0) tb_ok mixed_ok hK [(5, [(2, .z ((((book l).length : Nat) : Int))), (3, .b true)]), (6, [(1, .z (((i + 1 : Nat) : Int)))]), (7, [(2, .ix (i) [.z e_a.server.node, .u e_a.server.inc, .u e_a.seq, .ro 2 (procs e_a.peers)])]), (8, [(3, .b true)])] 2000 [0] [0, 2, 4, 8] r (by kernel_rfl) (an ((by simp) : (((adverts (book l)).length : Nat) : Int) = (((book l).length : Nat) : Int)) (an h2 (an (rfI ((i : Nat) : Int)) (an (adverts_at ga) (an h3 (an ((wi (by omega)) : IntKind.i64.wrap ((((i : Nat) : Int) : Int) + 1) = ((i + 1 : Nat) : Int)) trivial)))))) fun ac wd r => again0 (by omega) ac wd ⟨⟨by omega, by first | exact hv0.pass ga (by omega) | exact NotYet.tried ga (by omega) (next_lost ga (by omega) (steps_none ga (by omega))) | exact NotYet.tried ga (by omega) (next_none ga (by omega) hsd (hv1.noneB (book_good l) (by omega)))⟩, r⟩
    | true =>
      have qh1 := eq_of_beq h1
      rw [show (.tu [.v (.int .i64 (nextG l p to).1), .v (.bool (nextG l p to).2)] : DV) = .tu [.z 0, .v (.bool false)] from (by rw [show nextG l p to = (0, false) from next_self (by omega)])]
      exact toRet tb_ok mixed_ok hK rfl [(1, [(1, .con (.v (.bool true))), (7, .b true)])] 2000 r (by kernel_rfl) (an ((by have k := refSrv p; rw [h0] at k; exact k) : Con Try.prog 40 [.ag [.z p.node, .u p.inc]] (.v (.bool true))) (an h1 trivial))
end Go.Proofs.Ytikmdkicccfjpaa
namespace Go.Proofs.Ytikmdkicccfjpaa
open Go.RowKit
theorem ind_adverts (T : Nat) (l : List Advert) : Ind (.em T 4 (advertsO l)) := by
  intro K K' y H h
  cases h with
  | em X F hl hs hr =>
    refine .em X F hl hs fun i r j c x h1 h2 h3 => ?_
    have := hr i r j c x h1 h2 h3
    rw [List.getElem?_map, Option.map_eq_some_iff] at h1
    obtain ⟨p, -, rfl⟩ := h1
    unfold Advert.rowO at h2
    match j with
    | 0 => simp at h2; subst h2; exact (ind_v _) _ _ _ _ this
    | 1 => simp at h2; subst h2; exact (ind_v _) _ _ _ _ this
    | 2 => simp at h2; subst h2; exact (ind_v _) _ _ _ _ this
    | 3 => simp at h2; subst h2; exact (ind_procs _ _) _ _ _ _ this
    | j + 4 => simp at h2
theorem one_adverts (l : List Advert) : OneR (adverts l) := by
  simp only [OneR, adverts, List.all_eq_true, List.mem_map]
  rintro r ⟨p, -, rfl⟩ c hc
  simp only [Advert.row, List.mem_cons, List.not_mem_nil, or_false] at hc
  rcases hc with rfl | rfl | rfl | rfl <;> rfl
theorem adverts_app (l : List Advert) (a : Advert) : adverts l ++ [[.v (.int .i64 a.server.node), .v (.int .u64 (a.server.inc : Int)), .v (.int .u64 (a.seq : Int)), .ro 2 (procs a.peers)]] = adverts (l ++ [a]) := by simp [adverts, Advert.row]
def newsTo (b : List Advert) (a : Advert) (i : Nat) : Bool := a.may && (b.take i).all fun x => !(decide (x.server.node = a.server.node)) || newer a x
def takeG (l : List Advert) (a : Advert) : List Advert := book (book l ++ [a])
def newsG (l : List Advert) (a : Advert) : Bool := newsTo (book l) a (book l).length
theorem news_succ {b : List Advert} {i : Nat} {x : Advert} (h : b[i]? = some x) (a : Advert) : newsTo b a (i + 1) = (newsTo b a i && (!(decide (x.server.node = a.server.node)) || newer a x)) := by
  obtain ⟨hi, rfl⟩ := List.getElem?_eq_some_iff.1 h
  rw [newsTo, newsTo, List.take_succ_eq_append_getElem hi, List.all_append, Bool.and_assoc]; simp
theorem news_no {b : List Advert} {i : Nat} {x a : Advert} (h : b[i]? = some x) (h1 : x.server.node = a.server.node) (h2 : newer a x = false) : newsTo b a (i + 1) = false := by
  rw [news_succ h, h2, decide_eq_true h1]; simp
theorem news_yes {b : List Advert} {i : Nat} {x a : Advert} (h : b[i]? = some x) (h1 : x.server.node ≠ a.server.node ∨ newer a x = true) : newsTo b a (i + 1) = newsTo b a i := by
  rw [news_succ h]
  rcases h1 with h1 | h1
  · rw [decide_eq_false h1]; simp
  · rw [h1]; simp
theorem book_ok (l : List Advert) : ∀ x ∈ book l, x.peers.length ≤ 9223372036854775807 := fun x hx => by have := Advert.few ((book_good l).may x hx); omega
theorem more_ok {l : List Advert} {a : Advert} (ha : a.peers.length ≤ 9223372036854775807) : ∀ x ∈ book l ++ [a], x.peers.length ≤ 9223372036854775807 := fun x hx => by
  rcases List.mem_append.1 hx with hx | hx
  · exact book_ok l x hx
  · rw [List.mem_singleton] at hx; rw [hx]; exact ha
set_option maxRecDepth 100000 in
theorem takeOk (l : List Advert) (a : Advert) (hb : l.length ≤ 9223372036854775807) (hl : ∀ x ∈ l, x.peers.length ≤ 9223372036854775807) (ha : a.peers.length ≤ 9223372036854775807) : Con Try.prog 17 [.d (.ro 4 (adverts l)), .ag [.z a.server.node, .u a.server.inc, .u a.seq, .d (.ro 2 (procs a.peers))]] (.tu [.em 33 4 (advertsO (takeG l a)), .v (.bool (newsG l a))]) := by
  refine Con.intro (by kernel_rfl) rfl rfl 40 rfl rfl fun w0 K ac hK r => ?_
  refine toAt (todo' := aft Try.f17 1) (E' := [(3, .pt 0 0), (4, .d (.v (.slice none 0 0))), (5, .d (.v (.bool false))), (6, .sl 1 ((advertsO (book l)).length))]) (M' := [.bx 33 [.z a.server.node, .u a.server.inc, .u a.seq, .d (.ro 2 (procs a.peers))], .rw 33 4 (advertsO (book l))]) tb_ok mixed_ok hK [(1, [(1, .con (.em 33 4 (advertsO (book l))))])] 4 [0, 1] [3, 4, 5, 6] r (by kernel_rfl) (an (ofOk l hb hl) trivial) fun ac wd r => ?_
  have r := r.freeze (M1 := [.bx 33 [.z a.server.node, .u a.server.inc, .u a.seq, .d (.ro 2 (procs a.peers))], .rw 33 4 (frozR (advertsO (book l)))]) (M2 := [.bx 33 [.z a.server.node, .u a.server.inc, .u a.seq, .d (.ro 2 (procs a.peers))], .rw 33 4 (adverts (book l))]) [1] (by kernel_rfl) (by rw [froz_advertsO])
  cases h0 : (a.may) with
  | false =>
    refine toHead (todo' := hd Try.f17 0) (E' := [(3, .pt 0 0), (6, .sl 1 ((advertsO (book l)).length)), (7, .d (.v (.bool false))), (14, .sl 1 ((advertsO (book l)).length)), (15, .n ((book l).length)), (16, .z 0)]) (M' := [.bx 33 [.z a.server.node, .u a.server.inc, .u a.seq, .d (.ro 2 (procs a.peers))], .rw 33 4 (adverts (book l))]) tb_ok mixed_ok hK [(2, [(1, .con (.v (.bool false)))]), (3, [(1, .z ((((book l).length : Nat) : Int)))])] 2000 [0, 1] [3, 6, 7, 14, 15, 16] r (by kernel_rfl) (an ((by have k := mayOk a ha; rw [h0] at k; exact k) : Con Try.prog 32 [.ag [.z a.server.node, .u a.server.inc, .u a.seq, .d (.ro 2 (procs a.peers))]] (.v (.bool false))) (an ((by simp) : (((advertsO (book l)).length : Nat) : Int) = (((book l).length : Nat) : Int)) trivial)) fun ac wd r => ?_
    refine Goes.rounds (Φ := fun (i : Nat) ac wd => ∃ nw : Bool, (i ≤ (book l).length ∧ nw = newsTo (book l) a i) ∧ RE' [] w0 K 40 [(3, .pt 0 0), (6, .sl 1 ((book l).length)), (7, .d (.v (.bool nw))), (14, .sl 1 ((book l).length)), (15, .n ((book l).length)), (16, .n i)] [.bx 33 [.z a.server.node, .u a.server.inc, .u a.seq, .d (.ro 2 (procs a.peers))], .rw 33 4 (adverts (book l))] ac wd) ((book l).length) ?_ (Nat.zero_le _) ⟨false, ⟨Nat.zero_le _, by simp [newsTo, *]⟩, (r).cast (by simp) rfl⟩
    clear r
    rintro i hi0 again0 ac wd ⟨nw, hv0, r⟩
    obtain ⟨hi1, hv2⟩ := hv0
    have hbl := (book_good l).len
    cases nw with
    | false =>
      cases h1 : (decide ((((i : Nat) : Int) : Int) < (((book l).length : Nat) : Int))) with
      | false =>
        have qh1 := of_decide_eq_false h1
        rw [show (.tu [.em 33 4 (advertsO (takeG l a)), .v (.bool (newsG l a))] : DV) = .tu [.em 33 4 (advertsO (takeG l a)), .v (.bool false)] from (by rw [show newsG l a = false from by unfold newsG; rw [show (book l).length = i by omega]; exact hv2.symm])]
        exact toRet tb_ok mixed_ok hK rfl [(4, [(0, .b false)]), (9, [(4, .call [.d (.ro 4 (adverts (book l ++ [a])))] (.em 33 4 (advertsO (takeG l a))))])] 2000 r (by kernel_rfl) (an h1 (an ((by first | rfl | (simp; done) | (simp <;> omega)) : ((book l).length) = (adverts (book l)).length) (an ((by first | rfl | (simp; done) | (simp <;> omega)) : (1) = ([[.z a.server.node, .u a.server.inc, .u a.seq, .ro 2 (procs a.peers)]] : List (List DV)).length) (an ((by first | omega | (simp; done) | (simp <;> omega)) : (2 * (((book l).length) + (1)) + 192) * 48 ≤ 281474976710656) (an ((by first | omega | (simp; done) | (simp <;> omega)) : ((book l).length) + (1) < 4611686018427387904) (an ((by first | exact one_adverts [a] | simp [OneR, AV.one, oneC]) : OneR ([[.z a.server.node, .u a.server.inc, .u a.seq, .ro 2 (procs a.peers)]])) (an (ofOk (book l ++ [a]) (by simp; omega) (more_ok ha)) (an ((ind_adverts _ _) : Ind (.em 33 4 (advertsO (takeG l a)))) (an (rfN (4)) (an ((by first | rfl | (simp; done) | (simp <;> omega)) : ((book l).length + (1)) = (adverts (book l) ++ [[.z a.server.node, .u a.server.inc, .u a.seq, .ro 2 (procs a.peers)]] : List (List DV)).length) (an ((by first | exact froz_adverts _ | (rw [adverts_app]; exact froz_adverts _)) : frozR (adverts (book l) ++ [[.z a.server.node, .u a.server.inc, .u a.seq, .ro 2 (procs a.peers)]]) = adverts (book l ++ [a])) (an (rfN ((advertsO (takeG l a)).length)) trivial))))))))))))
      | true =>
        have qh1 := of_decide_eq_true h1
        obtain ⟨x, gx⟩ : ∃ x, (book l)[i]? = some x := ⟨_, List.getElem?_eq_getElem (by omega)⟩
        cases h2 : ((x.server.node : Int) == a.server.node) with
        | false =>
          have qh2 := ne_of_beq_false h2
          exact toHead (todo' := hd Try.f17 0) tb_ok mixed_ok hK [(4, [(0, .b true)]), (5, [(0, .n (i)), (1, .ix 0 [.z x.server.node, .u x.server.inc, .u x.seq, .ro 2 (procs x.peers)])]), (6, [(6, .b false)]), (8, [(0, .z (((i + 1 : Nat) : Int)))])] 2000 [0, 1] [3, 6, 7, 14, 15, 16] r (by kernel_rfl) (an h1 (an (rfI ((i : Nat) : Int)) (an ((by first | omega | decide | (simp; omega)) : (i) < ((book l).length)) (an ((by first | rfl | (simp; done) | (simp <;> omega)) : ((book l).length) ≤ (adverts (book l)).length) (an (adverts_at gx) (an h2 (an ((wi (by omega)) : IntKind.i64.wrap ((((i : Nat) : Int) : Int) + 1) = ((i + 1 : Nat) : Int)) trivial))))))) fun ac wd r => again0 (by omega) ac wd ⟨false, ⟨by omega, by first | exact (news_no gx (by omega) (by assumption)).symm | (rw [news_yes gx (by first | exact Or.inl (by omega) | exact Or.inr (by assumption))]; exact hv2)⟩, r⟩
        | true =>
          have qh2 := eq_of_beq h2
          cases h3 : (newer a x) with
          | false =>
            exact toHead (todo' := hd Try.f17 0) tb_ok mixed_ok hK [(4, [(0, .b true)]), (5, [(0, .n (i)), (1, .ix 0 [.z x.server.node, .u x.server.inc, .u x.seq, .ro 2 (procs x.peers)])]), (6, [(6, .b true), (10, .con (.v (.bool false)))]), (8, [(0, .z (((i + 1 : Nat) : Int)))])] 2000 [0, 1] [3, 6, 7, 14, 15, 16] r (by kernel_rfl) (an h1 (an (rfI ((i : Nat) : Int)) (an ((by first | omega | decide | (simp; omega)) : (i) < ((book l).length)) (an ((by first | rfl | (simp; done) | (simp <;> omega)) : ((book l).length) ≤ (adverts (book l)).length) (an (adverts_at gx) (an h2 (an ((by have k := newerOk a x; rw [h3] at k; exact k) : Con Try.prog 33 [.ag [.z a.server.node, .u a.server.inc, .u a.seq, .d (.ro 2 (procs a.peers))], .ag [.z x.server.node, .u x.server.inc, .u x.seq, .d (.ro 2 (procs x.peers))]] (.v (.bool false))) (an ((wi (by omega)) : IntKind.i64.wrap ((((i : Nat) : Int) : Int) + 1) = ((i + 1 : Nat) : Int)) trivial)))))))) fun ac wd r => again0 (by omega) ac wd ⟨false, ⟨by omega, by first | exact (news_no gx (by omega) (by assumption)).symm | (rw [news_yes gx (by first | exact Or.inl (by omega) | exact Or.inr (by assumption))]; exact hv2)⟩, r⟩
          | true =>
            exact toHead (todo' := hd Try.f17 0) tb_ok mixed_ok hK [(4, [(0, .b true)]), (5, [(0, .n (i)), (1, .ix 0 [.z x.server.node, .u x.server.inc, .u x.seq, .ro 2 (procs x.peers)])]), (6, [(6, .b true), (10, .con (.v (.bool true)))]), (8, [(0, .z (((i + 1 : Nat) : Int)))])] 2000 [0, 1] [3, 6, 7, 14, 15, 16] r (by kernel_rfl) (an h1 (an (rfI ((i : Nat) : Int)) (an ((by first | omega | decide | (simp; omega)) : (i) < ((book l).length)) (an ((by first | rfl | (simp; done) | (simp <;> omega)) : ((book l).length) ≤ (adverts (book l)).length) (an (adverts_at gx) (an h2 (an ((by have k := newerOk a x; rw [h3] at k; exact k) : Con Try.prog 33 [.ag [.z a.server.node, .u a.server.inc, .u a.seq, .d (.ro 2 (procs a.peers))], .ag [.z x.server.node, .u x.server.inc, .u x.seq, .d (.ro 2 (procs x.peers))]] (.v (.bool true))) (an ((wi (by omega)) : IntKind.i64.wrap ((((i : Nat) : Int) : Int) + 1) = ((i + 1 : Nat) : Int)) trivial)))))))) fun ac wd r => again0 (by omega) ac wd ⟨false, ⟨by omega, by first | exact (news_no gx (by omega) (by assumption)).symm | (rw [news_yes gx (by first | exact Or.inl (by omega) | exact Or.inr (by assumption))]; exact hv2)⟩, r⟩
    | true =>
      cases h4 : (decide ((((i : Nat) : Int) : Int) < (((book l).length : Nat) : Int))) with
      | false =>
        have qh4 := of_decide_eq_false h4
        rw [show (.tu [.em 33 4 (advertsO (takeG l a)), .v (.bool (newsG l a))] : DV) = .tu [.em 33 4 (advertsO (takeG l a)), .v (.bool true)] from (by rw [show newsG l a = true from by unfold newsG; rw [show (book l).length = i by omega]; exact hv2.symm])]
        exact toRet tb_ok mixed_ok hK rfl [(4, [(0, .b false)]), (9, [(4, .call [.d (.ro 4 (adverts (book l ++ [a])))] (.em 33 4 (advertsO (takeG l a))))])] 2000 r (by kernel_rfl) (an h4 (an ((by first | rfl | (simp; done) | (simp <;> omega)) : ((book l).length) = (adverts (book l)).length) (an ((by first | rfl | (simp; done) | (simp <;> omega)) : (1) = ([[.z a.server.node, .u a.server.inc, .u a.seq, .ro 2 (procs a.peers)]] : List (List DV)).length) (an ((by first | omega | (simp; done) | (simp <;> omega)) : (2 * (((book l).length) + (1)) + 192) * 48 ≤ 281474976710656) (an ((by first | omega | (simp; done) | (simp <;> omega)) : ((book l).length) + (1) < 4611686018427387904) (an ((by first | exact one_adverts [a] | simp [OneR, AV.one, oneC]) : OneR ([[.z a.server.node, .u a.server.inc, .u a.seq, .ro 2 (procs a.peers)]])) (an (ofOk (book l ++ [a]) (by simp; omega) (more_ok ha)) (an ((ind_adverts _ _) : Ind (.em 33 4 (advertsO (takeG l a)))) (an (rfN (4)) (an ((by first | rfl | (simp; done) | (simp <;> omega)) : ((book l).length + (1)) = (adverts (book l) ++ [[.z a.server.node, .u a.server.inc, .u a.seq, .ro 2 (procs a.peers)]] : List (List DV)).length) (an ((by first | exact froz_adverts _ | (rw [adverts_app]; exact froz_adverts _)) : frozR (adverts (book l) ++ [[.z a.server.node, .u a.server.inc, .u a.seq, .ro 2 (procs a.peers)]]) = adverts (book l ++ [a])) (an (rfN ((advertsO (takeG l a)).length)) trivial))))))))))))
      | true =>
        have qh4 := of_decide_eq_true h4
        obtain ⟨x, gx⟩ : ∃ x, (book l)[i]? = some x := ⟨_, List.getElem?_eq_getElem (by omega)⟩
        cases h5 : ((x.server.node : Int) == a.server.node) with
        | false =>
          have qh5 := ne_of_beq_false h5
          exact toHead (todo' := hd Try.f17 0) tb_ok mixed_ok hK [(4, [(0, .b true)]), (5, [(0, .n (i)), (1, .ix 0 [.z x.server.node, .u x.server.inc, .u x.seq, .ro 2 (procs x.peers)])]), (6, [(6, .b false)]), (8, [(0, .z (((i + 1 : Nat) : Int)))])] 2000 [0, 1] [3, 6, 7, 14, 15, 16] r (by kernel_rfl) (an h4 (an (rfI ((i : Nat) : Int)) (an ((by first | omega | decide | (simp; omega)) : (i) < ((book l).length)) (an ((by first | rfl | (simp; done) | (simp <;> omega)) : ((book l).length) ≤ (adverts (book l)).length) (an (adverts_at gx) (an h5 (an ((wi (by omega)) : IntKind.i64.wrap ((((i : Nat) : Int) : Int) + 1) = ((i + 1 : Nat) : Int)) trivial))))))) fun ac wd r => again0 (by omega) ac wd ⟨true, ⟨by omega, by first | exact (news_no gx (by omega) (by assumption)).symm | (rw [news_yes gx (by first | exact Or.inl (by omega) | exact Or.inr (by assumption))]; exact hv2)⟩, r⟩
        | true =>
          have qh5 := eq_of_beq h5
          cases h6 : (newer a x) with
          | false =>
            exact toHead (todo' := hd Try.f17 0) tb_ok mixed_ok hK [(4, [(0, .b true)]), (5, [(0, .n (i)), (1, .ix 0 [.z x.server.node, .u x.server.inc, .u x.seq, .ro 2 (procs x.peers)])]), (6, [(6, .b true), (10, .con (.v (.bool false)))]), (8, [(0, .z (((i + 1 : Nat) : Int)))])] 2000 [0, 1] [3, 6, 7, 14, 15, 16] r (by kernel_rfl) (an h4 (an (rfI ((i : Nat) : Int)) (an ((by first | omega | decide | (simp; omega)) : (i) < ((book l).length)) (an ((by first | rfl | (simp; done) | (simp <;> omega)) : ((book l).length) ≤ (adverts (book l)).length) (an (adverts_at gx) (an h5 (an ((by have k := newerOk a x; rw [h6] at k; exact k) : Con Try.prog 33 [.ag [.z a.server.node, .u a.server.inc, .u a.seq, .d (.ro 2 (procs a.peers))], .ag [.z x.server.node, .u x.server.inc, .u x.seq, .d (.ro 2 (procs x.peers))]] (.v (.bool false))) (an ((wi (by omega)) : IntKind.i64.wrap ((((i : Nat) : Int) : Int) + 1) = ((i + 1 : Nat) : Int)) trivial)))))))) fun ac wd r => again0 (by omega) ac wd ⟨false, ⟨by omega, by first | exact (news_no gx (by omega) (by assumption)).symm | (rw [news_yes gx (by first | exact Or.inl (by omega) | exact Or.inr (by assumption))]; exact hv2)⟩, r⟩
          | true =>
            exact toHead (todo' := hd Try.f17 0) tb_ok mixed_ok hK [(4, [(0, .b true)]), (5, [(0, .n (i)), (1, .ix 0 [.z x.server.node, .u x.server.inc, .u x.seq, .ro 2 (procs x.peers)])]), (6, [(6, .b true), (10, .con (.v (.bool true)))]), (8, [(0, .z (((i + 1 : Nat) : Int)))])] 2000 [0, 1] [3, 6, 7, 14, 15, 16] r (by kernel_rfl) (an h4 (an (rfI ((i : Nat) : Int)) (an ((by first | omega | decide | (simp; omega)) : (i) < ((book l).length)) (an ((by first | rfl | (simp; done) | (simp <;> omega)) : ((book l).length) ≤ (adverts (book l)).length) (an (adverts_at gx) (an h5 (an ((by have k := newerOk a x; rw [h6] at k; exact k) : Con Try.prog 33 [.ag [.z a.server.node, .u a.server.inc, .u a.seq, .d (.ro 2 (procs a.peers))], .ag [.z x.server.node, .u x.server.inc, .u x.seq, .d (.ro 2 (procs x.peers))]] (.v (.bool true))) (an ((wi (by omega)) : IntKind.i64.wrap ((((i : Nat) : Int) : Int) + 1) = ((i + 1 : Nat) : Int)) trivial)))))))) fun ac wd r => again0 (by omega) ac wd ⟨true, ⟨by omega, by first | exact (news_no gx (by omega) (by assumption)).symm | (rw [news_yes gx (by first | exact Or.inl (by omega) | exact Or.inr (by assumption))]; exact hv2)⟩, r⟩
  | true =>
    refine toHead (todo' := hd Try.f17 0) (E' := [(3, .pt 0 0), (6, .sl 1 ((advertsO (book l)).length)), (7, .d (.v (.bool true))), (14, .sl 1 ((advertsO (book l)).length)), (15, .n ((book l).length)), (16, .z 0)]) (M' := [.bx 33 [.z a.server.node, .u a.server.inc, .u a.seq, .d (.ro 2 (procs a.peers))], .rw 33 4 (adverts (book l))]) tb_ok mixed_ok hK [(2, [(1, .con (.v (.bool true)))]), (3, [(1, .z ((((book l).length : Nat) : Int)))])] 2000 [0, 1] [3, 6, 7, 14, 15, 16] r (by kernel_rfl) (an ((by have k := mayOk a ha; rw [h0] at k; exact k) : Con Try.prog 32 [.ag [.z a.server.node, .u a.server.inc, .u a.seq, .d (.ro 2 (procs a.peers))]] (.v (.bool true))) (an ((by simp) : (((advertsO (book l)).length : Nat) : Int) = (((book l).length : Nat) : Int)) trivial)) fun ac wd r => ?_
    refine Goes.rounds (Φ := fun (i : Nat) ac wd => ∃ nw : Bool, (i ≤ (book l).length ∧ nw = newsTo (book l) a i) ∧ RE' [] w0 K 40 [(3, .pt 0 0), (6, .sl 1 ((book l).length)), (7, .d (.v (.bool nw))), (14, .sl 1 ((book l).length)), (15, .n ((book l).length)), (16, .n i)] [.bx 33 [.z a.server.node, .u a.server.inc, .u a.seq, .d (.ro 2 (procs a.peers))], .rw 33 4 (adverts (book l))] ac wd) ((book l).length) ?_ (Nat.zero_le _) ⟨true, ⟨Nat.zero_le _, by simp [newsTo, *]⟩, (r).cast (by simp) rfl⟩
    clear r
    rintro i hi0 again0 ac wd ⟨nw, hv0, r⟩
    obtain ⟨hi1, hv2⟩ := hv0
    have hbl := (book_good l).len
    cases nw with
    | false =>
      cases h7 : (decide ((((i : Nat) : Int) : Int) < (((book l).length : Nat) : Int))) with
      | false =>
        have qh7 := of_decide_eq_false h7
        rw [show (.tu [.em 33 4 (advertsO (takeG l a)), .v (.bool (newsG l a))] : DV) = .tu [.em 33 4 (advertsO (takeG l a)), .v (.bool false)] from (by rw [show newsG l a = false from by unfold newsG; rw [show (book l).length = i by omega]; exact hv2.symm])]
        exact toRet tb_ok mixed_ok hK rfl [(4, [(0, .b false)]), (9, [(4, .call [.d (.ro 4 (adverts (book l ++ [a])))] (.em 33 4 (advertsO (takeG l a))))])] 2000 r (by kernel_rfl) (an h7 (an ((by first | rfl | (simp; done) | (simp <;> omega)) : ((book l).length) = (adverts (book l)).length) (an ((by first | rfl | (simp; done) | (simp <;> omega)) : (1) = ([[.z a.server.node, .u a.server.inc, .u a.seq, .ro 2 (procs a.peers)]] : List (List DV)).length) (an ((by first | omega | (simp; done) | (simp <;> omega)) : (2 * (((book l).length) + (1)) + 192) * 48 ≤ 281474976710656) (an ((by first | omega | (simp; done) | (simp <;> omega)) : ((book l).length) + (1) < 4611686018427387904) (an ((by first | exact one_adverts [a] | simp [OneR, AV.one, oneC]) : OneR ([[.z a.server.node, .u a.server.inc, .u a.seq, .ro 2 (procs a.peers)]])) (an (ofOk (book l ++ [a]) (by simp; omega) (more_ok ha)) (an ((ind_adverts _ _) : Ind (.em 33 4 (advertsO (takeG l a)))) (an (rfN (4)) (an ((by first | rfl | (simp; done) | (simp <;> omega)) : ((book l).length + (1)) = (adverts (book l) ++ [[.z a.server.node, .u a.server.inc, .u a.seq, .ro 2 (procs a.peers)]] : List (List DV)).length) (an ((by first | exact froz_adverts _ | (rw [adverts_app]; exact froz_adverts _)) : frozR (adverts (book l) ++ [[.z a.server.node, .u a.server.inc, .u a.seq, .ro 2 (procs a.peers)]]) = adverts (book l ++ [a])) (an (rfN ((advertsO (takeG l a)).length)) trivial))))))))))))
      | true =>
        have qh7 := of_decide_eq_true h7
        obtain ⟨x, gx⟩ : ∃ x, (book l)[i]? = some x := ⟨_, List.getElem?_eq_getElem (by omega)⟩
        cases h8 : ((x.server.node : Int) == a.server.node) with
        | false =>
          have qh8 := ne_of_beq_false h8
          exact toHead (todo' := hd Try.f17 0) tb_ok mixed_ok hK [(4, [(0, .b true)]), (5, [(0, .n (i)), (1, .ix 0 [.z x.server.node, .u x.server.inc, .u x.seq, .ro 2 (procs x.peers)])]), (6, [(6, .b false)]), (8, [(0, .z (((i + 1 : Nat) : Int)))])] 2000 [0, 1] [3, 6, 7, 14, 15, 16] r (by kernel_rfl) (an h7 (an (rfI ((i : Nat) : Int)) (an ((by first | omega | decide | (simp; omega)) : (i) < ((book l).length)) (an ((by first | rfl | (simp; done) | (simp <;> omega)) : ((book l).length) ≤ (adverts (book l)).length) (an (adverts_at gx) (an h8 (an ((wi (by omega)) : IntKind.i64.wrap ((((i : Nat) : Int) : Int) + 1) = ((i + 1 : Nat) : Int)) trivial))))))) fun ac wd r => again0 (by omega) ac wd ⟨false, ⟨by omega, by first | exact (news_no gx (by omega) (by assumption)).symm | (rw [news_yes gx (by first | exact Or.inl (by omega) | exact Or.inr (by assumption))]; exact hv2)⟩, r⟩
        | true =>
          have qh8 := eq_of_beq h8
          cases h9 : (newer a x) with
          | false =>
            exact toHead (todo' := hd Try.f17 0) tb_ok mixed_ok hK [(4, [(0, .b true)]), (5, [(0, .n (i)), (1, .ix 0 [.z x.server.node, .u x.server.inc, .u x.seq, .ro 2 (procs x.peers)])]), (6, [(6, .b true), (10, .con (.v (.bool false)))]), (8, [(0, .z (((i + 1 : Nat) : Int)))])] 2000 [0, 1] [3, 6, 7, 14, 15, 16] r (by kernel_rfl) (an h7 (an (rfI ((i : Nat) : Int)) (an ((by first | omega | decide | (simp; omega)) : (i) < ((book l).length)) (an ((by first | rfl | (simp; done) | (simp <;> omega)) : ((book l).length) ≤ (adverts (book l)).length) (an (adverts_at gx) (an h8 (an ((by have k := newerOk a x; rw [h9] at k; exact k) : Con Try.prog 33 [.ag [.z a.server.node, .u a.server.inc, .u a.seq, .d (.ro 2 (procs a.peers))], .ag [.z x.server.node, .u x.server.inc, .u x.seq, .d (.ro 2 (procs x.peers))]] (.v (.bool false))) (an ((wi (by omega)) : IntKind.i64.wrap ((((i : Nat) : Int) : Int) + 1) = ((i + 1 : Nat) : Int)) trivial)))))))) fun ac wd r => again0 (by omega) ac wd ⟨false, ⟨by omega, by first | exact (news_no gx (by omega) (by assumption)).symm | (rw [news_yes gx (by first | exact Or.inl (by omega) | exact Or.inr (by assumption))]; exact hv2)⟩, r⟩
          | true =>
            exact toHead (todo' := hd Try.f17 0) tb_ok mixed_ok hK [(4, [(0, .b true)]), (5, [(0, .n (i)), (1, .ix 0 [.z x.server.node, .u x.server.inc, .u x.seq, .ro 2 (procs x.peers)])]), (6, [(6, .b true), (10, .con (.v (.bool true)))]), (8, [(0, .z (((i + 1 : Nat) : Int)))])] 2000 [0, 1] [3, 6, 7, 14, 15, 16] r (by kernel_rfl) (an h7 (an (rfI ((i : Nat) : Int)) (an ((by first | omega | decide | (simp; omega)) : (i) < ((book l).length)) (an ((by first | rfl | (simp; done) | (simp <;> omega)) : ((book l).length) ≤ (adverts (book l)).length) (an (adverts_at gx) (an h8 (an ((by have k := newerOk a x; rw [h9] at k; exact k) : Con Try.prog 33 [.ag [.z a.server.node, .u a.server.inc, .u a.seq, .d (.ro 2 (procs a.peers))], .ag [.z x.server.node, .u x.server.inc, .u x.seq, .d (.ro 2 (procs x.peers))]] (.v (.bool true))) (an ((wi (by omega)) : IntKind.i64.wrap ((((i : Nat) : Int) : Int) + 1) = ((i + 1 : Nat) : Int)) trivial)))))))) fun ac wd r => again0 (by omega) ac wd ⟨false, ⟨by omega, by first | exact (news_no gx (by omega) (by assumption)).symm | (rw [news_yes gx (by first | exact Or.inl (by omega) | exact Or.inr (by assumption))]; exact hv2)⟩, r⟩
    | true =>
      cases h10 : (decide ((((i : Nat) : Int) : Int) < (((book l).length : Nat) : Int))) with
      | false =>
        have qh10 := of_decide_eq_false h10
        rw [show (.tu [.em 33 4 (advertsO (takeG l a)), .v (.bool (newsG l a))] : DV) = .tu [.em 33 4 (advertsO (takeG l a)), .v (.bool true)] from (by rw [show newsG l a = true from by unfold newsG; rw [show (book l).length = i by omega]; exact hv2.symm])]
        exact toRet tb_ok mixed_ok hK rfl [(4, [(0, .b false)]), (9, [(4, .call [.d (.ro 4 (adverts (book l ++ [a])))] (.em 33 4 (advertsO (takeG l a))))])] 2000 r (by kernel_rfl) (an h10 (an ((by first | rfl | (simp; done) | (simp <;> omega)) : ((book l).length) = (adverts (book l)).length) (an ((by first | rfl | (simp; done) | (simp <;> omega)) : (1) = ([[.z a.server.node, .u a.server.inc, .u a.seq, .ro 2 (procs a.peers)]] : List (List DV)).length) (an ((by first | omega | (simp; done) | (simp <;> omega)) : (2 * (((book l).length) + (1)) + 192) * 48 ≤ 281474976710656) (an ((by first | omega | (simp; done) | (simp <;> omega)) : ((book l).length) + (1) < 4611686018427387904) (an ((by first | exact one_adverts [a] | simp [OneR, AV.one, oneC]) : OneR ([[.z a.server.node, .u a.server.inc, .u a.seq, .ro 2 (procs a.peers)]])) (an (ofOk (book l ++ [a]) (by simp; omega) (more_ok ha)) (an ((ind_adverts _ _) : Ind (.em 33 4 (advertsO (takeG l a)))) (an (rfN (4)) (an ((by first | rfl | (simp; done) | (simp <;> omega)) : ((book l).length + (1)) = (adverts (book l) ++ [[.z a.server.node, .u a.server.inc, .u a.seq, .ro 2 (procs a.peers)]] : List (List DV)).length) (an ((by first | exact froz_adverts _ | (rw [adverts_app]; exact froz_adverts _)) : frozR (adverts (book l) ++ [[.z a.server.node, .u a.server.inc, .u a.seq, .ro 2 (procs a.peers)]]) = adverts (book l ++ [a])) (an (rfN ((advertsO (takeG l a)).length)) trivial))))))))))))
      | true =>
        have qh10 := of_decide_eq_true h10
        obtain ⟨x, gx⟩ : ∃ x, (book l)[i]? = some x := ⟨_, List.getElem?_eq_getElem (by omega)⟩
        cases h11 : ((x.server.node : Int) == a.server.node) with
        | false =>
          have qh11 := ne_of_beq_false h11
          exact toHead (todo' := hd Try.f17 0) tb_ok mixed_ok hK [(4, [(0, .b true)]), (5, [(0, .n (i)), (1, .ix 0 [.z x.server.node, .u x.server.inc, .u x.seq, .ro 2 (procs x.peers)])]), (6, [(6, .b false)]), (8, [(0, .z (((i + 1 : Nat) : Int)))])] 2000 [0, 1] [3, 6, 7, 14, 15, 16] r (by kernel_rfl) (an h10 (an (rfI ((i : Nat) : Int)) (an ((by first | omega | decide | (simp; omega)) : (i) < ((book l).length)) (an ((by first | rfl | (simp; done) | (simp <;> omega)) : ((book l).length) ≤ (adverts (book l)).length) (an (adverts_at gx) (an h11 (an ((wi (by omega)) : IntKind.i64.wrap ((((i : Nat) : Int) : Int) + 1) = ((i + 1 : Nat) : Int)) trivial))))))) fun ac wd r => again0 (by omega) ac wd ⟨true, ⟨by omega, by first | exact (news_no gx (by omega) (by assumption)).symm | (rw [news_yes gx (by first | exact Or.inl (by omega) | exact Or.inr (by assumption))]; exact hv2)⟩, r⟩
        | true =>
          have qh11 := eq_of_beq h11
          cases h12 : (newer a x) with
          | false =>
            exact toHead (todo' := hd Try.f17 0) tb_ok mixed_ok hK [(4, [(0, .b true)]), (5, [(0, .n (i)), (1, .ix 0 [.z x.server.node, .u x.server.inc, .u x.seq, .ro 2 (procs x.peers)])]), (6, [(6, .b true), (10, .con (.v (.bool false)))]), (8, [(0, .z (((i + 1 : Nat) : Int)))])] 2000 [0, 1] [3, 6, 7, 14, 15, 16] r (by kernel_rfl) (an h10 (an (rfI ((i : Nat) : Int)) (an ((by first | omega | decide | (simp; omega)) : (i) < ((book l).length)) (an ((by first | rfl | (simp; done) | (simp <;> omega)) : ((book l).length) ≤ (adverts (book l)).length) (an (adverts_at gx) (an h11 (an ((by have k := newerOk a x; rw [h12] at k; exact k) : Con Try.prog 33 [.ag [.z a.server.node, .u a.server.inc, .u a.seq, .d (.ro 2 (procs a.peers))], .ag [.z x.server.node, .u x.server.inc, .u x.seq, .d (.ro 2 (procs x.peers))]] (.v (.bool false))) (an ((wi (by omega)) : IntKind.i64.wrap ((((i : Nat) : Int) : Int) + 1) = ((i + 1 : Nat) : Int)) trivial)))))))) fun ac wd r => again0 (by omega) ac wd ⟨false, ⟨by omega, by first | exact (news_no gx (by omega) (by assumption)).symm | (rw [news_yes gx (by first | exact Or.inl (by omega) | exact Or.inr (by assumption))]; exact hv2)⟩, r⟩
          | true =>
            exact toHead (todo' := hd Try.f17 0) tb_ok mixed_ok hK [(4, [(0, .b true)]), (5, [(0, .n (i)), (1, .ix 0 [.z x.server.node, .u x.server.inc, .u x.seq, .ro 2 (procs x.peers)])]), (6, [(6, .b true), (10, .con (.v (.bool true)))]), (8, [(0, .z (((i + 1 : Nat) : Int)))])] 2000 [0, 1] [3, 6, 7, 14, 15, 16] r (by kernel_rfl) (an h10 (an (rfI ((i : Nat) : Int)) (an ((by first | omega | decide | (simp; omega)) : (i) < ((book l).length)) (an ((by first | rfl | (simp; done) | (simp <;> omega)) : ((book l).length) ≤ (adverts (book l)).length) (an (adverts_at gx) (an h11 (an ((by have k := newerOk a x; rw [h12] at k; exact k) : Con Try.prog 33 [.ag [.z a.server.node, .u a.server.inc, .u a.seq, .d (.ro 2 (procs a.peers))], .ag [.z x.server.node, .u x.server.inc, .u x.seq, .d (.ro 2 (procs x.peers))]] (.v (.bool true))) (an ((wi (by omega)) : IntKind.i64.wrap ((((i : Nat) : Int) : Int) + 1) = ((i + 1 : Nat) : Int)) trivial)))))))) fun ac wd r => again0 (by omega) ac wd ⟨true, ⟨by omega, by first | exact (news_no gx (by omega) (by assumption)).symm | (rw [news_yes gx (by first | exact Or.inl (by omega) | exact Or.inr (by assumption))]; exact hv2)⟩, r⟩
end Go.Proofs.Ytikmdkicccfjpaa
namespace Go.Proofs.Ytikmdkicccfjpaa
open Go.RowKit
def nTo (l : List Advert) : Nat → Int
  | 0 => 0
  | i + 1 => match l[i]? with | some a => IntKind.i64.wrap (nTo l i + IntKind.i64.wrap (1 + (a.peers.length : Int))) | none => nTo l i
theorem nTo_succ {l : List Advert} {i : Nat} {a : Advert} (h : l[i]? = some a) : IntKind.i64.wrap (nTo l i + IntKind.i64.wrap (1 + (a.peers.length : Int))) = nTo l (i + 1) := by rw [nTo, h]
def longB (l : List Advert) : Bool := (List.range l.length).any fun i => decide (400 < nTo l (i + 1))
theorem long_yes {l : List Advert} {i : Nat} (hi : i < l.length) (h : 400 < nTo l (i + 1)) : longB l = true := by
  unfold longB; rw [List.any_eq_true]; exact ⟨i, by simpa using hi, decide_eq_true h⟩
theorem long_no {l : List Advert} (h : ∀ j, j < l.length → ¬ 400 < nTo l (j + 1)) : longB l = false := by
  unfold longB; rw [List.any_eq_false]; intro i hi; simpa using h i (by simpa using hi)
set_option maxRecDepth 100000 in
theorem longOk (l : List Advert) (hb : l.length ≤ 9223372036854775807) : Con Try.prog 11 [.d (.ro 4 (adverts l))] (.v (.bool (longB l))) := by
  refine Con.intro (by kernel_rfl) rfl rfl 22 rfl rfl fun w0 K ac hK r => ?_
  refine toHead (todo' := hd Try.f11 0) (E' := [(0, .d (.ro 4 (adverts l))), (3, .z (nTo l 0)), (4, .n 0)]) (M' := []) tb_ok mixed_ok hK [] 2000 [] [0, 3, 4] r (by kernel_rfl) trivial fun ac wd r => ?_
  refine Goes.rounds (Φ := fun (i : Nat) ac wd => (i ≤ l.length ∧ ∀ j, j < i → ¬ 400 < nTo l (j + 1)) ∧ RE' [] w0 K 22 [(0, .d (.ro 4 (adverts l))), (3, .z (nTo l i)), (4, .n i)] [] ac wd) (l.length) ?_ (Nat.zero_le _) ⟨⟨Nat.zero_le _, by omega⟩, r⟩
  clear r
  rintro i hi0 again0 ac wd ⟨hv0, r⟩
  obtain ⟨hi1, hv0⟩ := hv0
  cases h0 : (decide ((((i : Nat) : Int) : Int) < ((l.length : Nat) : Int))) with
  | false =>
    have qh0 := of_decide_eq_false h0
    rw [show (.v (.bool (longB l)) : DV) = .v (.bool false) from (bv (long_no fun j hj => hv0 j (by omega)))]
    exact toRet tb_ok mixed_ok hK rfl [(3, [(2, .z (((l.length : Nat) : Int))), (3, .b false)])] 2000 r (by kernel_rfl) (an ((by simp) : (((adverts l).length : Nat) : Int) = ((l.length : Nat) : Int)) (an h0 trivial))
  | true =>
    have qh0 := of_decide_eq_true h0
    obtain ⟨e_l_i, ge_l_i⟩ : ∃ x, l[i]? = some x := ⟨_, List.getElem?_eq_getElem (by omega)⟩
    cases h1 : (decide ((400 : Int) < nTo l (i + 1))) with
    | false =>
      have qh1 := of_decide_eq_false h1
      exact toHead (todo' := hd Try.f11 0) tb_ok mixed_ok hK [(3, [(2, .z (((l.length : Nat) : Int))), (3, .b true)]), (4, [(1, .z (((i + 1 : Nat) : Int)))]), (5, [(3, .ix (i) [.z e_l_i.server.node, .u e_l_i.server.inc, .u e_l_i.seq, .ro 2 (procs e_l_i.peers)]), (6, .z (((e_l_i.peers.length : Nat) : Int))), (7, .z (IntKind.i64.wrap (1 + ((e_l_i.peers.length : Nat) : Int)))), (8, .z (nTo l (i + 1)))]), (6, [(1, .b false)])] 2000 [] [0, 3, 4] r (by kernel_rfl) (an ((by simp) : (((adverts l).length : Nat) : Int) = ((l.length : Nat) : Int)) (an h0 (an (rfI ((i : Nat) : Int)) (an (adverts_at ge_l_i) (an ((by simp) : (((procs e_l_i.peers).length : Nat) : Int) = ((e_l_i.peers.length : Nat) : Int)) (an ((by first | exact wi (by omega) | rfl | exact nTo_succ ge_l_i) : IntKind.i64.wrap ((1 : Int) + ((e_l_i.peers.length : Nat) : Int)) = IntKind.i64.wrap (1 + ((e_l_i.peers.length : Nat) : Int))) (an ((by first | exact wi (by omega) | rfl | exact nTo_succ ge_l_i) : IntKind.i64.wrap ((nTo l i : Int) + IntKind.i64.wrap (1 + ((e_l_i.peers.length : Nat) : Int))) = nTo l (i + 1)) (an h1 (an ((by first | exact wi (by omega) | rfl | exact nTo_succ ge_l_i) : IntKind.i64.wrap ((((i : Nat) : Int) : Int) + 1) = ((i + 1 : Nat) : Int)) trivial))))))))) fun ac wd r => again0 (by omega) ac wd ⟨⟨by omega, fun j hj => by rcases Nat.lt_succ_iff_lt_or_eq.1 hj with h | rfl; exact hv0 j h; omega⟩, r⟩
    | true =>
      have qh1 := of_decide_eq_true h1
      rw [show (.v (.bool (longB l)) : DV) = .v (.bool true) from (bv (long_yes (i := i) (by omega) (by omega)))]
      exact toRet tb_ok mixed_ok hK rfl [(3, [(2, .z (((l.length : Nat) : Int))), (3, .b true)]), (5, [(3, .ix (i) [.z e_l_i.server.node, .u e_l_i.server.inc, .u e_l_i.seq, .ro 2 (procs e_l_i.peers)]), (6, .z (((e_l_i.peers.length : Nat) : Int))), (7, .z (IntKind.i64.wrap (1 + ((e_l_i.peers.length : Nat) : Int)))), (8, .z (nTo l (i + 1)))]), (6, [(1, .b true)])] 2000 r (by kernel_rfl) (an ((by simp) : (((adverts l).length : Nat) : Int) = ((l.length : Nat) : Int)) (an h0 (an (rfI ((i : Nat) : Int)) (an (adverts_at ge_l_i) (an ((by simp) : (((procs e_l_i.peers).length : Nat) : Int) = ((e_l_i.peers.length : Nat) : Int)) (an ((by first | exact wi (by omega) | rfl | exact nTo_succ ge_l_i) : IntKind.i64.wrap ((1 : Int) + ((e_l_i.peers.length : Nat) : Int)) = IntKind.i64.wrap (1 + ((e_l_i.peers.length : Nat) : Int))) (an ((by first | exact wi (by omega) | rfl | exact nTo_succ ge_l_i) : IntKind.i64.wrap ((nTo l i : Int) + IntKind.i64.wrap (1 + ((e_l_i.peers.length : Nat) : Int))) = nTo l (i + 1)) (an h1 trivial))))))))
end Go.Proofs.Ytikmdkicccfjpaa
namespace Go.Proofs.Ytikmdkicccfjpaa
open Go.RowKit
def reC (b : List Advert) (p : Proc) : List Proc := p :: (b.filter fun a => decide (0 ≤ stepsR b p a.server)).map Advert.server
def reachC (l : List Advert) (p : Proc) : List Proc := if p.low then srt (reC (book l) p) else []
theorem reach_c {l : List Advert} {p : Proc} (hp : p.okP) : reachG l p = reachC l p := by
  unfold reachC
  split
  · rename_i h
    rw [← reach_is hp h (Nat.le_refl _)]; unfold reTo reC; rw [List.take_length]
  · rename_i h
    unfold reachG
    rw [if_neg]
    rintro ⟨h1, h2⟩
    exact h (by unfold Proc.low; rw [h1, decide_eq_true h2]; rfl)
def nextC (l : List Advert) (p : Proc) (to : Int) : Int × Bool :=
  if to = p.node then (0, false) else match (book l).find? (fun a => decide (a.server.node = to)) with
  | none => (0, false)
  | some a => if stepsR (book l) p a.server < 0 then (0, false) else match (nbTo (book l) p (book l).length).find? (fun q => stepsR (book l) q a.server == stepsR (book l) p a.server - 1) with
    | none => (0, false)
    | some q => (q.node, true)
theorem next_c {l : List Advert} {p : Proc} {to : Int} : nextG l p to = nextC l p to := by
  unfold nextC nextG
  by_cases hne : to = p.node
  · rw [if_pos hne, if_pos hne]
  · rw [if_neg hne, if_neg hne]
    cases hfd : (book l).find? (fun a => decide (a.server.node = to)) with
    | none => rfl
    | some a =>
      dsimp only
      have hm := List.mem_of_find?_eq_some hfd
      obtain ⟨i, hi, rfl⟩ := List.getElem_of_mem hm
      have ga : (book l)[i]? = some (book l)[i] := List.getElem?_eq_getElem hi
      have hn : (book l)[i].server.node = to := by simpa using List.find?_some hfd
      by_cases hs : stepsR (book l) p (book l)[i].server < 0
      · have h0 := steps_none ga hs
        rw [if_pos hs]
        cases hd : dOf (farL (book l) (book l)[i].server) p with
        | none => rfl
        | some s => rw [hd] at h0; cases h0
      · rw [if_neg hs]
        obtain ⟨s, h1, h2, h3⟩ := steps_some ga hs (by omega)
        simp only [h1]
        have : (jn (book l) p).find? (hit (book l) (book l)[i].server s) = (nbTo (book l) p (book l).length).find? (fun q => stepsR (book l) q (book l)[i].server == stepsR (book l) p (book l)[i].server - 1) := by
          rw [jn_nb (book_good l)]
          congr 1
          funext q
          exact steps_hit ga h3 h2 rfl
        rw [this]
        cases (nbTo (book l) p (book l).length).find? (fun q => stepsR (book l) q (book l)[i].server == stepsR (book l) p (book l)[i].server - 1) <;> rfl
abbrev exam : List Advert := [⟨⟨1, 1⟩, 1, [⟨2, 1⟩]⟩, ⟨⟨2, 1⟩, 1, [⟨1, 1⟩, ⟨3, 4⟩]⟩, ⟨⟨3, 4⟩, 1, [⟨2, 1⟩]⟩, ⟨⟨4, 1⟩, 1, [⟨3, 4⟩]⟩]
theorem exam_1 : book exam = exam := by kernel_rfl
theorem exam_2 : nextG exam ⟨1, 1⟩ 3 = (2, true) := by rw [next_c]; kernel_rfl
theorem exam_3 : nextG exam ⟨1, 1⟩ 4 = (0, false) := by rw [next_c]; kernel_rfl
theorem exam_4 : (reachG exam ⟨1, 1⟩).length = 3 := by rw [reach_c (by unfold Proc.okP; dsimp only; omega)]; kernel_rfl
abbrev exam2 : List Advert := [⟨⟨1, 1⟩, 1, [⟨2, 1⟩]⟩, ⟨⟨2, 1⟩, 1, [⟨1, 1⟩, ⟨3, 4⟩]⟩, ⟨⟨3, 4⟩, 2, []⟩, ⟨⟨4, 1⟩, 1, [⟨3, 4⟩]⟩]
theorem exam_5 : takeG exam ⟨⟨3, 4⟩, 2, []⟩ = exam2 := by kernel_rfl
theorem exam_6 : newsG exam ⟨⟨3, 4⟩, 2, []⟩ = true := by kernel_rfl
theorem exam_7 : newsG exam ⟨⟨3, 3⟩, 2, []⟩ = false := by kernel_rfl
theorem exam_8 : (reachG exam2 ⟨1, 1⟩).length = 2 := by rw [reach_c (by unfold Proc.okP; dsimp only; omega)]; kernel_rfl
end Go.Proofs.Ytikmdkicccfjpaa
namespace Go.Proofs.Ytikmdkicccfjpaa
open Go.RowKit
set_option maxRecDepth 100000 in
theorem examOk  : Con Try.prog 29 [] (.em 33 4 (advertsO exam)) := by
  refine Con.intro (by kernel_rfl) rfl rfl 19 rfl rfl fun w0 K ac hK r => ?_
  rw [show (.em 33 4 (advertsO exam) : DV) = .em 33 4 ([[.z 1, .v (.int .u64 1), .v (.int .u64 1), .em 30 2 ([[.z 2, .v (.int .u64 1)]])], [.z 2, .v (.int .u64 1), .v (.int .u64 1), .em 30 2 ([[.z 1, .v (.int .u64 1)], [.z 3, .v (.int .u64 4)]])], [.z 3, .v (.int .u64 4), .v (.int .u64 1), .em 30 2 ([[.z 2, .v (.int .u64 1)]])], [.z 4, .v (.int .u64 1), .v (.int .u64 1), .em 30 2 ([[.z 3, .v (.int .u64 4)]])]]) from rfl]
  exact toRet tb_ok mixed_ok hK rfl [(1, [(0, .into 200 []), (1, .into 200 []), (4, .into 200 []), (5, .into 200 []), (6, .into 200 []), (9, .into 200 []), (10, .into 200 []), (13, .into 200 []), (14, .into 200 [])])] 2000 r (by kernel_rfl) (an ((by first | rfl | (simp; done)) : (1) = ([[.z 2, .v (.int .u64 1)]] : List (List DV)).length) (an ((by first | rfl | (simp; done)) : (2) = ([[.z 1, .v (.int .u64 1)], [.z 3, .v (.int .u64 4)]] : List (List DV)).length) (an ((by first | rfl | (simp; done)) : (1) = ([[.z 2, .v (.int .u64 1)]] : List (List DV)).length) (an ((by first | rfl | (simp; done)) : (1) = ([[.z 3, .v (.int .u64 4)]] : List (List DV)).length) (an ((by first | rfl | (simp; done)) : (4) = ([[.z 1, .v (.int .u64 1), .v (.int .u64 1), .em 30 2 ([[.z 2, .v (.int .u64 1)]])], [.z 2, .v (.int .u64 1), .v (.int .u64 1), .em 30 2 ([[.z 1, .v (.int .u64 1)], [.z 3, .v (.int .u64 4)]])], [.z 3, .v (.int .u64 4), .v (.int .u64 1), .em 30 2 ([[.z 2, .v (.int .u64 1)]])], [.z 4, .v (.int .u64 1), .v (.int .u64 1), .em 30 2 ([[.z 3, .v (.int .u64 4)]])]] : List (List DV)).length) trivial)))))
theorem Con.sub {P : Program} {f : FuncId} {args args' : List AV} {x : DV} (h : Con P f args x) (hl : args'.length = args.length) (e : ∀ (K : World → Prop) (j : Nat) c c' y, args[j]? = some c → args'[j]? = some c' → ARel K [] c' y → ARel K [] c y) : Con P f args' x := by
  refine ⟨h.1, fun w K ys hK hy hr => h.2 w K ys hK (by omega) fun j c y h1 h2 => ?_⟩
  have hj : j < args'.length := by rw [hl]; exact (List.getElem?_eq_some_iff.1 h1).1
  have e1 := List.getElem?_eq_getElem hj
  exact e _ j c _ y h1 e1 (hr j _ y e1 h2)
theorem ARel.le {K : World → Prop} {x x' : DV} {y : Value} (e : Le x x') (h : ARel K [] (.d x) y) : ARel K [] (.d x') y := by
  cases h with | d h => exact .d (e _ _ _ h)
theorem adv_nil {K : World → Prop} {a b c : Value} {y : Value} (h : ARel K [] (.ag [.d (.v a), .d (.v b), .d (.v c), .d (.v (.slice none 0 0))]) y) : ARel K [] (.ag [.d (.v a), .d (.v b), .d (.v c), .d (.ro 2 [])]) y := by
  cases h with
  | ag ys hl hr =>
    refine .ag ys hl fun j c' z h1 h2 => ?_
    match j with
    | 0 => simp at h1; subst h1; exact hr 0 _ z rfl h2
    | 1 => simp at h1; subst h1; exact hr 1 _ z rfl h2
    | 2 => simp at h1; subst h1; exact hr 2 _ z rfl h2
    | 3 => simp at h1; subst h1; exact ARel.le (Le.nilRo 2) (hr 3 _ z rfl h2)
    | j + 4 => simp at h1
theorem take_nil (l : List Advert) (p : Proc) (s : Nat) (hb : l.length ≤ 9223372036854775807) (hl : ∀ x ∈ l, x.peers.length ≤ 9223372036854775807) : Con Try.prog 17 [.d (.ro 4 (adverts l)), .ag [.z p.node, .u p.inc, .u s, .d (.v (.slice none 0 0))]] (.tu [.ro 4 (adverts (takeG l ⟨p, s, []⟩)), .v (.bool (newsG l ⟨p, s, []⟩))]) := by
  have h := (takeOk l ⟨p, s, []⟩ hb hl (by simp)).froz
  rw [froz, frozL, frozL, frozL, froz, froz, froz_advertsO] at h
  refine h.sub rfl fun K j c c' y h1 h2 r => ?_
  match j with
  | 0 => simp at h1 h2; subst h1 h2; exact r
  | 1 => simp at h1 h2; subst h1 h2; exact adv_nil r
  | j + 2 => simp at h1
theorem examRo : Con Try.prog 29 [] (.ro 4 (adverts exam)) := by
  have h := examOk.froz; rw [froz, froz_advertsO] at h; exact h
theorem exam_ok : ∀ x ∈ exam, x.peers.length ≤ 9223372036854775807 := by decide
theorem exam2_ok : ∀ x ∈ exam2, x.peers.length ≤ 9223372036854775807 := by decide
theorem examOf : Con Try.prog 14 [.d (.ro 4 (adverts exam))] (.ro 4 (adverts exam)) := by have h := ofRo exam (by decide) exam_ok; rw [exam_1] at h; exact h
theorem okP_small {a : Int} {b : Nat} (h : 0 ≤ a ∧ a ≤ 10 ∧ b ≤ 10) : (⟨a, b⟩ : Proc).okP := by unfold Proc.okP; dsimp only; omega
theorem examN (to n : Int) (c : Bool) (h : nextG exam ⟨1, 1⟩ to = (n, c)) : Con Try.prog 23 [.d (.ro 4 (adverts exam)), .ag [.z 1, .d (.v (.int .u64 1))], .z to] (.tu [.v (.int .i64 n), .v (.bool c)]) := by
  have h' := nextOk exam ⟨1, 1⟩ to (by decide) exam_ok (okP_small (by omega)); rw [h] at h'; exact h'
theorem examT1 : Con Try.prog 17 [.d (.ro 4 (adverts exam)), .ag [.z 3, .d (.v (.int .u64 4)), .d (.v (.int .u64 2)), .d (.v (.slice none 0 0))]] (.tu [.ro 4 (adverts exam2), .v (.bool true)]) := by
  have h := take_nil exam ⟨3, 4⟩ 2 (by decide) exam_ok; rw [exam_5, exam_6] at h; exact h
theorem examT2 : Con Try.prog 17 [.d (.ro 4 (adverts exam)), .ag [.z 3, .d (.v (.int .u64 3)), .d (.v (.int .u64 2)), .d (.v (.slice none 0 0))]] (.tu [.ro 4 (adverts (takeG exam ⟨⟨3, 3⟩, 2, []⟩)), .v (.bool false)]) := by
  have h := take_nil exam ⟨3, 3⟩ 2 (by decide) exam_ok; rw [exam_7] at h; exact h
set_option maxRecDepth 100000 in
theorem awakeOk  : Con Try.prog 12 [] (.v (.bool true)) := by
  refine Con.intro (by kernel_rfl) rfl rfl 73 rfl rfl fun w0 K ac hK r => ?_
  exact toRet tb_ok mixed_ok hK rfl [(1, [(0, .con (.ro 4 (adverts exam))), (1, .con (.ro 4 (adverts exam)))]), (2, [(1, .into 200 []), (2, .con (.tu [.z 2, .v (.bool true)]))]), (3, [(1, .into 200 []), (2, .con (.tu [.z 0, .v (.bool false)]))]), (4, [(1, .into 200 []), (3, .con (.tu [.ro 4 (adverts exam2), .v (.bool true)]))]), (5, [(1, .into 200 []), (3, .con (.tu [.ro 4 (adverts (takeG exam ⟨⟨3, 3⟩, 2, []⟩)), .v (.bool false)]))]), (6, [(1, .z (((4 : Nat) : Int))), (5, .into 200 []), (6, .con (.ro 2 (procs (reachG exam ⟨1, 1⟩)))), (7, .z (((3 : Nat) : Int))), (23, .into 200 []), (24, .con (.ro 2 (procs (reachG exam2 ⟨1, 1⟩)))), (25, .z (((2 : Nat) : Int)))])] 2000 r (by kernel_rfl) (an (examRo) (an (examOf) (an (examN 3 2 true exam_2) (an (examN 4 0 false exam_3) (an (examT1) (an (examT2) (an ((by first | rfl | (simp [exam_4]; done) | (simp [exam_8]; done)) : (((adverts exam).length : Nat) : Int) = ((4 : Nat) : Int)) (an (reachOk exam ⟨1, 1⟩ (by decide) exam_ok (okP_small (by omega))) (an ((by first | rfl | (simp [exam_4]; done) | (simp [exam_8]; done)) : (((procs (reachG exam ⟨1, 1⟩)).length : Nat) : Int) = ((3 : Nat) : Int)) (an (reachOk exam2 ⟨1, 1⟩ (by decide) exam2_ok (okP_small (by omega))) (an ((by first | rfl | (simp [exam_4]; done) | (simp [exam_8]; done)) : (((procs (reachG exam2 ⟨1, 1⟩)).length : Nat) : Int) = ((2 : Nat) : Int)) trivial)))))))))))
end Go.Proofs.Ytikmdkicccfjpaa
namespace Go.Proofs.Ytikmdkicccfjpaa
open Go.RowKit
set_option maxRecDepth 100000 in
theorem nextsLaw (l : List Advert) (p : Proc) (to : Int) (hb : l.length ≤ 9223372036854775807) (hl : ∀ x ∈ l, x.peers.length ≤ 9223372036854775807) (hp0 : p.okP) : Con Try.prog 6 [.d (.ro 4 (adverts l)), .ag [.z p.node, .u p.inc], .z to] (.v (.bool true)) := by
  refine Con.intro (by kernel_rfl) rfl rfl 39 rfl rfl fun w0 K ac hK r => ?_
  cases h0 : (longB l) with
  | false =>
    exact toRet tb_ok mixed_ok hK rfl [(1, [(1, .con (.v (.bool false)))]), (3, [(3, .con (.tu [.z ((nextG l p to).1), .v (.bool (nextG l p to).2)]))]), (4, [(3, .con (.tu [.z ((nextG l p to).1), .v (.bool (nextG l p to).2)]))]), (5, [(2, .b true), (6, .b true), (9, .con (.v (.bool true)))])] 2000 r (by kernel_rfl) (an ((by have k := longOk l hb; rw [h0] at k; exact k) : Con Try.prog 11 [.d (.ro 4 (adverts l))] (.v (.bool false))) (an (nextOk l p to hb hl hp0) (an (refNext l p to hb hl) (an ((by simp) : (((nextG l p to).1 : Int) == (nextG l p to).1) = true) (an ((by simp) : (((nextG l p to).2 == (nextG l p to).2)) = true) (an (awakeOk) trivial))))))
  | true =>
    exact toRet tb_ok mixed_ok hK rfl [(1, [(1, .con (.v (.bool true)))]), (2, [(0, .con (.v (.bool true)))])] 2000 r (by kernel_rfl) (an ((by have k := longOk l hb; rw [h0] at k; exact k) : Con Try.prog 11 [.d (.ro 4 (adverts l))] (.v (.bool true))) (an (awakeOk) trivial))
end Go.Proofs.Ytikmdkicccfjpaa
namespace Go.Proofs.Ytikmdkicccfjpaa
open Go.RowKit
theorem Try.own : ownKnob Try.prog.godebug = none := by kernel_rfl
deriving instance Inhabited for Proc, Advert
variable {w : World}
theorem okWide_int {P : Program} {W : World} {base : Nat} {t : TypeId} {k : IntKind} {v : Value} (ht : P.underlying t = some (.int k)) (h : Value.okWide P W .any base t v) : ∃ n, v = .int k n := by
  rw [Value.okWide, ht] at h
  unfold Cell.okWide Cell.ok at h
  rw [ht] at h
  cases v <;> simp at h
  exact ⟨_, by rw [h.1]⟩
theorem Rd.int' {P : Program} {t : TypeId} (h : P.underlying t = some (.int .i64)) : Rd P w t (fun n : Int => [.z n]) fun n => -9223372036854775808 ≤ n ∧ n ≤ 9223372036854775807 := fun cs hc => by
  obtain ⟨n, rfl, hw⟩ := hc.int h
  have hw' : -9223372036854775808 ≤ n ∧ n ≤ 9223372036854775807 := by simpa [Lit.wf, IntKind.min, IntKind.max, IntKind.signed, IntKind.bits] using hw
  exact ⟨n, hw', .one (.v _)⟩
theorem rd_proc : Rd Try.prog w 30 Proc.row Proc.okP := ((Rd.two Try.underlying30 rfl rfl (k0 := 1) (k1 := 1) (by kernel_rfl) (by kernel_rfl) (by kernel_rfl) (Rd.int' Try.underlying3) (Rd.u64 Try.underlying28)).map fun x => Proc.mk x.1 x.2) (fun _ => rfl) fun _ h => h
theorem rd_procs : Rd Try.prog w 31 (fun l : List Proc => [.ro 2 (procs l)]) fun l => l.length ≤ 9223372036854775807 ∧ ∀ p ∈ l, p.okP := Rd.slice Try.underlying31 (by kernel_rfl) rd_proc
theorem rd_advert : Rd Try.prog w 33 Advert.row fun a => a.peers.length ≤ 9223372036854775807 ∧ a.server.okP := ((Rd.three Try.underlying33 rfl rfl rfl (k0 := 2) (k1 := 1) (k2 := 1) (by kernel_rfl) (by kernel_rfl) (by kernel_rfl) (by kernel_rfl) rd_proc (Rd.u64 Try.underlying28) rd_procs).map fun x => Advert.mk x.1 x.2.1 x.2.2) (fun _ => rfl) fun _ h => ⟨h.2.2.1, h.1⟩
theorem rd_book : Rd Try.prog w 22 (fun l : List Advert => [.ro 4 (adverts l)]) fun l => l.length ≤ 9223372036854775807 ∧ ∀ a ∈ l, a.peers.length ≤ 9223372036854775807 ∧ a.server.okP := Rd.slice Try.underlying22 (by kernel_rfl) rd_advert
theorem peers_ok {l : List Advert} (h : ∀ a ∈ l, a.peers.length ≤ 9223372036854775807 ∧ a.server.okP) : ∀ a ∈ l, a.peers.length ≤ 9223372036854775807 := fun a ha => (h a ha).1
end Go.Proofs.Ytikmdkicccfjpaa
namespace Go.Proofs.Ytikmdkicccfjpaa
open Go.ChangeShapes Go.WideShapes Go.ChangeAt Go.RowKit
set_option maxRecDepth 100000 in
theorem graphNexts_lifted (os : Os) (started : os.Started) (H : Type) (enc : TypeId × Value → H) :
    ReturnsInHanded {} Try.checked os 6 .any (Rows.graphNextsSpec.pre6 enc Try.prog Try.f6 Rows.graphNextsRow.domain false) (Rows.graphNextsSpec.post enc Try.prog Try.f6 false true false false) := by
  refine returnsInHanded_of_change (C := Try.checked) Try.own started (by kernel_rfl) Try.func6
    (ChangeSpec.witness6 (enc := enc) (C := Try.checked) false ⟨#[], #[.slice none 0 0, .agg #[.int .i64 0, .int .u64 0], .int .i64 0], []⟩ 8 (by kernel_rfl) (by kernel_rfl) (by kernel_rfl) (by kernel_rfl)) ?_
  intro W base args ds gs before hval0 hW hcnd _
  have hW0 : DataW.Whole enc Try.prog Try.f6.params.toList Rows.graphNextsSpec.vars false W args.toList ds gs before := hW
  have hW' := hW0
  obtain ⟨p, q, hA0, hV, rfl, hfz, hnd⟩ := hW
  have hA : DataW.TrodAll enc Try.prog W 0 (fun _ => true) true Try.f6.params.toList args.toList ds p := hA0
  have hval : ∀ (j : Nat) t v, Try.f6.params[j]? = some t → args[j]? = some v → Value.okWide Try.prog W .any base t v := hval0
  rw [Try.params6] at hA hval
  obtain ⟨v0, vs0, d0, ds0, p0, q0, hargs0, rfl, rfl, h0, r0⟩ := trodAll_cons hA
  obtain ⟨v1, vs1, d1, ds1, p1, q1, hargs1, rfl, rfl, h1, r1⟩ := trodAll_cons r0
  subst hargs1
  obtain ⟨v2, vs2, d2, ds2, p2, q2, hargs2, rfl, rfl, h2, r2⟩ := trodAll_cons r1
  subst hargs2
  obtain ⟨rfl, rfl, rfl⟩ := trodAll_nil r2
  obtain rfl : args = #[v0, v1, v2] := by cases args; simp_all
  obtain ⟨rfl, rfl⟩ := trodVars_none hV
  obtain ⟨a0, n0, c0, rfl⟩ := okWide_slice (P := Try.prog) (e := 33) (by kernel_rfl) (hval 0 22 v0 rfl rfl)
  obtain ⟨l, hl, g0⟩ := rd_book _ (TR.of h0)
  obtain ⟨cs1, rfl, -, -⟩ : ∃ cs, v1 = .agg cs ∧ _ ∧ _ := by have := hval 1 30 v1 rfl rfl; rw [Value.okWide, Try.underlying30] at this; exact this
  obtain ⟨p, hp, g1⟩ := rd_proc _ (TR.of h1)
  obtain ⟨n2, rfl⟩ := okWide_int (P := Try.prog) Try.underlying3 (hval 2 3 v2 rfl rfl)
  obtain ⟨to, hto, g2⟩ := Rd.int' Try.underlying3 _ (TR.of h2)
  refine (Con.holds (w := W) (nextsLaw l p to hl.1 (peers_ok hl.2) hp) (ys := [_, _, _]) rfl fun j c y e1 e2 => ?_).mono fun e W' ⟨he, hg⟩ => ?_
  · match j, e1, e2 with
    | 0, e1, e2 => simp at e1 e2; subst e1 e2; exact DRs.v g0
    | 1, e1, e2 => simp at e1 e2; subst e1 e2; exact g1.agg
    | 2, e1, e2 => simp at e1 e2; subst e1 e2; exact DRs.v g2
    | k + 3, e1, _ => simp at e1
  · subst he
    exact ⟨_, rfl, law_post Try.laidOut (by kernel_rfl) (by kernel_rfl) Try.underlying4 rfl hW' rfl hg⟩
theorem graphNexts_holds : Rows.GraphNextsSaid :=
  OpenClaim.holds_of_wide 6 Try.f6 rfl rfl rfl rfl rfl rfl rfl ⟨rfl, rfl, rfl, rfl, rfl⟩ rfl rfl rfl rfl rfl (by kernel_rfl) Try.func6 (by kernel_rfl)
    (of_decide_eq_true (by kernel_rfl)) (by unfold Func.isWrapper; first | (rw [if_pos (by decide +kernel)]; kernel_rfl) | (rw [if_neg (by decide +kernel)]; exact ⟨rfl, rfl⟩))
    (fun os started H enc _ => graphNexts_lifted os started H enc)
end Go.Proofs.Ytikmdkicccfjpaa
