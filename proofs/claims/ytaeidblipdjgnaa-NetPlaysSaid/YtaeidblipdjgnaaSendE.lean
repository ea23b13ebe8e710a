import Derived.Test.YtaeidblipdjgnaaZoom
namespace Go.Proofs.Ytaeidblipdjgnaa
open Go.RowKit Go.Maps Go.WideMaps

theorem link_some {m : M} {ls : List ((Int × Int) × Value)} (h : ∀ k, look ls k = (m.link k).map stv) {k : Int × Int} {c : Bool} (hk : m.link k = some c) : (look ls k).getD (.agg #[.bool false]) = .agg #[.bool c] ∧ (look ls k).isSome = true := by
  rw [h k, hk]; simp [stv]
theorem link_none {m : M} {ls : List ((Int × Int) × Value)} (h : ∀ k, look ls k = (m.link k).map stv) {k : Int × Int} (hk : m.link k = none) : (look ls k).getD (.agg #[.bool false]) = .agg #[.bool false] ∧ (look ls k).isSome = false := by
  rw [h k, hk]; simp
theorem BSrc.slice {w : World} {v : Value} {bs : List UInt8} (h : BSrc w v bs) : ∃ a c, v = .slice a bs.length c := by
  rcases h.2 with ⟨h0, a, c, rfl⟩ | ⟨a, c, rfl, _⟩
  · exact ⟨a, c, by rw [h0]⟩
  · exact ⟨_, _, rfl⟩

/-- the slice lies in none of these blocks -/
def Off (v : Value) (D : List Nat) : Prop := ∀ a n c, v = .slice (some a) n c → n ≠ 0 → a.block ∉ D
theorem BSrc.kp {D : List Nat} {w0 w : World} {v : Value} {bs : List UInt8} (h : BSrc w0 v bs) (kp : Kp D w0 w) (hd : Off v D) : BSrc w v bs := by
  refine ⟨h.1, ?_⟩
  rcases h.2 with h2 | ⟨a, c, h2, h3⟩
  · exact Or.inl h2
  · refine Or.inr ⟨a, c, h2, fun j hj => kp.cell' (h3 j hj) ?_⟩
    have hb : (a.add j).block = a.block := by unfold Addr.add; split <;> rfl
    rw [hb]; exact hd a _ c h2 (by simp at hj; omega)

section
variable {p : Nat} {m : M} {H : Frag} {w : World} {a b : Int} {v : Value} {bs : List UInt8}

set_option maxRecDepth 20000 in
theorem send_arg (h : NetRep p m H) (hH : Holds w H) (hk : goodK (ends a b)) (hk' : goodK (a, b)) (hv : BSrc w v bs) (hn : m.link (ends a b) = none) : Calls Try.prog 11 #[.pointer (some ⟨p, 0, none⟩), .int .i64 a, .int .i64 b, v] w (RetN w (eqv (.int .i64 1))) := by
  obtain ⟨va, vc, rfl⟩ := hv.slice
  obtain ⟨vo, Ho, rl, ol, ls, rq, oq, es, h, rfl⟩ := h
  have hp : w.heap[p]? = some (.cells #[.int .i64 m.nodes, vo, .map (some rl), .map (some rq)] 69 (0, 0)) := hH.one
  have hl : w.heap[rl]? = some ol := hH.tail.one
  have hq : w.heap[rq]? = some oq := hH.tail.tail.one
  obtain ⟨hc, ho⟩ := link_none h.lk hn
  refine enter Try.func11 rfl (n := 54) rfl (Nat.le_of_ble_eq_true rfl) fun _ A => ?_
  have S : St _ _ _ [] := St.none w
  refine wp_seq_k fun K1 hK1 => ?_
  refine region_seq ?_  -- region 0
  refine La A rfl (evc _ _) fun _ A => ?_
  replace A := A.only [8, 3, 2, 1, 0] rfl
  refine hK1 _ _ ?_
  refine wp_seq_k fun K2 hK2 => ?_
  refine region_seq ?_  -- region 1
  refine Lm A rfl (A.g 0 rfl) fun _ A => Lm A rfl (A.g 1 rfl) fun _ A => Lm A rfl (A.g 2 rfl) fun _ A => Lo A rfl (y_call3 (by kernel_rfl) rfl (A.g 13 rfl) (A.g 14 rfl) (A.g 15 rfl) (callN (link_ok (S.kp.heap' hp (by simp)) (S.kp.heap' hl (by simp)) h.lm hk hc ho) fun v w H gG nN hf ac A => ?_))
  obtain ⟨rfl, rfl⟩ := hf
  replace S : St _ _ _ [] := S.new gG nN
  replace A := A.only [16, 8, 3, 2, 1, 0] rfl
  refine Lm A rfl (A.g 16 rfl) fun _ A => Lo A rfl (y_extract (A.g 12 rfl) rfl fun _ A => ?_)
  refine Lo A rfl (y_extract (A.g 12 rfl) rfl fun _ A => ?_)
  refine Lo A rfl (y_allocN (z := .agg #[.bool false]) (by kernel_rfl) fun b1 w gG nN ac A => ?_)
  replace S : St _ _ _ [(b1, .cells #[.bool false] 79 (0, 0))] := S.new gG nN
  replace A := A.only [18, 17, 9, 8, 3, 2, 1, 0] rfl
  refine L_opN A rfl rfl (y_store 1 (by kernel_rfl) (A.g 9 rfl) (A.g 17 rfl) (S.get 0 rfl) rfl (Nat.le_of_ble_eq_true rfl) (one_all rfl) ?_)
  replace S : St _ _ _ [(b1, .cells #[.bool false] 79 (0, 0))] := S.setAt 0 rfl _
  refine La A rfl (A.g 18 rfl) fun _ A => ?_
  replace A := A.only [10, 9, 8, 3, 2, 1, 0] rfl
  refine hK2 _ _ ?_
  refine wp_seq_k fun K3 hK3 => ?_
  refine region_seq ?_  -- region 2
  refine Lm A rfl (A.g 1 rfl) fun _ A => Lm A rfl (A.g 2 rfl) fun _ A => Lo A rfl (y_build2 (A.g 19 rfl) (A.g 20 rfl) (v := .agg #[.int .i64 a, .int .i64 b]) (by kernel_rfl) fun _ A => ?_)
  refine Lo A rfl (y_allocN (z := .agg #[.int .i64 0, .int .i64 0]) (by kernel_rfl) fun b2 w gG nN ac A => ?_)
  replace S : St _ _ _ [(b2, .cells #[.int .i64 0, .int .i64 0] 28 (0, 0)), (b1, .cells #[.bool false] 79 (0, 0))] := S.new gG nN
  refine L_opN A rfl rfl (y_store 2 (by kernel_rfl) (A.g 11 rfl) (A.g 21 rfl) (S.get 0 rfl) rfl (Nat.le_of_ble_eq_true rfl) (one_all rfl) ?_)
  replace S : St _ _ _ [(b2, .cells #[.int .i64 a, .int .i64 b] 28 (0, 0)), (b1, .cells #[.bool false] 79 (0, 0))] := S.setAt 0 rfl _
  replace A := A.only [11, 10, 9, 8, 3, 2, 1, 0] rfl
  refine hK3 _ _ ?_
  refine wp_seq_k fun K4 hK4 => ?_
  refine wp_block ?_
  refine wp_seq_k fun K5 hK5 => ?_
  refine region_seq ?_  -- region 3
  refine Lm A rfl (A.g 10 rfl) fun _ A => Lo A rfl (y_not (A.g 23 rfl) rfl fun _ A => ?_)
  refine La A rfl (A.g 24 rfl) fun _ A => ?_
  replace A := A.only [22, 11, 10, 9, 8, 3, 2, 1, 0] rfl
  refine hK5 _ _ ?_
  refine wp_cond_true (A.get rfl) ?_
  refine wp_seq_k fun K6 hK6 => ?_
  refine region_seq ?_  -- region 4
  refine La A rfl (evc _ _) fun _ A => ?_
  replace A := A.only [22, 11, 10, 9, 8, 3, 2, 1, 0] rfl
  refine hK6 _ _ ?_
  exact wp_ret ⟨A.defers, _, res_run (rs := [.tmp 8]) (vs := [.int .i64 1]) rfl ⟨A.get rfl, trivial⟩, ⟨_, rfl, S.kp.to_gr, [], ⟨rfl, rfl⟩, NewF.nil _ _⟩⟩

set_option maxRecDepth 20000 in
theorem send_down (h : NetRep p m H) (hH : Holds w H) (hk : goodK (ends a b)) (hk' : goodK (a, b)) (hv : BSrc w v bs) (hn : m.link (ends a b) = some true) : Calls Try.prog 11 #[.pointer (some ⟨p, 0, none⟩), .int .i64 a, .int .i64 b, v] w (RetN w (eqv (.int .i64 7))) := by
  obtain ⟨va, vc, rfl⟩ := hv.slice
  obtain ⟨vo, Ho, rl, ol, ls, rq, oq, es, h, rfl⟩ := h
  have hp : w.heap[p]? = some (.cells #[.int .i64 m.nodes, vo, .map (some rl), .map (some rq)] 69 (0, 0)) := hH.one
  have hl : w.heap[rl]? = some ol := hH.tail.one
  have hq : w.heap[rq]? = some oq := hH.tail.tail.one
  obtain ⟨hc, ho⟩ := link_some h.lk hn
  refine enter Try.func11 rfl (n := 54) rfl (Nat.le_of_ble_eq_true rfl) fun _ A => ?_
  have S : St _ _ _ [] := St.none w
  refine wp_seq_k fun K1 hK1 => ?_
  refine region_seq ?_  -- region 0
  refine La A rfl (evc _ _) fun _ A => ?_
  replace A := A.only [8, 3, 2, 1, 0] rfl
  refine hK1 _ _ ?_
  refine wp_seq_k fun K2 hK2 => ?_
  refine region_seq ?_  -- region 1
  refine Lm A rfl (A.g 0 rfl) fun _ A => Lm A rfl (A.g 1 rfl) fun _ A => Lm A rfl (A.g 2 rfl) fun _ A => Lo A rfl (y_call3 (by kernel_rfl) rfl (A.g 13 rfl) (A.g 14 rfl) (A.g 15 rfl) (callN (link_ok (S.kp.heap' hp (by simp)) (S.kp.heap' hl (by simp)) h.lm hk hc ho) fun v w H gG nN hf ac A => ?_))
  obtain ⟨rfl, rfl⟩ := hf
  replace S : St _ _ _ [] := S.new gG nN
  replace A := A.only [16, 8, 3, 2, 1, 0] rfl
  refine Lm A rfl (A.g 16 rfl) fun _ A => Lo A rfl (y_extract (A.g 12 rfl) rfl fun _ A => ?_)
  refine Lo A rfl (y_extract (A.g 12 rfl) rfl fun _ A => ?_)
  refine Lo A rfl (y_allocN (z := .agg #[.bool false]) (by kernel_rfl) fun b1 w gG nN ac A => ?_)
  replace S : St _ _ _ [(b1, .cells #[.bool false] 79 (0, 0))] := S.new gG nN
  replace A := A.only [18, 17, 9, 8, 3, 2, 1, 0] rfl
  refine L_opN A rfl rfl (y_store 1 (by kernel_rfl) (A.g 9 rfl) (A.g 17 rfl) (S.get 0 rfl) rfl (Nat.le_of_ble_eq_true rfl) (one_all rfl) ?_)
  replace S : St _ _ _ [(b1, .cells #[.bool true] 79 (0, 0))] := S.setAt 0 rfl _
  refine La A rfl (A.g 18 rfl) fun _ A => ?_
  replace A := A.only [10, 9, 8, 3, 2, 1, 0] rfl
  refine hK2 _ _ ?_
  refine wp_seq_k fun K3 hK3 => ?_
  refine region_seq ?_  -- region 2
  refine Lm A rfl (A.g 1 rfl) fun _ A => Lm A rfl (A.g 2 rfl) fun _ A => Lo A rfl (y_build2 (A.g 19 rfl) (A.g 20 rfl) (v := .agg #[.int .i64 a, .int .i64 b]) (by kernel_rfl) fun _ A => ?_)
  refine Lo A rfl (y_allocN (z := .agg #[.int .i64 0, .int .i64 0]) (by kernel_rfl) fun b2 w gG nN ac A => ?_)
  replace S : St _ _ _ [(b2, .cells #[.int .i64 0, .int .i64 0] 28 (0, 0)), (b1, .cells #[.bool true] 79 (0, 0))] := S.new gG nN
  refine L_opN A rfl rfl (y_store 2 (by kernel_rfl) (A.g 11 rfl) (A.g 21 rfl) (S.get 0 rfl) rfl (Nat.le_of_ble_eq_true rfl) (one_all rfl) ?_)
  replace S : St _ _ _ [(b2, .cells #[.int .i64 a, .int .i64 b] 28 (0, 0)), (b1, .cells #[.bool true] 79 (0, 0))] := S.setAt 0 rfl _
  replace A := A.only [11, 10, 9, 8, 3, 2, 1, 0] rfl
  refine hK3 _ _ ?_
  refine wp_seq_k fun K4 hK4 => ?_
  refine wp_block ?_
  refine wp_seq_k fun K5 hK5 => ?_
  refine region_seq ?_  -- region 3
  refine Lm A rfl (A.g 10 rfl) fun _ A => Lo A rfl (y_not (A.g 23 rfl) rfl fun _ A => ?_)
  refine La A rfl (A.g 24 rfl) fun _ A => ?_
  replace A := A.only [22, 11, 10, 9, 8, 3, 2, 1, 0] rfl
  refine hK5 _ _ ?_
  refine wp_cond_false (A.get rfl) ?_
  refine wp_seq_k fun K6 hK6 => ?_
  refine region_seq ?_  -- region 5
  refine Lo A rfl (y_fieldAddr (off := 0) (j := 0) (by kernel_rfl) (A.g 9 rfl) (by first | rfl | omega) fun _ A => ?_)
  refine Lo A rfl (y_load (by kernel_rfl) (A.g 26 rfl) ((cell_of (S.get 1 rfl) _).trans rfl) fun _ A => ?_)
  refine La A rfl (A.g 27 rfl) fun _ A => ?_
  replace A := A.only [25, 22, 11, 10, 9, 8, 3, 2, 1, 0] rfl
  refine hK6 _ _ ?_
  refine wp_cond_true (A.get rfl) ?_
  refine wp_seq_k fun K7 hK7 => ?_
  refine region_seq ?_  -- region 6
  refine La A rfl (evc _ _) fun _ A => ?_
  replace A := A.only [25, 22, 11, 10, 9, 8, 3, 2, 1, 0] rfl
  refine hK7 _ _ ?_
  exact wp_ret ⟨A.defers, _, res_run (rs := [.tmp 8]) (vs := [.int .i64 7]) rfl ⟨A.get rfl, trivial⟩, ⟨_, rfl, S.kp.to_gr, [], ⟨rfl, rfl⟩, NewF.nil _ _⟩⟩

set_option maxRecDepth 20000 in
theorem send_long (h : NetRep p m H) (hH : Holds w H) (hk : goodK (ends a b)) (hk' : goodK (a, b)) (hv : BSrc w v bs) (hn : m.link (ends a b) = some false) (hb : 512 < bs.length) : Calls Try.prog 11 #[.pointer (some ⟨p, 0, none⟩), .int .i64 a, .int .i64 b, v] w (RetN w (eqv (.int .i64 2))) := by
  obtain ⟨va, vc, rfl⟩ := hv.slice
  obtain ⟨vo, Ho, rl, ol, ls, rq, oq, es, h, rfl⟩ := h
  have hp : w.heap[p]? = some (.cells #[.int .i64 m.nodes, vo, .map (some rl), .map (some rq)] 69 (0, 0)) := hH.one
  have hl : w.heap[rl]? = some ol := hH.tail.one
  have hq : w.heap[rq]? = some oq := hH.tail.tail.one
  obtain ⟨hc, ho⟩ := link_some h.lk hn
  refine enter Try.func11 rfl (n := 54) rfl (Nat.le_of_ble_eq_true rfl) fun _ A => ?_
  have S : St _ _ _ [] := St.none w
  refine wp_seq_k fun K1 hK1 => ?_
  refine region_seq ?_  -- region 0
  refine La A rfl (evc _ _) fun _ A => ?_
  replace A := A.only [8, 3, 2, 1, 0] rfl
  refine hK1 _ _ ?_
  refine wp_seq_k fun K2 hK2 => ?_
  refine region_seq ?_  -- region 1
  refine Lm A rfl (A.g 0 rfl) fun _ A => Lm A rfl (A.g 1 rfl) fun _ A => Lm A rfl (A.g 2 rfl) fun _ A => Lo A rfl (y_call3 (by kernel_rfl) rfl (A.g 13 rfl) (A.g 14 rfl) (A.g 15 rfl) (callN (link_ok (S.kp.heap' hp (by simp)) (S.kp.heap' hl (by simp)) h.lm hk hc ho) fun v w H gG nN hf ac A => ?_))
  obtain ⟨rfl, rfl⟩ := hf
  replace S : St _ _ _ [] := S.new gG nN
  replace A := A.only [16, 8, 3, 2, 1, 0] rfl
  refine Lm A rfl (A.g 16 rfl) fun _ A => Lo A rfl (y_extract (A.g 12 rfl) rfl fun _ A => ?_)
  refine Lo A rfl (y_extract (A.g 12 rfl) rfl fun _ A => ?_)
  refine Lo A rfl (y_allocN (z := .agg #[.bool false]) (by kernel_rfl) fun b1 w gG nN ac A => ?_)
  replace S : St _ _ _ [(b1, .cells #[.bool false] 79 (0, 0))] := S.new gG nN
  replace A := A.only [18, 17, 9, 8, 3, 2, 1, 0] rfl
  refine L_opN A rfl rfl (y_store 1 (by kernel_rfl) (A.g 9 rfl) (A.g 17 rfl) (S.get 0 rfl) rfl (Nat.le_of_ble_eq_true rfl) (one_all rfl) ?_)
  replace S : St _ _ _ [(b1, .cells #[.bool false] 79 (0, 0))] := S.setAt 0 rfl _
  refine La A rfl (A.g 18 rfl) fun _ A => ?_
  replace A := A.only [10, 9, 8, 3, 2, 1, 0] rfl
  refine hK2 _ _ ?_
  refine wp_seq_k fun K3 hK3 => ?_
  refine region_seq ?_  -- region 2
  refine Lm A rfl (A.g 1 rfl) fun _ A => Lm A rfl (A.g 2 rfl) fun _ A => Lo A rfl (y_build2 (A.g 19 rfl) (A.g 20 rfl) (v := .agg #[.int .i64 a, .int .i64 b]) (by kernel_rfl) fun _ A => ?_)
  refine Lo A rfl (y_allocN (z := .agg #[.int .i64 0, .int .i64 0]) (by kernel_rfl) fun b2 w gG nN ac A => ?_)
  replace S : St _ _ _ [(b2, .cells #[.int .i64 0, .int .i64 0] 28 (0, 0)), (b1, .cells #[.bool false] 79 (0, 0))] := S.new gG nN
  refine L_opN A rfl rfl (y_store 2 (by kernel_rfl) (A.g 11 rfl) (A.g 21 rfl) (S.get 0 rfl) rfl (Nat.le_of_ble_eq_true rfl) (one_all rfl) ?_)
  replace S : St _ _ _ [(b2, .cells #[.int .i64 a, .int .i64 b] 28 (0, 0)), (b1, .cells #[.bool false] 79 (0, 0))] := S.setAt 0 rfl _
  replace A := A.only [11, 10, 9, 8, 3, 2, 1, 0] rfl
  refine hK3 _ _ ?_
  refine wp_seq_k fun K4 hK4 => ?_
  refine wp_block ?_
  refine wp_seq_k fun K5 hK5 => ?_
  refine region_seq ?_  -- region 3
  refine Lm A rfl (A.g 10 rfl) fun _ A => Lo A rfl (y_not (A.g 23 rfl) rfl fun _ A => ?_)
  refine La A rfl (A.g 24 rfl) fun _ A => ?_
  replace A := A.only [22, 11, 10, 9, 8, 3, 2, 1, 0] rfl
  refine hK5 _ _ ?_
  refine wp_cond_false (A.get rfl) ?_
  refine wp_seq_k fun K6 hK6 => ?_
  refine region_seq ?_  -- region 5
  refine Lo A rfl (y_fieldAddr (off := 0) (j := 0) (by kernel_rfl) (A.g 9 rfl) (by first | rfl | omega) fun _ A => ?_)
  refine Lo A rfl (y_load (by kernel_rfl) (A.g 26 rfl) ((cell_of (S.get 1 rfl) _).trans rfl) fun _ A => ?_)
  refine La A rfl (A.g 27 rfl) fun _ A => ?_
  replace A := A.only [25, 22, 11, 10, 9, 8, 3, 2, 1, 0] rfl
  refine hK6 _ _ ?_
  refine wp_cond_false (A.get rfl) ?_
  refine wp_seq_k fun K7 hK7 => ?_
  refine region_seq ?_  -- region 7
  refine Lm A rfl (A.g 3 rfl) fun _ A => Lo A rfl (y_lenS (e := 5) (by kernel_rfl) (A.g 29 rfl) fun _ A => ?_)
  refine Lo A rfl (y_gtr (A.g 30 rfl) (evc _ _) (c := true) (decide_eq_true (by omega)) fun _ A => ?_)
  refine La A rfl (A.g 31 rfl) fun _ A => ?_
  replace A := A.only [28, 25, 22, 11, 10, 9, 8, 3, 2, 1, 0] rfl
  refine hK7 _ _ ?_
  refine wp_cond_true (A.get rfl) ?_
  refine wp_seq_k fun K8 hK8 => ?_
  refine region_seq ?_  -- region 8
  refine La A rfl (evc _ _) fun _ A => ?_
  replace A := A.only [28, 25, 22, 11, 10, 9, 8, 3, 2, 1, 0] rfl
  refine hK8 _ _ ?_
  exact wp_ret ⟨A.defers, _, res_run (rs := [.tmp 8]) (vs := [.int .i64 2]) rfl ⟨A.get rfl, trivial⟩, ⟨_, rfl, S.kp.to_gr, [], ⟨rfl, rfl⟩, NewF.nil _ _⟩⟩

set_option maxRecDepth 20000 in
theorem send_full (h : NetRep p m H) (hH : Holds w H) (hk : goodK (ends a b)) (hk' : goodK (a, b)) (hv : BSrc w v bs) (hn : m.link (ends a b) = some false) (hb : bs.length ≤ 512) (hf : 24 ≤ (m.q (a, b)).length) : Calls Try.prog 11 #[.pointer (some ⟨p, 0, none⟩), .int .i64 a, .int .i64 b, v] w (RetN w (eqv (.int .i64 4))) := by
  obtain ⟨va, vc, rfl⟩ := hv.slice
  obtain ⟨vo, Ho, rl, ol, ls, rq, oq, es, h, rfl⟩ := h
  have hp : w.heap[p]? = some (.cells #[.int .i64 m.nodes, vo, .map (some rl), .map (some rq)] 69 (0, 0)) := hH.one
  have hl : w.heap[rl]? = some ol := hH.tail.one
  have hq : w.heap[rq]? = some oq := hH.tail.tail.one
  obtain ⟨hc, ho⟩ := link_some h.lk hn
  obtain ⟨qa, qc, hlq⟩ := h.lookq (a, b)
  refine enter Try.func11 rfl (n := 54) rfl (Nat.le_of_ble_eq_true rfl) fun _ A => ?_
  have S : St _ _ _ [] := St.none w
  refine wp_seq_k fun K1 hK1 => ?_
  refine region_seq ?_  -- region 0
  refine La A rfl (evc _ _) fun _ A => ?_
  replace A := A.only [8, 3, 2, 1, 0] rfl
  refine hK1 _ _ ?_
  refine wp_seq_k fun K2 hK2 => ?_
  refine region_seq ?_  -- region 1
  refine Lm A rfl (A.g 0 rfl) fun _ A => Lm A rfl (A.g 1 rfl) fun _ A => Lm A rfl (A.g 2 rfl) fun _ A => Lo A rfl (y_call3 (by kernel_rfl) rfl (A.g 13 rfl) (A.g 14 rfl) (A.g 15 rfl) (callN (link_ok (S.kp.heap' hp (by simp)) (S.kp.heap' hl (by simp)) h.lm hk hc ho) fun v w H gG nN hf ac A => ?_))
  obtain ⟨rfl, rfl⟩ := hf
  replace S : St _ _ _ [] := S.new gG nN
  replace A := A.only [16, 8, 3, 2, 1, 0] rfl
  refine Lm A rfl (A.g 16 rfl) fun _ A => Lo A rfl (y_extract (A.g 12 rfl) rfl fun _ A => ?_)
  refine Lo A rfl (y_extract (A.g 12 rfl) rfl fun _ A => ?_)
  refine Lo A rfl (y_allocN (z := .agg #[.bool false]) (by kernel_rfl) fun b1 w gG nN ac A => ?_)
  replace S : St _ _ _ [(b1, .cells #[.bool false] 79 (0, 0))] := S.new gG nN
  replace A := A.only [18, 17, 9, 8, 3, 2, 1, 0] rfl
  refine L_opN A rfl rfl (y_store 1 (by kernel_rfl) (A.g 9 rfl) (A.g 17 rfl) (S.get 0 rfl) rfl (Nat.le_of_ble_eq_true rfl) (one_all rfl) ?_)
  replace S : St _ _ _ [(b1, .cells #[.bool false] 79 (0, 0))] := S.setAt 0 rfl _
  refine La A rfl (A.g 18 rfl) fun _ A => ?_
  replace A := A.only [10, 9, 8, 3, 2, 1, 0] rfl
  refine hK2 _ _ ?_
  refine wp_seq_k fun K3 hK3 => ?_
  refine region_seq ?_  -- region 2
  refine Lm A rfl (A.g 1 rfl) fun _ A => Lm A rfl (A.g 2 rfl) fun _ A => Lo A rfl (y_build2 (A.g 19 rfl) (A.g 20 rfl) (v := .agg #[.int .i64 a, .int .i64 b]) (by kernel_rfl) fun _ A => ?_)
  refine Lo A rfl (y_allocN (z := .agg #[.int .i64 0, .int .i64 0]) (by kernel_rfl) fun b2 w gG nN ac A => ?_)
  replace S : St _ _ _ [(b2, .cells #[.int .i64 0, .int .i64 0] 28 (0, 0)), (b1, .cells #[.bool false] 79 (0, 0))] := S.new gG nN
  refine L_opN A rfl rfl (y_store 2 (by kernel_rfl) (A.g 11 rfl) (A.g 21 rfl) (S.get 0 rfl) rfl (Nat.le_of_ble_eq_true rfl) (one_all rfl) ?_)
  replace S : St _ _ _ [(b2, .cells #[.int .i64 a, .int .i64 b] 28 (0, 0)), (b1, .cells #[.bool false] 79 (0, 0))] := S.setAt 0 rfl _
  replace A := A.only [11, 10, 9, 8, 3, 2, 1, 0] rfl
  refine hK3 _ _ ?_
  refine wp_seq_k fun K4 hK4 => ?_
  refine wp_block ?_
  refine wp_seq_k fun K5 hK5 => ?_
  refine region_seq ?_  -- region 3
  refine Lm A rfl (A.g 10 rfl) fun _ A => Lo A rfl (y_not (A.g 23 rfl) rfl fun _ A => ?_)
  refine La A rfl (A.g 24 rfl) fun _ A => ?_
  replace A := A.only [22, 11, 10, 9, 8, 3, 2, 1, 0] rfl
  refine hK5 _ _ ?_
  refine wp_cond_false (A.get rfl) ?_
  refine wp_seq_k fun K6 hK6 => ?_
  refine region_seq ?_  -- region 5
  refine Lo A rfl (y_fieldAddr (off := 0) (j := 0) (by kernel_rfl) (A.g 9 rfl) (by first | rfl | omega) fun _ A => ?_)
  refine Lo A rfl (y_load (by kernel_rfl) (A.g 26 rfl) ((cell_of (S.get 1 rfl) _).trans rfl) fun _ A => ?_)
  refine La A rfl (A.g 27 rfl) fun _ A => ?_
  replace A := A.only [25, 22, 11, 10, 9, 8, 3, 2, 1, 0] rfl
  refine hK6 _ _ ?_
  refine wp_cond_false (A.get rfl) ?_
  refine wp_seq_k fun K7 hK7 => ?_
  refine region_seq ?_  -- region 7
  refine Lm A rfl (A.g 3 rfl) fun _ A => Lo A rfl (y_lenS (e := 5) (by kernel_rfl) (A.g 29 rfl) fun _ A => ?_)
  refine Lo A rfl (y_gtr (A.g 30 rfl) (evc _ _) (c := false) (decide_eq_false (by omega)) fun _ A => ?_)
  refine La A rfl (A.g 31 rfl) fun _ A => ?_
  replace A := A.only [28, 25, 22, 11, 10, 9, 8, 3, 2, 1, 0] rfl
  refine hK7 _ _ ?_
  refine wp_cond_false (A.get rfl) ?_
  refine wp_seq_k fun K8 hK8 => ?_
  refine region_draw A [⟨33, pl (eqv (.pointer (some ⟨p, 0, none⟩))), [], [0], none, false⟩, ⟨34, pl (eqv (.pointer (some ⟨p, 0, none⟩))), [0], [], none, false⟩, ⟨35, pl (eqv (.pointer (some ⟨p, 3, none⟩))), [1], [], none, false⟩, ⟨36, pl (eqv (.map (some rq))), [2], [], none, false⟩, ⟨37, pl (eqv (.agg #[.int .i64 a, .int .i64 b])), [], [11], none, false⟩, ⟨38, pl (eqv (.slice qa (m.q (a, b)).length qc)), [3, 4], [], none, false⟩, ⟨39, pl (eqv (.int .i64 ((m.q (a, b)).length))), [5], [], none, false⟩, ⟨40, pl (eqv (.bool true)), [6], [], none, false⟩, ⟨32, pl (eqv (.bool true)), [7], [], none, false⟩] [] (by kernel_rfl) (by kernel_rfl) (fun d _ _ _ _ h => by cases d <;> exact h) ⟨?_, ?_, ?_, ?_, ?_, ?_, ?_, ?_, ?_, trivial⟩ ?_  -- region 9
  · refine due_plain fun ρ w1 G hsrc hold => ?_; obtain ⟨o0, -⟩ := hold; exact y_move (o0.trans (A.g 0 rfl)) y_eq
  · refine due_plain fun ρ w1 G hsrc hold => ?_; obtain ⟨⟨_, _, ⟨h33, -⟩, -⟩, -⟩ := hsrc; exact y_nilCheck h33 y_eq
  · refine due_plain fun ρ w1 G hsrc hold => ?_; obtain ⟨⟨_, _, ⟨h34, -⟩, -⟩, -⟩ := hsrc; exact y_fieldAddr (off := 3) (j := 3) (by kernel_rfl) h34 (by first | rfl | omega) y_eq
  · refine due_plain fun ρ w1 G hsrc hold => ?_; obtain ⟨⟨_, _, ⟨h35, -⟩, -⟩, -⟩ := hsrc; exact y_load (by kernel_rfl) h35 ((cell_of (G.gr.heap' (S.kp.heap' hp (by simp))) _).trans rfl) y_eq
  · refine due_plain fun ρ w1 G hsrc hold => ?_; obtain ⟨o11, -⟩ := hold; exact y_loadAgg [.int .i64 a, .int .i64 b] (by kernel_rfl) (o11.trans (A.g 11 rfl)) (cells_at (G.gr.heap' (S.get 0 rfl)) rfl) y_eq
  · refine due_plain fun ρ w1 G hsrc hold => ?_; obtain ⟨⟨_, _, ⟨h36, -⟩, -⟩, ⟨_, _, ⟨h37, -⟩, -⟩, -⟩ := hsrc; exact y_lookup h36 h37 (look_queue (G.gr.heap' (S.kp.heap' hq (by simp))) h.qm (a, b) hk' hlq) y_eq
  · refine due_plain fun ρ w1 G hsrc hold => ?_; obtain ⟨⟨_, _, ⟨h38, -⟩, -⟩, -⟩ := hsrc; exact y_lenS (e := 85) (by kernel_rfl) h38 y_eq
  · refine due_plain fun ρ w1 G hsrc hold => ?_; obtain ⟨⟨_, _, ⟨h39, -⟩, -⟩, -⟩ := hsrc; exact y_geq h39 (G.const _) (c := true) (decide_eq_true (by omega)) y_eq
  · refine due_plain fun ρ w1 G hsrc hold => ?_; obtain ⟨⟨_, _, ⟨h40, -⟩, -⟩, -⟩ := hsrc; exact y_assign h40 y_eq
  rintro _ _ ⟨rfl, rfl⟩ _ _ ⟨rfl, rfl⟩ _ _ ⟨rfl, rfl⟩ _ _ ⟨rfl, rfl⟩ _ _ ⟨rfl, rfl⟩ _ _ ⟨rfl, rfl⟩ _ _ ⟨rfl, rfl⟩ _ _ ⟨rfl, rfl⟩ _ _ ⟨rfl, rfl⟩
  intro ac w A gG nN
  replace S : St _ _ _ [(b2, .cells #[.int .i64 a, .int .i64 b] 28 (0, 0)), (b1, .cells #[.bool false] 79 (0, 0))] := S.new gG nN
  replace A := A.only [32, 28, 25, 22, 11, 10, 9, 8, 3, 2, 1, 0] rfl
  refine hK8 _ _ ?_
  refine wp_cond_true (A.get rfl) ?_
  refine wp_seq_k fun K9 hK9 => ?_
  refine region_seq ?_  -- region 10
  refine La A rfl (evc _ _) fun _ A => ?_
  replace A := A.only [32, 28, 25, 22, 11, 10, 9, 8, 3, 2, 1, 0] rfl
  refine hK9 _ _ ?_
  exact wp_ret ⟨A.defers, _, res_run (rs := [.tmp 8]) (vs := [.int .i64 4]) rfl ⟨A.get rfl, trivial⟩, ⟨_, rfl, S.kp.to_gr, [], ⟨rfl, rfl⟩, NewF.nil _ _⟩⟩
end
end Go.Proofs.Ytaeidblipdjgnaa
