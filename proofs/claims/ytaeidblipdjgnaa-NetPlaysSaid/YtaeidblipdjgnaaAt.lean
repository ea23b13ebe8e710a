import Derived.Test.YtaeidblipdjgnaaSendE
namespace Go.Proofs.Ytaeidblipdjgnaa
open Go.RowKit Go.Maps Go.WideMaps

section
variable {p fg : Nat} {m : M} {H Hc : Frag} {w : World} {a b i : Int} {caps : Array Value}

set_option maxRecDepth 20000 in
set_option maxHeartbeats 4000000 in
theorem at_arg (h : NetRep p m H) (hH : Holds w H) (hk : goodK (ends a b)) (hn : m.link (ends a b) = none) : Calls Try.prog 40 #[.pointer (some ⟨p, 0, none⟩), .int .i64 a, .int .i64 b, .int .i64 i, .func (.func fg) #[] caps] w (RetN w (eqv (.int .i64 1))) := by
  obtain ⟨vo, Ho, rl, ol, ls, rq, oq, es, h, rfl⟩ := h
  have hp : w.heap[p]? = some (.cells #[.int .i64 m.nodes, vo, .map (some rl), .map (some rq)] 69 (0, 0)) := hH.one
  have hl : w.heap[rl]? = some ol := hH.tail.one
  have hq : w.heap[rq]? = some oq := hH.tail.tail.one
  obtain ⟨hc, ho⟩ := link_none h.lk hn
  refine enter Try.func40 rfl (n := 65) rfl (Nat.le_of_ble_eq_true rfl) fun _ A => ?_
  have S : St _ _ _ [] := St.none w
  refine wp_seq_k fun K1 hK1 => ?_
  refine region_seq ?_  -- region 0
  refine La A rfl (evc _ _) fun _ A => ?_
  replace A := A.only [10, 4, 3, 2, 1, 0] rfl
  refine hK1 _ _ ?_
  refine wp_seq_k fun K2 hK2 => ?_
  refine wp_seq_k fun K3 hK3 => ?_
  refine region_seq ?_  -- region 1
  refine Lm A rfl (A.g 0 rfl) fun _ A => Lm A rfl (A.g 1 rfl) fun _ A => Lm A rfl (A.g 2 rfl) fun _ A => Lo A rfl (y_call3 (by kernel_rfl) rfl (A.g 17 rfl) (A.g 18 rfl) (A.g 19 rfl) (callN (link_ok (S.kp.heap' hp (by simp)) (S.kp.heap' hl (by simp)) h.lm hk hc ho) fun v w H gG nN hf ac A => ?_))
  obtain ⟨rfl, rfl⟩ := hf
  replace S : St _ _ _ [] := S.new gG nN
  replace A := A.only [20, 10, 4, 3, 2, 1, 0] rfl
  refine Lm A rfl (A.g 20 rfl) fun _ A => Lo A rfl (y_extract (A.g 16 rfl) rfl fun _ A => ?_)
  refine Lo A rfl (y_extract (A.g 16 rfl) rfl fun _ A => ?_)
  refine Lo A rfl (y_allocN (z := .agg #[.bool false]) (by kernel_rfl) fun b1 w gG nN ac A => ?_)
  replace S : St _ _ _ [(b1, .cells #[.bool false] 79 (0, 0))] := S.new gG nN
  replace A := A.only [22, 21, 11, 10, 4, 3, 2, 1, 0] rfl
  refine L_opN A rfl rfl (y_store 1 (by kernel_rfl) (A.g 11 rfl) (A.g 21 rfl) (S.get 0 rfl) rfl (Nat.le_of_ble_eq_true rfl) (one_all rfl) ?_)
  replace S : St _ _ _ [(b1, .cells #[.bool false] 79 (0, 0))] := S.setAt 0 rfl _
  refine La A rfl (A.g 22 rfl) fun _ A => ?_
  replace A := A.only [12, 10, 4, 3, 2, 1, 0] rfl
  refine hK3 _ _ ?_
  refine wp_seq_k fun K4 hK4 => ?_
  refine region_seq ?_  -- region 2
  refine Lm A rfl (A.g 12 rfl) fun _ A => Lo A rfl (y_not (A.g 23 rfl) rfl fun _ A => ?_)
  replace A := A.only [24, 12, 10, 4, 3, 2, 1, 0] rfl
  refine hK4 _ _ ?_
  refine wp_cond_true (A.get rfl) ?_
  refine wp_seq_k fun K5 hK5 => ?_
  refine region_seq ?_  -- region 3
  refine La A rfl (evc _ _) fun _ A => ?_
  replace A := A.only [24, 12, 10, 4, 3, 2, 1, 0] rfl
  refine hK5 _ _ ?_
  exact wp_ret ⟨A.defers, _, res_run (rs := [.tmp 10]) (vs := [.int .i64 1]) rfl ⟨A.get rfl, trivial⟩, ⟨_, rfl, S.kp.to_gr, [], ⟨rfl, rfl⟩, NewF.nil _ _⟩⟩

set_option maxRecDepth 20000 in
set_option maxHeartbeats 4000000 in
theorem at_neg (h : NetRep p m H) (hH : Holds w H) (hk : goodK (ends a b)) (hk' : goodK (a, b)) {c : Bool} (hn : m.link (ends a b) = some c) (hi : i < 0) : Calls Try.prog 40 #[.pointer (some ⟨p, 0, none⟩), .int .i64 a, .int .i64 b, .int .i64 i, .func (.func fg) #[] caps] w (RetN w (eqv (.int .i64 5))) := by
  obtain ⟨vo, Ho, rl, ol, ls, rq, oq, es, h, rfl⟩ := h
  have hp : w.heap[p]? = some (.cells #[.int .i64 m.nodes, vo, .map (some rl), .map (some rq)] 69 (0, 0)) := hH.one
  have hl : w.heap[rl]? = some ol := hH.tail.one
  have hq : w.heap[rq]? = some oq := hH.tail.tail.one
  obtain ⟨hc, ho⟩ := link_some h.lk hn
  obtain ⟨qa, qc, hlq⟩ := h.lookq (a, b)
  refine enter Try.func40 rfl (n := 65) rfl (Nat.le_of_ble_eq_true rfl) fun _ A => ?_
  have S : St _ _ _ [] := St.none w
  refine wp_seq_k fun K1 hK1 => ?_
  refine region_seq ?_  -- region 0
  refine La A rfl (evc _ _) fun _ A => ?_
  replace A := A.only [10, 4, 3, 2, 1, 0] rfl
  refine hK1 _ _ ?_
  refine wp_seq_k fun K2 hK2 => ?_
  refine wp_seq_k fun K3 hK3 => ?_
  refine region_seq ?_  -- region 1
  refine Lm A rfl (A.g 0 rfl) fun _ A => Lm A rfl (A.g 1 rfl) fun _ A => Lm A rfl (A.g 2 rfl) fun _ A => Lo A rfl (y_call3 (by kernel_rfl) rfl (A.g 17 rfl) (A.g 18 rfl) (A.g 19 rfl) (callN (link_ok (S.kp.heap' hp (by simp)) (S.kp.heap' hl (by simp)) h.lm hk hc ho) fun v w H gG nN hf ac A => ?_))
  obtain ⟨rfl, rfl⟩ := hf
  replace S : St _ _ _ [] := S.new gG nN
  replace A := A.only [20, 10, 4, 3, 2, 1, 0] rfl
  refine Lm A rfl (A.g 20 rfl) fun _ A => Lo A rfl (y_extract (A.g 16 rfl) rfl fun _ A => ?_)
  refine Lo A rfl (y_extract (A.g 16 rfl) rfl fun _ A => ?_)
  refine Lo A rfl (y_allocN (z := .agg #[.bool false]) (by kernel_rfl) fun b1 w gG nN ac A => ?_)
  replace S : St _ _ _ [(b1, .cells #[.bool false] 79 (0, 0))] := S.new gG nN
  replace A := A.only [22, 21, 11, 10, 4, 3, 2, 1, 0] rfl
  refine L_opN A rfl rfl (y_store 1 (by kernel_rfl) (A.g 11 rfl) (A.g 21 rfl) (S.get 0 rfl) rfl (Nat.le_of_ble_eq_true rfl) (one_all rfl) ?_)
  replace S : St _ _ _ [(b1, .cells #[.bool c] 79 (0, 0))] := S.setAt 0 rfl _
  refine La A rfl (A.g 22 rfl) fun _ A => ?_
  replace A := A.only [12, 10, 4, 3, 2, 1, 0] rfl
  refine hK3 _ _ ?_
  refine wp_seq_k fun K4 hK4 => ?_
  refine region_seq ?_  -- region 2
  refine Lm A rfl (A.g 12 rfl) fun _ A => Lo A rfl (y_not (A.g 23 rfl) rfl fun _ A => ?_)
  replace A := A.only [24, 12, 10, 4, 3, 2, 1, 0] rfl
  refine hK4 _ _ ?_
  refine wp_cond_false (A.get rfl) ?_
  refine wp_skip ?_
  refine hK2 _ _ ?_
  refine wp_seq_k fun K5 hK5 => ?_
  refine region_seq ?_  -- region 4
  refine Lm A rfl (A.g 1 rfl) fun _ A => Lm A rfl (A.g 2 rfl) fun _ A => Lo A rfl (y_build2 (A.g 25 rfl) (A.g 26 rfl) (v := .agg #[.int .i64 a, .int .i64 b]) (by kernel_rfl) fun _ A => ?_)
  refine Lo A rfl (y_allocN (z := .agg #[.int .i64 0, .int .i64 0]) (by kernel_rfl) fun b2 w gG nN ac A => ?_)
  replace S : St _ _ _ [(b2, .cells #[.int .i64 0, .int .i64 0] 28 (0, 0)), (b1, .cells #[.bool c] 79 (0, 0))] := S.new gG nN
  refine L_opN A rfl rfl (y_store 2 (by kernel_rfl) (A.g 13 rfl) (A.g 27 rfl) (S.get 0 rfl) rfl (Nat.le_of_ble_eq_true rfl) (one_all rfl) ?_)
  replace S : St _ _ _ [(b2, .cells #[.int .i64 a, .int .i64 b] 28 (0, 0)), (b1, .cells #[.bool c] 79 (0, 0))] := S.setAt 0 rfl _
  replace A := A.only [24, 13, 12, 10, 4, 3, 2, 1, 0] rfl
  refine hK5 _ _ ?_
  refine wp_seq_k fun K6 hK6 => ?_
  refine region_draw A [⟨28, pl (eqv (.pointer (some ⟨p, 0, none⟩))), [], [0], none, false⟩, ⟨29, pl (eqv (.pointer (some ⟨p, 0, none⟩))), [0], [], none, false⟩, ⟨30, pl (eqv (.pointer (some ⟨p, 3, none⟩))), [1], [], none, false⟩, ⟨31, pl (eqv (.map (some rq))), [2], [], none, false⟩, ⟨32, pl (eqv (.agg #[.int .i64 a, .int .i64 b])), [], [13], none, false⟩, ⟨33, pl (eqv (.slice qa (m.q (a, b)).length qc)), [3, 4], [], none, false⟩, ⟨14, pl (eqv (.slice qa (m.q (a, b)).length qc)), [5], [], none, false⟩] [] (by kernel_rfl) (by kernel_rfl) (fun d _ _ _ _ h => by cases d <;> exact h) ⟨?_, ?_, ?_, ?_, ?_, ?_, ?_, trivial⟩ ?_  -- region 5
  · refine due_plain fun ρ w1 G hsrc hold => ?_; obtain ⟨o0, -⟩ := hold; exact y_move (o0.trans (A.g 0 rfl)) y_eq
  · refine due_plain fun ρ w1 G hsrc hold => ?_; obtain ⟨⟨_, _, ⟨h28, -⟩, -⟩, -⟩ := hsrc; exact y_nilCheck h28 y_eq
  · refine due_plain fun ρ w1 G hsrc hold => ?_; obtain ⟨⟨_, _, ⟨h29, -⟩, -⟩, -⟩ := hsrc; exact y_fieldAddr (off := 3) (j := 3) (by kernel_rfl) h29 (by first | rfl | omega) y_eq
  · refine due_plain fun ρ w1 G hsrc hold => ?_; obtain ⟨⟨_, _, ⟨h30, -⟩, -⟩, -⟩ := hsrc; exact y_load (by kernel_rfl) h30 ((cell_of (G.gr.heap' (S.kp.heap' hp (by simp))) _).trans rfl) y_eq
  · refine due_plain fun ρ w1 G hsrc hold => ?_; obtain ⟨o13, -⟩ := hold; exact y_loadAgg [.int .i64 a, .int .i64 b] (by kernel_rfl) (o13.trans (A.g 13 rfl)) (cells_at (G.gr.heap' (S.get 0 rfl)) rfl) y_eq
  · refine due_plain fun ρ w1 G hsrc hold => ?_; obtain ⟨⟨_, _, ⟨h31, -⟩, -⟩, ⟨_, _, ⟨h32, -⟩, -⟩, -⟩ := hsrc; exact y_lookup h31 h32 (look_queue (G.gr.heap' (S.kp.heap' hq (by simp))) h.qm (a, b) hk' hlq) y_eq
  · refine due_plain fun ρ w1 G hsrc hold => ?_; obtain ⟨⟨_, _, ⟨h33, -⟩, -⟩, -⟩ := hsrc; exact y_assign h33 y_eq
  rintro _ _ ⟨rfl, rfl⟩ _ _ ⟨rfl, rfl⟩ _ _ ⟨rfl, rfl⟩ _ _ ⟨rfl, rfl⟩ _ _ ⟨rfl, rfl⟩ _ _ ⟨rfl, rfl⟩ _ _ ⟨rfl, rfl⟩
  intro ac w A gG nN
  replace S : St _ _ _ [(b2, .cells #[.int .i64 a, .int .i64 b] 28 (0, 0)), (b1, .cells #[.bool c] 79 (0, 0))] := S.new gG nN
  replace A := A.only [24, 14, 13, 12, 10, 4, 3, 2, 1, 0] rfl
  refine hK6 _ _ ?_
  refine wp_seq_k fun K7 hK7 => ?_
  refine wp_seq_k fun K8 hK8 => ?_
  refine region_seq ?_  -- region 6
  refine Lm A rfl (A.g 3 rfl) fun _ A => Lo A rfl (y_lss (A.g 34 rfl) (evc _ _) (c := true) (decide_eq_true hi) fun _ A => ?_)
  refine Lm A rfl (A.g 35 rfl) fun _ A => L_no A rfl (by decide) rfl rfl (by decide) (A.get rfl) (by decide) fun _ A => ?_
  replace A := A.only [37, 36, 24, 14, 13, 12, 10, 4, 3, 2, 1, 0] rfl
  refine L_no A rfl (by decide) rfl rfl (by decide) (A.get rfl) (by decide) fun _ A => ?_
  refine L_no A rfl (by decide) rfl rfl (by decide) (A.get rfl) (by decide) fun _ A => ?_
  refine L_no A rfl (by decide) rfl rfl (by decide) (A.get rfl) (by decide) fun _ A => ?_
  refine Lo A rfl (y_pickT (A.g 36 rfl) (evc _ _) fun _ A => ?_)
  replace A := A.only [41, 24, 14, 13, 12, 10, 4, 3, 2, 1, 0] rfl
  refine hK8 _ _ ?_
  refine wp_cond_true (A.get rfl) ?_
  refine wp_seq_k fun K9 hK9 => ?_
  refine region_seq ?_  -- region 7
  refine La A rfl (evc _ _) fun _ A => ?_
  replace A := A.only [41, 24, 14, 13, 12, 10, 4, 3, 2, 1, 0] rfl
  refine hK9 _ _ ?_
  exact wp_ret ⟨A.defers, _, res_run (rs := [.tmp 10]) (vs := [.int .i64 5]) rfl ⟨A.get rfl, trivial⟩, ⟨_, rfl, S.kp.to_gr, [], ⟨rfl, rfl⟩, NewF.nil _ _⟩⟩

set_option maxRecDepth 20000 in
set_option maxHeartbeats 4000000 in
theorem at_far (h : NetRep p m H) (hH : Holds w H) (hk : goodK (ends a b)) (hk' : goodK (a, b)) {c : Bool} (hn : m.link (ends a b) = some c) (hi : 0 ≤ i) (hi2 : (m.q (a, b)).length ≤ i) : Calls Try.prog 40 #[.pointer (some ⟨p, 0, none⟩), .int .i64 a, .int .i64 b, .int .i64 i, .func (.func fg) #[] caps] w (RetN w (eqv (.int .i64 5))) := by
  obtain ⟨vo, Ho, rl, ol, ls, rq, oq, es, h, rfl⟩ := h
  have hp : w.heap[p]? = some (.cells #[.int .i64 m.nodes, vo, .map (some rl), .map (some rq)] 69 (0, 0)) := hH.one
  have hl : w.heap[rl]? = some ol := hH.tail.one
  have hq : w.heap[rq]? = some oq := hH.tail.tail.one
  obtain ⟨hc, ho⟩ := link_some h.lk hn
  obtain ⟨qa, qc, hlq⟩ := h.lookq (a, b)
  refine enter Try.func40 rfl (n := 65) rfl (Nat.le_of_ble_eq_true rfl) fun _ A => ?_
  have S : St _ _ _ [] := St.none w
  refine wp_seq_k fun K1 hK1 => ?_
  refine region_seq ?_  -- region 0
  refine La A rfl (evc _ _) fun _ A => ?_
  replace A := A.only [10, 4, 3, 2, 1, 0] rfl
  refine hK1 _ _ ?_
  refine wp_seq_k fun K2 hK2 => ?_
  refine wp_seq_k fun K3 hK3 => ?_
  refine region_seq ?_  -- region 1
  refine Lm A rfl (A.g 0 rfl) fun _ A => Lm A rfl (A.g 1 rfl) fun _ A => Lm A rfl (A.g 2 rfl) fun _ A => Lo A rfl (y_call3 (by kernel_rfl) rfl (A.g 17 rfl) (A.g 18 rfl) (A.g 19 rfl) (callN (link_ok (S.kp.heap' hp (by simp)) (S.kp.heap' hl (by simp)) h.lm hk hc ho) fun v w H gG nN hf ac A => ?_))
  obtain ⟨rfl, rfl⟩ := hf
  replace S : St _ _ _ [] := S.new gG nN
  replace A := A.only [20, 10, 4, 3, 2, 1, 0] rfl
  refine Lm A rfl (A.g 20 rfl) fun _ A => Lo A rfl (y_extract (A.g 16 rfl) rfl fun _ A => ?_)
  refine Lo A rfl (y_extract (A.g 16 rfl) rfl fun _ A => ?_)
  refine Lo A rfl (y_allocN (z := .agg #[.bool false]) (by kernel_rfl) fun b1 w gG nN ac A => ?_)
  replace S : St _ _ _ [(b1, .cells #[.bool false] 79 (0, 0))] := S.new gG nN
  replace A := A.only [22, 21, 11, 10, 4, 3, 2, 1, 0] rfl
  refine L_opN A rfl rfl (y_store 1 (by kernel_rfl) (A.g 11 rfl) (A.g 21 rfl) (S.get 0 rfl) rfl (Nat.le_of_ble_eq_true rfl) (one_all rfl) ?_)
  replace S : St _ _ _ [(b1, .cells #[.bool c] 79 (0, 0))] := S.setAt 0 rfl _
  refine La A rfl (A.g 22 rfl) fun _ A => ?_
  replace A := A.only [12, 10, 4, 3, 2, 1, 0] rfl
  refine hK3 _ _ ?_
  refine wp_seq_k fun K4 hK4 => ?_
  refine region_seq ?_  -- region 2
  refine Lm A rfl (A.g 12 rfl) fun _ A => Lo A rfl (y_not (A.g 23 rfl) rfl fun _ A => ?_)
  replace A := A.only [24, 12, 10, 4, 3, 2, 1, 0] rfl
  refine hK4 _ _ ?_
  refine wp_cond_false (A.get rfl) ?_
  refine wp_skip ?_
  refine hK2 _ _ ?_
  refine wp_seq_k fun K5 hK5 => ?_
  refine region_seq ?_  -- region 4
  refine Lm A rfl (A.g 1 rfl) fun _ A => Lm A rfl (A.g 2 rfl) fun _ A => Lo A rfl (y_build2 (A.g 25 rfl) (A.g 26 rfl) (v := .agg #[.int .i64 a, .int .i64 b]) (by kernel_rfl) fun _ A => ?_)
  refine Lo A rfl (y_allocN (z := .agg #[.int .i64 0, .int .i64 0]) (by kernel_rfl) fun b2 w gG nN ac A => ?_)
  replace S : St _ _ _ [(b2, .cells #[.int .i64 0, .int .i64 0] 28 (0, 0)), (b1, .cells #[.bool c] 79 (0, 0))] := S.new gG nN
  refine L_opN A rfl rfl (y_store 2 (by kernel_rfl) (A.g 13 rfl) (A.g 27 rfl) (S.get 0 rfl) rfl (Nat.le_of_ble_eq_true rfl) (one_all rfl) ?_)
  replace S : St _ _ _ [(b2, .cells #[.int .i64 a, .int .i64 b] 28 (0, 0)), (b1, .cells #[.bool c] 79 (0, 0))] := S.setAt 0 rfl _
  replace A := A.only [24, 13, 12, 10, 4, 3, 2, 1, 0] rfl
  refine hK5 _ _ ?_
  refine wp_seq_k fun K6 hK6 => ?_
  refine region_draw A [⟨28, pl (eqv (.pointer (some ⟨p, 0, none⟩))), [], [0], none, false⟩, ⟨29, pl (eqv (.pointer (some ⟨p, 0, none⟩))), [0], [], none, false⟩, ⟨30, pl (eqv (.pointer (some ⟨p, 3, none⟩))), [1], [], none, false⟩, ⟨31, pl (eqv (.map (some rq))), [2], [], none, false⟩, ⟨32, pl (eqv (.agg #[.int .i64 a, .int .i64 b])), [], [13], none, false⟩, ⟨33, pl (eqv (.slice qa (m.q (a, b)).length qc)), [3, 4], [], none, false⟩, ⟨14, pl (eqv (.slice qa (m.q (a, b)).length qc)), [5], [], none, false⟩] [] (by kernel_rfl) (by kernel_rfl) (fun d _ _ _ _ h => by cases d <;> exact h) ⟨?_, ?_, ?_, ?_, ?_, ?_, ?_, trivial⟩ ?_  -- region 5
  · refine due_plain fun ρ w1 G hsrc hold => ?_; obtain ⟨o0, -⟩ := hold; exact y_move (o0.trans (A.g 0 rfl)) y_eq
  · refine due_plain fun ρ w1 G hsrc hold => ?_; obtain ⟨⟨_, _, ⟨h28, -⟩, -⟩, -⟩ := hsrc; exact y_nilCheck h28 y_eq
  · refine due_plain fun ρ w1 G hsrc hold => ?_; obtain ⟨⟨_, _, ⟨h29, -⟩, -⟩, -⟩ := hsrc; exact y_fieldAddr (off := 3) (j := 3) (by kernel_rfl) h29 (by first | rfl | omega) y_eq
  · refine due_plain fun ρ w1 G hsrc hold => ?_; obtain ⟨⟨_, _, ⟨h30, -⟩, -⟩, -⟩ := hsrc; exact y_load (by kernel_rfl) h30 ((cell_of (G.gr.heap' (S.kp.heap' hp (by simp))) _).trans rfl) y_eq
  · refine due_plain fun ρ w1 G hsrc hold => ?_; obtain ⟨o13, -⟩ := hold; exact y_loadAgg [.int .i64 a, .int .i64 b] (by kernel_rfl) (o13.trans (A.g 13 rfl)) (cells_at (G.gr.heap' (S.get 0 rfl)) rfl) y_eq
  · refine due_plain fun ρ w1 G hsrc hold => ?_; obtain ⟨⟨_, _, ⟨h31, -⟩, -⟩, ⟨_, _, ⟨h32, -⟩, -⟩, -⟩ := hsrc; exact y_lookup h31 h32 (look_queue (G.gr.heap' (S.kp.heap' hq (by simp))) h.qm (a, b) hk' hlq) y_eq
  · refine due_plain fun ρ w1 G hsrc hold => ?_; obtain ⟨⟨_, _, ⟨h33, -⟩, -⟩, -⟩ := hsrc; exact y_assign h33 y_eq
  rintro _ _ ⟨rfl, rfl⟩ _ _ ⟨rfl, rfl⟩ _ _ ⟨rfl, rfl⟩ _ _ ⟨rfl, rfl⟩ _ _ ⟨rfl, rfl⟩ _ _ ⟨rfl, rfl⟩ _ _ ⟨rfl, rfl⟩
  intro ac w A gG nN
  replace S : St _ _ _ [(b2, .cells #[.int .i64 a, .int .i64 b] 28 (0, 0)), (b1, .cells #[.bool c] 79 (0, 0))] := S.new gG nN
  replace A := A.only [24, 14, 13, 12, 10, 4, 3, 2, 1, 0] rfl
  refine hK6 _ _ ?_
  refine wp_seq_k fun K7 hK7 => ?_
  refine wp_seq_k fun K8 hK8 => ?_
  refine region_seq ?_  -- region 6
  refine Lm A rfl (A.g 3 rfl) fun _ A => Lo A rfl (y_lss (A.g 34 rfl) (evc _ _) (c := false) (decide_eq_false (by omega)) fun _ A => ?_)
  refine Lm A rfl (A.g 35 rfl) fun _ A => L_yes A rfl (by decide) rfl rfl (by decide) (A.get rfl) (y_move (A.g 3 rfl) fun _ A => ?_)
  replace A := A.only [37, 36, 24, 14, 13, 12, 10, 4, 3, 2, 1, 0] rfl
  refine L_yes A rfl (by decide) rfl rfl (by decide) (A.get rfl) (y_move (A.g 14 rfl) fun _ A => ?_)
  refine L_yes A rfl (by decide) rfl rfl (by decide) (A.get rfl) (y_lenS (e := 85) (by kernel_rfl) (A.g 38 rfl) fun _ A => ?_)
  refine L_yes A rfl (by decide) rfl rfl (by decide) (A.get rfl) (y_geq (A.g 37 rfl) (A.g 39 rfl) (c := true) (decide_eq_true (by omega)) fun _ A => ?_)
  refine Lo A rfl (y_pickF (A.g 36 rfl) (A.g 40 rfl) fun _ A => ?_)
  replace A := A.only [41, 24, 14, 13, 12, 10, 4, 3, 2, 1, 0] rfl
  refine hK8 _ _ ?_
  refine wp_cond_true (A.get rfl) ?_
  refine wp_seq_k fun K9 hK9 => ?_
  refine region_seq ?_  -- region 7
  refine La A rfl (evc _ _) fun _ A => ?_
  replace A := A.only [41, 24, 14, 13, 12, 10, 4, 3, 2, 1, 0] rfl
  refine hK9 _ _ ?_
  exact wp_ret ⟨A.defers, _, res_run (rs := [.tmp 10]) (vs := [.int .i64 5]) rfl ⟨A.get rfl, trivial⟩, ⟨_, rfl, S.kp.to_gr, [], ⟨rfl, rfl⟩, NewF.nil _ _⟩⟩
end
end Go.Proofs.Ytaeidblipdjgnaa
