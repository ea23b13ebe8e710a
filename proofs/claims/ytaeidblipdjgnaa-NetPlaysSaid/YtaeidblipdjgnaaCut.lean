import Derived.Test.YtaeidblipdjgnaaApi
namespace Go.Proofs.Ytaeidblipdjgnaa
open Go.RowKit Go.Maps Go.WideMaps

def M.setl (m : M) (k : Int × Int) (c : Bool) : M := { m with link := fun k' => if k' = k then some c else m.link k' }
theorem NetP.setl {m : M} {vo : Value} {Ho : Frag} {ol ol' : Obj} {ls : List ((Int × Int) × Value)} {oq : Obj} {es : List Qe} (h : NetP m vo Ho ol ls oq es) (k : Int × Int) (c : Bool) (hm : MapIs Try.prog 28 kv ol' (put ls k (stv c))) : NetP (m.setl k c) vo Ho ol' (put ls k (stv c)) oq es :=
  ⟨h.ord, hm, fun q => by rw [look_put, h.lk q]; unfold M.setl; by_cases hq : q = k <;> simp [hq], h.qm, h.ent, h.non, h.few, h.ols⟩
theorem NetP.del {m : M} {vo : Value} {Ho : Frag} {ol : Obj} {ls : List ((Int × Int) × Value)} {oq oq' : Obj} {es : List Qe} (h : NetP m vo Ho ol ls oq es) (k : Int × Int) (hm : MapIs Try.prog 28 kv oq' (drop (qeM es) k)) : ∃ es' Hg, NetP (m.setq k []) vo Ho ol ls oq' es' ∧ (qeH es).Perm (qeH es' ++ Hg) := by
  obtain ⟨v0, its, HQ, H2, hv0, hsl, hits, hok, hperm, hput, es', e1, e2, e3⟩ := h.zoom k
  refine ⟨es', HQ ++ itH its, ⟨h.ord, h.lm, h.lk, e1 ▸ hm, e2.1, e2.2, fun q => ?_, h.ols⟩, ?_⟩
  · by_cases hq : q = k
    · subst hq; rw [M.setq_same]; simp
    · rw [M.setq_other m _ hq]; exact h.few q
  · refine hperm.trans ?_
    refine List.Perm.trans ?_ (List.Perm.append_right _ e3.symm)
    classical rw [List.perm_iff_count]; intro x; simp only [List.count_append]; omega
def M.cut (m : M) (a b : Int) : Int × M :=
  match m.link (ends a b) with
  | none => (1, m)
  | some true => (6, m)
  | some false => (0, ((m.setl (ends a b) true).setq (a, b) []).setq (b, a) [])
def M.heal (m : M) (a b : Int) : Int × M :=
  match m.link (ends a b) with
  | none => (1, m)
  | some false => (6, m)
  | some true => (0, m.setl (ends a b) false)
section
variable {p : Nat} {m : M} {H : Frag} {w : World} {a b i : Int}

set_option maxRecDepth 20000 in
theorem cut_arg (h : NetRep p m H) (hH : Holds w H) (hk : goodK (ends a b)) (hn : m.link (ends a b) = none) : Calls Try.prog 24 #[.pointer (some ⟨p, 0, none⟩), .int .i64 a, .int .i64 b] w (RetN w (eqv (.int .i64 1))) := by
  obtain ⟨vo, Ho, rl, ol, ls, rq, oq, es, h, rfl⟩ := h
  have hp : w.heap[p]? = some (.cells #[.int .i64 m.nodes, vo, .map (some rl), .map (some rq)] 69 (0, 0)) := hH.one
  have hl : w.heap[rl]? = some ol := hH.tail.one
  obtain ⟨hc, ho⟩ := link_none h.lk hn
  refine enter Try.func24 rfl (n := 44) rfl (Nat.le_of_ble_eq_true rfl) fun _ A => ?_
  have S : St _ _ _ [] := St.none w
  refine wp_seq_k fun K1 hK1 => ?_
  refine region_seq ?_  -- region 0
  refine La A rfl (evc _ _) fun _ A => ?_
  replace A := A.only [6, 2, 1, 0] rfl
  refine hK1 _ _ ?_
  refine wp_seq_k fun K2 hK2 => ?_
  refine region_seq ?_  -- region 1
  refine Lm A rfl (A.g 0 rfl) fun _ A => Lm A rfl (A.g 1 rfl) fun _ A => Lm A rfl (A.g 2 rfl) fun _ A => Lo A rfl (y_call3 (by kernel_rfl) rfl (A.g 10 rfl) (A.g 11 rfl) (A.g 12 rfl) (callN (link_ok (S.kp.heap' hp (by simp)) (S.kp.heap' hl (by simp)) h.lm hk hc ho) fun v w H gG nN hf ac A => ?_))
  obtain ⟨rfl, rfl⟩ := hf
  replace S : St _ _ _ [] := S.new gG nN
  replace A := A.only [13, 6, 2, 1, 0] rfl
  refine Lm A rfl (A.g 13 rfl) fun _ A => Lo A rfl (y_extract (A.g 9 rfl) rfl fun _ A => ?_)
  refine Lo A rfl (y_extract (A.g 9 rfl) rfl fun _ A => ?_)
  refine Lo A rfl (y_allocN (z := .agg #[.bool false]) (by kernel_rfl) fun b1 w gG nN ac A => ?_)
  replace S : St _ _ _ [(b1, .cells #[.bool false] 79 (0, 0))] := S.new gG nN
  replace A := A.only [15, 14, 7, 6, 2, 1, 0] rfl
  refine L_opN A rfl rfl (y_store 1 (by kernel_rfl) (A.g 7 rfl) (A.g 14 rfl) (S.get 0 rfl) rfl (Nat.le_of_ble_eq_true rfl) (one_all rfl) ?_)
  replace S : St _ _ _ [(b1, .cells #[.bool false] 79 (0, 0))] := S.setAt 0 rfl _
  refine La A rfl (A.g 15 rfl) fun _ A => ?_
  replace A := A.only [8, 7, 6, 2, 1, 0] rfl
  refine hK2 _ _ ?_
  refine wp_seq_k fun K3 hK3 => ?_
  refine wp_block ?_
  refine wp_seq_k fun K4 hK4 => ?_
  refine region_seq ?_  -- region 2
  refine Lm A rfl (A.g 8 rfl) fun _ A => Lo A rfl (y_not (A.g 17 rfl) rfl fun _ A => ?_)
  refine La A rfl (A.g 18 rfl) fun _ A => ?_
  replace A := A.only [16, 8, 7, 6, 2, 1, 0] rfl
  refine hK4 _ _ ?_
  refine wp_cond_true (A.get rfl) ?_
  refine wp_seq_k fun K5 hK5 => ?_
  refine region_seq ?_  -- region 3
  refine La A rfl (evc _ _) fun _ A => ?_
  replace A := A.only [16, 8, 7, 6, 2, 1, 0] rfl
  refine hK5 _ _ ?_
  exact wp_ret ⟨A.defers, _, res_run (rs := [.tmp 6]) (vs := [.int .i64 1]) rfl ⟨A.get rfl, trivial⟩, ⟨_, rfl, S.kp.to_gr, [], ⟨rfl, rfl⟩, NewF.nil _ _⟩⟩

set_option maxRecDepth 20000 in
theorem cut_was (h : NetRep p m H) (hH : Holds w H) (hk : goodK (ends a b)) (hn : m.link (ends a b) = some true) : Calls Try.prog 24 #[.pointer (some ⟨p, 0, none⟩), .int .i64 a, .int .i64 b] w (RetN w (eqv (.int .i64 6))) := by
  obtain ⟨vo, Ho, rl, ol, ls, rq, oq, es, h, rfl⟩ := h
  have hp : w.heap[p]? = some (.cells #[.int .i64 m.nodes, vo, .map (some rl), .map (some rq)] 69 (0, 0)) := hH.one
  have hl : w.heap[rl]? = some ol := hH.tail.one
  obtain ⟨hc, ho⟩ := link_some h.lk hn
  refine enter Try.func24 rfl (n := 44) rfl (Nat.le_of_ble_eq_true rfl) fun _ A => ?_
  have S : St _ _ _ [] := St.none w
  refine wp_seq_k fun K1 hK1 => ?_
  refine region_seq ?_  -- region 0
  refine La A rfl (evc _ _) fun _ A => ?_
  replace A := A.only [6, 2, 1, 0] rfl
  refine hK1 _ _ ?_
  refine wp_seq_k fun K2 hK2 => ?_
  refine region_seq ?_  -- region 1
  refine Lm A rfl (A.g 0 rfl) fun _ A => Lm A rfl (A.g 1 rfl) fun _ A => Lm A rfl (A.g 2 rfl) fun _ A => Lo A rfl (y_call3 (by kernel_rfl) rfl (A.g 10 rfl) (A.g 11 rfl) (A.g 12 rfl) (callN (link_ok (S.kp.heap' hp (by simp)) (S.kp.heap' hl (by simp)) h.lm hk hc ho) fun v w H gG nN hf ac A => ?_))
  obtain ⟨rfl, rfl⟩ := hf
  replace S : St _ _ _ [] := S.new gG nN
  replace A := A.only [13, 6, 2, 1, 0] rfl
  refine Lm A rfl (A.g 13 rfl) fun _ A => Lo A rfl (y_extract (A.g 9 rfl) rfl fun _ A => ?_)
  refine Lo A rfl (y_extract (A.g 9 rfl) rfl fun _ A => ?_)
  refine Lo A rfl (y_allocN (z := .agg #[.bool false]) (by kernel_rfl) fun b1 w gG nN ac A => ?_)
  replace S : St _ _ _ [(b1, .cells #[.bool false] 79 (0, 0))] := S.new gG nN
  replace A := A.only [15, 14, 7, 6, 2, 1, 0] rfl
  refine L_opN A rfl rfl (y_store 1 (by kernel_rfl) (A.g 7 rfl) (A.g 14 rfl) (S.get 0 rfl) rfl (Nat.le_of_ble_eq_true rfl) (one_all rfl) ?_)
  replace S : St _ _ _ [(b1, .cells #[.bool true] 79 (0, 0))] := S.setAt 0 rfl _
  refine La A rfl (A.g 15 rfl) fun _ A => ?_
  replace A := A.only [8, 7, 6, 2, 1, 0] rfl
  refine hK2 _ _ ?_
  refine wp_seq_k fun K3 hK3 => ?_
  refine wp_block ?_
  refine wp_seq_k fun K4 hK4 => ?_
  refine region_seq ?_  -- region 2
  refine Lm A rfl (A.g 8 rfl) fun _ A => Lo A rfl (y_not (A.g 17 rfl) rfl fun _ A => ?_)
  refine La A rfl (A.g 18 rfl) fun _ A => ?_
  replace A := A.only [16, 8, 7, 6, 2, 1, 0] rfl
  refine hK4 _ _ ?_
  refine wp_cond_false (A.get rfl) ?_
  refine wp_seq_k fun K5 hK5 => ?_
  refine region_seq ?_  -- region 4
  refine Lo A rfl (y_fieldAddr (off := 0) (j := 0) (by kernel_rfl) (A.g 7 rfl) (by first | rfl | omega) fun _ A => ?_)
  refine Lo A rfl (y_load (by kernel_rfl) (A.g 20 rfl) ((cell_of (S.get 0 rfl) _).trans rfl) fun _ A => ?_)
  refine La A rfl (A.g 21 rfl) fun _ A => ?_
  replace A := A.only [19, 16, 8, 7, 6, 2, 1, 0] rfl
  refine hK5 _ _ ?_
  refine wp_cond_true (A.get rfl) ?_
  refine wp_seq_k fun K6 hK6 => ?_
  refine region_seq ?_  -- region 5
  refine La A rfl (evc _ _) fun _ A => ?_
  replace A := A.only [19, 16, 8, 7, 6, 2, 1, 0] rfl
  refine hK6 _ _ ?_
  exact wp_ret ⟨A.defers, _, res_run (rs := [.tmp 6]) (vs := [.int .i64 6]) rfl ⟨A.get rfl, trivial⟩, ⟨_, rfl, S.kp.to_gr, [], ⟨rfl, rfl⟩, NewF.nil _ _⟩⟩

set_option maxRecDepth 20000 in
theorem heal_arg (h : NetRep p m H) (hH : Holds w H) (hk : goodK (ends a b)) (hn : m.link (ends a b) = none) : Calls Try.prog 26 #[.pointer (some ⟨p, 0, none⟩), .int .i64 a, .int .i64 b] w (RetN w (eqv (.int .i64 1))) := by
  obtain ⟨vo, Ho, rl, ol, ls, rq, oq, es, h, rfl⟩ := h
  have hp : w.heap[p]? = some (.cells #[.int .i64 m.nodes, vo, .map (some rl), .map (some rq)] 69 (0, 0)) := hH.one
  have hl : w.heap[rl]? = some ol := hH.tail.one
  obtain ⟨hc, ho⟩ := link_none h.lk hn
  refine enter Try.func26 rfl (n := 31) rfl (Nat.le_of_ble_eq_true rfl) fun _ A => ?_
  have S : St _ _ _ [] := St.none w
  refine wp_seq_k fun K1 hK1 => ?_
  refine region_seq ?_  -- region 0
  refine La A rfl (evc _ _) fun _ A => ?_
  replace A := A.only [6, 2, 1, 0] rfl
  refine hK1 _ _ ?_
  refine wp_seq_k fun K2 hK2 => ?_
  refine region_seq ?_  -- region 1
  refine Lm A rfl (A.g 0 rfl) fun _ A => Lm A rfl (A.g 1 rfl) fun _ A => Lm A rfl (A.g 2 rfl) fun _ A => Lo A rfl (y_call3 (by kernel_rfl) rfl (A.g 10 rfl) (A.g 11 rfl) (A.g 12 rfl) (callN (link_ok (S.kp.heap' hp (by simp)) (S.kp.heap' hl (by simp)) h.lm hk hc ho) fun v w H gG nN hf ac A => ?_))
  obtain ⟨rfl, rfl⟩ := hf
  replace S : St _ _ _ [] := S.new gG nN
  replace A := A.only [13, 6, 2, 1, 0] rfl
  refine Lm A rfl (A.g 13 rfl) fun _ A => Lo A rfl (y_extract (A.g 9 rfl) rfl fun _ A => ?_)
  refine Lo A rfl (y_extract (A.g 9 rfl) rfl fun _ A => ?_)
  refine Lo A rfl (y_allocN (z := .agg #[.bool false]) (by kernel_rfl) fun b1 w gG nN ac A => ?_)
  replace S : St _ _ _ [(b1, .cells #[.bool false] 79 (0, 0))] := S.new gG nN
  replace A := A.only [15, 14, 7, 6, 2, 1, 0] rfl
  refine L_opN A rfl rfl (y_store 1 (by kernel_rfl) (A.g 7 rfl) (A.g 14 rfl) (S.get 0 rfl) rfl (Nat.le_of_ble_eq_true rfl) (one_all rfl) ?_)
  replace S : St _ _ _ [(b1, .cells #[.bool false] 79 (0, 0))] := S.setAt 0 rfl _
  refine La A rfl (A.g 15 rfl) fun _ A => ?_
  replace A := A.only [8, 7, 6, 2, 1, 0] rfl
  refine hK2 _ _ ?_
  refine wp_seq_k fun K3 hK3 => ?_
  refine wp_block ?_
  refine wp_seq_k fun K4 hK4 => ?_
  refine region_seq ?_  -- region 2
  refine Lm A rfl (A.g 8 rfl) fun _ A => Lo A rfl (y_not (A.g 17 rfl) rfl fun _ A => ?_)
  refine La A rfl (A.g 18 rfl) fun _ A => ?_
  replace A := A.only [16, 8, 7, 6, 2, 1, 0] rfl
  refine hK4 _ _ ?_
  refine wp_cond_true (A.get rfl) ?_
  refine wp_seq_k fun K5 hK5 => ?_
  refine region_seq ?_  -- region 3
  refine La A rfl (evc _ _) fun _ A => ?_
  replace A := A.only [16, 8, 7, 6, 2, 1, 0] rfl
  refine hK5 _ _ ?_
  exact wp_ret ⟨A.defers, _, res_run (rs := [.tmp 6]) (vs := [.int .i64 1]) rfl ⟨A.get rfl, trivial⟩, ⟨_, rfl, S.kp.to_gr, [], ⟨rfl, rfl⟩, NewF.nil _ _⟩⟩

set_option maxRecDepth 20000 in
theorem heal_was (h : NetRep p m H) (hH : Holds w H) (hk : goodK (ends a b)) (hn : m.link (ends a b) = some false) : Calls Try.prog 26 #[.pointer (some ⟨p, 0, none⟩), .int .i64 a, .int .i64 b] w (RetN w (eqv (.int .i64 6))) := by
  obtain ⟨vo, Ho, rl, ol, ls, rq, oq, es, h, rfl⟩ := h
  have hp : w.heap[p]? = some (.cells #[.int .i64 m.nodes, vo, .map (some rl), .map (some rq)] 69 (0, 0)) := hH.one
  have hl : w.heap[rl]? = some ol := hH.tail.one
  obtain ⟨hc, ho⟩ := link_some h.lk hn
  refine enter Try.func26 rfl (n := 31) rfl (Nat.le_of_ble_eq_true rfl) fun _ A => ?_
  have S : St _ _ _ [] := St.none w
  refine wp_seq_k fun K1 hK1 => ?_
  refine region_seq ?_  -- region 0
  refine La A rfl (evc _ _) fun _ A => ?_
  replace A := A.only [6, 2, 1, 0] rfl
  refine hK1 _ _ ?_
  refine wp_seq_k fun K2 hK2 => ?_
  refine region_seq ?_  -- region 1
  refine Lm A rfl (A.g 0 rfl) fun _ A => Lm A rfl (A.g 1 rfl) fun _ A => Lm A rfl (A.g 2 rfl) fun _ A => Lo A rfl (y_call3 (by kernel_rfl) rfl (A.g 10 rfl) (A.g 11 rfl) (A.g 12 rfl) (callN (link_ok (S.kp.heap' hp (by simp)) (S.kp.heap' hl (by simp)) h.lm hk hc ho) fun v w H gG nN hf ac A => ?_))
  obtain ⟨rfl, rfl⟩ := hf
  replace S : St _ _ _ [] := S.new gG nN
  replace A := A.only [13, 6, 2, 1, 0] rfl
  refine Lm A rfl (A.g 13 rfl) fun _ A => Lo A rfl (y_extract (A.g 9 rfl) rfl fun _ A => ?_)
  refine Lo A rfl (y_extract (A.g 9 rfl) rfl fun _ A => ?_)
  refine Lo A rfl (y_allocN (z := .agg #[.bool false]) (by kernel_rfl) fun b1 w gG nN ac A => ?_)
  replace S : St _ _ _ [(b1, .cells #[.bool false] 79 (0, 0))] := S.new gG nN
  replace A := A.only [15, 14, 7, 6, 2, 1, 0] rfl
  refine L_opN A rfl rfl (y_store 1 (by kernel_rfl) (A.g 7 rfl) (A.g 14 rfl) (S.get 0 rfl) rfl (Nat.le_of_ble_eq_true rfl) (one_all rfl) ?_)
  replace S : St _ _ _ [(b1, .cells #[.bool false] 79 (0, 0))] := S.setAt 0 rfl _
  refine La A rfl (A.g 15 rfl) fun _ A => ?_
  replace A := A.only [8, 7, 6, 2, 1, 0] rfl
  refine hK2 _ _ ?_
  refine wp_seq_k fun K3 hK3 => ?_
  refine wp_block ?_
  refine wp_seq_k fun K4 hK4 => ?_
  refine region_seq ?_  -- region 2
  refine Lm A rfl (A.g 8 rfl) fun _ A => Lo A rfl (y_not (A.g 17 rfl) rfl fun _ A => ?_)
  refine La A rfl (A.g 18 rfl) fun _ A => ?_
  replace A := A.only [16, 8, 7, 6, 2, 1, 0] rfl
  refine hK4 _ _ ?_
  refine wp_cond_false (A.get rfl) ?_
  refine wp_seq_k fun K5 hK5 => ?_
  refine region_seq ?_  -- region 4
  refine Lo A rfl (y_fieldAddr (off := 0) (j := 0) (by kernel_rfl) (A.g 7 rfl) (by first | rfl | omega) fun _ A => ?_)
  refine Lo A rfl (y_load (by kernel_rfl) (A.g 20 rfl) ((cell_of (S.get 0 rfl) _).trans rfl) fun _ A => ?_)
  refine Lo A rfl (y_not (A.g 21 rfl) rfl fun _ A => ?_)
  refine La A rfl (A.g 22 rfl) fun _ A => ?_
  replace A := A.only [19, 16, 8, 7, 6, 2, 1, 0] rfl
  refine hK5 _ _ ?_
  refine wp_cond_true (A.get rfl) ?_
  refine wp_seq_k fun K6 hK6 => ?_
  refine region_seq ?_  -- region 5
  refine La A rfl (evc _ _) fun _ A => ?_
  replace A := A.only [19, 16, 8, 7, 6, 2, 1, 0] rfl
  refine hK6 _ _ ?_
  exact wp_ret ⟨A.defers, _, res_run (rs := [.tmp 6]) (vs := [.int .i64 6]) rfl ⟨A.get rfl, trivial⟩, ⟨_, rfl, S.kp.to_gr, [], ⟨rfl, rfl⟩, NewF.nil _ _⟩⟩

set_option maxRecDepth 20000 in
set_option maxHeartbeats 4000000 in
theorem cut_yes (h : NetRep p m H) (nd : (keys H).Nodup) (hH : Holds w H) (hk : goodK (ends a b)) (hk' : goodK (a, b)) (hk2 : goodK (b, a)) (hn : m.link (ends a b) = some false) : Calls Try.prog 24 #[.pointer (some ⟨p, 0, none⟩), .int .i64 a, .int .i64 b] w (RetW (keys H) w fun r H' => r = .int .i64 0 ∧ NetRep p (((m.setl (ends a b) true).setq (a, b) []).setq (b, a) []) H') := by
  obtain ⟨vo, Ho, rl, ol, ls, rq, oq, es, h, rfl⟩ := h
  obtain ⟨hc, ho⟩ := link_some h.lk hn
  have S0 := St.start nd hH
  refine enter Try.func24 rfl (n := 44) rfl (Nat.le_of_ble_eq_true rfl) fun _ A => ?_
  have S : St _ _ _ ([(p, .cells #[.int .i64 m.nodes, vo, .map (some rl), .map (some rq)] 69 (0, 0)), (rl, ol), (rq, oq)] ++ (Ho ++ qeH es)) := S0
  refine wp_seq_k fun K1 hK1 => ?_
  refine region_seq ?_  -- region 0
  refine La A rfl (evc _ _) fun _ A => ?_
  replace A := A.only [6, 2, 1, 0] rfl
  refine hK1 _ _ ?_
  refine wp_seq_k fun K2 hK2 => ?_
  refine region_seq ?_  -- region 1
  refine Lm A rfl (A.g 0 rfl) fun _ A => Lm A rfl (A.g 1 rfl) fun _ A => Lm A rfl (A.g 2 rfl) fun _ A => Lo A rfl (y_call3 (by kernel_rfl) rfl (A.g 10 rfl) (A.g 11 rfl) (A.g 12 rfl) (callN (link_ok (S.get 0 rfl) (S.get 1 rfl) h.lm hk hc ho) fun v w H gG nN hf ac A => ?_))
  obtain ⟨rfl, rfl⟩ := hf
  replace S : St _ _ _ ([(p, .cells #[.int .i64 m.nodes, vo, .map (some rl), .map (some rq)] 69 (0, 0)), (rl, ol), (rq, oq)] ++ (Ho ++ (qeH es))) := (S.new gG nN).perm (by first | exact .refl _ | (rw [List.append_assoc]; exact .refl _) | (simp only [List.append_assoc, List.nil_append, List.append_nil]; exact .refl _))
  replace A := A.only [13, 6, 2, 1, 0] rfl
  refine Lm A rfl (A.g 13 rfl) fun _ A => Lo A rfl (y_extract (A.g 9 rfl) rfl fun _ A => ?_)
  refine Lo A rfl (y_extract (A.g 9 rfl) rfl fun _ A => ?_)
  refine Lo A rfl (y_allocN (z := .agg #[.bool false]) (by kernel_rfl) fun b1 w gG nN ac A => ?_)
  replace S : St _ _ _ ([(b1, .cells #[.bool false] 79 (0, 0)), (p, .cells #[.int .i64 m.nodes, vo, .map (some rl), .map (some rq)] 69 (0, 0)), (rl, ol), (rq, oq)] ++ (Ho ++ (qeH es))) := (S.new gG nN).perm (by first | exact .refl _ | (rw [List.append_assoc]; exact .refl _) | (simp only [List.append_assoc, List.nil_append, List.append_nil]; exact .refl _))
  replace A := A.only [15, 14, 7, 6, 2, 1, 0] rfl
  refine L_opN A rfl rfl (y_store 1 (by kernel_rfl) (A.g 7 rfl) (A.g 14 rfl) (S.get 0 rfl) rfl (Nat.le_of_ble_eq_true rfl) (one_all rfl) ?_)
  replace S : St _ _ _ ([(b1, .cells #[.bool false] 79 (0, 0)), (p, .cells #[.int .i64 m.nodes, vo, .map (some rl), .map (some rq)] 69 (0, 0)), (rl, ol), (rq, oq)] ++ (Ho ++ (qeH es))) := S.setAt 0 rfl _
  refine La A rfl (A.g 15 rfl) fun _ A => ?_
  replace A := A.only [8, 7, 6, 2, 1, 0] rfl
  refine hK2 _ _ ?_
  refine wp_seq_k fun K3 hK3 => ?_
  refine wp_block ?_
  refine wp_seq_k fun K4 hK4 => ?_
  refine region_seq ?_  -- region 2
  refine Lm A rfl (A.g 8 rfl) fun _ A => Lo A rfl (y_not (A.g 17 rfl) rfl fun _ A => ?_)
  refine La A rfl (A.g 18 rfl) fun _ A => ?_
  replace A := A.only [16, 8, 7, 6, 2, 1, 0] rfl
  refine hK4 _ _ ?_
  refine wp_cond_false (A.get rfl) ?_
  refine wp_seq_k fun K5 hK5 => ?_
  refine region_seq ?_  -- region 4
  refine Lo A rfl (y_fieldAddr (off := 0) (j := 0) (by kernel_rfl) (A.g 7 rfl) (by first | rfl | omega) fun _ A => ?_)
  refine Lo A rfl (y_load (by kernel_rfl) (A.g 20 rfl) ((cell_of (S.get 0 rfl) _).trans rfl) fun _ A => ?_)
  refine La A rfl (A.g 21 rfl) fun _ A => ?_
  replace A := A.only [19, 16, 8, 7, 6, 2, 1, 0] rfl
  refine hK5 _ _ ?_
  refine wp_cond_false (A.get rfl) ?_
  refine wp_skip ?_
  refine hK3 _ _ ?_
  refine wp_seq_k fun K6 hK6 => ?_
  refine region_draw A [⟨22, pl (eqv (.pointer (some ⟨p, 0, none⟩))), [], [0], none, false⟩, ⟨23, pl (eqv (.pointer (some ⟨p, 0, none⟩))), [0], [], none, false⟩, ⟨24, pl (eqv (.pointer (some ⟨p, 2, none⟩))), [1], [], none, false⟩, ⟨25, pl (eqv (.map (some rl))), [2], [], none, false⟩, ⟨26, pl (eqv (.int .i64 a)), [], [1], none, false⟩, ⟨27, pl (eqv (.int .i64 b)), [], [2], none, false⟩, ⟨28, pl (eqv (kv (ends a b))), [4, 5], [], none, false⟩, ⟨29, pl (eqv (.agg #[.bool true])), [], [], none, false⟩] [(8, false)] (by kernel_rfl) (by kernel_rfl) (fun d _ _ _ _ h => by cases d <;> exact h) ⟨?_, ?_, ?_, ?_, ?_, ?_, ?_, ?_, trivial⟩ ?_  -- region 6
  · refine due_plain fun ρ w1 G hsrc hold => ?_; obtain ⟨o0, -⟩ := hold; exact y_move (o0.trans (A.g 0 rfl)) y_eq
  · refine due_plain fun ρ w1 G hsrc hold => ?_; obtain ⟨⟨_, _, ⟨h22, -⟩, -⟩, -⟩ := hsrc; exact y_nilCheck h22 y_eq
  · refine due_plain fun ρ w1 G hsrc hold => ?_; obtain ⟨⟨_, _, ⟨h23, -⟩, -⟩, -⟩ := hsrc; exact y_fieldAddr (off := 2) (j := 2) (by kernel_rfl) h23 (by first | rfl | omega) y_eq
  · refine due_plain fun ρ w1 G hsrc hold => ?_; obtain ⟨⟨_, _, ⟨h24, -⟩, -⟩, -⟩ := hsrc; exact y_load (by kernel_rfl) h24 ((cell_of (G.gr.heap' (S.get 1 rfl)) _).trans rfl) y_eq
  · refine due_plain fun ρ w1 G hsrc hold => ?_; obtain ⟨o1, -⟩ := hold; exact y_move (o1.trans (A.g 1 rfl)) y_eq
  · refine due_plain fun ρ w1 G hsrc hold => ?_; obtain ⟨o2, -⟩ := hold; exact y_move (o2.trans (A.g 2 rfl)) y_eq
  · refine due_plain fun ρ w1 G hsrc hold => ?_; obtain ⟨⟨_, _, ⟨h26, -⟩, -⟩, ⟨_, _, ⟨h27, -⟩, -⟩, -⟩ := hsrc; exact y_call2 (by kernel_rfl) (G.func _) h26 h27 (ends_ok a b w1)
  · refine due_plain fun ρ w1 G hsrc hold => ?_; exact y_build1 (G.const _) (v := .agg #[.bool true]) (by kernel_rfl) y_eq
  rintro _ _ ⟨rfl, rfl⟩ _ _ ⟨rfl, rfl⟩ _ _ ⟨rfl, rfl⟩ _ _ ⟨rfl, rfl⟩ _ _ ⟨rfl, rfl⟩ _ _ ⟨rfl, rfl⟩ _ _ ⟨rfl, rfl⟩ _ _ ⟨rfl, rfl⟩
  intro ac w A gG nN
  replace S : St _ _ _ ([(b1, .cells #[.bool false] 79 (0, 0)), (p, .cells #[.int .i64 m.nodes, vo, .map (some rl), .map (some rq)] 69 (0, 0)), (rl, ol), (rq, oq)] ++ (Ho ++ (qeH es))) := (S.new gG nN).perm (by first | exact .refl _ | (rw [List.append_assoc]; exact .refl _) | (simp only [List.append_assoc, List.nil_append, List.append_nil]; exact .refl _))
  obtain ⟨ol', hrun, hm'⟩ := run_put Try.lawK kv_inj Try.underlying66 (S.get 2 rfl) h.lm (ends a b) hk (stv true)
  refine L_opN A rfl rfl (y_mapUpdate (A.g 25 rfl) (A.g 28 rfl) (A.g 29 rfl) hrun ?_)
  replace S : St _ _ _ ([(b1, .cells #[.bool false] 79 (0, 0)), (p, .cells #[.int .i64 m.nodes, vo, .map (some rl), .map (some rq)] 69 (0, 0)), (rl, ol'), (rq, oq)] ++ (Ho ++ (qeH es))) := S.setAt 2 rfl _
  replace h := h.setl (ends a b) true hm'
  replace A := A.only [19, 16, 8, 7, 6, 2, 1, 0] rfl
  refine hK6 _ _ ?_
  refine wp_seq_k fun K7 hK7 => ?_
  refine region_seq ?_  -- region 7
  refine Lm A rfl (A.g 0 rfl) fun _ A => Lo A rfl (y_nilCheck (A.g 30 rfl) fun _ A => ?_)
  refine Lo A rfl (y_fieldAddr (off := 3) (j := 3) (by kernel_rfl) (A.g 31 rfl) (by first | rfl | omega) fun _ A => ?_)
  refine Lo A rfl (y_load (by kernel_rfl) (A.g 32 rfl) ((cell_of (S.get 1 rfl) _).trans rfl) fun _ A => ?_)
  replace A := A.only [33, 19, 16, 8, 7, 6, 2, 1, 0] rfl
  refine Lm A rfl (A.g 1 rfl) fun _ A => Lm A rfl (A.g 2 rfl) fun _ A => Lo A rfl (y_build2 (A.g 34 rfl) (A.g 35 rfl) (v := .agg #[.int .i64 a, .int .i64 b]) (by kernel_rfl) fun _ A => ?_)
  obtain ⟨oq1, hrun1, hm1⟩ := run_drop (t := 67) (e := 82) Try.lawK kv_inj Try.underlying67 (S.get 3 rfl) h.qm (a, b) hk' 0 28
  refine L_opN A rfl rfl (y_delete (A.g 33 rfl) (A.g 36 rfl) hrun1 ?_)
  replace S : St _ _ _ ([(b1, .cells #[.bool false] 79 (0, 0)), (p, .cells #[.int .i64 m.nodes, vo, .map (some rl), .map (some rq)] 69 (0, 0)), (rl, ol'), (rq, oq1)] ++ (Ho ++ (qeH es))) := S.setAt 3 rfl _
  obtain ⟨es1, Hg1, h, hpm⟩ := h.del (a, b) hm1
  replace S : St _ _ _ ([(b1, .cells #[.bool false] 79 (0, 0)), (p, .cells #[.int .i64 m.nodes, vo, .map (some rl), .map (some rq)] 69 (0, 0)), (rl, ol'), (rq, oq1)] ++ (Ho ++ (qeH es1))) := St.app_left (K := Hg1) (S.perm (by refine (List.Perm.append_left _ (List.Perm.append_left Ho hpm)).trans ?_; simp only [List.append_assoc]; exact List.Perm.refl _))
  replace A := A.only [19, 16, 8, 7, 6, 2, 1, 0] rfl
  refine hK7 _ _ ?_
  refine wp_seq_k fun K8 hK8 => ?_
  refine region_seq ?_  -- region 8
  refine Lm A rfl (A.g 0 rfl) fun _ A => Lo A rfl (y_nilCheck (A.g 37 rfl) fun _ A => ?_)
  refine Lo A rfl (y_fieldAddr (off := 3) (j := 3) (by kernel_rfl) (A.g 38 rfl) (by first | rfl | omega) fun _ A => ?_)
  refine Lo A rfl (y_load (by kernel_rfl) (A.g 39 rfl) ((cell_of (S.get 1 rfl) _).trans rfl) fun _ A => ?_)
  replace A := A.only [40, 19, 16, 8, 7, 6, 2, 1, 0] rfl
  refine Lm A rfl (A.g 2 rfl) fun _ A => Lm A rfl (A.g 1 rfl) fun _ A => Lo A rfl (y_build2 (A.g 41 rfl) (A.g 42 rfl) (v := .agg #[.int .i64 b, .int .i64 a]) (by kernel_rfl) fun _ A => ?_)
  obtain ⟨oq2, hrun2, hm2⟩ := run_drop (t := 67) (e := 82) Try.lawK kv_inj Try.underlying67 (S.get 3 rfl) h.qm (b, a) hk2 0 28
  refine L_opN A rfl rfl (y_delete (A.g 40 rfl) (A.g 43 rfl) hrun2 ?_)
  replace S : St _ _ _ ([(b1, .cells #[.bool false] 79 (0, 0)), (p, .cells #[.int .i64 m.nodes, vo, .map (some rl), .map (some rq)] 69 (0, 0)), (rl, ol'), (rq, oq2)] ++ (Ho ++ (qeH es1))) := S.setAt 3 rfl _
  obtain ⟨es2, Hg2, h, hpm⟩ := h.del (b, a) hm2
  replace S : St _ _ _ ([(b1, .cells #[.bool false] 79 (0, 0)), (p, .cells #[.int .i64 m.nodes, vo, .map (some rl), .map (some rq)] 69 (0, 0)), (rl, ol'), (rq, oq2)] ++ (Ho ++ (qeH es2))) := St.app_left (K := Hg2) (S.perm (by refine (List.Perm.append_left _ (List.Perm.append_left Ho hpm)).trans ?_; simp only [List.append_assoc]; exact List.Perm.refl _))
  replace A := A.only [19, 16, 8, 7, 6, 2, 1, 0] rfl
  refine hK8 _ _ ?_
  refine wp_seq_k fun K9 hK9 => ?_
  refine region_seq ?_  -- region 9
  refine La A rfl (evc _ _) fun _ A => ?_
  replace A := A.only [19, 16, 8, 7, 6, 2, 1, 0] rfl
  refine hK9 _ _ ?_
  have S' : St _ _ _ ([(p, .cells #[.int .i64 m.nodes, vo, .map (some rl), .map (some rq)] 69 (0, 0)), (rl, ol'), (rq, oq2)] ++ (Ho ++ (qeH es2))) := St.app_right (H := [(b1, .cells #[.bool false] 79 (0, 0))]) S
  exact wp_ret ⟨A.defers, _, res_run (rs := [.tmp 6]) (vs := [.int .i64 0]) rfl ⟨A.get rfl, trivial⟩, ⟨_, _, rfl, ⟨rfl, vo, Ho, rl, ol', _, rq, oq2, es2, h, rfl⟩, S'⟩⟩

set_option maxRecDepth 20000 in
set_option maxHeartbeats 4000000 in
theorem heal_yes (h : NetRep p m H) (nd : (keys H).Nodup) (hH : Holds w H) (hk : goodK (ends a b)) (hk' : goodK (a, b)) (hk2 : goodK (b, a)) (hn : m.link (ends a b) = some true) : Calls Try.prog 26 #[.pointer (some ⟨p, 0, none⟩), .int .i64 a, .int .i64 b] w (RetW (keys H) w fun r H' => r = .int .i64 0 ∧ NetRep p (m.setl (ends a b) false) H') := by
  obtain ⟨vo, Ho, rl, ol, ls, rq, oq, es, h, rfl⟩ := h
  obtain ⟨hc, ho⟩ := link_some h.lk hn
  have S0 := St.start nd hH
  refine enter Try.func26 rfl (n := 31) rfl (Nat.le_of_ble_eq_true rfl) fun _ A => ?_
  have S : St _ _ _ ([(p, .cells #[.int .i64 m.nodes, vo, .map (some rl), .map (some rq)] 69 (0, 0)), (rl, ol), (rq, oq)] ++ (Ho ++ qeH es)) := S0
  refine wp_seq_k fun K1 hK1 => ?_
  refine region_seq ?_  -- region 0
  refine La A rfl (evc _ _) fun _ A => ?_
  replace A := A.only [6, 2, 1, 0] rfl
  refine hK1 _ _ ?_
  refine wp_seq_k fun K2 hK2 => ?_
  refine region_seq ?_  -- region 1
  refine Lm A rfl (A.g 0 rfl) fun _ A => Lm A rfl (A.g 1 rfl) fun _ A => Lm A rfl (A.g 2 rfl) fun _ A => Lo A rfl (y_call3 (by kernel_rfl) rfl (A.g 10 rfl) (A.g 11 rfl) (A.g 12 rfl) (callN (link_ok (S.get 0 rfl) (S.get 1 rfl) h.lm hk hc ho) fun v w H gG nN hf ac A => ?_))
  obtain ⟨rfl, rfl⟩ := hf
  replace S : St _ _ _ ([(p, .cells #[.int .i64 m.nodes, vo, .map (some rl), .map (some rq)] 69 (0, 0)), (rl, ol), (rq, oq)] ++ (Ho ++ (qeH es))) := (S.new gG nN).perm (by first | exact .refl _ | (rw [List.append_assoc]; exact .refl _) | (simp only [List.append_assoc, List.nil_append, List.append_nil]; exact .refl _))
  replace A := A.only [13, 6, 2, 1, 0] rfl
  refine Lm A rfl (A.g 13 rfl) fun _ A => Lo A rfl (y_extract (A.g 9 rfl) rfl fun _ A => ?_)
  refine Lo A rfl (y_extract (A.g 9 rfl) rfl fun _ A => ?_)
  refine Lo A rfl (y_allocN (z := .agg #[.bool false]) (by kernel_rfl) fun b1 w gG nN ac A => ?_)
  replace S : St _ _ _ ([(b1, .cells #[.bool false] 79 (0, 0)), (p, .cells #[.int .i64 m.nodes, vo, .map (some rl), .map (some rq)] 69 (0, 0)), (rl, ol), (rq, oq)] ++ (Ho ++ (qeH es))) := (S.new gG nN).perm (by first | exact .refl _ | (rw [List.append_assoc]; exact .refl _) | (simp only [List.append_assoc, List.nil_append, List.append_nil]; exact .refl _))
  replace A := A.only [15, 14, 7, 6, 2, 1, 0] rfl
  refine L_opN A rfl rfl (y_store 1 (by kernel_rfl) (A.g 7 rfl) (A.g 14 rfl) (S.get 0 rfl) rfl (Nat.le_of_ble_eq_true rfl) (one_all rfl) ?_)
  replace S : St _ _ _ ([(b1, .cells #[.bool true] 79 (0, 0)), (p, .cells #[.int .i64 m.nodes, vo, .map (some rl), .map (some rq)] 69 (0, 0)), (rl, ol), (rq, oq)] ++ (Ho ++ (qeH es))) := S.setAt 0 rfl _
  refine La A rfl (A.g 15 rfl) fun _ A => ?_
  replace A := A.only [8, 7, 6, 2, 1, 0] rfl
  refine hK2 _ _ ?_
  refine wp_seq_k fun K3 hK3 => ?_
  refine wp_block ?_
  refine wp_seq_k fun K4 hK4 => ?_
  refine region_seq ?_  -- region 2
  refine Lm A rfl (A.g 8 rfl) fun _ A => Lo A rfl (y_not (A.g 17 rfl) rfl fun _ A => ?_)
  refine La A rfl (A.g 18 rfl) fun _ A => ?_
  replace A := A.only [16, 8, 7, 6, 2, 1, 0] rfl
  refine hK4 _ _ ?_
  refine wp_cond_false (A.get rfl) ?_
  refine wp_seq_k fun K5 hK5 => ?_
  refine region_seq ?_  -- region 4
  refine Lo A rfl (y_fieldAddr (off := 0) (j := 0) (by kernel_rfl) (A.g 7 rfl) (by first | rfl | omega) fun _ A => ?_)
  refine Lo A rfl (y_load (by kernel_rfl) (A.g 20 rfl) ((cell_of (S.get 0 rfl) _).trans rfl) fun _ A => ?_)
  refine Lo A rfl (y_not (A.g 21 rfl) rfl fun _ A => ?_)
  refine La A rfl (A.g 22 rfl) fun _ A => ?_
  replace A := A.only [19, 16, 8, 7, 6, 2, 1, 0] rfl
  refine hK5 _ _ ?_
  refine wp_cond_false (A.get rfl) ?_
  refine wp_skip ?_
  refine hK3 _ _ ?_
  refine wp_seq_k fun K6 hK6 => ?_
  refine region_draw A [⟨23, pl (eqv (.pointer (some ⟨p, 0, none⟩))), [], [0], none, false⟩, ⟨24, pl (eqv (.pointer (some ⟨p, 0, none⟩))), [0], [], none, false⟩, ⟨25, pl (eqv (.pointer (some ⟨p, 2, none⟩))), [1], [], none, false⟩, ⟨26, pl (eqv (.map (some rl))), [2], [], none, false⟩, ⟨27, pl (eqv (.int .i64 a)), [], [1], none, false⟩, ⟨28, pl (eqv (.int .i64 b)), [], [2], none, false⟩, ⟨29, pl (eqv (kv (ends a b))), [4, 5], [], none, false⟩, ⟨30, pl (eqv (.agg #[.bool false])), [], [], none, false⟩] [(8, false)] (by kernel_rfl) (by kernel_rfl) (fun d _ _ _ _ h => by cases d <;> exact h) ⟨?_, ?_, ?_, ?_, ?_, ?_, ?_, ?_, trivial⟩ ?_  -- region 6
  · refine due_plain fun ρ w1 G hsrc hold => ?_; obtain ⟨o0, -⟩ := hold; exact y_move (o0.trans (A.g 0 rfl)) y_eq
  · refine due_plain fun ρ w1 G hsrc hold => ?_; obtain ⟨⟨_, _, ⟨h23, -⟩, -⟩, -⟩ := hsrc; exact y_nilCheck h23 y_eq
  · refine due_plain fun ρ w1 G hsrc hold => ?_; obtain ⟨⟨_, _, ⟨h24, -⟩, -⟩, -⟩ := hsrc; exact y_fieldAddr (off := 2) (j := 2) (by kernel_rfl) h24 (by first | rfl | omega) y_eq
  · refine due_plain fun ρ w1 G hsrc hold => ?_; obtain ⟨⟨_, _, ⟨h25, -⟩, -⟩, -⟩ := hsrc; exact y_load (by kernel_rfl) h25 ((cell_of (G.gr.heap' (S.get 1 rfl)) _).trans rfl) y_eq
  · refine due_plain fun ρ w1 G hsrc hold => ?_; obtain ⟨o1, -⟩ := hold; exact y_move (o1.trans (A.g 1 rfl)) y_eq
  · refine due_plain fun ρ w1 G hsrc hold => ?_; obtain ⟨o2, -⟩ := hold; exact y_move (o2.trans (A.g 2 rfl)) y_eq
  · refine due_plain fun ρ w1 G hsrc hold => ?_; obtain ⟨⟨_, _, ⟨h27, -⟩, -⟩, ⟨_, _, ⟨h28, -⟩, -⟩, -⟩ := hsrc; exact y_call2 (by kernel_rfl) (G.func _) h27 h28 (ends_ok a b w1)
  · refine due_plain fun ρ w1 G hsrc hold => ?_; exact y_build0  (v := .agg #[.bool false]) (by kernel_rfl) y_eq
  rintro _ _ ⟨rfl, rfl⟩ _ _ ⟨rfl, rfl⟩ _ _ ⟨rfl, rfl⟩ _ _ ⟨rfl, rfl⟩ _ _ ⟨rfl, rfl⟩ _ _ ⟨rfl, rfl⟩ _ _ ⟨rfl, rfl⟩ _ _ ⟨rfl, rfl⟩
  intro ac w A gG nN
  replace S : St _ _ _ ([(b1, .cells #[.bool true] 79 (0, 0)), (p, .cells #[.int .i64 m.nodes, vo, .map (some rl), .map (some rq)] 69 (0, 0)), (rl, ol), (rq, oq)] ++ (Ho ++ (qeH es))) := (S.new gG nN).perm (by first | exact .refl _ | (rw [List.append_assoc]; exact .refl _) | (simp only [List.append_assoc, List.nil_append, List.append_nil]; exact .refl _))
  obtain ⟨ol', hrun, hm'⟩ := run_put Try.lawK kv_inj Try.underlying66 (S.get 2 rfl) h.lm (ends a b) hk (stv false)
  refine L_opN A rfl rfl (y_mapUpdate (A.g 26 rfl) (A.g 29 rfl) (A.g 30 rfl) hrun ?_)
  replace S : St _ _ _ ([(b1, .cells #[.bool true] 79 (0, 0)), (p, .cells #[.int .i64 m.nodes, vo, .map (some rl), .map (some rq)] 69 (0, 0)), (rl, ol'), (rq, oq)] ++ (Ho ++ (qeH es))) := S.setAt 2 rfl _
  replace h := h.setl (ends a b) false hm'
  replace A := A.only [19, 16, 8, 7, 6, 2, 1, 0] rfl
  refine hK6 _ _ ?_
  refine wp_seq_k fun K7 hK7 => ?_
  refine region_seq ?_  -- region 7
  refine La A rfl (evc _ _) fun _ A => ?_
  replace A := A.only [19, 16, 8, 7, 6, 2, 1, 0] rfl
  refine hK7 _ _ ?_
  have S' : St _ _ _ ([(p, .cells #[.int .i64 m.nodes, vo, .map (some rl), .map (some rq)] 69 (0, 0)), (rl, ol'), (rq, oq)] ++ (Ho ++ (qeH es))) := St.app_right (H := [(b1, .cells #[.bool true] 79 (0, 0))]) S
  exact wp_ret ⟨A.defers, _, res_run (rs := [.tmp 6]) (vs := [.int .i64 0]) rfl ⟨A.get rfl, trivial⟩, ⟨_, _, rfl, ⟨rfl, vo, Ho, rl, ol', _, rq, oq, es, h, rfl⟩, S'⟩⟩

theorem cut_ok (h : NetRep p m H) (nd : (keys H).Nodup) (hH : Holds w H) (ha : i64 a) (hb : i64 b) :
    Calls Try.prog 24 #[.pointer (some ⟨p, 0, none⟩), .int .i64 a, .int .i64 b] w (RetW (keys H) w fun r H' => r = .int .i64 (m.cut a b).1 ∧ NetRep p (m.cut a b).2 H') := by
  have hk := good_ends ha hb
  unfold M.cut
  split
  · rename_i e; exact retW_of_N (cut_arg h hH hk e) nd hH ⟨rfl, h⟩
  · rename_i e; exact retW_of_N (cut_was h hH hk e) nd hH ⟨rfl, h⟩
  · rename_i e; exact cut_yes h nd hH hk (good ha hb) (good hb ha) e
theorem heal_ok (h : NetRep p m H) (nd : (keys H).Nodup) (hH : Holds w H) (ha : i64 a) (hb : i64 b) :
    Calls Try.prog 26 #[.pointer (some ⟨p, 0, none⟩), .int .i64 a, .int .i64 b] w (RetW (keys H) w fun r H' => r = .int .i64 (m.heal a b).1 ∧ NetRep p (m.heal a b).2 H') := by
  have hk := good_ends ha hb
  unfold M.heal
  split
  · rename_i e; exact retW_of_N (heal_arg h hH hk e) nd hH ⟨rfl, h⟩
  · rename_i e; exact retW_of_N (heal_was h hH hk e) nd hH ⟨rfl, h⟩
  · rename_i e; exact heal_yes h nd hH hk (good ha hb) (good hb ha) e
set_option maxRecDepth 20000 in
theorem drop_ok (h : NetRep p m H) (nd : (keys H).Nodup) (hH : Holds w H) (ha : i64 a) (hb : i64 b) :
    Calls Try.prog 22 #[.pointer (some ⟨p, 0, none⟩), .int .i64 a, .int .i64 b, .int .i64 i] w (RetW (keys H) w fun r H' => r = .int .i64 (m.take a b i).2.1 ∧ NetRep p (m.take a b i).2.2 H') := by
  have S0 := St.start nd hH
  refine enter Try.func22 rfl (n := 20) rfl (Nat.le_of_ble_eq_true rfl) fun _ A => ?_
  have S : St _ _ _ H := S0
  refine wp_seq_k fun K1 hK1 => ?_
  refine region_seq ?_  -- region 0
  refine La A rfl (evc _ _) fun _ A => ?_
  replace A := A.only [8, 3, 2, 1, 0] rfl
  refine hK1 _ _ ?_
  refine wp_seq_k fun K2 hK2 => ?_
  refine region_seq ?_  -- region 1
  refine Lm A rfl (A.g 0 rfl) fun _ A => Lm A rfl (A.g 1 rfl) fun _ A => Lm A rfl (A.g 2 rfl) fun _ A => Lm A rfl (A.g 3 rfl) fun _ A => ?_
  replace A := A.only [15, 14, 13, 12, 8, 3, 2, 1, 0] rfl
  replace S : St _ _ _ H := S.perm (List.Perm.refl _)
  replace S : St _ _ _ (H ++ []) := S.perm (by rw [List.append_nil])
  refine Lo A rfl (y_call4 (by kernel_rfl) rfl (A.g 12 rfl) (A.g 13 rfl) (A.g 14 rfl) (A.g 15 rfl) (callW (take_ok (i := i) h S.app_left.nd S.app_left.holds ha hb) fun v w Hx s hf ac A => ?_))
  replace S : St _ _ _ (Hx ++ []) := St.call (H := H) (R := []) S rfl s
  obtain ⟨vb, Hb, Hn, rfl, hB, rfl, hN⟩ := hf
  rw [List.append_nil] at S
  replace S : St _ _ _ (Hn ++ Hb) := S.perm (by classical rw [List.perm_iff_count]; intro x; simp only [List.count_append] <;> omega)
  refine Lm A rfl (A.g 16 rfl) fun _ A => Lo A rfl (y_extract (A.g 11 rfl) rfl fun _ A => ?_)
  refine Lo A rfl (y_extract (A.g 11 rfl) rfl fun _ A => ?_)
  replace A := A.only [18, 17, 8, 3, 2, 1, 0] rfl
  refine La A rfl (A.g 17 rfl) fun _ A => La A rfl (A.g 18 rfl) fun _ A => ?_
  replace A := A.only [10, 8, 3, 2, 1, 0] rfl
  refine hK2 _ _ ?_
  refine wp_seq_k fun K3 hK3 => ?_
  refine region_seq ?_  -- region 2
  refine Lm A rfl (A.g 10 rfl) fun _ A => La A rfl (A.g 19 rfl) fun _ A => ?_
  replace A := A.only [10, 8, 3, 2, 1, 0] rfl
  refine hK3 _ _ ?_
  exact wp_ret ⟨A.defers, _, res_run (rs := [.tmp 8]) (vs := [.int .i64 ((m.take a b i).2.1)]) rfl ⟨A.get rfl, trivial⟩, ⟨_, _, rfl, ⟨rfl, hN⟩, S.app_left⟩⟩
end
end Go.Proofs.Ytaeidblipdjgnaa
