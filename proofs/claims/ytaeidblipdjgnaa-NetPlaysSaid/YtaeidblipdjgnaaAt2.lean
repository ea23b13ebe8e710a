import Derived.Test.YtaeidblipdjgnaaAt
namespace Go.Proofs.Ytaeidblipdjgnaa
open Go.RowKit Go.Maps Go.WideMaps

section
variable {p fg : Nat} {m : M} {H Hc : Frag} {w : World} {a b i : Int} {caps : Array Value}
/-- what a function that is handed a queue has to do: with the queue, its datagrams, and what it has captured -/
def Does (m : M) (k : Int × Int) (fg : Nat) (caps : Array Value) (Hc : Frag) (Ψ : List It → Frag → Value → Frag → Prop) : Prop :=
  ∀ (w1 : World) (qa : Option Addr) (qc : Nat) (its : List It) (HQ : Frag), SlRep 85 2 (.slice qa its.length qc) its.length (itCells its) HQ → itQ its = m.q k → ItOk its →
    (keys (HQ ++ (itH its ++ Hc))).Nodup → Holds w1 (HQ ++ (itH its ++ Hc)) → Calls Try.prog fg (#[.slice qa its.length qc] ++ caps) w1 (RetW (keys (HQ ++ (itH its ++ Hc))) w1 (Ψ its HQ))

set_option maxRecDepth 20000 in
set_option maxHeartbeats 4000000 in
theorem at_fail (h : NetRep p m H) {c : Bool} (nd : (keys (H ++ Hc)).Nodup) (hH : Holds w (H ++ Hc)) (hk : goodK (ends a b)) (hk' : goodK (a, b)) (hn : m.link (ends a b) = some c) (hi : 0 ≤ i) (hi2 : i < (m.q (a, b)).length) (hg : callable Try.prog fg = true) {e : Int} (he : e ≠ 0) (hdo : Does m (a, b) fg caps Hc fun its HQ r Hr => ∃ u, r = .tuple #[u, .int .i64 e] ∧ Hr = HQ ++ (itH its ++ Hc)) : Calls Try.prog 40 #[.pointer (some ⟨p, 0, none⟩), .int .i64 a, .int .i64 b, .int .i64 i, .func (.func fg) #[] caps] w (RetW (keys (H ++ Hc)) w fun r H' => r = .int .i64 e ∧ ∃ Hn, H' = Hn ++ Hc ∧ NetRep p m Hn) := by
  obtain ⟨vo, Ho, rl, ol, ls, rq, oq, es, h, rfl⟩ := h
  obtain ⟨hc, ho⟩ := link_some h.lk hn
  obtain ⟨v0, its, HQ, H2, hv0, hsl, hits, hok, hperm, hput, hdel⟩ := h.zoom (a, b)
  obtain ⟨qa, qc, rfl⟩ := hsl.len
  have hlen : its.length = (m.q (a, b)).length := by rw [← hits, itQ_length]
  have S0 := St.start nd hH
  refine enter Try.func40 rfl (n := 65) rfl (Nat.le_of_ble_eq_true rfl) fun _ A => ?_
  have S : St _ _ _ ([(p, .cells #[.int .i64 m.nodes, vo, .map (some rl), .map (some rq)] 69 (0, 0)), (rl, ol), (rq, oq)] ++ (HQ ++ (Ho ++ (itH its ++ (H2 ++ Hc))))) := St.last (L := [(p, .cells #[.int .i64 m.nodes, vo, .map (some rl), .map (some rq)] 69 (0, 0)), (rl, ol), (rq, oq)]) (A := (Ho ++ qeH es) ++ Hc) S0 (by refine List.Perm.trans (List.Perm.append_right Hc (List.Perm.append_left Ho hperm)) ?_; (classical rw [List.perm_iff_count]; intro x; simp only [List.count_append]; omega))
  refine wp_seq_k fun K1 hK1 => ?_
  refine region_seq ?_  -- region 0
  refine La A rfl (evc _ _) fun _ A => ?_
  replace A := A.only [10, 4, 3, 2, 1, 0] rfl
  refine hK1 _ _ ?_
  refine wp_seq_k fun K2 hK2 => ?_
  refine wp_seq_k fun K3 hK3 => ?_
  refine region_seq ?_  -- region 1
  refine Lm A rfl (A.g 0 rfl) fun _ A => Lm A rfl (A.g 1 rfl) fun _ A => Lm A rfl (A.g 2 rfl) fun _ A => Lo A rfl (y_call3 (by kernel_rfl) rfl (A.g 17 rfl) (A.g 18 rfl) (A.g 19 rfl) (callN (link_ok (S.get 0 rfl) (S.get 1 rfl) h.lm hk hc ho) fun v w H gG nN hf ac A => ?_))
  obtain ⟨rfl, rfl⟩ := hf
  replace S : St _ _ _ ([(p, .cells #[.int .i64 m.nodes, vo, .map (some rl), .map (some rq)] 69 (0, 0)), (rl, ol), (rq, oq)] ++ (HQ ++ (Ho ++ ((itH its) ++ (H2 ++ Hc))))) := (S.new gG nN).perm (by first | exact .refl _ | (rw [List.append_assoc]; exact .refl _) | (simp only [List.append_assoc, List.nil_append, List.append_nil]; exact .refl _))
  replace A := A.only [20, 10, 4, 3, 2, 1, 0] rfl
  refine Lm A rfl (A.g 20 rfl) fun _ A => Lo A rfl (y_extract (A.g 16 rfl) rfl fun _ A => ?_)
  refine Lo A rfl (y_extract (A.g 16 rfl) rfl fun _ A => ?_)
  refine Lo A rfl (y_allocN (z := .agg #[.bool false]) (by kernel_rfl) fun b1 w gG nN ac A => ?_)
  replace S : St _ _ _ ([(b1, .cells #[.bool false] 79 (0, 0)), (p, .cells #[.int .i64 m.nodes, vo, .map (some rl), .map (some rq)] 69 (0, 0)), (rl, ol), (rq, oq)] ++ (HQ ++ (Ho ++ ((itH its) ++ (H2 ++ Hc))))) := (S.new gG nN).perm (by first | exact .refl _ | (rw [List.append_assoc]; exact .refl _) | (simp only [List.append_assoc, List.nil_append, List.append_nil]; exact .refl _))
  replace A := A.only [22, 21, 11, 10, 4, 3, 2, 1, 0] rfl
  refine L_opN A rfl rfl (y_store 1 (by kernel_rfl) (A.g 11 rfl) (A.g 21 rfl) (S.get 0 rfl) rfl (Nat.le_of_ble_eq_true rfl) (one_all rfl) ?_)
  replace S : St _ _ _ ([(b1, .cells #[.bool c] 79 (0, 0)), (p, .cells #[.int .i64 m.nodes, vo, .map (some rl), .map (some rq)] 69 (0, 0)), (rl, ol), (rq, oq)] ++ (HQ ++ (Ho ++ ((itH its) ++ (H2 ++ Hc))))) := S.setAt 0 rfl _
  refine La A rfl (A.g 22 rfl) fun _ A => ?_
  replace A := A.only [12, 10, 4, 3, 2, 1, 0] rfl
  refine hK3 _ _ ?_
  refine wp_seq_k fun K4 hK4 => ?_
  refine region_seq ?_  -- region 2
  refine Lm A rfl (A.g 12 rfl) fun _ A => Lo A rfl (y_not (A.g 23 rfl) rfl fun _ A => ?_)
  replace A := A.only [24, 12, 10, 4, 3, 2, 1, 0] rfl
  refine hK4 _ _ ?_
  refine wp_cond_false (A.get rfl) ?_
  refine wp_skip ?_
  refine hK2 _ _ ?_
  refine wp_seq_k fun K5 hK5 => ?_
  refine region_seq ?_  -- region 4
  refine Lm A rfl (A.g 1 rfl) fun _ A => Lm A rfl (A.g 2 rfl) fun _ A => Lo A rfl (y_build2 (A.g 25 rfl) (A.g 26 rfl) (v := .agg #[.int .i64 a, .int .i64 b]) (by kernel_rfl) fun _ A => ?_)
  refine Lo A rfl (y_allocN (z := .agg #[.int .i64 0, .int .i64 0]) (by kernel_rfl) fun b2 w gG nN ac A => ?_)
  replace S : St _ _ _ ([(b2, .cells #[.int .i64 0, .int .i64 0] 28 (0, 0)), (b1, .cells #[.bool c] 79 (0, 0)), (p, .cells #[.int .i64 m.nodes, vo, .map (some rl), .map (some rq)] 69 (0, 0)), (rl, ol), (rq, oq)] ++ (HQ ++ (Ho ++ ((itH its) ++ (H2 ++ Hc))))) := (S.new gG nN).perm (by first | exact .refl _ | (rw [List.append_assoc]; exact .refl _) | (simp only [List.append_assoc, List.nil_append, List.append_nil]; exact .refl _))
  refine L_opN A rfl rfl (y_store 2 (by kernel_rfl) (A.g 13 rfl) (A.g 27 rfl) (S.get 0 rfl) rfl (Nat.le_of_ble_eq_true rfl) (one_all rfl) ?_)
  replace S : St _ _ _ ([(b2, .cells #[.int .i64 a, .int .i64 b] 28 (0, 0)), (b1, .cells #[.bool c] 79 (0, 0)), (p, .cells #[.int .i64 m.nodes, vo, .map (some rl), .map (some rq)] 69 (0, 0)), (rl, ol), (rq, oq)] ++ (HQ ++ (Ho ++ ((itH its) ++ (H2 ++ Hc))))) := S.setAt 0 rfl _
  replace A := A.only [24, 13, 12, 10, 4, 3, 2, 1, 0] rfl
  refine hK5 _ _ ?_
  refine wp_seq_k fun K6 hK6 => ?_
  refine region_draw A [⟨28, pl (eqv (.pointer (some ⟨p, 0, none⟩))), [], [0], none, false⟩, ⟨29, pl (eqv (.pointer (some ⟨p, 0, none⟩))), [0], [], none, false⟩, ⟨30, pl (eqv (.pointer (some ⟨p, 3, none⟩))), [1], [], none, false⟩, ⟨31, pl (eqv (.map (some rq))), [2], [], none, false⟩, ⟨32, pl (eqv (.agg #[.int .i64 a, .int .i64 b])), [], [13], none, false⟩, ⟨33, pl (eqv (.slice qa its.length qc)), [3, 4], [], none, false⟩, ⟨14, pl (eqv (.slice qa its.length qc)), [5], [], none, false⟩] [] (by kernel_rfl) (by kernel_rfl) (fun d _ _ _ _ h => by cases d <;> exact h) ⟨?_, ?_, ?_, ?_, ?_, ?_, ?_, trivial⟩ ?_  -- region 5
  · refine due_plain fun ρ w1 G hsrc hold => ?_; obtain ⟨o0, -⟩ := hold; exact y_move (o0.trans (A.g 0 rfl)) y_eq
  · refine due_plain fun ρ w1 G hsrc hold => ?_; obtain ⟨⟨_, _, ⟨h28, -⟩, -⟩, -⟩ := hsrc; exact y_nilCheck h28 y_eq
  · refine due_plain fun ρ w1 G hsrc hold => ?_; obtain ⟨⟨_, _, ⟨h29, -⟩, -⟩, -⟩ := hsrc; exact y_fieldAddr (off := 3) (j := 3) (by kernel_rfl) h29 (by first | rfl | omega) y_eq
  · refine due_plain fun ρ w1 G hsrc hold => ?_; obtain ⟨⟨_, _, ⟨h30, -⟩, -⟩, -⟩ := hsrc; exact y_load (by kernel_rfl) h30 ((cell_of (G.gr.heap' (S.get 2 rfl)) _).trans rfl) y_eq
  · refine due_plain fun ρ w1 G hsrc hold => ?_; obtain ⟨o13, -⟩ := hold; exact y_loadAgg [.int .i64 a, .int .i64 b] (by kernel_rfl) (o13.trans (A.g 13 rfl)) (cells_at (G.gr.heap' (S.get 0 rfl)) rfl) y_eq
  · refine due_plain fun ρ w1 G hsrc hold => ?_; obtain ⟨⟨_, _, ⟨h31, -⟩, -⟩, ⟨_, _, ⟨h32, -⟩, -⟩, -⟩ := hsrc; exact y_lookup h31 h32 (look_queue (G.gr.heap' (S.get 4 rfl)) h.qm (a, b) hk' hv0) y_eq
  · refine due_plain fun ρ w1 G hsrc hold => ?_; obtain ⟨⟨_, _, ⟨h33, -⟩, -⟩, -⟩ := hsrc; exact y_assign h33 y_eq
  rintro _ _ ⟨rfl, rfl⟩ _ _ ⟨rfl, rfl⟩ _ _ ⟨rfl, rfl⟩ _ _ ⟨rfl, rfl⟩ _ _ ⟨rfl, rfl⟩ _ _ ⟨rfl, rfl⟩ _ _ ⟨rfl, rfl⟩
  intro ac w A gG nN
  replace S : St _ _ _ ([(b2, .cells #[.int .i64 a, .int .i64 b] 28 (0, 0)), (b1, .cells #[.bool c] 79 (0, 0)), (p, .cells #[.int .i64 m.nodes, vo, .map (some rl), .map (some rq)] 69 (0, 0)), (rl, ol), (rq, oq)] ++ (HQ ++ (Ho ++ ((itH its) ++ (H2 ++ Hc))))) := (S.new gG nN).perm (by first | exact .refl _ | (rw [List.append_assoc]; exact .refl _) | (simp only [List.append_assoc, List.nil_append, List.append_nil]; exact .refl _))
  replace A := A.only [24, 14, 13, 12, 10, 4, 3, 2, 1, 0] rfl
  refine hK6 _ _ ?_
  refine wp_seq_k fun K7 hK7 => ?_
  refine wp_seq_k fun K8 hK8 => ?_
  refine region_seq ?_  -- region 6
  refine Lm A rfl (A.g 3 rfl) fun _ A => Lo A rfl (y_lss (A.g 34 rfl) (evc _ _) (c := false) (decide_eq_false (by omega)) fun _ A => ?_)
  refine Lm A rfl (A.g 35 rfl) fun _ A => L_yes A rfl (by decide) rfl rfl (by decide) (A.get rfl) (y_move (A.g 3 rfl) fun _ A => ?_)
  replace A := A.only [37, 36, 24, 14, 13, 12, 10, 4, 3, 2, 1, 0] rfl
  refine L_yes A rfl (by decide) rfl rfl (by decide) (A.get rfl) (y_move (A.g 14 rfl) fun _ A => ?_)
  refine L_yes A rfl (by decide) rfl rfl (by decide) (A.get rfl) (y_lenS (e := 85) (by kernel_rfl) (A.g 38 rfl) fun _ A => ?_)
  refine L_yes A rfl (by decide) rfl rfl (by decide) (A.get rfl) (y_geq (A.g 37 rfl) (A.g 39 rfl) (c := false) (decide_eq_false (by omega)) fun _ A => ?_)
  refine Lo A rfl (y_pickF (A.g 36 rfl) (A.g 40 rfl) fun _ A => ?_)
  replace A := A.only [41, 24, 14, 13, 12, 10, 4, 3, 2, 1, 0] rfl
  refine hK8 _ _ ?_
  refine wp_cond_false (A.get rfl) ?_
  refine wp_skip ?_
  refine hK7 _ _ ?_
  refine wp_seq_k fun K9 hK9 => ?_
  refine region_seq ?_  -- region 8
  refine Lm A rfl (A.g 4 rfl) fun _ A => Lm A rfl (A.g 14 rfl) fun _ A => ?_
  replace S : St _ _ _ ((HQ ++ (itH its ++ Hc)) ++ ([(b2, .cells #[.int .i64 a, .int .i64 b] 28 (0, 0)), (b1, .cells #[.bool c] 79 (0, 0)), (p, .cells #[.int .i64 m.nodes, vo, .map (some rl), .map (some rq)] 69 (0, 0)), (rl, ol), (rq, oq)] ++ (Ho ++ H2))) := S.perm (by classical rw [List.perm_iff_count]; intro x; simp only [List.count_append]; omega)
  refine Lo A rfl (y_clos1 hg (A.g 43 rfl) (A.g 44 rfl) rfl (callW (hdo _ qa qc its HQ hsl hits hok S.app_left.nd S.app_left.holds) fun v w Hr s hf ac A => ?_))
  replace S := S.call rfl s
  obtain ⟨u, rfl, rfl⟩ := hf
  replace S : St _ _ _ ([(b2, .cells #[.int .i64 a, .int .i64 b] 28 (0, 0)), (b1, .cells #[.bool c] 79 (0, 0)), (p, .cells #[.int .i64 m.nodes, vo, .map (some rl), .map (some rq)] 69 (0, 0)), (rl, ol), (rq, oq)] ++ (HQ ++ ((itH its) ++ (Hc ++ (Ho ++ H2))))) := S.perm (by classical rw [List.perm_iff_count]; intro x; simp only [List.count_append]; omega)
  refine Lm A rfl (A.g 45 rfl) fun _ A => ?_
  replace A := A.only [42, 41, 24, 14, 13, 12, 10, 4, 3, 2, 1, 0] rfl
  refine Lo A rfl (y_extract (A.g 42 rfl) rfl fun _ A => ?_)
  refine Lo A rfl (y_extract (A.g 42 rfl) rfl fun _ A => ?_)
  refine La A rfl (A.g 46 rfl) fun _ A => La A rfl (A.g 47 rfl) fun _ A => ?_
  replace A := A.only [41, 24, 15, 14, 13, 12, 10, 4, 3, 2, 1, 0] rfl
  refine hK9 _ _ ?_
  refine wp_seq_k fun K10 hK10 => ?_
  refine wp_seq_k fun K11 hK11 => ?_
  refine region_seq ?_  -- region 9
  refine Lm A rfl (A.g 15 rfl) fun _ A => Lo A rfl (y_neq (A.g 48 rfl) (evc _ _) (c := true) (by simpa using he) fun _ A => ?_)
  replace A := A.only [49, 41, 24, 15, 14, 13, 12, 10, 4, 3, 2, 1, 0] rfl
  refine hK11 _ _ ?_
  refine wp_cond_true (A.get rfl) ?_
  refine wp_seq_k fun K12 hK12 => ?_
  refine region_seq ?_  -- region 10
  refine Lm A rfl (A.g 15 rfl) fun _ A => La A rfl (A.g 50 rfl) fun _ A => ?_
  replace A := A.only [49, 41, 24, 15, 14, 13, 12, 10, 4, 3, 2, 1, 0] rfl
  refine hK12 _ _ ?_
  have S1 : St _ _ _ ([(p, .cells #[.int .i64 m.nodes, vo, .map (some rl), .map (some rq)] 69 (0, 0)), (rl, ol), (rq, oq)] ++ (HQ ++ ((itH its) ++ (Hc ++ (Ho ++ H2))))) := St.app_right (H := [(b2, .cells #[.int .i64 a, .int .i64 b] 28 (0, 0)), (b1, .cells #[.bool c] 79 (0, 0))]) S
  have S' : St _ _ _ (([(p, .cells #[.int .i64 m.nodes, vo, .map (some rl), .map (some rq)] 69 (0, 0)), (rl, ol), (rq, oq)] ++ (Ho ++ qeH es)) ++ Hc) := S1.perm (by refine List.Perm.trans ?_ (List.Perm.append_right Hc (List.Perm.append_left [(p, .cells #[.int .i64 m.nodes, vo, .map (some rl), .map (some rq)] 69 (0, 0)), (rl, ol), (rq, oq)] (List.Perm.append_left Ho hperm))).symm; (classical rw [List.perm_iff_count]; intro x; simp only [List.count_append]; omega))
  exact wp_ret ⟨A.defers, _, res_run (rs := [.tmp 10]) (vs := [.int .i64 e]) rfl ⟨A.get rfl, trivial⟩, ⟨_, _, rfl, ⟨rfl, _, rfl, vo, Ho, rl, ol, ls, rq, oq, es, h, rfl⟩, S'⟩⟩

set_option maxRecDepth 20000 in
set_option maxHeartbeats 4000000 in
theorem at_put (h : NetRep p m H) {c : Bool} (nd : (keys (H ++ Hc)).Nodup) (hH : Holds w (H ++ Hc)) (hk : goodK (ends a b)) (hk' : goodK (a, b)) (hn : m.link (ends a b) = some c) (hi : 0 ≤ i) (hi2 : i < (m.q (a, b)).length) (hg : callable Try.prog fg = true) {X : List It → List It → Frag → Prop} (hdo : Does m (a, b) fg caps Hc fun its HQ r Hr => ∃ v' its' HQ' Hc', r = .tuple #[v', .int .i64 0] ∧ its' ≠ [] ∧ its'.length ≤ 24 ∧ SlRep 85 2 v' its'.length (itCells its') HQ' ∧ ItOk its' ∧ Hr = HQ' ++ (itH its' ++ Hc') ∧ X its its' Hc') : Calls Try.prog 40 #[.pointer (some ⟨p, 0, none⟩), .int .i64 a, .int .i64 b, .int .i64 i, .func (.func fg) #[] caps] w (RetW (keys (H ++ Hc)) w fun r H' => r = .int .i64 0 ∧ ∃ Hn its its' Hc', H' = Hn ++ Hc' ∧ itQ its = m.q (a, b) ∧ NetRep p (m.setq (a, b) (itQ its')) Hn ∧ X its its' Hc') := by
  obtain ⟨vo, Ho, rl, ol, ls, rq, oq, es, h, rfl⟩ := h
  obtain ⟨hc, ho⟩ := link_some h.lk hn
  obtain ⟨v0, its, HQ, H2, hv0, hsl, hits, hok, hperm, hput, hdel⟩ := h.zoom (a, b)
  obtain ⟨qa, qc, rfl⟩ := hsl.len
  have hlen : its.length = (m.q (a, b)).length := by rw [← hits, itQ_length]
  have S0 := St.start nd hH
  refine enter Try.func40 rfl (n := 65) rfl (Nat.le_of_ble_eq_true rfl) fun _ A => ?_
  have S : St _ _ _ ([(p, .cells #[.int .i64 m.nodes, vo, .map (some rl), .map (some rq)] 69 (0, 0)), (rl, ol), (rq, oq)] ++ (HQ ++ (Ho ++ (itH its ++ (H2 ++ Hc))))) := St.last (L := [(p, .cells #[.int .i64 m.nodes, vo, .map (some rl), .map (some rq)] 69 (0, 0)), (rl, ol), (rq, oq)]) (A := (Ho ++ qeH es) ++ Hc) S0 (by refine List.Perm.trans (List.Perm.append_right Hc (List.Perm.append_left Ho hperm)) ?_; (classical rw [List.perm_iff_count]; intro x; simp only [List.count_append]; omega))
  refine wp_seq_k fun K1 hK1 => ?_
  refine region_seq ?_  -- region 0
  refine La A rfl (evc _ _) fun _ A => ?_
  replace A := A.only [10, 4, 3, 2, 1, 0] rfl
  refine hK1 _ _ ?_
  refine wp_seq_k fun K2 hK2 => ?_
  refine wp_seq_k fun K3 hK3 => ?_
  refine region_seq ?_  -- region 1
  refine Lm A rfl (A.g 0 rfl) fun _ A => Lm A rfl (A.g 1 rfl) fun _ A => Lm A rfl (A.g 2 rfl) fun _ A => Lo A rfl (y_call3 (by kernel_rfl) rfl (A.g 17 rfl) (A.g 18 rfl) (A.g 19 rfl) (callN (link_ok (S.get 0 rfl) (S.get 1 rfl) h.lm hk hc ho) fun v w H gG nN hf ac A => ?_))
  obtain ⟨rfl, rfl⟩ := hf
  replace S : St _ _ _ ([(p, .cells #[.int .i64 m.nodes, vo, .map (some rl), .map (some rq)] 69 (0, 0)), (rl, ol), (rq, oq)] ++ (HQ ++ (Ho ++ ((itH its) ++ (H2 ++ Hc))))) := (S.new gG nN).perm (by first | exact .refl _ | (rw [List.append_assoc]; exact .refl _) | (simp only [List.append_assoc, List.nil_append, List.append_nil]; exact .refl _))
  replace A := A.only [20, 10, 4, 3, 2, 1, 0] rfl
  refine Lm A rfl (A.g 20 rfl) fun _ A => Lo A rfl (y_extract (A.g 16 rfl) rfl fun _ A => ?_)
  refine Lo A rfl (y_extract (A.g 16 rfl) rfl fun _ A => ?_)
  refine Lo A rfl (y_allocN (z := .agg #[.bool false]) (by kernel_rfl) fun b1 w gG nN ac A => ?_)
  replace S : St _ _ _ ([(b1, .cells #[.bool false] 79 (0, 0)), (p, .cells #[.int .i64 m.nodes, vo, .map (some rl), .map (some rq)] 69 (0, 0)), (rl, ol), (rq, oq)] ++ (HQ ++ (Ho ++ ((itH its) ++ (H2 ++ Hc))))) := (S.new gG nN).perm (by first | exact .refl _ | (rw [List.append_assoc]; exact .refl _) | (simp only [List.append_assoc, List.nil_append, List.append_nil]; exact .refl _))
  replace A := A.only [22, 21, 11, 10, 4, 3, 2, 1, 0] rfl
  refine L_opN A rfl rfl (y_store 1 (by kernel_rfl) (A.g 11 rfl) (A.g 21 rfl) (S.get 0 rfl) rfl (Nat.le_of_ble_eq_true rfl) (one_all rfl) ?_)
  replace S : St _ _ _ ([(b1, .cells #[.bool c] 79 (0, 0)), (p, .cells #[.int .i64 m.nodes, vo, .map (some rl), .map (some rq)] 69 (0, 0)), (rl, ol), (rq, oq)] ++ (HQ ++ (Ho ++ ((itH its) ++ (H2 ++ Hc))))) := S.setAt 0 rfl _
  refine La A rfl (A.g 22 rfl) fun _ A => ?_
  replace A := A.only [12, 10, 4, 3, 2, 1, 0] rfl
  refine hK3 _ _ ?_
  refine wp_seq_k fun K4 hK4 => ?_
  refine region_seq ?_  -- region 2
  refine Lm A rfl (A.g 12 rfl) fun _ A => Lo A rfl (y_not (A.g 23 rfl) rfl fun _ A => ?_)
  replace A := A.only [24, 12, 10, 4, 3, 2, 1, 0] rfl
  refine hK4 _ _ ?_
  refine wp_cond_false (A.get rfl) ?_
  refine wp_skip ?_
  refine hK2 _ _ ?_
  refine wp_seq_k fun K5 hK5 => ?_
  refine region_seq ?_  -- region 4
  refine Lm A rfl (A.g 1 rfl) fun _ A => Lm A rfl (A.g 2 rfl) fun _ A => Lo A rfl (y_build2 (A.g 25 rfl) (A.g 26 rfl) (v := .agg #[.int .i64 a, .int .i64 b]) (by kernel_rfl) fun _ A => ?_)
  refine Lo A rfl (y_allocN (z := .agg #[.int .i64 0, .int .i64 0]) (by kernel_rfl) fun b2 w gG nN ac A => ?_)
  replace S : St _ _ _ ([(b2, .cells #[.int .i64 0, .int .i64 0] 28 (0, 0)), (b1, .cells #[.bool c] 79 (0, 0)), (p, .cells #[.int .i64 m.nodes, vo, .map (some rl), .map (some rq)] 69 (0, 0)), (rl, ol), (rq, oq)] ++ (HQ ++ (Ho ++ ((itH its) ++ (H2 ++ Hc))))) := (S.new gG nN).perm (by first | exact .refl _ | (rw [List.append_assoc]; exact .refl _) | (simp only [List.append_assoc, List.nil_append, List.append_nil]; exact .refl _))
  refine L_opN A rfl rfl (y_store 2 (by kernel_rfl) (A.g 13 rfl) (A.g 27 rfl) (S.get 0 rfl) rfl (Nat.le_of_ble_eq_true rfl) (one_all rfl) ?_)
  replace S : St _ _ _ ([(b2, .cells #[.int .i64 a, .int .i64 b] 28 (0, 0)), (b1, .cells #[.bool c] 79 (0, 0)), (p, .cells #[.int .i64 m.nodes, vo, .map (some rl), .map (some rq)] 69 (0, 0)), (rl, ol), (rq, oq)] ++ (HQ ++ (Ho ++ ((itH its) ++ (H2 ++ Hc))))) := S.setAt 0 rfl _
  replace A := A.only [24, 13, 12, 10, 4, 3, 2, 1, 0] rfl
  refine hK5 _ _ ?_
  refine wp_seq_k fun K6 hK6 => ?_
  refine region_draw A [⟨28, pl (eqv (.pointer (some ⟨p, 0, none⟩))), [], [0], none, false⟩, ⟨29, pl (eqv (.pointer (some ⟨p, 0, none⟩))), [0], [], none, false⟩, ⟨30, pl (eqv (.pointer (some ⟨p, 3, none⟩))), [1], [], none, false⟩, ⟨31, pl (eqv (.map (some rq))), [2], [], none, false⟩, ⟨32, pl (eqv (.agg #[.int .i64 a, .int .i64 b])), [], [13], none, false⟩, ⟨33, pl (eqv (.slice qa its.length qc)), [3, 4], [], none, false⟩, ⟨14, pl (eqv (.slice qa its.length qc)), [5], [], none, false⟩] [] (by kernel_rfl) (by kernel_rfl) (fun d _ _ _ _ h => by cases d <;> exact h) ⟨?_, ?_, ?_, ?_, ?_, ?_, ?_, trivial⟩ ?_  -- region 5
  · refine due_plain fun ρ w1 G hsrc hold => ?_; obtain ⟨o0, -⟩ := hold; exact y_move (o0.trans (A.g 0 rfl)) y_eq
  · refine due_plain fun ρ w1 G hsrc hold => ?_; obtain ⟨⟨_, _, ⟨h28, -⟩, -⟩, -⟩ := hsrc; exact y_nilCheck h28 y_eq
  · refine due_plain fun ρ w1 G hsrc hold => ?_; obtain ⟨⟨_, _, ⟨h29, -⟩, -⟩, -⟩ := hsrc; exact y_fieldAddr (off := 3) (j := 3) (by kernel_rfl) h29 (by first | rfl | omega) y_eq
  · refine due_plain fun ρ w1 G hsrc hold => ?_; obtain ⟨⟨_, _, ⟨h30, -⟩, -⟩, -⟩ := hsrc; exact y_load (by kernel_rfl) h30 ((cell_of (G.gr.heap' (S.get 2 rfl)) _).trans rfl) y_eq
  · refine due_plain fun ρ w1 G hsrc hold => ?_; obtain ⟨o13, -⟩ := hold; exact y_loadAgg [.int .i64 a, .int .i64 b] (by kernel_rfl) (o13.trans (A.g 13 rfl)) (cells_at (G.gr.heap' (S.get 0 rfl)) rfl) y_eq
  · refine due_plain fun ρ w1 G hsrc hold => ?_; obtain ⟨⟨_, _, ⟨h31, -⟩, -⟩, ⟨_, _, ⟨h32, -⟩, -⟩, -⟩ := hsrc; exact y_lookup h31 h32 (look_queue (G.gr.heap' (S.get 4 rfl)) h.qm (a, b) hk' hv0) y_eq
  · refine due_plain fun ρ w1 G hsrc hold => ?_; obtain ⟨⟨_, _, ⟨h33, -⟩, -⟩, -⟩ := hsrc; exact y_assign h33 y_eq
  rintro _ _ ⟨rfl, rfl⟩ _ _ ⟨rfl, rfl⟩ _ _ ⟨rfl, rfl⟩ _ _ ⟨rfl, rfl⟩ _ _ ⟨rfl, rfl⟩ _ _ ⟨rfl, rfl⟩ _ _ ⟨rfl, rfl⟩
  intro ac w A gG nN
  replace S : St _ _ _ ([(b2, .cells #[.int .i64 a, .int .i64 b] 28 (0, 0)), (b1, .cells #[.bool c] 79 (0, 0)), (p, .cells #[.int .i64 m.nodes, vo, .map (some rl), .map (some rq)] 69 (0, 0)), (rl, ol), (rq, oq)] ++ (HQ ++ (Ho ++ ((itH its) ++ (H2 ++ Hc))))) := (S.new gG nN).perm (by first | exact .refl _ | (rw [List.append_assoc]; exact .refl _) | (simp only [List.append_assoc, List.nil_append, List.append_nil]; exact .refl _))
  replace A := A.only [24, 14, 13, 12, 10, 4, 3, 2, 1, 0] rfl
  refine hK6 _ _ ?_
  refine wp_seq_k fun K7 hK7 => ?_
  refine wp_seq_k fun K8 hK8 => ?_
  refine region_seq ?_  -- region 6
  refine Lm A rfl (A.g 3 rfl) fun _ A => Lo A rfl (y_lss (A.g 34 rfl) (evc _ _) (c := false) (decide_eq_false (by omega)) fun _ A => ?_)
  refine Lm A rfl (A.g 35 rfl) fun _ A => L_yes A rfl (by decide) rfl rfl (by decide) (A.get rfl) (y_move (A.g 3 rfl) fun _ A => ?_)
  replace A := A.only [37, 36, 24, 14, 13, 12, 10, 4, 3, 2, 1, 0] rfl
  refine L_yes A rfl (by decide) rfl rfl (by decide) (A.get rfl) (y_move (A.g 14 rfl) fun _ A => ?_)
  refine L_yes A rfl (by decide) rfl rfl (by decide) (A.get rfl) (y_lenS (e := 85) (by kernel_rfl) (A.g 38 rfl) fun _ A => ?_)
  refine L_yes A rfl (by decide) rfl rfl (by decide) (A.get rfl) (y_geq (A.g 37 rfl) (A.g 39 rfl) (c := false) (decide_eq_false (by omega)) fun _ A => ?_)
  refine Lo A rfl (y_pickF (A.g 36 rfl) (A.g 40 rfl) fun _ A => ?_)
  replace A := A.only [41, 24, 14, 13, 12, 10, 4, 3, 2, 1, 0] rfl
  refine hK8 _ _ ?_
  refine wp_cond_false (A.get rfl) ?_
  refine wp_skip ?_
  refine hK7 _ _ ?_
  refine wp_seq_k fun K9 hK9 => ?_
  refine region_seq ?_  -- region 8
  refine Lm A rfl (A.g 4 rfl) fun _ A => Lm A rfl (A.g 14 rfl) fun _ A => ?_
  replace S : St _ _ _ ((HQ ++ (itH its ++ Hc)) ++ ([(b2, .cells #[.int .i64 a, .int .i64 b] 28 (0, 0)), (b1, .cells #[.bool c] 79 (0, 0)), (p, .cells #[.int .i64 m.nodes, vo, .map (some rl), .map (some rq)] 69 (0, 0)), (rl, ol), (rq, oq)] ++ (Ho ++ H2))) := S.perm (by classical rw [List.perm_iff_count]; intro x; simp only [List.count_append]; omega)
  refine Lo A rfl (y_clos1 hg (A.g 43 rfl) (A.g 44 rfl) rfl (callW (hdo _ qa qc its HQ hsl hits hok S.app_left.nd S.app_left.holds) fun v w Hr s hf ac A => ?_))
  replace S := S.call rfl s
  obtain ⟨v', its', HQ', Hc', rfl, hne, hle, hsl', hok', rfl, hX⟩ := hf
  obtain ⟨ra, rc, rfl⟩ := hsl'.len
  have hpos : 0 < its'.length := List.length_pos_iff.2 hne
  replace S : St _ _ _ ([(b2, .cells #[.int .i64 a, .int .i64 b] 28 (0, 0)), (b1, .cells #[.bool c] 79 (0, 0)), (p, .cells #[.int .i64 m.nodes, vo, .map (some rl), .map (some rq)] 69 (0, 0)), (rl, ol), (rq, oq)] ++ (HQ' ++ ((itH its') ++ (Hc' ++ (Ho ++ H2))))) := S.perm (by classical rw [List.perm_iff_count]; intro x; simp only [List.count_append]; omega)
  refine Lm A rfl (A.g 45 rfl) fun _ A => ?_
  replace A := A.only [42, 41, 24, 14, 13, 12, 10, 4, 3, 2, 1, 0] rfl
  refine Lo A rfl (y_extract (A.g 42 rfl) rfl fun _ A => ?_)
  refine Lo A rfl (y_extract (A.g 42 rfl) rfl fun _ A => ?_)
  refine La A rfl (A.g 46 rfl) fun _ A => La A rfl (A.g 47 rfl) fun _ A => ?_
  replace A := A.only [41, 24, 15, 14, 13, 12, 10, 4, 3, 2, 1, 0] rfl
  refine hK9 _ _ ?_
  refine wp_seq_k fun K10 hK10 => ?_
  refine wp_seq_k fun K11 hK11 => ?_
  refine region_seq ?_  -- region 9
  refine Lm A rfl (A.g 15 rfl) fun _ A => Lo A rfl (y_neq (A.g 48 rfl) (evc _ _) (c := false) (by decide) fun _ A => ?_)
  replace A := A.only [49, 41, 24, 15, 14, 13, 12, 10, 4, 3, 2, 1, 0] rfl
  refine hK11 _ _ ?_
  refine wp_cond_false (A.get rfl) ?_
  refine wp_skip ?_
  refine hK10 _ _ ?_
  refine wp_seq_k fun K12 hK12 => ?_
  refine wp_seq_k fun K13 hK13 => ?_
  refine region_seq ?_  -- region 11
  refine Lm A rfl (A.g 14 rfl) fun _ A => Lo A rfl (y_lenS (e := 85) (by kernel_rfl) (A.g 51 rfl) fun _ A => ?_)
  refine Lo A rfl (y_eql (A.g 52 rfl) (evc _ _) (c := false) (by simp; omega) fun _ A => ?_)
  replace A := A.only [53, 49, 41, 24, 15, 14, 13, 12, 10, 4, 3, 2, 1, 0] rfl
  refine hK13 _ _ ?_
  refine wp_cond_false (A.get rfl) ?_
  refine region_draw A [⟨59, pl (eqv (.pointer (some ⟨p, 0, none⟩))), [], [0], none, false⟩, ⟨60, pl (eqv (.pointer (some ⟨p, 0, none⟩))), [0], [], none, false⟩, ⟨61, pl (eqv (.pointer (some ⟨p, 3, none⟩))), [1], [], none, false⟩, ⟨62, pl (eqv (.map (some rq))), [2], [], none, false⟩, ⟨63, pl (eqv (.agg #[.int .i64 a, .int .i64 b])), [], [13], none, false⟩, ⟨64, pl (eqv (.slice ra its'.length rc)), [], [14], none, false⟩] [(6, false)] (by kernel_rfl) (by kernel_rfl) (fun d _ _ _ _ h => by cases d <;> exact h) ⟨?_, ?_, ?_, ?_, ?_, ?_, trivial⟩ ?_  -- region 13
  · refine due_plain fun ρ w1 G hsrc hold => ?_; obtain ⟨o0, -⟩ := hold; exact y_move (o0.trans (A.g 0 rfl)) y_eq
  · refine due_plain fun ρ w1 G hsrc hold => ?_; obtain ⟨⟨_, _, ⟨h59, -⟩, -⟩, -⟩ := hsrc; exact y_nilCheck h59 y_eq
  · refine due_plain fun ρ w1 G hsrc hold => ?_; obtain ⟨⟨_, _, ⟨h60, -⟩, -⟩, -⟩ := hsrc; exact y_fieldAddr (off := 3) (j := 3) (by kernel_rfl) h60 (by first | rfl | omega) y_eq
  · refine due_plain fun ρ w1 G hsrc hold => ?_; obtain ⟨⟨_, _, ⟨h61, -⟩, -⟩, -⟩ := hsrc; exact y_load (by kernel_rfl) h61 ((cell_of (G.gr.heap' (S.get 2 rfl)) _).trans rfl) y_eq
  · refine due_plain fun ρ w1 G hsrc hold => ?_; obtain ⟨o13, -⟩ := hold; exact y_loadAgg [.int .i64 a, .int .i64 b] (by kernel_rfl) (o13.trans (A.g 13 rfl)) (cells_at (G.gr.heap' (S.get 0 rfl)) rfl) y_eq
  · refine due_plain fun ρ w1 G hsrc hold => ?_; obtain ⟨o14, -⟩ := hold; exact y_move (o14.trans (A.g 14 rfl)) y_eq
  rintro _ _ ⟨rfl, rfl⟩ _ _ ⟨rfl, rfl⟩ _ _ ⟨rfl, rfl⟩ _ _ ⟨rfl, rfl⟩ _ _ ⟨rfl, rfl⟩ _ _ ⟨rfl, rfl⟩
  intro ac w A gG nN
  replace S : St _ _ _ ([(b2, .cells #[.int .i64 a, .int .i64 b] 28 (0, 0)), (b1, .cells #[.bool c] 79 (0, 0)), (p, .cells #[.int .i64 m.nodes, vo, .map (some rl), .map (some rq)] 69 (0, 0)), (rl, ol), (rq, oq)] ++ (HQ' ++ ((itH its') ++ (Hc' ++ (Ho ++ H2))))) := (S.new gG nN).perm (by first | exact .refl _ | (rw [List.append_assoc]; exact .refl _) | (simp only [List.append_assoc, List.nil_append, List.append_nil]; exact .refl _))
  obtain ⟨oq2, hrun2, hm2⟩ := run_put (t := 67) (e := 82) Try.lawK kv_inj Try.underlying67 (S.get 4 rfl) h.qm (a, b) hk' (.slice ra its'.length rc)
  refine L_opN A rfl rfl (y_mapUpdate (A.g 62 rfl) (A.g 63 rfl) (A.g 64 rfl) hrun2 ?_)
  replace S : St _ _ _ ([(b2, .cells #[.int .i64 a, .int .i64 b] 28 (0, 0)), (b1, .cells #[.bool c] 79 (0, 0)), (p, .cells #[.int .i64 m.nodes, vo, .map (some rl), .map (some rq)] 69 (0, 0)), (rl, ol), (rq, oq2)] ++ (HQ' ++ ((itH its') ++ (Hc' ++ (Ho ++ H2))))) := S.setAt 4 rfl _
  replace A := A.only [53, 49, 41, 24, 15, 14, 13, 12, 10, 4, 3, 2, 1, 0] rfl
  refine hK12 _ _ ?_
  refine wp_seq_k fun K14 hK14 => ?_
  refine region_seq ?_  -- region 14
  refine La A rfl (evc _ _) fun _ A => ?_
  replace A := A.only [53, 49, 41, 24, 15, 14, 13, 12, 10, 4, 3, 2, 1, 0] rfl
  refine hK14 _ _ ?_
  obtain ⟨es', e1, e2, e3⟩ := hput _ its' HQ' hne hsl' hok'
  rw [← e1] at hm2
  have S1 : St _ _ _ ([(p, .cells #[.int .i64 m.nodes, vo, .map (some rl), .map (some rq)] 69 (0, 0)), (rl, ol), (rq, oq2)] ++ (HQ' ++ ((itH its') ++ (Hc' ++ (Ho ++ H2))))) := St.app_right (H := [(b2, .cells #[.int .i64 a, .int .i64 b] 28 (0, 0)), (b1, .cells #[.bool c] 79 (0, 0))]) S
  have S' : St _ _ _ (([(p, .cells #[.int .i64 m.nodes, vo, .map (some rl), .map (some rq)] 69 (0, 0)), (rl, ol), (rq, oq2)] ++ (Ho ++ qeH es')) ++ Hc') := S1.perm (by refine List.Perm.trans ?_ (List.Perm.append_right Hc' (List.Perm.append_left [(p, .cells #[.int .i64 m.nodes, vo, .map (some rl), .map (some rq)] 69 (0, 0)), (rl, ol), (rq, oq2)] (List.Perm.append_left Ho e3))).symm; (classical rw [List.perm_iff_count]; intro x; simp only [List.count_append]; omega))
  refine wp_ret ⟨A.defers, _, res_run (rs := [.tmp 10]) (vs := [.int .i64 0]) rfl ⟨A.get rfl, trivial⟩, ⟨_, _, rfl, ⟨rfl, _, its, its', Hc', rfl, hits, ⟨vo, Ho, rl, ol, ls, rq, oq2, es', ⟨h.ord, h.lm, h.lk, hm2, e2.1, e2.2, ?_, h.ols⟩, rfl⟩, hX⟩, S'⟩⟩
  intro k; by_cases hkk : k = (a, b); (subst hkk; rw [M.setq_same, itQ_length]; exact hle); (rw [M.setq_other m _ hkk]; exact h.few k)

set_option maxRecDepth 20000 in
set_option maxHeartbeats 4000000 in
theorem at_del (h : NetRep p m H) {c : Bool} (nd : (keys (H ++ Hc)).Nodup) (hH : Holds w (H ++ Hc)) (hk : goodK (ends a b)) (hk' : goodK (a, b)) (hn : m.link (ends a b) = some c) (hi : 0 ≤ i) (hi2 : i < (m.q (a, b)).length) (hg : callable Try.prog fg = true) {X : List It → Frag → Prop} (hdo : Does m (a, b) fg caps Hc fun its HQ r Hr => ∃ ra rc, r = .tuple #[.slice ra 0 rc, .int .i64 0] ∧ X its Hr) : Calls Try.prog 40 #[.pointer (some ⟨p, 0, none⟩), .int .i64 a, .int .i64 b, .int .i64 i, .func (.func fg) #[] caps] w (RetW (keys (H ++ Hc)) w fun r H' => r = .int .i64 0 ∧ ∃ Hn its Hc', H' = Hn ++ Hc' ∧ itQ its = m.q (a, b) ∧ NetRep p (m.setq (a, b) []) Hn ∧ X its Hc') := by
  obtain ⟨vo, Ho, rl, ol, ls, rq, oq, es, h, rfl⟩ := h
  obtain ⟨hc, ho⟩ := link_some h.lk hn
  obtain ⟨v0, its, HQ, H2, hv0, hsl, hits, hok, hperm, hput, hdel⟩ := h.zoom (a, b)
  obtain ⟨qa, qc, rfl⟩ := hsl.len
  have hlen : its.length = (m.q (a, b)).length := by rw [← hits, itQ_length]
  have S0 := St.start nd hH
  refine enter Try.func40 rfl (n := 65) rfl (Nat.le_of_ble_eq_true rfl) fun _ A => ?_
  have S : St _ _ _ ([(p, .cells #[.int .i64 m.nodes, vo, .map (some rl), .map (some rq)] 69 (0, 0)), (rl, ol), (rq, oq)] ++ (HQ ++ (Ho ++ (itH its ++ (H2 ++ Hc))))) := St.last (L := [(p, .cells #[.int .i64 m.nodes, vo, .map (some rl), .map (some rq)] 69 (0, 0)), (rl, ol), (rq, oq)]) (A := (Ho ++ qeH es) ++ Hc) S0 (by refine List.Perm.trans (List.Perm.append_right Hc (List.Perm.append_left Ho hperm)) ?_; (classical rw [List.perm_iff_count]; intro x; simp only [List.count_append]; omega))
  refine wp_seq_k fun K1 hK1 => ?_
  refine region_seq ?_  -- region 0
  refine La A rfl (evc _ _) fun _ A => ?_
  replace A := A.only [10, 4, 3, 2, 1, 0] rfl
  refine hK1 _ _ ?_
  refine wp_seq_k fun K2 hK2 => ?_
  refine wp_seq_k fun K3 hK3 => ?_
  refine region_seq ?_  -- region 1
  refine Lm A rfl (A.g 0 rfl) fun _ A => Lm A rfl (A.g 1 rfl) fun _ A => Lm A rfl (A.g 2 rfl) fun _ A => Lo A rfl (y_call3 (by kernel_rfl) rfl (A.g 17 rfl) (A.g 18 rfl) (A.g 19 rfl) (callN (link_ok (S.get 0 rfl) (S.get 1 rfl) h.lm hk hc ho) fun v w H gG nN hf ac A => ?_))
  obtain ⟨rfl, rfl⟩ := hf
  replace S : St _ _ _ ([(p, .cells #[.int .i64 m.nodes, vo, .map (some rl), .map (some rq)] 69 (0, 0)), (rl, ol), (rq, oq)] ++ (HQ ++ (Ho ++ ((itH its) ++ (H2 ++ Hc))))) := (S.new gG nN).perm (by first | exact .refl _ | (rw [List.append_assoc]; exact .refl _) | (simp only [List.append_assoc, List.nil_append, List.append_nil]; exact .refl _))
  replace A := A.only [20, 10, 4, 3, 2, 1, 0] rfl
  refine Lm A rfl (A.g 20 rfl) fun _ A => Lo A rfl (y_extract (A.g 16 rfl) rfl fun _ A => ?_)
  refine Lo A rfl (y_extract (A.g 16 rfl) rfl fun _ A => ?_)
  refine Lo A rfl (y_allocN (z := .agg #[.bool false]) (by kernel_rfl) fun b1 w gG nN ac A => ?_)
  replace S : St _ _ _ ([(b1, .cells #[.bool false] 79 (0, 0)), (p, .cells #[.int .i64 m.nodes, vo, .map (some rl), .map (some rq)] 69 (0, 0)), (rl, ol), (rq, oq)] ++ (HQ ++ (Ho ++ ((itH its) ++ (H2 ++ Hc))))) := (S.new gG nN).perm (by first | exact .refl _ | (rw [List.append_assoc]; exact .refl _) | (simp only [List.append_assoc, List.nil_append, List.append_nil]; exact .refl _))
  replace A := A.only [22, 21, 11, 10, 4, 3, 2, 1, 0] rfl
  refine L_opN A rfl rfl (y_store 1 (by kernel_rfl) (A.g 11 rfl) (A.g 21 rfl) (S.get 0 rfl) rfl (Nat.le_of_ble_eq_true rfl) (one_all rfl) ?_)
  replace S : St _ _ _ ([(b1, .cells #[.bool c] 79 (0, 0)), (p, .cells #[.int .i64 m.nodes, vo, .map (some rl), .map (some rq)] 69 (0, 0)), (rl, ol), (rq, oq)] ++ (HQ ++ (Ho ++ ((itH its) ++ (H2 ++ Hc))))) := S.setAt 0 rfl _
  refine La A rfl (A.g 22 rfl) fun _ A => ?_
  replace A := A.only [12, 10, 4, 3, 2, 1, 0] rfl
  refine hK3 _ _ ?_
  refine wp_seq_k fun K4 hK4 => ?_
  refine region_seq ?_  -- region 2
  refine Lm A rfl (A.g 12 rfl) fun _ A => Lo A rfl (y_not (A.g 23 rfl) rfl fun _ A => ?_)
  replace A := A.only [24, 12, 10, 4, 3, 2, 1, 0] rfl
  refine hK4 _ _ ?_
  refine wp_cond_false (A.get rfl) ?_
  refine wp_skip ?_
  refine hK2 _ _ ?_
  refine wp_seq_k fun K5 hK5 => ?_
  refine region_seq ?_  -- region 4
  refine Lm A rfl (A.g 1 rfl) fun _ A => Lm A rfl (A.g 2 rfl) fun _ A => Lo A rfl (y_build2 (A.g 25 rfl) (A.g 26 rfl) (v := .agg #[.int .i64 a, .int .i64 b]) (by kernel_rfl) fun _ A => ?_)
  refine Lo A rfl (y_allocN (z := .agg #[.int .i64 0, .int .i64 0]) (by kernel_rfl) fun b2 w gG nN ac A => ?_)
  replace S : St _ _ _ ([(b2, .cells #[.int .i64 0, .int .i64 0] 28 (0, 0)), (b1, .cells #[.bool c] 79 (0, 0)), (p, .cells #[.int .i64 m.nodes, vo, .map (some rl), .map (some rq)] 69 (0, 0)), (rl, ol), (rq, oq)] ++ (HQ ++ (Ho ++ ((itH its) ++ (H2 ++ Hc))))) := (S.new gG nN).perm (by first | exact .refl _ | (rw [List.append_assoc]; exact .refl _) | (simp only [List.append_assoc, List.nil_append, List.append_nil]; exact .refl _))
  refine L_opN A rfl rfl (y_store 2 (by kernel_rfl) (A.g 13 rfl) (A.g 27 rfl) (S.get 0 rfl) rfl (Nat.le_of_ble_eq_true rfl) (one_all rfl) ?_)
  replace S : St _ _ _ ([(b2, .cells #[.int .i64 a, .int .i64 b] 28 (0, 0)), (b1, .cells #[.bool c] 79 (0, 0)), (p, .cells #[.int .i64 m.nodes, vo, .map (some rl), .map (some rq)] 69 (0, 0)), (rl, ol), (rq, oq)] ++ (HQ ++ (Ho ++ ((itH its) ++ (H2 ++ Hc))))) := S.setAt 0 rfl _
  replace A := A.only [24, 13, 12, 10, 4, 3, 2, 1, 0] rfl
  refine hK5 _ _ ?_
  refine wp_seq_k fun K6 hK6 => ?_
  refine region_draw A [⟨28, pl (eqv (.pointer (some ⟨p, 0, none⟩))), [], [0], none, false⟩, ⟨29, pl (eqv (.pointer (some ⟨p, 0, none⟩))), [0], [], none, false⟩, ⟨30, pl (eqv (.pointer (some ⟨p, 3, none⟩))), [1], [], none, false⟩, ⟨31, pl (eqv (.map (some rq))), [2], [], none, false⟩, ⟨32, pl (eqv (.agg #[.int .i64 a, .int .i64 b])), [], [13], none, false⟩, ⟨33, pl (eqv (.slice qa its.length qc)), [3, 4], [], none, false⟩, ⟨14, pl (eqv (.slice qa its.length qc)), [5], [], none, false⟩] [] (by kernel_rfl) (by kernel_rfl) (fun d _ _ _ _ h => by cases d <;> exact h) ⟨?_, ?_, ?_, ?_, ?_, ?_, ?_, trivial⟩ ?_  -- region 5
  · refine due_plain fun ρ w1 G hsrc hold => ?_; obtain ⟨o0, -⟩ := hold; exact y_move (o0.trans (A.g 0 rfl)) y_eq
  · refine due_plain fun ρ w1 G hsrc hold => ?_; obtain ⟨⟨_, _, ⟨h28, -⟩, -⟩, -⟩ := hsrc; exact y_nilCheck h28 y_eq
  · refine due_plain fun ρ w1 G hsrc hold => ?_; obtain ⟨⟨_, _, ⟨h29, -⟩, -⟩, -⟩ := hsrc; exact y_fieldAddr (off := 3) (j := 3) (by kernel_rfl) h29 (by first | rfl | omega) y_eq
  · refine due_plain fun ρ w1 G hsrc hold => ?_; obtain ⟨⟨_, _, ⟨h30, -⟩, -⟩, -⟩ := hsrc; exact y_load (by kernel_rfl) h30 ((cell_of (G.gr.heap' (S.get 2 rfl)) _).trans rfl) y_eq
  · refine due_plain fun ρ w1 G hsrc hold => ?_; obtain ⟨o13, -⟩ := hold; exact y_loadAgg [.int .i64 a, .int .i64 b] (by kernel_rfl) (o13.trans (A.g 13 rfl)) (cells_at (G.gr.heap' (S.get 0 rfl)) rfl) y_eq
  · refine due_plain fun ρ w1 G hsrc hold => ?_; obtain ⟨⟨_, _, ⟨h31, -⟩, -⟩, ⟨_, _, ⟨h32, -⟩, -⟩, -⟩ := hsrc; exact y_lookup h31 h32 (look_queue (G.gr.heap' (S.get 4 rfl)) h.qm (a, b) hk' hv0) y_eq
  · refine due_plain fun ρ w1 G hsrc hold => ?_; obtain ⟨⟨_, _, ⟨h33, -⟩, -⟩, -⟩ := hsrc; exact y_assign h33 y_eq
  rintro _ _ ⟨rfl, rfl⟩ _ _ ⟨rfl, rfl⟩ _ _ ⟨rfl, rfl⟩ _ _ ⟨rfl, rfl⟩ _ _ ⟨rfl, rfl⟩ _ _ ⟨rfl, rfl⟩ _ _ ⟨rfl, rfl⟩
  intro ac w A gG nN
  replace S : St _ _ _ ([(b2, .cells #[.int .i64 a, .int .i64 b] 28 (0, 0)), (b1, .cells #[.bool c] 79 (0, 0)), (p, .cells #[.int .i64 m.nodes, vo, .map (some rl), .map (some rq)] 69 (0, 0)), (rl, ol), (rq, oq)] ++ (HQ ++ (Ho ++ ((itH its) ++ (H2 ++ Hc))))) := (S.new gG nN).perm (by first | exact .refl _ | (rw [List.append_assoc]; exact .refl _) | (simp only [List.append_assoc, List.nil_append, List.append_nil]; exact .refl _))
  replace A := A.only [24, 14, 13, 12, 10, 4, 3, 2, 1, 0] rfl
  refine hK6 _ _ ?_
  refine wp_seq_k fun K7 hK7 => ?_
  refine wp_seq_k fun K8 hK8 => ?_
  refine region_seq ?_  -- region 6
  refine Lm A rfl (A.g 3 rfl) fun _ A => Lo A rfl (y_lss (A.g 34 rfl) (evc _ _) (c := false) (decide_eq_false (by omega)) fun _ A => ?_)
  refine Lm A rfl (A.g 35 rfl) fun _ A => L_yes A rfl (by decide) rfl rfl (by decide) (A.get rfl) (y_move (A.g 3 rfl) fun _ A => ?_)
  replace A := A.only [37, 36, 24, 14, 13, 12, 10, 4, 3, 2, 1, 0] rfl
  refine L_yes A rfl (by decide) rfl rfl (by decide) (A.get rfl) (y_move (A.g 14 rfl) fun _ A => ?_)
  refine L_yes A rfl (by decide) rfl rfl (by decide) (A.get rfl) (y_lenS (e := 85) (by kernel_rfl) (A.g 38 rfl) fun _ A => ?_)
  refine L_yes A rfl (by decide) rfl rfl (by decide) (A.get rfl) (y_geq (A.g 37 rfl) (A.g 39 rfl) (c := false) (decide_eq_false (by omega)) fun _ A => ?_)
  refine Lo A rfl (y_pickF (A.g 36 rfl) (A.g 40 rfl) fun _ A => ?_)
  replace A := A.only [41, 24, 14, 13, 12, 10, 4, 3, 2, 1, 0] rfl
  refine hK8 _ _ ?_
  refine wp_cond_false (A.get rfl) ?_
  refine wp_skip ?_
  refine hK7 _ _ ?_
  refine wp_seq_k fun K9 hK9 => ?_
  refine region_seq ?_  -- region 8
  refine Lm A rfl (A.g 4 rfl) fun _ A => Lm A rfl (A.g 14 rfl) fun _ A => ?_
  replace S : St _ _ _ ((HQ ++ (itH its ++ Hc)) ++ ([(b2, .cells #[.int .i64 a, .int .i64 b] 28 (0, 0)), (b1, .cells #[.bool c] 79 (0, 0)), (p, .cells #[.int .i64 m.nodes, vo, .map (some rl), .map (some rq)] 69 (0, 0)), (rl, ol), (rq, oq)] ++ (Ho ++ H2))) := S.perm (by classical rw [List.perm_iff_count]; intro x; simp only [List.count_append]; omega)
  refine Lo A rfl (y_clos1 hg (A.g 43 rfl) (A.g 44 rfl) rfl (callW (hdo _ qa qc its HQ hsl hits hok S.app_left.nd S.app_left.holds) fun v w Hr s hf ac A => ?_))
  replace S := S.call rfl s
  obtain ⟨ra, rc, rfl, hX⟩ := hf
  replace S : St _ _ _ ([(b2, .cells #[.int .i64 a, .int .i64 b] 28 (0, 0)), (b1, .cells #[.bool c] 79 (0, 0)), (p, .cells #[.int .i64 m.nodes, vo, .map (some rl), .map (some rq)] 69 (0, 0)), (rl, ol), (rq, oq)] ++ (Hr ++ (Ho ++ H2))) := S.perm (by classical rw [List.perm_iff_count]; intro x; simp only [List.count_append]; omega)
  refine Lm A rfl (A.g 45 rfl) fun _ A => ?_
  replace A := A.only [42, 41, 24, 14, 13, 12, 10, 4, 3, 2, 1, 0] rfl
  refine Lo A rfl (y_extract (A.g 42 rfl) rfl fun _ A => ?_)
  refine Lo A rfl (y_extract (A.g 42 rfl) rfl fun _ A => ?_)
  refine La A rfl (A.g 46 rfl) fun _ A => La A rfl (A.g 47 rfl) fun _ A => ?_
  replace A := A.only [41, 24, 15, 14, 13, 12, 10, 4, 3, 2, 1, 0] rfl
  refine hK9 _ _ ?_
  refine wp_seq_k fun K10 hK10 => ?_
  refine wp_seq_k fun K11 hK11 => ?_
  refine region_seq ?_  -- region 9
  refine Lm A rfl (A.g 15 rfl) fun _ A => Lo A rfl (y_neq (A.g 48 rfl) (evc _ _) (c := false) (by decide) fun _ A => ?_)
  replace A := A.only [49, 41, 24, 15, 14, 13, 12, 10, 4, 3, 2, 1, 0] rfl
  refine hK11 _ _ ?_
  refine wp_cond_false (A.get rfl) ?_
  refine wp_skip ?_
  refine hK10 _ _ ?_
  refine wp_seq_k fun K12 hK12 => ?_
  refine wp_seq_k fun K13 hK13 => ?_
  refine region_seq ?_  -- region 11
  refine Lm A rfl (A.g 14 rfl) fun _ A => Lo A rfl (y_lenS (e := 85) (by kernel_rfl) (A.g 51 rfl) fun _ A => ?_)
  refine Lo A rfl (y_eql (A.g 52 rfl) (evc _ _) (c := true) (rfl) fun _ A => ?_)
  replace A := A.only [53, 49, 41, 24, 15, 14, 13, 12, 10, 4, 3, 2, 1, 0] rfl
  refine hK13 _ _ ?_
  refine wp_cond_true (A.get rfl) ?_
  refine region_draw A [⟨54, pl (eqv (.pointer (some ⟨p, 0, none⟩))), [], [0], none, false⟩, ⟨55, pl (eqv (.pointer (some ⟨p, 0, none⟩))), [0], [], none, false⟩, ⟨56, pl (eqv (.pointer (some ⟨p, 3, none⟩))), [1], [], none, false⟩, ⟨57, pl (eqv (.map (some rq))), [2], [], none, false⟩, ⟨58, pl (eqv (.agg #[.int .i64 a, .int .i64 b])), [], [13], none, false⟩] [(5, false)] (by kernel_rfl) (by kernel_rfl) (fun d _ _ _ _ h => by cases d <;> exact h) ⟨?_, ?_, ?_, ?_, ?_, trivial⟩ ?_  -- region 12
  · refine due_plain fun ρ w1 G hsrc hold => ?_; obtain ⟨o0, -⟩ := hold; exact y_move (o0.trans (A.g 0 rfl)) y_eq
  · refine due_plain fun ρ w1 G hsrc hold => ?_; obtain ⟨⟨_, _, ⟨h54, -⟩, -⟩, -⟩ := hsrc; exact y_nilCheck h54 y_eq
  · refine due_plain fun ρ w1 G hsrc hold => ?_; obtain ⟨⟨_, _, ⟨h55, -⟩, -⟩, -⟩ := hsrc; exact y_fieldAddr (off := 3) (j := 3) (by kernel_rfl) h55 (by first | rfl | omega) y_eq
  · refine due_plain fun ρ w1 G hsrc hold => ?_; obtain ⟨⟨_, _, ⟨h56, -⟩, -⟩, -⟩ := hsrc; exact y_load (by kernel_rfl) h56 ((cell_of (G.gr.heap' (S.get 2 rfl)) _).trans rfl) y_eq
  · refine due_plain fun ρ w1 G hsrc hold => ?_; obtain ⟨o13, -⟩ := hold; exact y_loadAgg [.int .i64 a, .int .i64 b] (by kernel_rfl) (o13.trans (A.g 13 rfl)) (cells_at (G.gr.heap' (S.get 0 rfl)) rfl) y_eq
  rintro _ _ ⟨rfl, rfl⟩ _ _ ⟨rfl, rfl⟩ _ _ ⟨rfl, rfl⟩ _ _ ⟨rfl, rfl⟩ _ _ ⟨rfl, rfl⟩
  intro ac w A gG nN
  replace S : St _ _ _ ([(b2, .cells #[.int .i64 a, .int .i64 b] 28 (0, 0)), (b1, .cells #[.bool c] 79 (0, 0)), (p, .cells #[.int .i64 m.nodes, vo, .map (some rl), .map (some rq)] 69 (0, 0)), (rl, ol), (rq, oq)] ++ (Hr ++ (Ho ++ H2))) := (S.new gG nN).perm (by first | exact .refl _ | (rw [List.append_assoc]; exact .refl _) | (simp only [List.append_assoc, List.nil_append, List.append_nil]; exact .refl _))
  obtain ⟨oq2, hrun2, hm2⟩ := run_drop (t := 67) (e := 82) Try.lawK kv_inj Try.underlying67 (S.get 4 rfl) h.qm (a, b) hk' 0 28
  refine L_opN A rfl rfl (y_delete (A.g 57 rfl) (A.g 58 rfl) hrun2 ?_)
  replace S : St _ _ _ ([(b2, .cells #[.int .i64 a, .int .i64 b] 28 (0, 0)), (b1, .cells #[.bool c] 79 (0, 0)), (p, .cells #[.int .i64 m.nodes, vo, .map (some rl), .map (some rq)] 69 (0, 0)), (rl, ol), (rq, oq2)] ++ (Hr ++ (Ho ++ H2))) := S.setAt 4 rfl _
  replace A := A.only [53, 49, 41, 24, 15, 14, 13, 12, 10, 4, 3, 2, 1, 0] rfl
  refine hK12 _ _ ?_
  refine wp_seq_k fun K14 hK14 => ?_
  refine region_seq ?_  -- region 14
  refine La A rfl (evc _ _) fun _ A => ?_
  replace A := A.only [53, 49, 41, 24, 15, 14, 13, 12, 10, 4, 3, 2, 1, 0] rfl
  refine hK14 _ _ ?_
  obtain ⟨es', e1, e2, e3⟩ := hdel
  rw [← e1] at hm2
  have S1 : St _ _ _ ([(p, .cells #[.int .i64 m.nodes, vo, .map (some rl), .map (some rq)] 69 (0, 0)), (rl, ol), (rq, oq2)] ++ (Hr ++ (Ho ++ H2))) := St.app_right (H := [(b2, .cells #[.int .i64 a, .int .i64 b] 28 (0, 0)), (b1, .cells #[.bool c] 79 (0, 0))]) S
  have S' : St _ _ _ (([(p, .cells #[.int .i64 m.nodes, vo, .map (some rl), .map (some rq)] 69 (0, 0)), (rl, ol), (rq, oq2)] ++ (Ho ++ qeH es')) ++ Hr) := S1.perm (by refine List.Perm.trans ?_ (List.Perm.append_right Hr (List.Perm.append_left [(p, .cells #[.int .i64 m.nodes, vo, .map (some rl), .map (some rq)] 69 (0, 0)), (rl, ol), (rq, oq2)] (List.Perm.append_left Ho e3))).symm; (classical rw [List.perm_iff_count]; intro x; simp only [List.count_append]; omega))
  refine wp_ret ⟨A.defers, _, res_run (rs := [.tmp 10]) (vs := [.int .i64 0]) rfl ⟨A.get rfl, trivial⟩, ⟨_, _, rfl, ⟨rfl, _, its, Hr, rfl, hits, ⟨vo, Ho, rl, ol, ls, rq, oq2, es', ⟨h.ord, h.lm, h.lk, hm2, e2.1, e2.2, ?_, h.ols⟩, rfl⟩, hX⟩, S'⟩⟩
  intro k; by_cases hkk : k = (a, b); (subst hkk; rw [M.setq_same]; simp); (rw [M.setq_other m _ hkk]; exact h.few k)
end
end Go.Proofs.Ytaeidblipdjgnaa
