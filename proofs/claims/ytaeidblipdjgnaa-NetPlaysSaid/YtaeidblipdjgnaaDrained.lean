import Derived.Test.YtaeidblipdjgnaaSim
namespace Go.Proofs.Ytaeidblipdjgnaa
open Go.RowKit Go.Maps Go.WideMaps

theorem Sim.takeLen {m : M} {R : RM} (h : Sim m R) (a b : Int) : ((m.take a b 0).2.2.q (a, b)).length = (m.q (a, b)).length - 1 := by
  have hq := h.q a b
  rcases h.cases a b with ⟨h1, h2, -⟩ | ⟨k, c, -, -, h3, -⟩
  · have : m.q (a, b) = [] := by
      rw [hq, List.filter_eq_nil_iff.2]; rfl
      intro d hd hx
      have := h.way d hd
      rw [(isw_iff.1 hx).1, (isw_iff.1 hx).2, h1] at this; simp at this
    unfold M.take M.pick; rw [h2]; simp [this]
  · unfold M.take M.pick; rw [h3]
    cases hx : m.q (a, b) with
    | nil => simp [hx]
    | cons x r => simp [M.setq, hx]
set_option maxRecDepth 20000 in
set_option maxHeartbeats 16000000 in
theorem drained_ok {p q : Nat} {m : M} {R : RM} {Hm Hr : Frag} {w0 : World} {a b : Int} (hN : NetRep p m Hm) {vl : Value} {Hl : Frag} (hR : RefRepL q R vl Hl Hr) (nd : (keys (Hm ++ Hr)).Nodup) (hH : Holds w0 (Hm ++ Hr)) (hs : Sim m R) (hw : R.way.length ≤ 1000000) (ha : i64 a) (hb : i64 b) : Calls Try.prog 32 #[.pointer (some ⟨p, 0, none⟩), .pointer (some ⟨q, 0, none⟩), .int .i64 a, .int .i64 b] w0 (RetW (keys (Hm ++ Hr)) w0 fun r H' => r = .bool true ∧ ∃ m' R' Hm' Hr', H' = Hm' ++ Hr' ∧ NetRep p m' Hm' ∧ RefRepL q R' vl Hl Hr' ∧ Sim m' R' ∧ R'.links = R.links ∧ R'.way.length ≤ R.way.length) := by
  have S0 := St.start nd hH
  generalize hD : keys _ = DD at S0 ⊢
  have hln0 := rlen_ok (a := a) (b := b) (hR.to.src (Holds.app.1 hH).2).choose_spec.choose_spec.choose_spec.choose_spec.choose_spec.choose_spec.choose_spec hw
  have hlb := len_le R a b
  refine enter Try.func32 rfl (n := 59) rfl (Nat.le_of_ble_eq_true rfl) fun _ A => ?_
  have S : St _ _ _ (Hm ++ Hr) := S0
  clear S0
  have G0 : Gr w0 w0 := Gr.refl w0
  refine wp_seq_k fun K1 hK1 => ?_
  refine region_seq ?_  -- region 0
  refine La A rfl (evc _ _) fun _ A => ?_
  replace A := A.only [8, 3, 2, 1, 0] rfl
  refine hK1 _ _ ?_
  refine wp_seq_k fun K2 hK2 => ?_
  refine wp_seq_k fun K3 hK3 => ?_
  refine region_seq ?_  -- region 1
  refine Lm A rfl (A.g 1 rfl) fun _ A => Lm A rfl (A.g 2 rfl) fun _ A => Lm A rfl (A.g 3 rfl) fun _ A => Lo A rfl (y_call3 (by kernel_rfl) rfl (A.g 14 rfl) (A.g 15 rfl) (A.g 16 rfl) (callN (hln0) fun v w H gG nN hf ac A => ?_))
  obtain ⟨rfl, rfl⟩ := hf
  replace S : St _ _ _ (Hm ++ Hr) := (S.new gG nN).perm (by first | exact .refl _ | (rw [List.append_assoc]; exact .refl _) | (simp only [List.append_assoc, List.nil_append, List.append_nil]; exact .refl _))
  replace G0 := G0.trans gG
  refine La A rfl (A.g 17 rfl) fun _ A => ?_
  replace A := A.only [9, 8, 3, 2, 1, 0] rfl
  refine hK3 _ _ ?_
  refine wp_block ?_
  replace A := A.only [9, 3, 2, 1, 0] rfl
  refine wp_loop_ghost (fun kk ac w' => ∃ (m' : M) (R' : RM) (Hm Hr : Frag), NetRep p m' Hm ∧ RefRepL q R' vl Hl Hr ∧ Sim m' R' ∧ R'.links = R.links ∧ R'.way.length ≤ R.way.length ∧ (m'.q (a, b)).length = kk - 1 ∧ kk ≤ 1000001 ∧ Sl 59 ac [(0, .pointer (some ⟨p, 0, none⟩)), (1, .pointer (some ⟨q, 0, none⟩)), (2, .int .i64 a), (3, .int .i64 b), (9, .int .i64 ((kk : Int) - 1))] ∧ St DD w0 w' (Hm ++ Hr)) (R.len a b + 1) ⟨m, R, Hm, Hr, hN, hR, hs, rfl, Nat.le_refl _, by rw [hs.len]; omega, by omega, (by rw [show (((R.len a b + 1 : Nat) : Int) - 1) = ((R.len a b : Nat) : Int) by omega]; exact A), S⟩ ?_
  clear A S hN hR hs
  rintro kk ac w ⟨m', R', Hm, Hr, hN, hR, hs, hlk, hwl, hql, hkb, A, S⟩
  cases kk with
  | zero =>
    skip
    refine wp_seq_k fun K4 hK4 => ?_
    refine wp_seq_k fun K5 hK5 => ?_
    refine region_seq ?_  -- region 2
    refine Lm A rfl (A.g 9 rfl) fun _ A => Lo A rfl (y_geq (A.g 18 rfl) (evc _ _) (c := false) (decide_eq_false (by omega)) fun _ A => ?_)
    replace A := A.only [19, 9, 3, 2, 1, 0] rfl
    refine hK5 _ _ ?_
    refine wp_cond_false (A.get rfl) ?_
    refine wp_exit ?_
    refine hK2 _ _ ?_
    refine wp_seq_k fun K6 hK6 => ?_
    refine region_seq ?_  -- region 8
    refine Lm A rfl (A.g 0 rfl) fun _ A => Lm A rfl (A.g 2 rfl) fun _ A => Lm A rfl (A.g 3 rfl) fun _ A => Lo A rfl (y_call3 (by kernel_rfl) rfl (A.g 54 rfl) (A.g 55 rfl) (A.g 56 rfl) (callN (len_ok hN (Holds.app.1 S.holds).1 (good ha hb)) fun v w H gG nN hf ac A => ?_))
    obtain ⟨rfl, rfl⟩ := hf
    replace S : St _ _ _ (Hm ++ Hr) := (S.new gG nN).perm (by first | exact .refl _ | (rw [List.append_assoc]; exact .refl _) | (simp only [List.append_assoc, List.nil_append, List.append_nil]; exact .refl _))
    refine Lo A rfl (y_eql (A.g 57 rfl) (evc _ _) (c := true) (by rw [hql]; rfl) fun _ A => ?_)
    refine La A rfl (A.g 58 rfl) fun _ A => ?_
    replace A := A.only [19, 9, 8, 3, 2, 1, 0] rfl
    refine hK6 _ _ ?_
    exact wp_ret ⟨A.defers, _, res_run (rs := [.tmp 8]) (vs := [.bool true]) rfl ⟨A.get rfl, trivial⟩, ⟨_, _, rfl, ⟨rfl, m', R', _, _, rfl, hN, hR, hs, hlk, hwl⟩, S⟩⟩
  | succ kk =>
    obtain ⟨bs, e, hpk⟩ : ∃ bs e, R'.peek a b 0 = (bs, e) := ⟨_, _, rfl⟩
    obtain ⟨t1, t2, t3, t4, t5⟩ := hs.take a b 0
    have tl := hs.takeLen a b
    rw [hpk] at t1 t2 t3; dsimp only at t1 t2 t3
    have hdl : (R'.drop a b 0).2.links = R'.links := by unfold RM.drop; split <;> rfl
    generalize hm2 : (m'.take a b 0).2.2 = m2 at *
    generalize hR2 : (R'.drop a b 0).2 = R2 at *
    have ct := take_ok (i := 0) hN (St.app_left S).nd (St.app_left S).holds ha hb
    rw [t1, t2, hm2] at ct
    refine wp_seq_k fun K4 hK4 => ?_
    refine wp_seq_k fun K5 hK5 => ?_
    refine region_seq ?_  -- region 2
    refine Lm A rfl (A.g 9 rfl) fun _ A => Lo A rfl (y_geq (A.g 18 rfl) (evc _ _) (c := true) (decide_eq_true (by omega)) fun _ A => ?_)
    replace A := A.only [19, 9, 3, 2, 1, 0] rfl
    refine hK5 _ _ ?_
    refine wp_cond_true (A.get rfl) ?_
    refine wp_skip ?_
    refine hK4 _ _ ?_
    refine wp_seq_k fun K6 hK6 => ?_
    refine wp_block ?_
    refine wp_seq_k fun K7 hK7 => ?_
    refine region_seq ?_  -- region 4
    refine Lm A rfl (A.g 0 rfl) fun _ A => Lm A rfl (A.g 2 rfl) fun _ A => Lm A rfl (A.g 3 rfl) fun _ A => ?_
    replace S : St _ _ _ (Hm ++ Hr) := S.perm (by classical rw [List.perm_iff_count]; intro x; simp only [List.count_append] <;> omega)
    refine Lo A rfl (y_call4 (by kernel_rfl) rfl (A.g 23 rfl) (A.g 24 rfl) (A.g 25 rfl) (evc _ _) (callW (ct) fun v w H9 s hf ac A => ?_))
    replace S : St _ _ _ (H9 ++ Hr) := St.call (H := Hm) (R := Hr) S rfl s
    obtain ⟨vb, Hb, Hn, rfl, hB, rfl, hN2⟩ := hf
    replace S : St _ _ _ ((Hn ++ Hb) ++ Hr) := S
    replace S : St _ _ _ (Hn ++ (Hb ++ Hr)) := S.perm (by classical rw [List.perm_iff_count]; intro x; simp only [List.count_append] <;> omega)
    replace S : St _ _ _ (Hn ++ (Hb ++ Hr)) := S.perm (by classical rw [List.perm_iff_count]; intro x; simp only [List.count_append] <;> omega)
    obtain ⟨ba, bc, rfl⟩ := SlRep.len hB
    replace A := A.only [26, 19, 9, 3, 2, 1, 0] rfl
    refine Lm A rfl (A.g 26 rfl) fun _ A => Lo A rfl (y_extract (A.g 22 rfl) rfl fun _ A => ?_)
    refine Lo A rfl (y_extract (A.g 22 rfl) rfl fun _ A => ?_)
    refine La A rfl (A.g 27 rfl) fun _ A => ?_
    replace A := A.only [28, 19, 10, 9, 3, 2, 1, 0] rfl
    refine La A rfl (A.g 28 rfl) fun _ A => ?_
    replace A := A.only [19, 11, 10, 9, 3, 2, 1, 0] rfl
    refine hK7 _ _ ?_
    refine wp_seq_k fun K8 hK8 => ?_
    refine region_seq ?_  -- region 5
    refine Lm A rfl (A.g 1 rfl) fun _ A => Lm A rfl (A.g 2 rfl) fun _ A => Lm A rfl (A.g 3 rfl) fun _ A => ?_
    obtain ⟨la, lc, ca, cc, wa, wc, gs, hrs⟩ := hR.to.src (St.app_left (H := Hr) (K := (Hn ++ Hb)) (S.perm (by classical rw [List.perm_iff_count]; intro x; simp only [List.count_append] <;> omega))).holds
    have cp := rpeek_ok (a := a) (b := b) (i := 0) hrs (Nat.le_trans hwl hw)
    rw [hpk] at cp
    refine Lo A rfl (y_call4 (by kernel_rfl) rfl (A.g 30 rfl) (A.g 31 rfl) (A.g 32 rfl) rfl (callN cp fun v w Hc gG nN hf ac A => ?_))
    obtain ⟨vc, rfl, hC⟩ := hf
    obtain ⟨ca2, cc2, rfl⟩ := SlRep.len hC
    replace S : St _ _ _ (Hc ++ (Hn ++ (Hb ++ Hr))) := (S.new gG nN).perm (by first | exact .refl _ | (rw [List.append_assoc]; exact .refl _) | (simp only [List.append_assoc, List.nil_append, List.append_nil]; exact .refl _))
    replace A := A.only [33, 19, 11, 10, 9, 3, 2, 1, 0] rfl
    refine Lm A rfl (A.g 33 rfl) fun _ A => Lo A rfl (y_extract (A.g 29 rfl) rfl fun _ A => ?_)
    refine Lo A rfl (y_extract (A.g 29 rfl) rfl fun _ A => ?_)
    refine La A rfl (A.g 34 rfl) fun _ A => ?_
    replace A := A.only [35, 19, 12, 11, 10, 9, 3, 2, 1, 0] rfl
    refine La A rfl (A.g 35 rfl) fun _ A => ?_
    replace A := A.only [19, 13, 12, 11, 10, 9, 3, 2, 1, 0] rfl
    refine hK8 _ _ ?_
    refine wp_seq_k fun K9 hK9 => ?_
    refine region_seq ?_  -- region 6
    refine Lm A rfl (A.g 11 rfl) fun _ A => Lm A rfl (A.g 13 rfl) fun _ A => Lo A rfl (y_neq (A.g 36 rfl) (A.g 37 rfl) (c := false) (by simp) fun _ A => ?_)
    refine Lm A rfl (A.g 38 rfl) fun _ A => ?_
    replace A := A.only [39, 19, 13, 12, 11, 10, 9, 3, 2, 1, 0] rfl
    refine L_yes A rfl (by decide) rfl rfl (by decide) (A.get rfl) (y_move (A.g 10 rfl) fun _ A => ?_)
    refine L_yes A rfl (by decide) rfl rfl (by decide) (A.get rfl) (y_bytesStr (e := 5) (l := bs) (by kernel_rfl) (by kernel_rfl) (by kernel_rfl) (A.g 40 rfl) (SlRep.src hB (St.app_left (H := Hb) (K := (Hc ++ (Hn ++ Hr))) (S.perm (by classical rw [List.perm_iff_count]; intro x; simp only [List.count_append] <;> omega))).holds) fun _ A => ?_)
    refine L_yes A rfl (by decide) rfl rfl (by decide) (A.get rfl) (y_move (A.g 12 rfl) fun _ A => ?_)
    refine L_yes A rfl (by decide) rfl rfl (by decide) (A.get rfl) (y_bytesStr (e := 5) (l := bs) (by kernel_rfl) (by kernel_rfl) (by kernel_rfl) (A.g 42 rfl) (SlRep.src hC (St.app_left (H := Hc) (K := (Hn ++ (Hb ++ Hr))) (S.perm (by classical rw [List.perm_iff_count]; intro x; simp only [List.count_append] <;> omega))).holds) fun _ A => ?_)
    replace A := A.only [43, 41, 39, 19, 13, 12, 11, 10, 9, 3, 2, 1, 0] rfl
    refine L_yes A rfl (by decide) rfl rfl (by decide) (A.get rfl) (y_neqStr (a := bs) (b := bs) (A.g 41 rfl) (A.g 43 rfl) (c := false) (by simp) fun _ A => ?_)
    refine Lo A rfl (y_pickF (A.g 39 rfl) (A.g 44 rfl) fun _ A => ?_)
    refine Lm A rfl (A.g 45 rfl) fun _ A => L_yes A rfl (by decide) rfl rfl (by decide) (A.get rfl) (y_move (A.g 1 rfl) fun _ A => ?_)
    replace A := A.only [47, 46, 19, 13, 12, 11, 10, 9, 3, 2, 1, 0] rfl
    refine L_yes A rfl (by decide) rfl rfl (by decide) (A.get rfl) (y_move (A.g 2 rfl) fun _ A => ?_)
    refine L_yes A rfl (by decide) rfl rfl (by decide) (A.get rfl) (y_move (A.g 3 rfl) fun _ A => ?_)
    have sr := (St.app_left (H := Hr) (K := (Hc ++ (Hn ++ Hb))) (S.perm (by classical rw [List.perm_iff_count]; intro x; simp only [List.count_append] <;> omega)))
    have cd := rdropL_ok (a := a) (b := b) (i := 0) hR sr.nd sr.holds (Nat.le_trans hwl hw)
    rw [t3, hR2] at cd
    replace S : St _ _ _ (Hr ++ (Hc ++ (Hn ++ Hb))) := S.perm (by classical rw [List.perm_iff_count]; intro x; simp only [List.count_append] <;> omega)
    refine L_yes A rfl (by decide) rfl rfl (by decide) (A.get rfl) (y_call4 (by kernel_rfl) rfl (A.g 47 rfl) (A.g 48 rfl) (A.g 49 rfl) (evc _ _) (callW (cd) fun v w Hr2 s hf ac A => ?_))
    replace S : St _ _ _ (Hr2 ++ (Hc ++ (Hn ++ Hb))) := St.call (H := Hr) (R := (Hc ++ (Hn ++ Hb))) S rfl s
    obtain ⟨rfl, hR3⟩ := hf
    replace S : St _ _ _ (Hr2 ++ (Hc ++ (Hn ++ Hb))) := S.perm (by classical rw [List.perm_iff_count]; intro x; simp only [List.count_append] <;> omega)
    refine L_yes A rfl (by decide) rfl rfl (by decide) (A.get rfl) (y_move (A.g 13 rfl) fun _ A => ?_)
    replace A := A.only [51, 50, 46, 19, 13, 12, 11, 10, 9, 3, 2, 1, 0] rfl
    refine L_yes A rfl (by decide) rfl rfl (by decide) (A.get rfl) (y_neq (A.g 50 rfl) (A.g 51 rfl) (c := false) (by simp) fun _ A => ?_)
    refine Lo A rfl (y_pickF (A.g 46 rfl) (A.g 52 rfl) fun _ A => ?_)
    replace A := A.only [53, 19, 13, 12, 11, 10, 9, 3, 2, 1, 0] rfl
    refine hK9 _ _ ?_
    refine wp_cond_false (A.get rfl) ?_
    refine wp_skip ?_
    refine hK6 _ _ ?_
    refine region_seq ?_  -- region 3
    refine Lm A rfl (A.g 9 rfl) fun _ A => Lo A rfl (y_sub (A.g 20 rfl) (evc _ _) (c := ((kk : Int) - 1)) ((wrap64 (by omega)).trans (by omega)) fun _ A => ?_)
    refine La A rfl (A.g 21 rfl) fun _ A => ?_
    replace A := A.only [53, 19, 13, 12, 11, 10, 9, 3, 2, 1, 0] rfl
    replace A := A.only [9, 3, 2, 1, 0] rfl
    replace S : St _ _ _ (Hn ++ Hr2) := St.app_left (K := (Hc ++ Hb)) (S.perm (by classical rw [List.perm_iff_count]; intro x; simp only [List.count_append, List.count_cons, List.count_nil] <;> omega))
    exact ⟨kk, by omega, m2, R2, Hn, Hr2, hN2, hR3, t4, hdl.trans hlk, Nat.le_trans t5 hwl, by rw [tl, hql]; omega, by omega, A, S⟩
end Go.Proofs.Ytaeidblipdjgnaa
