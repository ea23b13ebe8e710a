import Derived.Test.YtaeidblipdjgnaaTrueL
namespace Go.Proofs.Ytaeidblipdjgnaa
open Go.RowKit Go.Maps Go.WideMaps

theorem take_last {m : M} {a b : Int} {c : Bool} {q : List (List UInt8 × Bool)} {x : List UInt8 × Bool} (hl : m.link (ends a b) = some c) (hq : m.q (a, b) = q ++ [x]) : m.take a b ((q.length : Nat) : Int) = (x.1, 0, m.setq (a, b) q) := by
  unfold M.take M.pick
  rw [hl, hq]
  simp only [Int.toNat_natCast, show ¬ ((q.length : Nat) : Int) < 0 by omega, if_false]
  rw [List.getElem?_append_right (Nat.le_refl _), List.eraseIdx_append_of_length_le (Nat.le_refl _)]
  simp
theorem bs_len {p : Nat} {m : M} {H : Frag} (h : NetRep p m H) {k : Int × Int} {x : List UInt8 × Bool} (hx : x ∈ m.q k) : x.1.length ≤ 512 := by
  obtain ⟨vo, Ho, rl, ol, ls, rq, oq, es, h, rfl⟩ := h
  obtain ⟨v0, its, HQ, H2, hv0, hsl, hits, hok, _⟩ := h.zoom k
  rw [← hits] at hx
  obtain ⟨it, hit, rfl⟩ := List.mem_map.1 hx
  exact (hok it hit).2
theorem send_sent_len {s : M × Sent} {x : Ac} (hs : ∀ k, ∀ b ∈ s.2 k, b.length ≤ 512) : ∀ k, ∀ b ∈ (playStep s x).2 k, b.length ≤ 512 := by
  intro k b hb
  unfold playStep at hb
  split at hb
  · split at hb
    · rename_i e
      simp only [setS] at hb
      split at hb
      · rename_i ek; subst ek
        rcases List.mem_append.1 hb with hb | hb
        · exact hs _ b hb
        · simp only [List.mem_singleton] at hb; subst hb
          unfold M.send at e
          split at e
          · simp at e
          · simp at e
          · split at e
            · simp at e
            · omega
      · exact hs k b hb
    · exact hs k b hb
  repeat' split at hb
  all_goals exact hs k b hb
theorem play_sent_len (m : M) (l : List Ac) : ∀ k, ∀ b ∈ (play m l).2 k, b.length ≤ 512 := by
  have : ∀ (l : List Ac) (s : M × Sent), (∀ k, ∀ b ∈ s.2 k, b.length ≤ 512) → ∀ k, ∀ b ∈ (l.foldl playStep s).2 k, b.length ≤ 512 := by
    intro l; induction l with
    | nil => intro s h; exact h
    | cons x r ih => intro s h; exact ih _ (send_sent_len h)
  exact this l _ (by simp)
theorem play_sent_few (m : M) (l : List Ac) : ∀ k, ((play m l).2 k).length ≤ l.length := by
  have : ∀ (l : List Ac) (s : M × Sent) (k : Int × Int), ((l.foldl playStep s).2 k).length ≤ (s.2 k).length + l.length := by
    intro l; induction l with
    | nil => intro s k; simp
    | cons x r ih => intro s k; have h1 := ih (playStep s x) k; have h2 := playStep_len s x k; simp only [List.foldl_cons, List.length_cons]; omega
  intro k; have := this l (m, fun _ => []) k; simpa [play] using this

set_option maxRecDepth 20000 in
set_option maxHeartbeats 16000000 in
theorem netTrue_ok {w0 : World} {n : Int} {vl v : Value} {ls : List (Int × Int)} {l : List Ac} (hls : Src w0 2 vl ls.length (pairs ls)) (hlg : ∀ l ∈ ls, i64 l.1 ∧ i64 l.2) (hs : AcSrc w0 v l) : Calls Try.prog 4 #[.int .i64 n, vl, v] w0 (RetN w0 fun r _ => r = .bool true) := by
  obtain ⟨va, vc, rfl⟩ : ∃ a c, v = .slice a l.length c := by obtain ⟨_, _, _, h, _⟩ := hs; exact h.len'
  obtain ⟨la, lc, rfl⟩ := hls.len'
  by_cases h300 : 300 < ls.length
  · skip
    refine enter Try.func4 rfl (n := 123) rfl (Nat.le_of_ble_eq_true rfl) fun ac A => ?_
    have S : St _ _ _ [] := St.none w0
    refine wp_seq_k fun K1 hK1 => ?_
    refine region_seq ?_  -- region 0
    refine L_op A rfl (by decide) rfl (y_assign rfl fun ac A => ?_)
    replace A := A.keep [(0, .int .i64 n), (1, .slice la ls.length lc), (2, .slice va l.length vc), (6, .bool false)] ⟨rfl, rfl, rfl, rfl, trivial⟩
    refine hK1 _ _ ?_
    refine wp_seq_k fun K2 hK2 => ?_
    refine wp_seq_k fun K3 hK3 => ?_
    refine region_seq ?_  -- region 1
    refine L_op A rfl (by decide) rfl (y_move (A.get (s := 1) rfl) fun ac A => ?_)
    refine L_op A rfl (by decide) rfl (y_lenS (e := 28) (by kernel_rfl) (A.get (s := 16) rfl) fun ac A => ?_)
    refine L_op A rfl (by decide) rfl (y_gtr (A.get (s := 17) rfl) rfl (c := true) (decide_eq_true (by omega)) fun ac A => ?_)
    refine L_op A rfl (by decide) rfl (y_move (A.get (s := 18) rfl) fun ac A => ?_)
    replace A := A.keep [(0, .int .i64 n), (1, .slice la ls.length lc), (2, .slice va l.length vc), (6, .bool false), (19, .bool true)] ⟨rfl, rfl, rfl, rfl, rfl, trivial⟩
    refine L_no A rfl (by decide) rfl rfl (by decide) (A.get rfl) (by decide) fun ac A => ?_
    refine L_no A rfl (by decide) rfl rfl (by decide) (A.get rfl) (by decide) fun ac A => ?_
    refine L_no A rfl (by decide) rfl rfl (by decide) (A.get rfl) (by decide) fun ac A => ?_
    refine L_op A rfl (by decide) rfl (y_pickT (A.get (s := 19) rfl) rfl fun ac A => ?_)
    replace A := A.keep [(0, .int .i64 n), (1, .slice la ls.length lc), (2, .slice va l.length vc), (6, .bool false), (23, .bool true)] ⟨rfl, rfl, rfl, rfl, rfl, trivial⟩
    refine hK3 _ _ ?_
    refine wp_cond_true (A.get rfl) ?_
    refine wp_seq_k fun K4 hK4 => ?_
    refine region_seq ?_  -- region 2
    refine L_op A rfl (by decide) rfl (y_call0 (by kernel_rfl) rfl  (callN (awake_ok) fun v w Ha gG nN hf ac A => ?_))
    obtain rfl := hf
    replace S : St _ _ _ Ha := (S.new gG nN).perm (by first | exact List.Perm.refl _ | (rw [List.append_assoc]; exact List.Perm.refl _) | (simp only [List.append_assoc, List.nil_append, List.append_nil]; exact List.Perm.refl _))
    refine L_op A rfl (by decide) rfl (y_assign (A.get (s := 24) rfl) fun ac A => ?_)
    replace A := A.keep [(0, .int .i64 n), (1, .slice la ls.length lc), (2, .slice va l.length vc), (6, .bool true), (23, .bool true)] ⟨rfl, rfl, rfl, rfl, rfl, trivial⟩
    refine hK4 _ _ ?_
    exact wp_ret ⟨A.defers, _, res_run (rs := [.tmp 6]) (vs := [.bool true]) rfl ⟨A.get rfl, trivial⟩, ⟨_, rfl, S.kp.to_gr, _, rfl, S.newF⟩⟩
  have hfewc : ∀ w, Gr w0 w → Calls Try.prog 14 #[.slice va l.length vc] w (RetN w (eqv (.bool (fewN 0 l)))) := fun w g => few_ok (by
    obtain ⟨X, h1, h2, h3, h4⟩ := hs
    exact ⟨X, h1, h2, h3.gr g, fun i x hx => let ⟨u, e1, e2, e3⟩ := h4 i x hx; ⟨u, e1, e2.gr g, e3⟩⟩)
  cases hfew : fewN 0 l with
  | false =>
    rw [hfew] at hfewc
    refine enter Try.func4 rfl (n := 123) rfl (Nat.le_of_ble_eq_true rfl) fun ac A => ?_
    have S : St _ _ _ [] := St.none w0
    refine wp_seq_k fun K1 hK1 => ?_
    refine region_seq ?_  -- region 0
    refine L_op A rfl (by decide) rfl (y_assign rfl fun ac A => ?_)
    replace A := A.keep [(0, .int .i64 n), (1, .slice la ls.length lc), (2, .slice va l.length vc), (6, .bool false)] ⟨rfl, rfl, rfl, rfl, trivial⟩
    refine hK1 _ _ ?_
    refine wp_seq_k fun K2 hK2 => ?_
    refine wp_seq_k fun K3 hK3 => ?_
    refine region_seq ?_  -- region 1
    refine L_op A rfl (by decide) rfl (y_move (A.get (s := 1) rfl) fun ac A => ?_)
    refine L_op A rfl (by decide) rfl (y_lenS (e := 28) (by kernel_rfl) (A.get (s := 16) rfl) fun ac A => ?_)
    refine L_op A rfl (by decide) rfl (y_gtr (A.get (s := 17) rfl) rfl (c := false) (decide_eq_false (by omega)) fun ac A => ?_)
    refine L_op A rfl (by decide) rfl (y_move (A.get (s := 18) rfl) fun ac A => ?_)
    replace A := A.keep [(0, .int .i64 n), (1, .slice la ls.length lc), (2, .slice va l.length vc), (6, .bool false), (19, .bool false)] ⟨rfl, rfl, rfl, rfl, rfl, trivial⟩
    refine L_yes A rfl (by decide) rfl rfl (by decide) (A.get rfl) (y_move (A.get (s := 2) rfl) fun ac A => ?_)
    refine L_yes A rfl (by decide) rfl rfl (by decide) (A.get rfl) (y_call1 (by kernel_rfl) rfl (A.get (s := 20) rfl) (callN (hfewc _ S.kp.to_gr) fun v w H gG nN hf ac A => ?_))
    obtain ⟨rfl, rfl⟩ := hf
    replace S : St _ _ _ [] := S.new gG nN
    refine L_yes A rfl (by decide) rfl rfl (by decide) (A.get rfl) (y_not (A.get (s := 21) rfl) rfl fun ac A => ?_)
    refine L_op A rfl (by decide) rfl (y_pickF (A.get (s := 19) rfl) (A.get (s := 22) rfl) fun ac A => ?_)
    replace A := A.keep [(0, .int .i64 n), (1, .slice la ls.length lc), (2, .slice va l.length vc), (6, .bool false), (23, .bool true)] ⟨rfl, rfl, rfl, rfl, rfl, trivial⟩
    refine hK3 _ _ ?_
    refine wp_cond_true (A.get rfl) ?_
    refine wp_seq_k fun K4 hK4 => ?_
    refine region_seq ?_  -- region 2
    refine L_op A rfl (by decide) rfl (y_call0 (by kernel_rfl) rfl  (callN (awake_ok) fun v w Ha gG nN hf ac A => ?_))
    obtain rfl := hf
    replace S : St _ _ _ Ha := (S.new gG nN).perm (by first | exact List.Perm.refl _ | (rw [List.append_assoc]; exact List.Perm.refl _) | (simp only [List.append_assoc, List.nil_append, List.append_nil]; exact List.Perm.refl _))
    refine L_op A rfl (by decide) rfl (y_assign (A.get (s := 24) rfl) fun ac A => ?_)
    replace A := A.keep [(0, .int .i64 n), (1, .slice la ls.length lc), (2, .slice va l.length vc), (6, .bool true), (23, .bool true)] ⟨rfl, rfl, rfl, rfl, rfl, trivial⟩
    refine hK4 _ _ ?_
    exact wp_ret ⟨A.defers, _, res_run (rs := [.tmp 6]) (vs := [.bool true]) rfl ⟨A.get rfl, trivial⟩, ⟨_, rfl, S.kp.to_gr, _, rfl, S.newF⟩⟩
  | true =>
    rw [hfew] at hfewc
    have hl := fewN_len hfew (by omega)
    have hplay : ∀ w, Gr w0 w → Calls Try.prog 15 #[.int .i64 n, .slice la ls.length lc, .slice va l.length vc] w (RetN w (PlayedR n ls l)) := fun w g => played_ok (hls.gr g) (by omega) hlg (by
      obtain ⟨X, h1, h2, h3, h4⟩ := hs
      exact ⟨X, h1, h2, h3.gr g, fun i x hx => let ⟨u, e1, e2, e3⟩ := h4 i x hx; ⟨u, e1, e2.gr g, e3⟩⟩) (by omega)
    cases hnew : newM n ls with
    | none =>
      have hplay' : ∀ w, Gr w0 w → Calls Try.prog 15 #[.int .i64 n, .slice la ls.length lc, .slice va l.length vc] w (RetN w (eqv (.tuple #[.pointer none, .map none]))) := fun w g => (hplay w g).mono (by
        rintro e w' ⟨v, rfl, g, H, hr, nf⟩
        rcases hr with ⟨_, rfl, rfl⟩ | ⟨m, _, _, _, _, _, h, _⟩
        · exact ⟨_, rfl, g, [], ⟨rfl, rfl⟩, nf⟩
        · rw [hnew] at h; simp at h)
      refine enter Try.func4 rfl (n := 123) rfl (Nat.le_of_ble_eq_true rfl) fun ac A => ?_
      have S : St _ _ _ [] := St.none w0
      refine wp_seq_k fun K1 hK1 => ?_
      refine region_seq ?_  -- region 0
      refine L_op A rfl (by decide) rfl (y_assign rfl fun ac A => ?_)
      replace A := A.keep [(0, .int .i64 n), (1, .slice la ls.length lc), (2, .slice va l.length vc), (6, .bool false)] ⟨rfl, rfl, rfl, rfl, trivial⟩
      refine hK1 _ _ ?_
      refine wp_seq_k fun K2 hK2 => ?_
      refine wp_seq_k fun K3 hK3 => ?_
      refine region_seq ?_  -- region 1
      refine L_op A rfl (by decide) rfl (y_move (A.get (s := 1) rfl) fun ac A => ?_)
      refine L_op A rfl (by decide) rfl (y_lenS (e := 28) (by kernel_rfl) (A.get (s := 16) rfl) fun ac A => ?_)
      refine L_op A rfl (by decide) rfl (y_gtr (A.get (s := 17) rfl) rfl (c := false) (decide_eq_false (by omega)) fun ac A => ?_)
      refine L_op A rfl (by decide) rfl (y_move (A.get (s := 18) rfl) fun ac A => ?_)
      replace A := A.keep [(0, .int .i64 n), (1, .slice la ls.length lc), (2, .slice va l.length vc), (6, .bool false), (19, .bool false)] ⟨rfl, rfl, rfl, rfl, rfl, trivial⟩
      refine L_yes A rfl (by decide) rfl rfl (by decide) (A.get rfl) (y_move (A.get (s := 2) rfl) fun ac A => ?_)
      refine L_yes A rfl (by decide) rfl rfl (by decide) (A.get rfl) (y_call1 (by kernel_rfl) rfl (A.get (s := 20) rfl) (callN (hfewc _ S.kp.to_gr) fun v w H gG nN hf ac A => ?_))
      obtain ⟨rfl, rfl⟩ := hf
      replace S : St _ _ _ [] := S.new gG nN
      refine L_yes A rfl (by decide) rfl rfl (by decide) (A.get rfl) (y_not (A.get (s := 21) rfl) rfl fun ac A => ?_)
      refine L_op A rfl (by decide) rfl (y_pickF (A.get (s := 19) rfl) (A.get (s := 22) rfl) fun ac A => ?_)
      replace A := A.keep [(0, .int .i64 n), (1, .slice la ls.length lc), (2, .slice va l.length vc), (6, .bool false), (23, .bool false)] ⟨rfl, rfl, rfl, rfl, rfl, trivial⟩
      refine hK3 _ _ ?_
      refine wp_cond_false (A.get rfl) ?_
      refine wp_skip ?_
      refine hK2 _ _ ?_
      refine wp_seq_k fun K4 hK4 => ?_
      refine region_seq ?_  -- region 3
      refine L_op A rfl (by decide) rfl (y_move (A.get (s := 0) rfl) fun ac A => ?_)
      refine L_op A rfl (by decide) rfl (y_move (A.get (s := 1) rfl) fun ac A => ?_)
      refine L_op A rfl (by decide) rfl (y_move (A.get (s := 2) rfl) fun ac A => ?_)
      refine L_op A rfl (by decide) rfl (y_call3 (by kernel_rfl) rfl (A.get (s := 26) rfl) (A.get (s := 27) rfl) (A.get (s := 28) rfl) (callN (hplay' _ S.kp.to_gr) fun v w H gG nN hf ac A => ?_))
      obtain ⟨rfl, rfl⟩ := hf
      replace S : St _ _ _ [] := S.new gG nN
      replace A := A.keep [(0, .int .i64 n), (1, .slice la ls.length lc), (2, .slice va l.length vc), (6, .bool false), (23, .bool false), (29, .tuple #[.pointer none, .map none])] ⟨rfl, rfl, rfl, rfl, rfl, rfl, trivial⟩
      refine L_op A rfl (by decide) rfl (y_move (A.get (s := 29) rfl) fun ac A => ?_)
      refine L_op A rfl (by decide) rfl (y_extract (A.get (s := 25) rfl) rfl fun ac A => ?_)
      refine L_op A rfl (by decide) rfl (y_extract (A.get (s := 25) rfl) rfl fun ac A => ?_)
      refine L_op A rfl (by decide) rfl (y_assign (A.get (s := 30) rfl) fun ac A => ?_)
      replace A := A.keep [(0, .int .i64 n), (1, .slice la ls.length lc), (2, .slice va l.length vc), (6, .bool false), (7, .pointer none), (23, .bool false), (31, .map none)] ⟨rfl, rfl, rfl, rfl, rfl, rfl, rfl, trivial⟩
      refine L_op A rfl (by decide) rfl (y_assign (A.get (s := 31) rfl) fun ac A => ?_)
      replace A := A.keep [(0, .int .i64 n), (1, .slice la ls.length lc), (2, .slice va l.length vc), (6, .bool false), (7, .pointer none), (8, .map none), (23, .bool false)] ⟨rfl, rfl, rfl, rfl, rfl, rfl, rfl, trivial⟩
      refine hK4 _ _ ?_
      refine wp_seq_k fun K5 hK5 => ?_
      refine wp_seq_k fun K6 hK6 => ?_
      refine region_seq ?_  -- region 4
      refine L_op A rfl (by decide) rfl (y_move (A.get (s := 7) rfl) fun ac A => ?_)
      refine L_op A rfl (by decide) rfl (y_ptrNil (c := true) (by kernel_rfl) (A.get (s := 32) rfl) rfl rfl fun ac A => ?_)
      replace A := A.keep [(0, .int .i64 n), (1, .slice la ls.length lc), (2, .slice va l.length vc), (6, .bool false), (7, .pointer none), (8, .map none), (23, .bool false), (33, .bool true)] ⟨rfl, rfl, rfl, rfl, rfl, rfl, rfl, rfl, trivial⟩
      refine hK6 _ _ ?_
      refine wp_cond_true (A.get rfl) ?_
      refine wp_seq_k fun K7 hK7 => ?_
      refine region_seq ?_  -- region 5
      refine L_op A rfl (by decide) rfl (y_call0 (by kernel_rfl) rfl  (callN (awake_ok) fun v w Ha gG nN hf ac A => ?_))
      obtain rfl := hf
      replace S : St _ _ _ Ha := (S.new gG nN).perm (by first | exact List.Perm.refl _ | (rw [List.append_assoc]; exact List.Perm.refl _) | (simp only [List.append_assoc, List.nil_append, List.append_nil]; exact List.Perm.refl _))
      refine L_op A rfl (by decide) rfl (y_assign (A.get (s := 34) rfl) fun ac A => ?_)
      replace A := A.keep [(0, .int .i64 n), (1, .slice la ls.length lc), (2, .slice va l.length vc), (6, .bool true), (7, .pointer none), (8, .map none), (23, .bool false), (33, .bool true)] ⟨rfl, rfl, rfl, rfl, rfl, rfl, rfl, rfl, trivial⟩
      refine hK7 _ _ ?_
      exact wp_ret ⟨A.defers, _, res_run (rs := [.tmp 6]) (vs := [.bool true]) rfl ⟨A.get rfl, trivial⟩, ⟨_, rfl, S.kp.to_gr, _, rfl, S.newF⟩⟩
    | some m0 =>
      obtain ⟨hn0, hn1, hn2, _, _⟩ := newM_ok hnew
      have hgood := play_good hnew l
      have hnodes := (play_nodes (m := m0) l).trans hn0
      have hsl := play_sent_len m0 l
      have hsf := play_sent_few m0 l
      generalize hpl : play m0 l = pr at hgood hnodes hsl hsf
      obtain ⟨m1, sn⟩ := pr
      dsimp only at hgood hnodes hsl hsf
      have hplay' : ∀ w, Gr w0 w → Calls Try.prog 15 #[.int .i64 n, .slice la ls.length lc, .slice va l.length vc] w (RetN w (fun r H => ∃ p q Hn oq es, r = .tuple #[.pointer (some ⟨p, 0, none⟩), .map (some q)] ∧ NetRep p m1 Hn ∧ SentP sn oq es ∧ H = Hn ++ ((q, oq) :: seH es))) := fun w g => (hplay w g).mono (by
        rintro e w' ⟨v, rfl, g, H, hr, nf⟩
        rcases hr with ⟨h, _⟩ | ⟨m, p, q, Hn, oq, es, h, rfl, h2, h3, rfl⟩
        · rw [hnew] at h; simp at h
        · rw [hnew] at h; cases h
          rw [hpl] at h2 h3
          exact ⟨_, rfl, g, _, ⟨p, q, Hn, oq, es, rfl, h2, h3, rfl⟩, nf⟩)
      refine enter Try.func4 rfl (n := 123) rfl (Nat.le_of_ble_eq_true rfl) fun ac A => ?_
      have S : St _ _ _ [] := St.none w0
      refine wp_seq_k fun K1 hK1 => ?_
      refine region_seq ?_  -- region 0
      refine L_op A rfl (by decide) rfl (y_assign rfl fun ac A => ?_)
      replace A := A.keep [(0, .int .i64 n), (1, .slice la ls.length lc), (2, .slice va l.length vc), (6, .bool false)] ⟨rfl, rfl, rfl, rfl, trivial⟩
      refine hK1 _ _ ?_
      refine wp_seq_k fun K2 hK2 => ?_
      refine wp_seq_k fun K3 hK3 => ?_
      refine region_seq ?_  -- region 1
      refine L_op A rfl (by decide) rfl (y_move (A.get (s := 1) rfl) fun ac A => ?_)
      refine L_op A rfl (by decide) rfl (y_lenS (e := 28) (by kernel_rfl) (A.get (s := 16) rfl) fun ac A => ?_)
      refine L_op A rfl (by decide) rfl (y_gtr (A.get (s := 17) rfl) rfl (c := false) (decide_eq_false (by omega)) fun ac A => ?_)
      refine L_op A rfl (by decide) rfl (y_move (A.get (s := 18) rfl) fun ac A => ?_)
      replace A := A.keep [(0, .int .i64 n), (1, .slice la ls.length lc), (2, .slice va l.length vc), (6, .bool false), (19, .bool false)] ⟨rfl, rfl, rfl, rfl, rfl, trivial⟩
      refine L_yes A rfl (by decide) rfl rfl (by decide) (A.get rfl) (y_move (A.get (s := 2) rfl) fun ac A => ?_)
      refine L_yes A rfl (by decide) rfl rfl (by decide) (A.get rfl) (y_call1 (by kernel_rfl) rfl (A.get (s := 20) rfl) (callN (hfewc _ S.kp.to_gr) fun v w H gG nN hf ac A => ?_))
      obtain ⟨rfl, rfl⟩ := hf
      replace S : St _ _ _ [] := S.new gG nN
      refine L_yes A rfl (by decide) rfl rfl (by decide) (A.get rfl) (y_not (A.get (s := 21) rfl) rfl fun ac A => ?_)
      refine L_op A rfl (by decide) rfl (y_pickF (A.get (s := 19) rfl) (A.get (s := 22) rfl) fun ac A => ?_)
      replace A := A.keep [(0, .int .i64 n), (1, .slice la ls.length lc), (2, .slice va l.length vc), (6, .bool false), (23, .bool false)] ⟨rfl, rfl, rfl, rfl, rfl, trivial⟩
      refine hK3 _ _ ?_
      refine wp_cond_false (A.get rfl) ?_
      refine wp_skip ?_
      refine hK2 _ _ ?_
      refine wp_seq_k fun K4 hK4 => ?_
      refine region_seq ?_  -- region 3
      refine L_op A rfl (by decide) rfl (y_move (A.get (s := 0) rfl) fun ac A => ?_)
      refine L_op A rfl (by decide) rfl (y_move (A.get (s := 1) rfl) fun ac A => ?_)
      refine L_op A rfl (by decide) rfl (y_move (A.get (s := 2) rfl) fun ac A => ?_)
      refine L_op A rfl (by decide) rfl (y_call3 (by kernel_rfl) rfl (A.get (s := 26) rfl) (A.get (s := 27) rfl) (A.get (s := 28) rfl) (callN (hplay' _ S.kp.to_gr) fun vp w Hp gG nN hf ac A => ?_))
      obtain ⟨p, q, Hn, oq, es, rfl, hN, hE, rfl⟩ := hf
      replace S := S.new gG nN
      replace S : St _ _ _ ([(q, oq)] ++ (Hn ++ (seH es))) := S.perm (by classical rw [List.perm_iff_count]; intro x; simp only [List.count_append, List.count_cons, List.count_nil] <;> omega)
      replace A := A.keep [(0, .int .i64 n), (1, .slice la ls.length lc), (2, .slice va l.length vc), (6, .bool false), (23, .bool false), (29, .tuple #[.pointer (some ⟨p, 0, none⟩), .map (some q)])] ⟨rfl, rfl, rfl, rfl, rfl, rfl, trivial⟩
      refine L_op A rfl (by decide) rfl (y_move (A.get (s := 29) rfl) fun ac A => ?_)
      refine L_op A rfl (by decide) rfl (y_extract (A.get (s := 25) rfl) rfl fun ac A => ?_)
      refine L_op A rfl (by decide) rfl (y_extract (A.get (s := 25) rfl) rfl fun ac A => ?_)
      refine L_op A rfl (by decide) rfl (y_assign (A.get (s := 30) rfl) fun ac A => ?_)
      replace A := A.keep [(0, .int .i64 n), (1, .slice la ls.length lc), (2, .slice va l.length vc), (6, .bool false), (7, .pointer (some ⟨p, 0, none⟩)), (23, .bool false), (31, .map (some q))] ⟨rfl, rfl, rfl, rfl, rfl, rfl, rfl, trivial⟩
      refine L_op A rfl (by decide) rfl (y_assign (A.get (s := 31) rfl) fun ac A => ?_)
      replace A := A.keep [(0, .int .i64 n), (1, .slice la ls.length lc), (2, .slice va l.length vc), (6, .bool false), (7, .pointer (some ⟨p, 0, none⟩)), (8, .map (some q)), (23, .bool false)] ⟨rfl, rfl, rfl, rfl, rfl, rfl, rfl, trivial⟩
      refine hK4 _ _ ?_
      refine wp_seq_k fun K5 hK5 => ?_
      refine wp_seq_k fun K6 hK6 => ?_
      refine region_seq ?_  -- region 4
      refine L_op A rfl (by decide) rfl (y_move (A.get (s := 7) rfl) fun ac A => ?_)
      refine L_op A rfl (by decide) rfl (y_ptrNil (c := false) (by kernel_rfl) (A.get (s := 32) rfl) rfl rfl fun ac A => ?_)
      replace A := A.keep [(0, .int .i64 n), (1, .slice la ls.length lc), (2, .slice va l.length vc), (6, .bool false), (7, .pointer (some ⟨p, 0, none⟩)), (8, .map (some q)), (23, .bool false), (33, .bool false)] ⟨rfl, rfl, rfl, rfl, rfl, rfl, rfl, rfl, trivial⟩
      refine hK6 _ _ ?_
      refine wp_cond_false (A.get rfl) ?_
      refine wp_skip ?_
      refine hK5 _ _ ?_
      refine wp_seq_k fun K7 hK7 => ?_
      refine wp_seq_k fun K8 hK8 => ?_
      refine region_seq ?_  -- region 6
      refine L_op A rfl (by decide) rfl (y_assign rfl fun ac A => ?_)
      replace A := A.keep [(0, .int .i64 n), (1, .slice la ls.length lc), (2, .slice va l.length vc), (6, .bool false), (7, .pointer (some ⟨p, 0, none⟩)), (8, .map (some q)), (9, .int .i64 1), (23, .bool false), (33, .bool false)] ⟨rfl, rfl, rfl, rfl, rfl, rfl, rfl, rfl, rfl, trivial⟩
      refine hK8 _ _ ?_
      refine wp_block ?_
      replace A := A.keep [(7, .pointer (some ⟨p, 0, none⟩)), (8, .map (some q)), (9, .int .i64 1)] ⟨rfl, rfl, rfl, trivial⟩
      replace S : St _ _ _ ([(q, oq)] ++ (Hn ++ (seH es))) := S.perm (by classical rw [List.perm_iff_count]; intro x; simp only [List.count_append, List.count_cons, List.count_nil] <;> omega)
      refine wp_loop_ghost (fun kk ac w' => ∃ (i : Nat) (m : M) (Hn : Frag), kk + i = 12 ∧ 1 ≤ i ∧ Sl 123 ac [(7, .pointer (some ⟨p, 0, none⟩)), (8, .map (some q)), (9, .int .i64 ((i : Nat) : Int))] ∧ Good m sn ∧ m.nodes = n ∧ St [] w0 w' ([(q, oq)] ++ (Hn ++ seH es)) ∧ NetRep p m Hn) 11 ⟨1, m1, Hn, by simp, by simp, A, hgood, hnodes, S, hN⟩ ?_
      clear A S hN
      rintro kk ac w2 ⟨i, m, Hn, hkk, hi1, A, hg, hnd, S, hN⟩
      by_cases hi : (i : Int) ≤ n
      · skip
        refine wp_seq_k fun K9 hK9 => ?_
        refine wp_seq_k fun K10 hK10 => ?_
        refine region_seq ?_  -- region 7
        refine L_op A rfl (by decide) rfl (y_move (A.get (s := 9) rfl) fun ac A => ?_)
        refine L_op A rfl (by decide) rfl (y_move (A.get (s := 7) rfl) fun ac A => ?_)
        refine L_op A rfl (by decide) rfl (y_call1 (by kernel_rfl) rfl (A.get (s := 36) rfl) (callN ((hnd ▸ nodes_ok hN (St.app_left (H := Hn) (K := ([(q, oq)] ++ (seH es))) (S.perm (by classical rw [List.perm_iff_count]; intro x; simp only [List.count_append, List.count_cons, List.count_nil] <;> omega))).holds)) fun v w H gG nN hf ac A => ?_))
        obtain ⟨rfl, rfl⟩ := hf
        replace S : St _ _ _ ([(q, oq)] ++ (Hn ++ (seH es))) := (S.new gG nN).perm (by first | exact List.Perm.refl _ | (rw [List.append_assoc]; exact List.Perm.refl _) | (simp only [List.append_assoc, List.nil_append, List.append_nil]; exact List.Perm.refl _))
        refine L_op A rfl (by decide) rfl (y_leq (A.get (s := 35) rfl) (A.get (s := 37) rfl) (c := true) (decide_eq_true hi) fun ac A => ?_)
        replace A := A.keep [(7, .pointer (some ⟨p, 0, none⟩)), (8, .map (some q)), (9, .int .i64 (((i : Nat) : Int))), (38, .bool true)] ⟨rfl, rfl, rfl, rfl, trivial⟩
        refine hK10 _ _ ?_
        refine wp_cond_true (A.get rfl) ?_
        refine wp_skip ?_
        refine hK9 _ _ ?_
        refine wp_seq_k fun K11 hK11 => ?_
        refine wp_block ?_
        refine wp_seq_k fun K12 hK12 => ?_
        refine region_seq ?_  -- region 9
        refine L_op A rfl (by decide) rfl (y_assign rfl fun ac A => ?_)
        replace A := A.keep [(7, .pointer (some ⟨p, 0, none⟩)), (8, .map (some q)), (9, .int .i64 (((i : Nat) : Int))), (10, .int .i64 1), (38, .bool true)] ⟨rfl, rfl, rfl, rfl, rfl, trivial⟩
        refine hK12 _ _ ?_
        refine wp_block ?_
        replace A := A.keep [(7, .pointer (some ⟨p, 0, none⟩)), (8, .map (some q)), (9, .int .i64 (((i : Nat) : Int))), (10, .int .i64 1)] ⟨rfl, rfl, rfl, rfl, trivial⟩
        replace S : St _ _ _ ([(q, oq)] ++ (Hn ++ (seH es))) := S.perm (by classical rw [List.perm_iff_count]; intro x; simp only [List.count_append, List.count_cons, List.count_nil] <;> omega)
        refine wp_loop_ghost (fun k2 ac w' => ∃ (j : Nat) (m : M) (Hn : Frag), k2 + j = 12 ∧ 1 ≤ j ∧ Sl 123 ac [(7, .pointer (some ⟨p, 0, none⟩)), (8, .map (some q)), (9, .int .i64 ((i : Nat) : Int)), (10, .int .i64 ((j : Nat) : Int))] ∧ Good m sn ∧ m.nodes = n ∧ St [] w0 w' ([(q, oq)] ++ (Hn ++ seH es)) ∧ NetRep p m Hn) 11 ⟨1, m, Hn, by simp, by simp, A, hg, hnd, S, hN⟩ ?_
        clear A S hN hg hnd
        rintro k2 ac w3 ⟨j, m, Hn, hk2, hj1, A, hg, hnd, S, hN⟩
        by_cases hj : (j : Int) ≤ n
        · have i64i : i64 ((i : Nat) : Int) := ⟨by omega, by omega⟩
          have i64j : i64 ((j : Nat) : Int) := ⟨by omega, by omega⟩
          have hq24 := few_of hN (((i : Nat) : Int), ((j : Nat) : Int))
          have hopn := hg.opn (((i : Nat) : Int), ((j : Nat) : Int))
          by_cases hq0 : 0 < (m.q (((i : Nat) : Int), ((j : Nat) : Int))).length
          · skip
            have hop : m.open' ((i : Nat) : Int) ((j : Nat) : Int) = true := by have := hopn (List.ne_nil_of_length_pos hq0); simp only at this; simp [M.open', this]
            refine wp_seq_k fun K13 hK13 => ?_
            refine wp_seq_k fun K14 hK14 => ?_
            refine region_seq ?_  -- region 10
            refine L_op A rfl (by decide) rfl (y_move (A.get (s := 10) rfl) fun ac A => ?_)
            refine L_op A rfl (by decide) rfl (y_move (A.get (s := 7) rfl) fun ac A => ?_)
            refine L_op A rfl (by decide) rfl (y_call1 (by kernel_rfl) rfl (A.get (s := 42) rfl) (callN ((hnd ▸ nodes_ok hN (St.app_left (H := Hn) (K := ([(q, oq)] ++ (seH es))) (S.perm (by classical rw [List.perm_iff_count]; intro x; simp only [List.count_append, List.count_cons, List.count_nil] <;> omega))).holds)) fun v w H gG nN hf ac A => ?_))
            obtain ⟨rfl, rfl⟩ := hf
            replace S : St _ _ _ ([(q, oq)] ++ (Hn ++ (seH es))) := (S.new gG nN).perm (by first | exact List.Perm.refl _ | (rw [List.append_assoc]; exact List.Perm.refl _) | (simp only [List.append_assoc, List.nil_append, List.append_nil]; exact List.Perm.refl _))
            refine L_op A rfl (by decide) rfl (y_leq (A.get (s := 41) rfl) (A.get (s := 43) rfl) (c := true) (decide_eq_true hj) fun ac A => ?_)
            replace A := A.keep [(7, .pointer (some ⟨p, 0, none⟩)), (8, .map (some q)), (9, .int .i64 (((i : Nat) : Int))), (10, .int .i64 (((j : Nat) : Int))), (44, .bool true)] ⟨rfl, rfl, rfl, rfl, rfl, trivial⟩
            refine hK14 _ _ ?_
            refine wp_cond_true (A.get rfl) ?_
            refine wp_skip ?_
            refine hK13 _ _ ?_
            refine wp_seq_k fun K15 hK15 => ?_
            refine wp_block ?_
            refine wp_seq_k fun K16 hK16 => ?_
            refine wp_seq_k fun K17 hK17 => ?_
            refine region_seq ?_  -- region 12
            refine L_op A rfl (by decide) rfl (y_move (A.get (s := 7) rfl) fun ac A => ?_)
            refine L_op A rfl (by decide) rfl (y_move (A.get (s := 9) rfl) fun ac A => ?_)
            refine L_op A rfl (by decide) rfl (y_move (A.get (s := 10) rfl) fun ac A => ?_)
            refine L_op A rfl (by decide) rfl (y_call3 (by kernel_rfl) rfl (A.get (s := 47) rfl) (A.get (s := 48) rfl) (A.get (s := 49) rfl) (callN (len_is (m := m) rfl hN (St.app_left (H := Hn) (K := ([(q, oq)] ++ (seH es))) (S.perm (by classical rw [List.perm_iff_count]; intro x; simp only [List.count_append, List.count_cons, List.count_nil] <;> omega))).holds i64i i64j) fun v w H gG nN hf ac A => ?_))
            obtain ⟨rfl, rfl⟩ := hf
            replace S : St _ _ _ ([(q, oq)] ++ (Hn ++ (seH es))) := (S.new gG nN).perm (by first | exact List.Perm.refl _ | (rw [List.append_assoc]; exact List.Perm.refl _) | (simp only [List.append_assoc, List.nil_append, List.append_nil]; exact List.Perm.refl _))
            replace A := A.keep [(7, .pointer (some ⟨p, 0, none⟩)), (8, .map (some q)), (9, .int .i64 (((i : Nat) : Int))), (10, .int .i64 (((j : Nat) : Int))), (44, .bool true), (50, .int .i64 ((m.q (((i : Nat) : Int), ((j : Nat) : Int))).length))] ⟨rfl, rfl, rfl, rfl, rfl, rfl, trivial⟩
            refine L_op A rfl (by decide) rfl (y_gtr (A.get (s := 50) rfl) rfl (c := false) (decide_eq_false (by omega)) fun ac A => ?_)
            refine L_op A rfl (by decide) rfl (y_move (A.get (s := 51) rfl) fun ac A => ?_)
            refine L_yes A rfl (by decide) rfl rfl (by decide) (A.get rfl) (y_move (A.get (s := 7) rfl) fun ac A => ?_)
            refine L_yes A rfl (by decide) rfl rfl (by decide) (A.get rfl) (y_move (A.get (s := 9) rfl) fun ac A => ?_)
            replace A := A.keep [(7, .pointer (some ⟨p, 0, none⟩)), (8, .map (some q)), (9, .int .i64 (((i : Nat) : Int))), (10, .int .i64 (((j : Nat) : Int))), (44, .bool true), (52, .bool false), (53, .pointer (some ⟨p, 0, none⟩)), (54, .int .i64 (((i : Nat) : Int)))] ⟨rfl, rfl, rfl, rfl, rfl, rfl, rfl, rfl, trivial⟩
            refine L_yes A rfl (by decide) rfl rfl (by decide) (A.get rfl) (y_move (A.get (s := 10) rfl) fun ac A => ?_)
            refine L_yes A rfl (by decide) rfl rfl (by decide) (A.get rfl) (y_call3 (by kernel_rfl) rfl (A.get (s := 53) rfl) (A.get (s := 54) rfl) (A.get (s := 55) rfl) (callN (len_is (m := m) rfl hN (St.app_left (H := Hn) (K := ([(q, oq)] ++ (seH es))) (S.perm (by classical rw [List.perm_iff_count]; intro x; simp only [List.count_append, List.count_cons, List.count_nil] <;> omega))).holds i64i i64j) fun v w H gG nN hf ac A => ?_))
            obtain ⟨rfl, rfl⟩ := hf
            replace S : St _ _ _ ([(q, oq)] ++ (Hn ++ (seH es))) := (S.new gG nN).perm (by first | exact List.Perm.refl _ | (rw [List.append_assoc]; exact List.Perm.refl _) | (simp only [List.append_assoc, List.nil_append, List.append_nil]; exact List.Perm.refl _))
            refine L_yes A rfl (by decide) rfl rfl (by decide) (A.get rfl) (y_gtr (A.get (s := 56) rfl) rfl (c := true) (decide_eq_true (by omega)) fun ac A => ?_)
            refine L_yes A rfl (by decide) rfl rfl (by decide) (A.get rfl) (y_move (A.get (s := 57) rfl) fun ac A => ?_)
            replace A := A.keep [(7, .pointer (some ⟨p, 0, none⟩)), (8, .map (some q)), (9, .int .i64 (((i : Nat) : Int))), (10, .int .i64 (((j : Nat) : Int))), (44, .bool true), (52, .bool false), (58, .bool true)] ⟨rfl, rfl, rfl, rfl, rfl, rfl, rfl, trivial⟩
            refine L_yes A rfl (by decide) rfl rfl (by decide) (A.get rfl) (y_move (A.get (s := 7) rfl) fun ac A => ?_)
            refine L_yes A rfl (by decide) rfl rfl (by decide) (A.get rfl) (y_move (A.get (s := 9) rfl) fun ac A => ?_)
            refine L_yes A rfl (by decide) rfl rfl (by decide) (A.get rfl) (y_move (A.get (s := 10) rfl) fun ac A => ?_)
            refine L_yes A rfl (by decide) rfl rfl (by decide) (A.get rfl) (y_call3 (by kernel_rfl) rfl (A.get (s := 59) rfl) (A.get (s := 60) rfl) (A.get (s := 61) rfl) (callN (open_is hop hN (St.app_left (H := Hn) (K := ([(q, oq)] ++ (seH es))) (S.perm (by classical rw [List.perm_iff_count]; intro x; simp only [List.count_append, List.count_cons, List.count_nil] <;> omega))).holds i64i i64j) fun v w H gG nN hf ac A => ?_))
            obtain ⟨rfl, rfl⟩ := hf
            replace S : St _ _ _ ([(q, oq)] ++ (Hn ++ (seH es))) := (S.new gG nN).perm (by first | exact List.Perm.refl _ | (rw [List.append_assoc]; exact List.Perm.refl _) | (simp only [List.append_assoc, List.nil_append, List.append_nil]; exact List.Perm.refl _))
            replace A := A.keep [(7, .pointer (some ⟨p, 0, none⟩)), (8, .map (some q)), (9, .int .i64 (((i : Nat) : Int))), (10, .int .i64 (((j : Nat) : Int))), (44, .bool true), (52, .bool false), (58, .bool true), (62, .bool true)] ⟨rfl, rfl, rfl, rfl, rfl, rfl, rfl, rfl, trivial⟩
            refine L_yes A rfl (by decide) rfl rfl (by decide) (A.get rfl) (y_not (A.get (s := 62) rfl) rfl fun ac A => ?_)
            refine L_yes A rfl (by decide) rfl rfl (by decide) (A.get rfl) (y_pickT (A.get (s := 58) rfl) (A.get (s := 63) rfl) fun ac A => ?_)
            refine L_op A rfl (by decide) rfl (y_pickF (A.get (s := 52) rfl) (A.get (s := 64) rfl) fun ac A => ?_)
            replace A := A.keep [(7, .pointer (some ⟨p, 0, none⟩)), (8, .map (some q)), (9, .int .i64 (((i : Nat) : Int))), (10, .int .i64 (((j : Nat) : Int))), (44, .bool true), (65, .bool false)] ⟨rfl, rfl, rfl, rfl, rfl, rfl, trivial⟩
            refine hK17 _ _ ?_
            refine wp_cond_false (A.get rfl) ?_
            refine wp_skip ?_
            refine hK16 _ _ ?_
            refine wp_block ?_
            replace A := A.keep [(7, .pointer (some ⟨p, 0, none⟩)), (8, .map (some q)), (9, .int .i64 (((i : Nat) : Int))), (10, .int .i64 (((j : Nat) : Int)))] ⟨rfl, rfl, rfl, rfl, trivial⟩
            replace S : St _ _ _ ([(q, oq)] ++ (Hn ++ (seH es))) := S.perm (by classical rw [List.perm_iff_count]; intro x; simp only [List.count_append, List.count_cons, List.count_nil] <;> omega)
            refine wp_loop_ghost (fun k3 ac w' => ∃ (m : M) (Hn : Frag), (m.q (((i : Nat) : Int), ((j : Nat) : Int))).length = k3 ∧ Sl 123 ac [(7, .pointer (some ⟨p, 0, none⟩)), (8, .map (some q)), (9, .int .i64 ((i : Nat) : Int)), (10, .int .i64 ((j : Nat) : Int))] ∧ Good m sn ∧ m.nodes = n ∧ St [] w0 w' ([(q, oq)] ++ (Hn ++ seH es)) ∧ NetRep p m Hn) _ ⟨m, Hn, rfl, A, hg, hnd, S, hN⟩ ?_
            clear A S hN hg hnd hq24 hopn hq0 hop
            rintro k3 ac w4 ⟨m, Hn, hk3, A, hg, hnd, S, hN⟩
            have hq24 := few_of hN (((i : Nat) : Int), ((j : Nat) : Int))
            rcases Nat.eq_zero_or_pos k3 with hz | hz
            · subst hz
              refine wp_seq_k fun K18 hK18 => ?_
              refine wp_seq_k fun K19 hK19 => ?_
              refine region_seq ?_  -- region 14
              refine L_op A rfl (by decide) rfl (y_move (A.get (s := 7) rfl) fun ac A => ?_)
              refine L_op A rfl (by decide) rfl (y_move (A.get (s := 9) rfl) fun ac A => ?_)
              refine L_op A rfl (by decide) rfl (y_move (A.get (s := 10) rfl) fun ac A => ?_)
              refine L_op A rfl (by decide) rfl (y_call3 (by kernel_rfl) rfl (A.get (s := 66) rfl) (A.get (s := 67) rfl) (A.get (s := 68) rfl) (callN (len_is (m := m) hk3 hN (St.app_left (H := Hn) (K := ([(q, oq)] ++ (seH es))) (S.perm (by classical rw [List.perm_iff_count]; intro x; simp only [List.count_append, List.count_cons, List.count_nil] <;> omega))).holds i64i i64j) fun v w H gG nN hf ac A => ?_))
              obtain ⟨rfl, rfl⟩ := hf
              replace S : St _ _ _ ([(q, oq)] ++ (Hn ++ (seH es))) := (S.new gG nN).perm (by first | exact List.Perm.refl _ | (rw [List.append_assoc]; exact List.Perm.refl _) | (simp only [List.append_assoc, List.nil_append, List.append_nil]; exact List.Perm.refl _))
              refine L_op A rfl (by decide) rfl (y_gtr (A.get (s := 69) rfl) rfl (c := false) (decide_eq_false (by omega)) fun ac A => ?_)
              replace A := A.keep [(7, .pointer (some ⟨p, 0, none⟩)), (8, .map (some q)), (9, .int .i64 (((i : Nat) : Int))), (10, .int .i64 (((j : Nat) : Int))), (70, .bool false)] ⟨rfl, rfl, rfl, rfl, rfl, trivial⟩
              refine hK19 _ _ ?_
              refine wp_cond_false (A.get rfl) ?_
              refine wp_exit ?_
              refine hK15 _ _ ?_
              refine region_seq ?_  -- region 11
              refine L_op A rfl (by decide) rfl (y_move (A.get (s := 10) rfl) fun ac A => ?_)
              refine L_op A rfl (by decide) rfl (y_add (A.get (s := 45) rfl) rfl (c := ((j + 1 : Nat) : Int)) ((wrap64 (by omega)).trans (by omega)) fun ac A => ?_)
              refine L_op A rfl (by decide) rfl (y_assign (A.get (s := 46) rfl) fun ac A => ?_)
              replace A := A.keep [(7, .pointer (some ⟨p, 0, none⟩)), (8, .map (some q)), (9, .int .i64 (((i : Nat) : Int))), (10, .int .i64 (((j + 1 : Nat) : Int))), (70, .bool false)] ⟨rfl, rfl, rfl, rfl, rfl, trivial⟩
              replace A := A.keep [(7, .pointer (some ⟨p, 0, none⟩)), (8, .map (some q)), (9, .int .i64 (((i : Nat) : Int))), (10, .int .i64 (((j + 1 : Nat) : Int)))] ⟨rfl, rfl, rfl, rfl, trivial⟩
              replace S : St _ _ _ ([(q, oq)] ++ (Hn ++ (seH es))) := S.perm (by classical rw [List.perm_iff_count]; intro x; simp only [List.count_append, List.count_cons, List.count_nil] <;> omega)
              exact ⟨k2 - 1, by omega, j + 1, _, _, by omega, by omega, A, hg, hnd, S, hN⟩
            · obtain ⟨qq, x, hqx⟩ : ∃ qq x, m.q (((i : Nat) : Int), ((j : Nat) : Int)) = qq ++ [x] := ⟨_, _, (List.dropLast_concat_getLast (List.ne_nil_of_length_pos (by omega))).symm⟩
              have hql : k3 = qq.length + 1 := by rw [← hk3, hqx]; simp
              have hx : x ∈ m.q (((i : Nat) : Int), ((j : Nat) : Int)) := by rw [hqx]; simp
              have hlk := hg.opn (((i : Nat) : Int), ((j : Nat) : Int)) (List.ne_nil_of_mem hx)
              have htk := take_last hlk hqx
              have hany := (hg.snt _ x hx).any
              have hxl := bs_len hN hx
              have hg' : Good (m.setq (((i : Nat) : Int), ((j : Nat) : Int)) qq) sn := hg.sub (fun y hy => by rw [hqx]; exact List.mem_append_left _ hy)
              refine wp_seq_k fun K20 hK20 => ?_
              refine wp_seq_k fun K21 hK21 => ?_
              refine region_seq ?_  -- region 14
              refine L_op A rfl (by decide) rfl (y_move (A.get (s := 7) rfl) fun ac A => ?_)
              refine L_op A rfl (by decide) rfl (y_move (A.get (s := 9) rfl) fun ac A => ?_)
              refine L_op A rfl (by decide) rfl (y_move (A.get (s := 10) rfl) fun ac A => ?_)
              refine L_op A rfl (by decide) rfl (y_call3 (by kernel_rfl) rfl (A.get (s := 66) rfl) (A.get (s := 67) rfl) (A.get (s := 68) rfl) (callN (len_is (m := m) hk3 hN (St.app_left (H := Hn) (K := ([(q, oq)] ++ (seH es))) (S.perm (by classical rw [List.perm_iff_count]; intro x; simp only [List.count_append, List.count_cons, List.count_nil] <;> omega))).holds i64i i64j) fun v w H gG nN hf ac A => ?_))
              obtain ⟨rfl, rfl⟩ := hf
              replace S : St _ _ _ ([(q, oq)] ++ (Hn ++ (seH es))) := (S.new gG nN).perm (by first | exact List.Perm.refl _ | (rw [List.append_assoc]; exact List.Perm.refl _) | (simp only [List.append_assoc, List.nil_append, List.append_nil]; exact List.Perm.refl _))
              refine L_op A rfl (by decide) rfl (y_gtr (A.get (s := 69) rfl) rfl (c := true) (decide_eq_true (by omega)) fun ac A => ?_)
              replace A := A.keep [(7, .pointer (some ⟨p, 0, none⟩)), (8, .map (some q)), (9, .int .i64 (((i : Nat) : Int))), (10, .int .i64 (((j : Nat) : Int))), (70, .bool true)] ⟨rfl, rfl, rfl, rfl, rfl, trivial⟩
              refine hK21 _ _ ?_
              refine wp_cond_true (A.get rfl) ?_
              refine wp_skip ?_
              refine hK20 _ _ ?_
              refine wp_block ?_
              refine wp_seq_k fun K22 hK22 => ?_
              refine region_seq ?_  -- region 15
              refine L_op A rfl (by decide) rfl (y_move (A.get (s := 7) rfl) fun ac A => ?_)
              refine L_op A rfl (by decide) rfl (y_move (A.get (s := 9) rfl) fun ac A => ?_)
              refine L_op A rfl (by decide) rfl (y_move (A.get (s := 10) rfl) fun ac A => ?_)
              refine L_op A rfl (by decide) rfl (y_call3 (by kernel_rfl) rfl (A.get (s := 71) rfl) (A.get (s := 72) rfl) (A.get (s := 73) rfl) (callN (len_is (m := m) hk3 hN (St.app_left (H := Hn) (K := ([(q, oq)] ++ (seH es))) (S.perm (by classical rw [List.perm_iff_count]; intro x; simp only [List.count_append, List.count_cons, List.count_nil] <;> omega))).holds i64i i64j) fun v w H gG nN hf ac A => ?_))
              obtain ⟨rfl, rfl⟩ := hf
              replace S : St _ _ _ ([(q, oq)] ++ (Hn ++ (seH es))) := (S.new gG nN).perm (by first | exact List.Perm.refl _ | (rw [List.append_assoc]; exact List.Perm.refl _) | (simp only [List.append_assoc, List.nil_append, List.append_nil]; exact List.Perm.refl _))
              refine L_op A rfl (by decide) rfl (y_assign (A.get (s := 74) rfl) fun ac A => ?_)
              replace A := A.keep [(7, .pointer (some ⟨p, 0, none⟩)), (8, .map (some q)), (9, .int .i64 (((i : Nat) : Int))), (10, .int .i64 (((j : Nat) : Int))), (11, .int .i64 (((k3 : Nat) : Int))), (70, .bool true)] ⟨rfl, rfl, rfl, rfl, rfl, rfl, trivial⟩
              refine hK22 _ _ ?_
              refine wp_seq_k fun K23 hK23 => ?_
              refine region_seq ?_  -- region 16
              refine L_op A rfl (by decide) rfl (y_move (A.get (s := 7) rfl) fun ac A => ?_)
              refine L_op A rfl (by decide) rfl (y_move (A.get (s := 9) rfl) fun ac A => ?_)
              refine L_op A rfl (by decide) rfl (y_move (A.get (s := 10) rfl) fun ac A => ?_)
              refine L_op A rfl (by decide) rfl (y_move (A.get (s := 11) rfl) fun ac A => ?_)
              replace A := A.keep [(7, .pointer (some ⟨p, 0, none⟩)), (8, .map (some q)), (9, .int .i64 (((i : Nat) : Int))), (10, .int .i64 (((j : Nat) : Int))), (11, .int .i64 (((k3 : Nat) : Int))), (70, .bool true), (76, .pointer (some ⟨p, 0, none⟩)), (77, .int .i64 (((i : Nat) : Int))), (78, .int .i64 (((j : Nat) : Int))), (79, .int .i64 (((k3 : Nat) : Int)))] ⟨rfl, rfl, rfl, rfl, rfl, rfl, rfl, rfl, rfl, rfl, trivial⟩
              refine L_op A rfl (by decide) rfl (y_sub (A.get (s := 79) rfl) rfl (c := ((qq.length : Nat) : Int)) ((wrap64 (by omega)).trans (by omega)) fun ac A => ?_)
              replace S : St _ _ _ (Hn ++ ([(q, oq)] ++ (seH es))) := S.perm (by classical rw [List.perm_iff_count]; intro x; simp only [List.count_append, List.count_cons, List.count_nil] <;> omega)
              refine L_op A rfl (by decide) rfl (y_call4 (by kernel_rfl) rfl (A.get (s := 76) rfl) (A.get (s := 77) rfl) (A.get (s := 78) rfl) (A.get (s := 80) rfl) (callW (take_is htk hN S.app_left.nd S.app_left.holds i64i i64j) fun v w Hx s hf ac A => ?_))
              replace S : St _ _ _ (Hx ++ ([(q, oq)] ++ (seH es))) := St.call (H := Hn) (R := ([(q, oq)] ++ (seH es))) S rfl s
              obtain ⟨vb, Hb, Hm1, rfl, hB, rfl, hN⟩ := hf
              replace S : St _ _ _ ((Hm1 ++ Hb) ++ ([(q, oq)] ++ (seH es))) := S
              replace S : St _ _ _ (Hm1 ++ (Hb ++ ([(q, oq)] ++ (seH es)))) := S.perm (by classical rw [List.perm_iff_count]; intro x; simp only [List.count_append, List.count_cons, List.count_nil] <;> omega)
              replace S : St _ _ _ ([(q, oq)] ++ (Hm1 ++ (Hb ++ (seH es)))) := S.perm (by classical rw [List.perm_iff_count]; intro x; simp only [List.count_append, List.count_cons, List.count_nil] <;> omega)
              obtain ⟨ta, tc, rfl⟩ := SlRep.len hB
              refine L_op A rfl (by decide) rfl (y_move (A.get (s := 81) rfl) fun ac A => ?_)
              refine L_op A rfl (by decide) rfl (y_extract (A.get (s := 75) rfl) rfl fun ac A => ?_)
              replace A := A.keep [(7, .pointer (some ⟨p, 0, none⟩)), (8, .map (some q)), (9, .int .i64 (((i : Nat) : Int))), (10, .int .i64 (((j : Nat) : Int))), (11, .int .i64 (((k3 : Nat) : Int))), (70, .bool true), (75, .tuple #[.slice ta x.1.length tc, .int .i64 0]), (82, .slice ta x.1.length tc)] ⟨rfl, rfl, rfl, rfl, rfl, rfl, rfl, rfl, trivial⟩
              refine L_op A rfl (by decide) rfl (y_extract (A.get (s := 75) rfl) rfl fun ac A => ?_)
              refine L_op A rfl (by decide) rfl (y_assign (A.get (s := 82) rfl) fun ac A => ?_)
              refine L_op A rfl (by decide) rfl (y_assign (A.get (s := 83) rfl) fun ac A => ?_)
              replace A := A.keep [(7, .pointer (some ⟨p, 0, none⟩)), (8, .map (some q)), (9, .int .i64 (((i : Nat) : Int))), (10, .int .i64 (((j : Nat) : Int))), (11, .int .i64 (((k3 : Nat) : Int))), (12, .slice ta x.1.length tc), (13, .int .i64 0), (70, .bool true)] ⟨rfl, rfl, rfl, rfl, rfl, rfl, rfl, rfl, trivial⟩
              refine hK23 _ _ ?_
              refine wp_seq_k fun K24 hK24 => ?_
              refine region_seq ?_  -- region 17
              refine L_op A rfl (by decide) rfl (y_assign rfl fun ac A => ?_)
              replace A := A.keep [(7, .pointer (some ⟨p, 0, none⟩)), (8, .map (some q)), (9, .int .i64 (((i : Nat) : Int))), (10, .int .i64 (((j : Nat) : Int))), (11, .int .i64 (((k3 : Nat) : Int))), (12, .slice ta x.1.length tc), (13, .int .i64 0), (14, .bool false), (70, .bool true)] ⟨rfl, rfl, rfl, rfl, rfl, rfl, rfl, rfl, rfl, trivial⟩
              refine hK24 _ _ ?_
              refine wp_seq_k fun K25 hK25 => ?_
              refine wp_seq_k fun K26 hK26 => ?_
              refine region_seq ?_  -- region 18
              refine L_op A rfl (by decide) rfl (y_assign rfl fun ac A => ?_)
              replace A := A.keep [(7, .pointer (some ⟨p, 0, none⟩)), (8, .map (some q)), (9, .int .i64 (((i : Nat) : Int))), (10, .int .i64 (((j : Nat) : Int))), (11, .int .i64 (((k3 : Nat) : Int))), (12, .slice ta x.1.length tc), (13, .int .i64 0), (14, .bool false), (15, .int .i64 0), (70, .bool true)] ⟨rfl, rfl, rfl, rfl, rfl, rfl, rfl, rfl, rfl, rfl, trivial⟩
              refine hK26 _ _ ?_
              refine wp_block ?_
              replace A := A.keep [(7, .pointer (some ⟨p, 0, none⟩)), (8, .map (some q)), (9, .int .i64 (((i : Nat) : Int))), (10, .int .i64 (((j : Nat) : Int))), (11, .int .i64 (((k3 : Nat) : Int))), (12, .slice ta x.1.length tc), (13, .int .i64 0), (14, .bool false), (15, .int .i64 0)] ⟨rfl, rfl, rfl, rfl, rfl, rfl, rfl, rfl, rfl, trivial⟩
              have hgk : goodK (((i : Nat) : Int), ((j : Nat) : Int)) := good i64i i64j
              obtain ⟨v0, HQ, H2, hv0, hsl0, hperm, -⟩ := hE.zoom (((i : Nat) : Int), ((j : Nat) : Int))
              obtain ⟨ra, rc, rfl⟩ := hsl0.len
              replace S : St _ _ _ ([(q, oq)] ++ (Hm1 ++ (Hb ++ (seH es)))) := S.perm (by classical rw [List.perm_iff_count]; intro x; simp only [List.count_append, List.count_cons, List.count_nil] <;> omega)
              replace S : St _ _ _ ([(q, oq)] ++ (Hm1 ++ (Hb ++ (HQ ++ H2)))) := S.perm (List.Perm.append_left _ (List.Perm.append_left _ (List.Perm.append_left _ hperm)))
              refine wp_loop_ghost (fun k4 ac w' => ∃ (z : Nat) (fd : Bool), k4 + z = (sn (((i : Nat) : Int), ((j : Nat) : Int))).length ∧ fd = ((sn (((i : Nat) : Int), ((j : Nat) : Int))).take z).any (fun s => nearF x.1 s) ∧ Sl 123 ac [(7, .pointer (some ⟨p, 0, none⟩)), (8, .map (some q)), (9, .int .i64 ((i : Nat) : Int)), (10, .int .i64 ((j : Nat) : Int)), (11, .int .i64 ((k3 : Nat) : Int)), (12, .slice ta x.1.length tc), (13, .int .i64 0), (14, .bool fd), (15, .int .i64 ((z : Nat) : Int))] ∧ St [] w0 w' ([(q, oq)] ++ (Hm1 ++ (Hb ++ (HQ ++ H2))))) (sn (((i : Nat) : Int), ((j : Nat) : Int))).length ⟨0, false, by simp, by simp, A, S⟩ ?_
              clear A S
              rintro k4 ac w5 ⟨z, fd, hk4, hfd, A, S⟩
              have hsfk := hsf (((i : Nat) : Int), ((j : Nat) : Int))
              rcases Nat.lt_or_ge z (sn (((i : Nat) : Int), ((j : Nat) : Int))).length with hz2 | hz2
              · obtain ⟨sx, hsx⟩ : ∃ s, (sn (((i : Nat) : Int), ((j : Nat) : Int)))[z]? = some s := ⟨_, List.getElem?_eq_getElem hz2⟩
                have hsxl := hsl (((i : Nat) : Int), ((j : Nat) : Int)) sx (List.mem_of_getElem? hsx)
                have htz : ((sn (((i : Nat) : Int), ((j : Nat) : Int))).take (z + 1)).any (fun s => nearF x.1 s) = (((sn (((i : Nat) : Int), ((j : Nat) : Int))).take z).any (fun s => nearF x.1 s) || nearF x.1 sx) := by rw [List.take_add_one, hsx]; simp
                rw [← hfd] at htz
                obtain ⟨rb, rcap, rcs, hra, rfl, hcs, hcap, htake⟩ := hsl0.block (by omega)
                simp only [Value.slice.injEq] at hra; obtain ⟨rfl, -, rfl⟩ := hra
                replace S : St _ _ _ ([(q, oq), (rb, .cells rcs 9 (0, 0))] ++ (Hm1 ++ (Hb ++ H2))) := S.perm (by classical rw [List.perm_iff_count]; intro x; simp only [List.count_append, List.count_cons, List.count_nil] <;> omega)
                cases fd with
                | true =>
                  refine wp_seq_k fun K27 hK27 => ?_
                  refine wp_seq_k fun K28 hK28 => ?_
                  refine region_seq ?_  -- region 19
                  refine L_op A rfl (by decide) rfl (y_move (A.get (s := 15) rfl) fun ac A => ?_)
                  refine L_op A rfl (by decide) rfl (y_move (A.get (s := 8) rfl) fun ac A => ?_)
                  refine L_op A rfl (by decide) rfl (y_move (A.get (s := 9) rfl) fun ac A => ?_)
                  refine L_op A rfl (by decide) rfl (y_move (A.get (s := 10) rfl) fun ac A => ?_)
                  replace A := A.keep [(7, .pointer (some ⟨p, 0, none⟩)), (8, .map (some q)), (9, .int .i64 (((i : Nat) : Int))), (10, .int .i64 (((j : Nat) : Int))), (11, .int .i64 (((k3 : Nat) : Int))), (12, .slice ta x.1.length tc), (13, .int .i64 0), (14, .bool true), (15, .int .i64 (((z : Nat) : Int))), (84, .int .i64 (((z : Nat) : Int))), (85, .map (some q)), (86, .int .i64 (((i : Nat) : Int))), (87, .int .i64 (((j : Nat) : Int)))] ⟨rfl, rfl, rfl, rfl, rfl, rfl, rfl, rfl, rfl, rfl, rfl, rfl, rfl, trivial⟩
                  refine L_op A rfl (by decide) rfl (y_build2 (A.get (s := 86) rfl) (A.get (s := 87) rfl) (v := .agg #[.int .i64 (((i : Nat) : Int)), .int .i64 (((j : Nat) : Int))]) (by kernel_rfl) fun ac A => ?_)
                  refine L_op A rfl (by decide) rfl (y_lookup (A.get (s := 85) rfl) (A.get (s := 88) rfl) (look_sent (S.get 0 rfl) hE.m (((i : Nat) : Int), ((j : Nat) : Int)) hgk hv0) fun ac A => ?_)
                  refine L_op A rfl (by decide) rfl (y_lenS (e := 9) (by kernel_rfl) (A.get (s := 89) rfl) fun ac A => ?_)
                  refine L_op A rfl (by decide) rfl (y_lss (A.get (s := 84) rfl) (A.get (s := 90) rfl) (c := true) (decide_eq_true (by omega)) fun ac A => ?_)
                  replace A := A.keep [(7, .pointer (some ⟨p, 0, none⟩)), (8, .map (some q)), (9, .int .i64 (((i : Nat) : Int))), (10, .int .i64 (((j : Nat) : Int))), (11, .int .i64 (((k3 : Nat) : Int))), (12, .slice ta x.1.length tc), (13, .int .i64 0), (14, .bool true), (15, .int .i64 (((z : Nat) : Int))), (91, .bool true)] ⟨rfl, rfl, rfl, rfl, rfl, rfl, rfl, rfl, rfl, rfl, trivial⟩
                  refine hK28 _ _ ?_
                  refine wp_cond_true (A.get rfl) ?_
                  refine wp_skip ?_
                  refine hK27 _ _ ?_
                  refine wp_seq_k fun K29 hK29 => ?_
                  refine wp_block ?_
                  refine region_seq ?_  -- region 21
                  refine L_op A rfl (by decide) rfl (y_move (A.get (s := 14) rfl) fun ac A => ?_)
                  refine L_op A rfl (by decide) rfl (y_move (A.get (s := 94) rfl) fun ac A => ?_)
                  refine L_no A rfl (by decide) rfl rfl (by decide) (A.get rfl) (by decide) fun ac A => ?_
                  refine L_no A rfl (by decide) rfl rfl (by decide) (A.get rfl) (by decide) fun ac A => ?_
                  replace A := A.keep [(7, .pointer (some ⟨p, 0, none⟩)), (8, .map (some q)), (9, .int .i64 (((i : Nat) : Int))), (10, .int .i64 (((j : Nat) : Int))), (11, .int .i64 (((k3 : Nat) : Int))), (12, .slice ta x.1.length tc), (13, .int .i64 0), (14, .bool true), (15, .int .i64 (((z : Nat) : Int))), (91, .bool true), (95, .bool true), (96, undef), (97, undef)] ⟨rfl, rfl, rfl, rfl, rfl, rfl, rfl, rfl, rfl, rfl, rfl, rfl, rfl, trivial⟩
                  refine L_no A rfl (by decide) rfl rfl (by decide) (A.get rfl) (by decide) fun ac A => ?_
                  refine L_no A rfl (by decide) rfl rfl (by decide) (A.get rfl) (by decide) fun ac A => ?_
                  refine L_no A rfl (by decide) rfl rfl (by decide) (A.get rfl) (by decide) fun ac A => ?_
                  refine L_no A rfl (by decide) rfl rfl (by decide) (A.get rfl) (by decide) fun ac A => ?_
                  replace A := A.keep [(7, .pointer (some ⟨p, 0, none⟩)), (8, .map (some q)), (9, .int .i64 (((i : Nat) : Int))), (10, .int .i64 (((j : Nat) : Int))), (11, .int .i64 (((k3 : Nat) : Int))), (12, .slice ta x.1.length tc), (13, .int .i64 0), (14, .bool true), (15, .int .i64 (((z : Nat) : Int))), (91, .bool true), (95, .bool true), (96, undef), (101, undef)] ⟨rfl, rfl, rfl, rfl, rfl, rfl, rfl, rfl, rfl, rfl, rfl, rfl, rfl, trivial⟩
                  refine L_no A rfl (by decide) rfl rfl (by decide) (A.get rfl) (by decide) fun ac A => ?_
                  refine L_no A rfl (by decide) rfl rfl (by decide) (A.get rfl) (by decide) fun ac A => ?_
                  refine L_no A rfl (by decide) rfl rfl (by decide) (A.get rfl) (by decide) fun ac A => ?_
                  refine L_no A rfl (by decide) rfl rfl (by decide) (A.get rfl) (by decide) fun ac A => ?_
                  replace A := A.keep [(7, .pointer (some ⟨p, 0, none⟩)), (8, .map (some q)), (9, .int .i64 (((i : Nat) : Int))), (10, .int .i64 (((j : Nat) : Int))), (11, .int .i64 (((k3 : Nat) : Int))), (12, .slice ta x.1.length tc), (13, .int .i64 0), (14, .bool true), (15, .int .i64 (((z : Nat) : Int))), (91, .bool true), (95, .bool true), (105, undef)] ⟨rfl, rfl, rfl, rfl, rfl, rfl, rfl, rfl, rfl, rfl, rfl, rfl, trivial⟩
                  refine L_op A rfl (by decide) rfl (y_pickT (A.get (s := 95) rfl) rfl fun ac A => ?_)
                  refine L_op A rfl (by decide) rfl (y_assign (A.get (s := 106) rfl) fun ac A => ?_)
                  replace A := A.keep [(7, .pointer (some ⟨p, 0, none⟩)), (8, .map (some q)), (9, .int .i64 (((i : Nat) : Int))), (10, .int .i64 (((j : Nat) : Int))), (11, .int .i64 (((k3 : Nat) : Int))), (12, .slice ta x.1.length tc), (13, .int .i64 0), (14, .bool true), (15, .int .i64 (((z : Nat) : Int))), (91, .bool true)] ⟨rfl, rfl, rfl, rfl, rfl, rfl, rfl, rfl, rfl, rfl, trivial⟩
                  refine hK29 _ _ ?_
                  refine region_seq ?_  -- region 20
                  refine L_op A rfl (by decide) rfl (y_move (A.get (s := 15) rfl) fun ac A => ?_)
                  refine L_op A rfl (by decide) rfl (y_add (A.get (s := 92) rfl) rfl (c := ((z + 1 : Nat) : Int)) ((wrap64 (by omega)).trans (by omega)) fun ac A => ?_)
                  refine L_op A rfl (by decide) rfl (y_assign (A.get (s := 93) rfl) fun ac A => ?_)
                  replace A := A.keep [(7, .pointer (some ⟨p, 0, none⟩)), (8, .map (some q)), (9, .int .i64 (((i : Nat) : Int))), (10, .int .i64 (((j : Nat) : Int))), (11, .int .i64 (((k3 : Nat) : Int))), (12, .slice ta x.1.length tc), (13, .int .i64 0), (14, .bool true), (15, .int .i64 (((z + 1 : Nat) : Int))), (91, .bool true)] ⟨rfl, rfl, rfl, rfl, rfl, rfl, rfl, rfl, rfl, rfl, trivial⟩
                  replace A := A.keep [(7, .pointer (some ⟨p, 0, none⟩)), (8, .map (some q)), (9, .int .i64 (((i : Nat) : Int))), (10, .int .i64 (((j : Nat) : Int))), (11, .int .i64 (((k3 : Nat) : Int))), (12, .slice ta x.1.length tc), (13, .int .i64 0), (14, .bool true), (15, .int .i64 (((z + 1 : Nat) : Int)))] ⟨rfl, rfl, rfl, rfl, rfl, rfl, rfl, rfl, rfl, trivial⟩
                  replace S : St _ _ _ ([(q, oq)] ++ (Hm1 ++ (Hb ++ ([(rb, .cells rcs 9 (0, 0))] ++ H2)))) := S.perm (by classical rw [List.perm_iff_count]; intro x; simp only [List.count_append, List.count_cons, List.count_nil] <;> omega)
                  exact ⟨k4 - 1, by omega, z + 1, true, by omega, by rw [htz]; simp, A, S⟩
                | false =>
                  refine wp_seq_k fun K27 hK27 => ?_
                  refine wp_seq_k fun K28 hK28 => ?_
                  refine region_seq ?_  -- region 19
                  refine L_op A rfl (by decide) rfl (y_move (A.get (s := 15) rfl) fun ac A => ?_)
                  refine L_op A rfl (by decide) rfl (y_move (A.get (s := 8) rfl) fun ac A => ?_)
                  refine L_op A rfl (by decide) rfl (y_move (A.get (s := 9) rfl) fun ac A => ?_)
                  refine L_op A rfl (by decide) rfl (y_move (A.get (s := 10) rfl) fun ac A => ?_)
                  replace A := A.keep [(7, .pointer (some ⟨p, 0, none⟩)), (8, .map (some q)), (9, .int .i64 (((i : Nat) : Int))), (10, .int .i64 (((j : Nat) : Int))), (11, .int .i64 (((k3 : Nat) : Int))), (12, .slice ta x.1.length tc), (13, .int .i64 0), (14, .bool false), (15, .int .i64 (((z : Nat) : Int))), (84, .int .i64 (((z : Nat) : Int))), (85, .map (some q)), (86, .int .i64 (((i : Nat) : Int))), (87, .int .i64 (((j : Nat) : Int)))] ⟨rfl, rfl, rfl, rfl, rfl, rfl, rfl, rfl, rfl, rfl, rfl, rfl, rfl, trivial⟩
                  refine L_op A rfl (by decide) rfl (y_build2 (A.get (s := 86) rfl) (A.get (s := 87) rfl) (v := .agg #[.int .i64 (((i : Nat) : Int)), .int .i64 (((j : Nat) : Int))]) (by kernel_rfl) fun ac A => ?_)
                  refine L_op A rfl (by decide) rfl (y_lookup (A.get (s := 85) rfl) (A.get (s := 88) rfl) (look_sent (S.get 0 rfl) hE.m (((i : Nat) : Int), ((j : Nat) : Int)) hgk hv0) fun ac A => ?_)
                  refine L_op A rfl (by decide) rfl (y_lenS (e := 9) (by kernel_rfl) (A.get (s := 89) rfl) fun ac A => ?_)
                  refine L_op A rfl (by decide) rfl (y_lss (A.get (s := 84) rfl) (A.get (s := 90) rfl) (c := true) (decide_eq_true (by omega)) fun ac A => ?_)
                  replace A := A.keep [(7, .pointer (some ⟨p, 0, none⟩)), (8, .map (some q)), (9, .int .i64 (((i : Nat) : Int))), (10, .int .i64 (((j : Nat) : Int))), (11, .int .i64 (((k3 : Nat) : Int))), (12, .slice ta x.1.length tc), (13, .int .i64 0), (14, .bool false), (15, .int .i64 (((z : Nat) : Int))), (91, .bool true)] ⟨rfl, rfl, rfl, rfl, rfl, rfl, rfl, rfl, rfl, rfl, trivial⟩
                  refine hK28 _ _ ?_
                  refine wp_cond_true (A.get rfl) ?_
                  refine wp_skip ?_
                  refine hK27 _ _ ?_
                  refine wp_seq_k fun K29 hK29 => ?_
                  refine wp_block ?_
                  refine region_seq ?_  -- region 21
                  refine L_op A rfl (by decide) rfl (y_move (A.get (s := 14) rfl) fun ac A => ?_)
                  refine L_op A rfl (by decide) rfl (y_move (A.get (s := 94) rfl) fun ac A => ?_)
                  refine L_yes A rfl (by decide) rfl rfl (by decide) (A.get rfl) (y_move (A.get (s := 12) rfl) fun ac A => ?_)
                  refine L_yes A rfl (by decide) rfl rfl (by decide) (A.get rfl) (y_move (A.get (s := 8) rfl) fun ac A => ?_)
                  replace A := A.keep [(7, .pointer (some ⟨p, 0, none⟩)), (8, .map (some q)), (9, .int .i64 (((i : Nat) : Int))), (10, .int .i64 (((j : Nat) : Int))), (11, .int .i64 (((k3 : Nat) : Int))), (12, .slice ta x.1.length tc), (13, .int .i64 0), (14, .bool false), (15, .int .i64 (((z : Nat) : Int))), (91, .bool true), (95, .bool false), (96, .slice ta x.1.length tc), (97, .map (some q))] ⟨rfl, rfl, rfl, rfl, rfl, rfl, rfl, rfl, rfl, rfl, rfl, rfl, rfl, trivial⟩
                  refine L_yes A rfl (by decide) rfl rfl (by decide) (A.get rfl) (y_move (A.get (s := 9) rfl) fun ac A => ?_)
                  refine L_yes A rfl (by decide) rfl rfl (by decide) (A.get rfl) (y_move (A.get (s := 10) rfl) fun ac A => ?_)
                  refine L_yes A rfl (by decide) rfl rfl (by decide) (A.get rfl) (y_build2 (A.get (s := 98) rfl) (A.get (s := 99) rfl) (v := .agg #[.int .i64 (((i : Nat) : Int)), .int .i64 (((j : Nat) : Int))]) (by kernel_rfl) fun ac A => ?_)
                  refine L_yes A rfl (by decide) rfl rfl (by decide) (A.get rfl) (y_lookup (A.get (s := 97) rfl) (A.get (s := 100) rfl) (look_sent (S.get 0 rfl) hE.m (((i : Nat) : Int), ((j : Nat) : Int)) hgk hv0) fun ac A => ?_)
                  replace A := A.keep [(7, .pointer (some ⟨p, 0, none⟩)), (8, .map (some q)), (9, .int .i64 (((i : Nat) : Int))), (10, .int .i64 (((j : Nat) : Int))), (11, .int .i64 (((k3 : Nat) : Int))), (12, .slice ta x.1.length tc), (13, .int .i64 0), (14, .bool false), (15, .int .i64 (((z : Nat) : Int))), (91, .bool true), (95, .bool false), (96, .slice ta x.1.length tc), (101, .slice (some ⟨rb, 0, none⟩) (sn (((i : Nat) : Int), ((j : Nat) : Int))).length rc)] ⟨rfl, rfl, rfl, rfl, rfl, rfl, rfl, rfl, rfl, rfl, rfl, rfl, rfl, trivial⟩
                  refine L_yes A rfl (by decide) rfl rfl (by decide) (A.get rfl) (y_move (A.get (s := 15) rfl) fun ac A => ?_)
                  refine L_yes A rfl (by decide) rfl rfl (by decide) (A.get rfl) (y_indexS (e := 9) (size := 1) (by kernel_rfl) (by kernel_rfl) (A.get (s := 101) rfl) (A.get (s := 102) rfl) (by omega) (by omega) (j := z) (by omega) fun ac A => ?_)
                  refine L_yes A rfl (by decide) rfl rfl (by decide) (A.get rfl) (y_load (by kernel_rfl) (A.get (s := 103) rfl) ((cell_of (S.get 1 rfl) _).trans ((SlRep.cell htake (by omega)).trans (by rw [List.getElem?_map, hsx]; rfl))) fun ac A => ?_)
                  refine L_yes A rfl (by decide) rfl rfl (by decide) (A.get rfl) (y_call2 (by kernel_rfl) rfl (A.get (s := 96) rfl) (A.get (s := 104) rfl) (callN (near_ok (b := sx) (hB.src (St.app_left (H := Hb) (K := ([(q, oq), (rb, .cells rcs 9 (0, 0))] ++ (Hm1 ++ H2))) (S.perm (by classical rw [List.perm_iff_count]; intro x; simp only [List.count_append, List.count_cons, List.count_nil] <;> omega))).holds) (by omega) (by omega)) fun v w H gG nN hf ac A => ?_))
                  obtain ⟨rfl, rfl⟩ := hf
                  replace S : St _ _ _ ([(q, oq), (rb, .cells rcs 9 (0, 0))] ++ (Hm1 ++ (Hb ++ H2))) := (S.new gG nN).perm (by first | exact List.Perm.refl _ | (rw [List.append_assoc]; exact List.Perm.refl _) | (simp only [List.append_assoc, List.nil_append, List.append_nil]; exact List.Perm.refl _))
                  replace A := A.keep [(7, .pointer (some ⟨p, 0, none⟩)), (8, .map (some q)), (9, .int .i64 (((i : Nat) : Int))), (10, .int .i64 (((j : Nat) : Int))), (11, .int .i64 (((k3 : Nat) : Int))), (12, .slice ta x.1.length tc), (13, .int .i64 0), (14, .bool false), (15, .int .i64 (((z : Nat) : Int))), (91, .bool true), (95, .bool false), (105, .bool ((nearF x.1 sx)))] ⟨rfl, rfl, rfl, rfl, rfl, rfl, rfl, rfl, rfl, rfl, rfl, rfl, trivial⟩
                  refine L_op A rfl (by decide) rfl (y_pickF (A.get (s := 95) rfl) (A.get (s := 105) rfl) fun ac A => ?_)
                  refine L_op A rfl (by decide) rfl (y_assign (A.get (s := 106) rfl) fun ac A => ?_)
                  replace A := A.keep [(7, .pointer (some ⟨p, 0, none⟩)), (8, .map (some q)), (9, .int .i64 (((i : Nat) : Int))), (10, .int .i64 (((j : Nat) : Int))), (11, .int .i64 (((k3 : Nat) : Int))), (12, .slice ta x.1.length tc), (13, .int .i64 0), (14, .bool ((nearF x.1 sx))), (15, .int .i64 (((z : Nat) : Int))), (91, .bool true)] ⟨rfl, rfl, rfl, rfl, rfl, rfl, rfl, rfl, rfl, rfl, trivial⟩
                  refine hK29 _ _ ?_
                  refine region_seq ?_  -- region 20
                  refine L_op A rfl (by decide) rfl (y_move (A.get (s := 15) rfl) fun ac A => ?_)
                  refine L_op A rfl (by decide) rfl (y_add (A.get (s := 92) rfl) rfl (c := ((z + 1 : Nat) : Int)) ((wrap64 (by omega)).trans (by omega)) fun ac A => ?_)
                  refine L_op A rfl (by decide) rfl (y_assign (A.get (s := 93) rfl) fun ac A => ?_)
                  replace A := A.keep [(7, .pointer (some ⟨p, 0, none⟩)), (8, .map (some q)), (9, .int .i64 (((i : Nat) : Int))), (10, .int .i64 (((j : Nat) : Int))), (11, .int .i64 (((k3 : Nat) : Int))), (12, .slice ta x.1.length tc), (13, .int .i64 0), (14, .bool ((nearF x.1 sx))), (15, .int .i64 (((z + 1 : Nat) : Int))), (91, .bool true)] ⟨rfl, rfl, rfl, rfl, rfl, rfl, rfl, rfl, rfl, rfl, trivial⟩
                  replace A := A.keep [(7, .pointer (some ⟨p, 0, none⟩)), (8, .map (some q)), (9, .int .i64 (((i : Nat) : Int))), (10, .int .i64 (((j : Nat) : Int))), (11, .int .i64 (((k3 : Nat) : Int))), (12, .slice ta x.1.length tc), (13, .int .i64 0), (14, .bool ((nearF x.1 sx))), (15, .int .i64 (((z + 1 : Nat) : Int)))] ⟨rfl, rfl, rfl, rfl, rfl, rfl, rfl, rfl, rfl, trivial⟩
                  replace S : St _ _ _ ([(q, oq)] ++ (Hm1 ++ (Hb ++ ([(rb, .cells rcs 9 (0, 0))] ++ H2)))) := S.perm (by classical rw [List.perm_iff_count]; intro x; simp only [List.count_append, List.count_cons, List.count_nil] <;> omega)
                  exact ⟨k4 - 1, by omega, z + 1, nearF x.1 sx, by omega, by rw [htz]; simp, A, S⟩
              · obtain rfl : z = (sn (((i : Nat) : Int), ((j : Nat) : Int))).length := by omega
                rw [List.take_length, hany] at hfd; subst hfd
                replace S : St _ _ _ ([(q, oq)] ++ (Hm1 ++ (Hb ++ (seH es)))) := S.perm (List.Perm.append_left _ (List.Perm.append_left _ (List.Perm.append_left _ hperm.symm)))
                refine wp_seq_k fun K27 hK27 => ?_
                refine wp_seq_k fun K28 hK28 => ?_
                refine region_seq ?_  -- region 19
                refine L_op A rfl (by decide) rfl (y_move (A.get (s := 15) rfl) fun ac A => ?_)
                refine L_op A rfl (by decide) rfl (y_move (A.get (s := 8) rfl) fun ac A => ?_)
                refine L_op A rfl (by decide) rfl (y_move (A.get (s := 9) rfl) fun ac A => ?_)
                refine L_op A rfl (by decide) rfl (y_move (A.get (s := 10) rfl) fun ac A => ?_)
                replace A := A.keep [(7, .pointer (some ⟨p, 0, none⟩)), (8, .map (some q)), (9, .int .i64 (((i : Nat) : Int))), (10, .int .i64 (((j : Nat) : Int))), (11, .int .i64 (((k3 : Nat) : Int))), (12, .slice ta x.1.length tc), (13, .int .i64 0), (14, .bool true), (15, .int .i64 ((((sn (((i : Nat) : Int), ((j : Nat) : Int))).length : Nat) : Int))), (84, .int .i64 ((((sn (((i : Nat) : Int), ((j : Nat) : Int))).length : Nat) : Int))), (85, .map (some q)), (86, .int .i64 (((i : Nat) : Int))), (87, .int .i64 (((j : Nat) : Int)))] ⟨rfl, rfl, rfl, rfl, rfl, rfl, rfl, rfl, rfl, rfl, rfl, rfl, rfl, trivial⟩
                refine L_op A rfl (by decide) rfl (y_build2 (A.get (s := 86) rfl) (A.get (s := 87) rfl) (v := .agg #[.int .i64 (((i : Nat) : Int)), .int .i64 (((j : Nat) : Int))]) (by kernel_rfl) fun ac A => ?_)
                refine L_op A rfl (by decide) rfl (y_lookup (A.get (s := 85) rfl) (A.get (s := 88) rfl) (look_sent (S.get 0 rfl) hE.m (((i : Nat) : Int), ((j : Nat) : Int)) hgk hv0) fun ac A => ?_)
                refine L_op A rfl (by decide) rfl (y_lenS (e := 9) (by kernel_rfl) (A.get (s := 89) rfl) fun ac A => ?_)
                refine L_op A rfl (by decide) rfl (y_lss (A.get (s := 84) rfl) (A.get (s := 90) rfl) (c := false) (decide_eq_false (by omega)) fun ac A => ?_)
                replace A := A.keep [(7, .pointer (some ⟨p, 0, none⟩)), (8, .map (some q)), (9, .int .i64 (((i : Nat) : Int))), (10, .int .i64 (((j : Nat) : Int))), (11, .int .i64 (((k3 : Nat) : Int))), (12, .slice ta x.1.length tc), (13, .int .i64 0), (14, .bool true), (15, .int .i64 ((((sn (((i : Nat) : Int), ((j : Nat) : Int))).length : Nat) : Int))), (91, .bool false)] ⟨rfl, rfl, rfl, rfl, rfl, rfl, rfl, rfl, rfl, rfl, trivial⟩
                refine hK28 _ _ ?_
                refine wp_cond_false (A.get rfl) ?_
                refine wp_exit ?_
                refine hK25 _ _ ?_
                refine wp_seq_k fun K29 hK29 => ?_
                refine region_seq ?_  -- region 22
                refine L_op A rfl (by decide) rfl (y_move (A.get (s := 13) rfl) fun ac A => ?_)
                refine L_op A rfl (by decide) rfl (y_neq (A.get (s := 107) rfl) rfl (c := false) (by decide) fun ac A => ?_)
                refine L_op A rfl (by decide) rfl (y_move (A.get (s := 108) rfl) fun ac A => ?_)
                refine L_yes A rfl (by decide) rfl rfl (by decide) (A.get rfl) (y_move (A.get (s := 14) rfl) fun ac A => ?_)
                replace A := A.keep [(7, .pointer (some ⟨p, 0, none⟩)), (8, .map (some q)), (9, .int .i64 (((i : Nat) : Int))), (10, .int .i64 (((j : Nat) : Int))), (11, .int .i64 (((k3 : Nat) : Int))), (12, .slice ta x.1.length tc), (13, .int .i64 0), (14, .bool true), (15, .int .i64 ((((sn (((i : Nat) : Int), ((j : Nat) : Int))).length : Nat) : Int))), (91, .bool false), (109, .bool false), (110, .bool true)] ⟨rfl, rfl, rfl, rfl, rfl, rfl, rfl, rfl, rfl, rfl, rfl, rfl, trivial⟩
                refine L_yes A rfl (by decide) rfl rfl (by decide) (A.get rfl) (y_not (A.get (s := 110) rfl) rfl fun ac A => ?_)
                refine L_op A rfl (by decide) rfl (y_pickF (A.get (s := 109) rfl) (A.get (s := 111) rfl) fun ac A => ?_)
                refine L_op A rfl (by decide) rfl (y_move (A.get (s := 112) rfl) fun ac A => ?_)
                refine L_yes A rfl (by decide) rfl rfl (by decide) (A.get rfl) (y_move (A.get (s := 7) rfl) fun ac A => ?_)
                replace A := A.keep [(7, .pointer (some ⟨p, 0, none⟩)), (8, .map (some q)), (9, .int .i64 (((i : Nat) : Int))), (10, .int .i64 (((j : Nat) : Int))), (11, .int .i64 (((k3 : Nat) : Int))), (12, .slice ta x.1.length tc), (13, .int .i64 0), (14, .bool true), (15, .int .i64 ((((sn (((i : Nat) : Int), ((j : Nat) : Int))).length : Nat) : Int))), (91, .bool false), (113, .bool false), (114, .pointer (some ⟨p, 0, none⟩))] ⟨rfl, rfl, rfl, rfl, rfl, rfl, rfl, rfl, rfl, rfl, rfl, rfl, trivial⟩
                refine L_yes A rfl (by decide) rfl rfl (by decide) (A.get rfl) (y_move (A.get (s := 9) rfl) fun ac A => ?_)
                refine L_yes A rfl (by decide) rfl rfl (by decide) (A.get rfl) (y_move (A.get (s := 10) rfl) fun ac A => ?_)
                refine L_yes A rfl (by decide) rfl rfl (by decide) (A.get rfl) (y_call3 (by kernel_rfl) rfl (A.get (s := 114) rfl) (A.get (s := 115) rfl) (A.get (s := 116) rfl) (callN (len_is (m := (m.setq (((i : Nat) : Int), ((j : Nat) : Int)) qq)) (by rw [M.setq_same]) hN (St.app_left (H := Hm1) (K := ([(q, oq)] ++ (Hb ++ (seH es)))) (S.perm (by classical rw [List.perm_iff_count]; intro x; simp only [List.count_append, List.count_cons, List.count_nil] <;> omega))).holds i64i i64j) fun v w H gG nN hf ac A => ?_))
                obtain ⟨rfl, rfl⟩ := hf
                replace S : St _ _ _ ([(q, oq)] ++ (Hm1 ++ (Hb ++ (seH es)))) := (S.new gG nN).perm (by first | exact List.Perm.refl _ | (rw [List.append_assoc]; exact List.Perm.refl _) | (simp only [List.append_assoc, List.nil_append, List.append_nil]; exact List.Perm.refl _))
                refine L_yes A rfl (by decide) rfl rfl (by decide) (A.get rfl) (y_move (A.get (s := 11) rfl) fun ac A => ?_)
                replace A := A.keep [(7, .pointer (some ⟨p, 0, none⟩)), (8, .map (some q)), (9, .int .i64 (((i : Nat) : Int))), (10, .int .i64 (((j : Nat) : Int))), (11, .int .i64 (((k3 : Nat) : Int))), (12, .slice ta x.1.length tc), (13, .int .i64 0), (14, .bool true), (15, .int .i64 ((((sn (((i : Nat) : Int), ((j : Nat) : Int))).length : Nat) : Int))), (91, .bool false), (113, .bool false), (117, .int .i64 (((qq.length : Nat) : Int))), (118, .int .i64 (((k3 : Nat) : Int)))] ⟨rfl, rfl, rfl, rfl, rfl, rfl, rfl, rfl, rfl, rfl, rfl, rfl, rfl, trivial⟩
                refine L_yes A rfl (by decide) rfl rfl (by decide) (A.get rfl) (y_sub (A.get (s := 118) rfl) rfl (c := ((qq.length : Nat) : Int)) ((wrap64 (by omega)).trans (by omega)) fun ac A => ?_)
                refine L_yes A rfl (by decide) rfl rfl (by decide) (A.get rfl) (y_neq (A.get (s := 117) rfl) (A.get (s := 119) rfl) (c := false) (by simp) fun ac A => ?_)
                refine L_op A rfl (by decide) rfl (y_pickF (A.get (s := 113) rfl) (A.get (s := 120) rfl) fun ac A => ?_)
                replace A := A.keep [(7, .pointer (some ⟨p, 0, none⟩)), (8, .map (some q)), (9, .int .i64 (((i : Nat) : Int))), (10, .int .i64 (((j : Nat) : Int))), (11, .int .i64 (((k3 : Nat) : Int))), (12, .slice ta x.1.length tc), (13, .int .i64 0), (14, .bool true), (15, .int .i64 ((((sn (((i : Nat) : Int), ((j : Nat) : Int))).length : Nat) : Int))), (91, .bool false), (121, .bool false)] ⟨rfl, rfl, rfl, rfl, rfl, rfl, rfl, rfl, rfl, rfl, rfl, trivial⟩
                refine hK29 _ _ ?_
                refine wp_cond_false (A.get rfl) ?_
                refine wp_skip ?_
                replace A := A.keep [(7, .pointer (some ⟨p, 0, none⟩)), (8, .map (some q)), (9, .int .i64 (((i : Nat) : Int))), (10, .int .i64 (((j : Nat) : Int)))] ⟨rfl, rfl, rfl, rfl, trivial⟩
                replace S : St _ _ _ ([(q, oq)] ++ (Hm1 ++ (seH es))) := St.app_left (K := Hb) (S.perm (by classical rw [List.perm_iff_count]; intro x; simp only [List.count_append, List.count_cons, List.count_nil] <;> omega))
                exact ⟨qq.length, by omega, m.setq (((i : Nat) : Int), ((j : Nat) : Int)) qq, _, by rw [M.setq_same], A, hg', hnd, S, hN⟩
          · skip
            refine wp_seq_k fun K13 hK13 => ?_
            refine wp_seq_k fun K14 hK14 => ?_
            refine region_seq ?_  -- region 10
            refine L_op A rfl (by decide) rfl (y_move (A.get (s := 10) rfl) fun ac A => ?_)
            refine L_op A rfl (by decide) rfl (y_move (A.get (s := 7) rfl) fun ac A => ?_)
            refine L_op A rfl (by decide) rfl (y_call1 (by kernel_rfl) rfl (A.get (s := 42) rfl) (callN ((hnd ▸ nodes_ok hN (St.app_left (H := Hn) (K := ([(q, oq)] ++ (seH es))) (S.perm (by classical rw [List.perm_iff_count]; intro x; simp only [List.count_append, List.count_cons, List.count_nil] <;> omega))).holds)) fun v w H gG nN hf ac A => ?_))
            obtain ⟨rfl, rfl⟩ := hf
            replace S : St _ _ _ ([(q, oq)] ++ (Hn ++ (seH es))) := (S.new gG nN).perm (by first | exact List.Perm.refl _ | (rw [List.append_assoc]; exact List.Perm.refl _) | (simp only [List.append_assoc, List.nil_append, List.append_nil]; exact List.Perm.refl _))
            refine L_op A rfl (by decide) rfl (y_leq (A.get (s := 41) rfl) (A.get (s := 43) rfl) (c := true) (decide_eq_true hj) fun ac A => ?_)
            replace A := A.keep [(7, .pointer (some ⟨p, 0, none⟩)), (8, .map (some q)), (9, .int .i64 (((i : Nat) : Int))), (10, .int .i64 (((j : Nat) : Int))), (44, .bool true)] ⟨rfl, rfl, rfl, rfl, rfl, trivial⟩
            refine hK14 _ _ ?_
            refine wp_cond_true (A.get rfl) ?_
            refine wp_skip ?_
            refine hK13 _ _ ?_
            refine wp_seq_k fun K15 hK15 => ?_
            refine wp_block ?_
            refine wp_seq_k fun K16 hK16 => ?_
            refine wp_seq_k fun K17 hK17 => ?_
            refine region_seq ?_  -- region 12
            refine L_op A rfl (by decide) rfl (y_move (A.get (s := 7) rfl) fun ac A => ?_)
            refine L_op A rfl (by decide) rfl (y_move (A.get (s := 9) rfl) fun ac A => ?_)
            refine L_op A rfl (by decide) rfl (y_move (A.get (s := 10) rfl) fun ac A => ?_)
            refine L_op A rfl (by decide) rfl (y_call3 (by kernel_rfl) rfl (A.get (s := 47) rfl) (A.get (s := 48) rfl) (A.get (s := 49) rfl) (callN (len_is (m := m) rfl hN (St.app_left (H := Hn) (K := ([(q, oq)] ++ (seH es))) (S.perm (by classical rw [List.perm_iff_count]; intro x; simp only [List.count_append, List.count_cons, List.count_nil] <;> omega))).holds i64i i64j) fun v w H gG nN hf ac A => ?_))
            obtain ⟨rfl, rfl⟩ := hf
            replace S : St _ _ _ ([(q, oq)] ++ (Hn ++ (seH es))) := (S.new gG nN).perm (by first | exact List.Perm.refl _ | (rw [List.append_assoc]; exact List.Perm.refl _) | (simp only [List.append_assoc, List.nil_append, List.append_nil]; exact List.Perm.refl _))
            replace A := A.keep [(7, .pointer (some ⟨p, 0, none⟩)), (8, .map (some q)), (9, .int .i64 (((i : Nat) : Int))), (10, .int .i64 (((j : Nat) : Int))), (44, .bool true), (50, .int .i64 ((m.q (((i : Nat) : Int), ((j : Nat) : Int))).length))] ⟨rfl, rfl, rfl, rfl, rfl, rfl, trivial⟩
            refine L_op A rfl (by decide) rfl (y_gtr (A.get (s := 50) rfl) rfl (c := false) (decide_eq_false (by omega)) fun ac A => ?_)
            refine L_op A rfl (by decide) rfl (y_move (A.get (s := 51) rfl) fun ac A => ?_)
            refine L_yes A rfl (by decide) rfl rfl (by decide) (A.get rfl) (y_move (A.get (s := 7) rfl) fun ac A => ?_)
            refine L_yes A rfl (by decide) rfl rfl (by decide) (A.get rfl) (y_move (A.get (s := 9) rfl) fun ac A => ?_)
            replace A := A.keep [(7, .pointer (some ⟨p, 0, none⟩)), (8, .map (some q)), (9, .int .i64 (((i : Nat) : Int))), (10, .int .i64 (((j : Nat) : Int))), (44, .bool true), (52, .bool false), (53, .pointer (some ⟨p, 0, none⟩)), (54, .int .i64 (((i : Nat) : Int)))] ⟨rfl, rfl, rfl, rfl, rfl, rfl, rfl, rfl, trivial⟩
            refine L_yes A rfl (by decide) rfl rfl (by decide) (A.get rfl) (y_move (A.get (s := 10) rfl) fun ac A => ?_)
            refine L_yes A rfl (by decide) rfl rfl (by decide) (A.get rfl) (y_call3 (by kernel_rfl) rfl (A.get (s := 53) rfl) (A.get (s := 54) rfl) (A.get (s := 55) rfl) (callN (len_is (m := m) rfl hN (St.app_left (H := Hn) (K := ([(q, oq)] ++ (seH es))) (S.perm (by classical rw [List.perm_iff_count]; intro x; simp only [List.count_append, List.count_cons, List.count_nil] <;> omega))).holds i64i i64j) fun v w H gG nN hf ac A => ?_))
            obtain ⟨rfl, rfl⟩ := hf
            replace S : St _ _ _ ([(q, oq)] ++ (Hn ++ (seH es))) := (S.new gG nN).perm (by first | exact List.Perm.refl _ | (rw [List.append_assoc]; exact List.Perm.refl _) | (simp only [List.append_assoc, List.nil_append, List.append_nil]; exact List.Perm.refl _))
            refine L_yes A rfl (by decide) rfl rfl (by decide) (A.get rfl) (y_gtr (A.get (s := 56) rfl) rfl (c := false) (decide_eq_false (by omega)) fun ac A => ?_)
            refine L_yes A rfl (by decide) rfl rfl (by decide) (A.get rfl) (y_move (A.get (s := 57) rfl) fun ac A => ?_)
            replace A := A.keep [(7, .pointer (some ⟨p, 0, none⟩)), (8, .map (some q)), (9, .int .i64 (((i : Nat) : Int))), (10, .int .i64 (((j : Nat) : Int))), (44, .bool true), (52, .bool false), (58, .bool false)] ⟨rfl, rfl, rfl, rfl, rfl, rfl, rfl, trivial⟩
            refine L_no A rfl (by decide) rfl rfl (by decide) (A.get rfl) (by decide) fun ac A => ?_
            refine L_no A rfl (by decide) rfl rfl (by decide) (A.get rfl) (by decide) fun ac A => ?_
            refine L_no A rfl (by decide) rfl rfl (by decide) (A.get rfl) (by decide) fun ac A => ?_
            refine L_no A rfl (by decide) rfl rfl (by decide) (A.get rfl) (by decide) fun ac A => ?_
            replace A := A.keep [(7, .pointer (some ⟨p, 0, none⟩)), (8, .map (some q)), (9, .int .i64 (((i : Nat) : Int))), (10, .int .i64 (((j : Nat) : Int))), (44, .bool true), (52, .bool false), (58, .bool false), (62, undef)] ⟨rfl, rfl, rfl, rfl, rfl, rfl, rfl, rfl, trivial⟩
            refine L_no A rfl (by decide) rfl rfl (by decide) (A.get rfl) (by decide) fun ac A => ?_
            refine L_yes A rfl (by decide) rfl rfl (by decide) (A.get rfl) (y_pickF (A.get (s := 58) rfl) rfl fun ac A => ?_)
            refine L_op A rfl (by decide) rfl (y_pickF (A.get (s := 52) rfl) (A.get (s := 64) rfl) fun ac A => ?_)
            replace A := A.keep [(7, .pointer (some ⟨p, 0, none⟩)), (8, .map (some q)), (9, .int .i64 (((i : Nat) : Int))), (10, .int .i64 (((j : Nat) : Int))), (44, .bool true), (65, .bool false)] ⟨rfl, rfl, rfl, rfl, rfl, rfl, trivial⟩
            refine hK17 _ _ ?_
            refine wp_cond_false (A.get rfl) ?_
            refine wp_skip ?_
            refine hK16 _ _ ?_
            refine wp_block ?_
            replace A := A.keep [(7, .pointer (some ⟨p, 0, none⟩)), (8, .map (some q)), (9, .int .i64 (((i : Nat) : Int))), (10, .int .i64 (((j : Nat) : Int)))] ⟨rfl, rfl, rfl, rfl, trivial⟩
            replace S : St _ _ _ ([(q, oq)] ++ (Hn ++ (seH es))) := S.perm (by classical rw [List.perm_iff_count]; intro x; simp only [List.count_append, List.count_cons, List.count_nil] <;> omega)
            refine wp_loop_ghost (fun k3 ac w' => ∃ (m : M) (Hn : Frag), (m.q (((i : Nat) : Int), ((j : Nat) : Int))).length = k3 ∧ Sl 123 ac [(7, .pointer (some ⟨p, 0, none⟩)), (8, .map (some q)), (9, .int .i64 ((i : Nat) : Int)), (10, .int .i64 ((j : Nat) : Int))] ∧ Good m sn ∧ m.nodes = n ∧ St [] w0 w' ([(q, oq)] ++ (Hn ++ seH es)) ∧ NetRep p m Hn) _ ⟨m, Hn, rfl, A, hg, hnd, S, hN⟩ ?_
            clear A S hN hg hnd hq24 hopn hq0
            rintro k3 ac w4 ⟨m, Hn, hk3, A, hg, hnd, S, hN⟩
            have hq24 := few_of hN (((i : Nat) : Int), ((j : Nat) : Int))
            rcases Nat.eq_zero_or_pos k3 with hz | hz
            · subst hz
              refine wp_seq_k fun K18 hK18 => ?_
              refine wp_seq_k fun K19 hK19 => ?_
              refine region_seq ?_  -- region 14
              refine L_op A rfl (by decide) rfl (y_move (A.get (s := 7) rfl) fun ac A => ?_)
              refine L_op A rfl (by decide) rfl (y_move (A.get (s := 9) rfl) fun ac A => ?_)
              refine L_op A rfl (by decide) rfl (y_move (A.get (s := 10) rfl) fun ac A => ?_)
              refine L_op A rfl (by decide) rfl (y_call3 (by kernel_rfl) rfl (A.get (s := 66) rfl) (A.get (s := 67) rfl) (A.get (s := 68) rfl) (callN (len_is (m := m) hk3 hN (St.app_left (H := Hn) (K := ([(q, oq)] ++ (seH es))) (S.perm (by classical rw [List.perm_iff_count]; intro x; simp only [List.count_append, List.count_cons, List.count_nil] <;> omega))).holds i64i i64j) fun v w H gG nN hf ac A => ?_))
              obtain ⟨rfl, rfl⟩ := hf
              replace S : St _ _ _ ([(q, oq)] ++ (Hn ++ (seH es))) := (S.new gG nN).perm (by first | exact List.Perm.refl _ | (rw [List.append_assoc]; exact List.Perm.refl _) | (simp only [List.append_assoc, List.nil_append, List.append_nil]; exact List.Perm.refl _))
              refine L_op A rfl (by decide) rfl (y_gtr (A.get (s := 69) rfl) rfl (c := false) (decide_eq_false (by omega)) fun ac A => ?_)
              replace A := A.keep [(7, .pointer (some ⟨p, 0, none⟩)), (8, .map (some q)), (9, .int .i64 (((i : Nat) : Int))), (10, .int .i64 (((j : Nat) : Int))), (70, .bool false)] ⟨rfl, rfl, rfl, rfl, rfl, trivial⟩
              refine hK19 _ _ ?_
              refine wp_cond_false (A.get rfl) ?_
              refine wp_exit ?_
              refine hK15 _ _ ?_
              refine region_seq ?_  -- region 11
              refine L_op A rfl (by decide) rfl (y_move (A.get (s := 10) rfl) fun ac A => ?_)
              refine L_op A rfl (by decide) rfl (y_add (A.get (s := 45) rfl) rfl (c := ((j + 1 : Nat) : Int)) ((wrap64 (by omega)).trans (by omega)) fun ac A => ?_)
              refine L_op A rfl (by decide) rfl (y_assign (A.get (s := 46) rfl) fun ac A => ?_)
              replace A := A.keep [(7, .pointer (some ⟨p, 0, none⟩)), (8, .map (some q)), (9, .int .i64 (((i : Nat) : Int))), (10, .int .i64 (((j + 1 : Nat) : Int))), (70, .bool false)] ⟨rfl, rfl, rfl, rfl, rfl, trivial⟩
              replace A := A.keep [(7, .pointer (some ⟨p, 0, none⟩)), (8, .map (some q)), (9, .int .i64 (((i : Nat) : Int))), (10, .int .i64 (((j + 1 : Nat) : Int)))] ⟨rfl, rfl, rfl, rfl, trivial⟩
              replace S : St _ _ _ ([(q, oq)] ++ (Hn ++ (seH es))) := S.perm (by classical rw [List.perm_iff_count]; intro x; simp only [List.count_append, List.count_cons, List.count_nil] <;> omega)
              exact ⟨k2 - 1, by omega, j + 1, _, _, by omega, by omega, A, hg, hnd, S, hN⟩
            · obtain ⟨qq, x, hqx⟩ : ∃ qq x, m.q (((i : Nat) : Int), ((j : Nat) : Int)) = qq ++ [x] := ⟨_, _, (List.dropLast_concat_getLast (List.ne_nil_of_length_pos (by omega))).symm⟩
              have hql : k3 = qq.length + 1 := by rw [← hk3, hqx]; simp
              have hx : x ∈ m.q (((i : Nat) : Int), ((j : Nat) : Int)) := by rw [hqx]; simp
              have hlk := hg.opn (((i : Nat) : Int), ((j : Nat) : Int)) (List.ne_nil_of_mem hx)
              have htk := take_last hlk hqx
              have hany := (hg.snt _ x hx).any
              have hxl := bs_len hN hx
              have hg' : Good (m.setq (((i : Nat) : Int), ((j : Nat) : Int)) qq) sn := hg.sub (fun y hy => by rw [hqx]; exact List.mem_append_left _ hy)
              refine wp_seq_k fun K20 hK20 => ?_
              refine wp_seq_k fun K21 hK21 => ?_
              refine region_seq ?_  -- region 14
              refine L_op A rfl (by decide) rfl (y_move (A.get (s := 7) rfl) fun ac A => ?_)
              refine L_op A rfl (by decide) rfl (y_move (A.get (s := 9) rfl) fun ac A => ?_)
              refine L_op A rfl (by decide) rfl (y_move (A.get (s := 10) rfl) fun ac A => ?_)
              refine L_op A rfl (by decide) rfl (y_call3 (by kernel_rfl) rfl (A.get (s := 66) rfl) (A.get (s := 67) rfl) (A.get (s := 68) rfl) (callN (len_is (m := m) hk3 hN (St.app_left (H := Hn) (K := ([(q, oq)] ++ (seH es))) (S.perm (by classical rw [List.perm_iff_count]; intro x; simp only [List.count_append, List.count_cons, List.count_nil] <;> omega))).holds i64i i64j) fun v w H gG nN hf ac A => ?_))
              obtain ⟨rfl, rfl⟩ := hf
              replace S : St _ _ _ ([(q, oq)] ++ (Hn ++ (seH es))) := (S.new gG nN).perm (by first | exact List.Perm.refl _ | (rw [List.append_assoc]; exact List.Perm.refl _) | (simp only [List.append_assoc, List.nil_append, List.append_nil]; exact List.Perm.refl _))
              refine L_op A rfl (by decide) rfl (y_gtr (A.get (s := 69) rfl) rfl (c := true) (decide_eq_true (by omega)) fun ac A => ?_)
              replace A := A.keep [(7, .pointer (some ⟨p, 0, none⟩)), (8, .map (some q)), (9, .int .i64 (((i : Nat) : Int))), (10, .int .i64 (((j : Nat) : Int))), (70, .bool true)] ⟨rfl, rfl, rfl, rfl, rfl, trivial⟩
              refine hK21 _ _ ?_
              refine wp_cond_true (A.get rfl) ?_
              refine wp_skip ?_
              refine hK20 _ _ ?_
              refine wp_block ?_
              refine wp_seq_k fun K22 hK22 => ?_
              refine region_seq ?_  -- region 15
              refine L_op A rfl (by decide) rfl (y_move (A.get (s := 7) rfl) fun ac A => ?_)
              refine L_op A rfl (by decide) rfl (y_move (A.get (s := 9) rfl) fun ac A => ?_)
              refine L_op A rfl (by decide) rfl (y_move (A.get (s := 10) rfl) fun ac A => ?_)
              refine L_op A rfl (by decide) rfl (y_call3 (by kernel_rfl) rfl (A.get (s := 71) rfl) (A.get (s := 72) rfl) (A.get (s := 73) rfl) (callN (len_is (m := m) hk3 hN (St.app_left (H := Hn) (K := ([(q, oq)] ++ (seH es))) (S.perm (by classical rw [List.perm_iff_count]; intro x; simp only [List.count_append, List.count_cons, List.count_nil] <;> omega))).holds i64i i64j) fun v w H gG nN hf ac A => ?_))
              obtain ⟨rfl, rfl⟩ := hf
              replace S : St _ _ _ ([(q, oq)] ++ (Hn ++ (seH es))) := (S.new gG nN).perm (by first | exact List.Perm.refl _ | (rw [List.append_assoc]; exact List.Perm.refl _) | (simp only [List.append_assoc, List.nil_append, List.append_nil]; exact List.Perm.refl _))
              refine L_op A rfl (by decide) rfl (y_assign (A.get (s := 74) rfl) fun ac A => ?_)
              replace A := A.keep [(7, .pointer (some ⟨p, 0, none⟩)), (8, .map (some q)), (9, .int .i64 (((i : Nat) : Int))), (10, .int .i64 (((j : Nat) : Int))), (11, .int .i64 (((k3 : Nat) : Int))), (70, .bool true)] ⟨rfl, rfl, rfl, rfl, rfl, rfl, trivial⟩
              refine hK22 _ _ ?_
              refine wp_seq_k fun K23 hK23 => ?_
              refine region_seq ?_  -- region 16
              refine L_op A rfl (by decide) rfl (y_move (A.get (s := 7) rfl) fun ac A => ?_)
              refine L_op A rfl (by decide) rfl (y_move (A.get (s := 9) rfl) fun ac A => ?_)
              refine L_op A rfl (by decide) rfl (y_move (A.get (s := 10) rfl) fun ac A => ?_)
              refine L_op A rfl (by decide) rfl (y_move (A.get (s := 11) rfl) fun ac A => ?_)
              replace A := A.keep [(7, .pointer (some ⟨p, 0, none⟩)), (8, .map (some q)), (9, .int .i64 (((i : Nat) : Int))), (10, .int .i64 (((j : Nat) : Int))), (11, .int .i64 (((k3 : Nat) : Int))), (70, .bool true), (76, .pointer (some ⟨p, 0, none⟩)), (77, .int .i64 (((i : Nat) : Int))), (78, .int .i64 (((j : Nat) : Int))), (79, .int .i64 (((k3 : Nat) : Int)))] ⟨rfl, rfl, rfl, rfl, rfl, rfl, rfl, rfl, rfl, rfl, trivial⟩
              refine L_op A rfl (by decide) rfl (y_sub (A.get (s := 79) rfl) rfl (c := ((qq.length : Nat) : Int)) ((wrap64 (by omega)).trans (by omega)) fun ac A => ?_)
              replace S : St _ _ _ (Hn ++ ([(q, oq)] ++ (seH es))) := S.perm (by classical rw [List.perm_iff_count]; intro x; simp only [List.count_append, List.count_cons, List.count_nil] <;> omega)
              refine L_op A rfl (by decide) rfl (y_call4 (by kernel_rfl) rfl (A.get (s := 76) rfl) (A.get (s := 77) rfl) (A.get (s := 78) rfl) (A.get (s := 80) rfl) (callW (take_is htk hN S.app_left.nd S.app_left.holds i64i i64j) fun v w Hx s hf ac A => ?_))
              replace S : St _ _ _ (Hx ++ ([(q, oq)] ++ (seH es))) := St.call (H := Hn) (R := ([(q, oq)] ++ (seH es))) S rfl s
              obtain ⟨vb, Hb, Hm1, rfl, hB, rfl, hN⟩ := hf
              replace S : St _ _ _ ((Hm1 ++ Hb) ++ ([(q, oq)] ++ (seH es))) := S
              replace S : St _ _ _ (Hm1 ++ (Hb ++ ([(q, oq)] ++ (seH es)))) := S.perm (by classical rw [List.perm_iff_count]; intro x; simp only [List.count_append, List.count_cons, List.count_nil] <;> omega)
              replace S : St _ _ _ ([(q, oq)] ++ (Hm1 ++ (Hb ++ (seH es)))) := S.perm (by classical rw [List.perm_iff_count]; intro x; simp only [List.count_append, List.count_cons, List.count_nil] <;> omega)
              obtain ⟨ta, tc, rfl⟩ := SlRep.len hB
              refine L_op A rfl (by decide) rfl (y_move (A.get (s := 81) rfl) fun ac A => ?_)
              refine L_op A rfl (by decide) rfl (y_extract (A.get (s := 75) rfl) rfl fun ac A => ?_)
              replace A := A.keep [(7, .pointer (some ⟨p, 0, none⟩)), (8, .map (some q)), (9, .int .i64 (((i : Nat) : Int))), (10, .int .i64 (((j : Nat) : Int))), (11, .int .i64 (((k3 : Nat) : Int))), (70, .bool true), (75, .tuple #[.slice ta x.1.length tc, .int .i64 0]), (82, .slice ta x.1.length tc)] ⟨rfl, rfl, rfl, rfl, rfl, rfl, rfl, rfl, trivial⟩
              refine L_op A rfl (by decide) rfl (y_extract (A.get (s := 75) rfl) rfl fun ac A => ?_)
              refine L_op A rfl (by decide) rfl (y_assign (A.get (s := 82) rfl) fun ac A => ?_)
              refine L_op A rfl (by decide) rfl (y_assign (A.get (s := 83) rfl) fun ac A => ?_)
              replace A := A.keep [(7, .pointer (some ⟨p, 0, none⟩)), (8, .map (some q)), (9, .int .i64 (((i : Nat) : Int))), (10, .int .i64 (((j : Nat) : Int))), (11, .int .i64 (((k3 : Nat) : Int))), (12, .slice ta x.1.length tc), (13, .int .i64 0), (70, .bool true)] ⟨rfl, rfl, rfl, rfl, rfl, rfl, rfl, rfl, trivial⟩
              refine hK23 _ _ ?_
              refine wp_seq_k fun K24 hK24 => ?_
              refine region_seq ?_  -- region 17
              refine L_op A rfl (by decide) rfl (y_assign rfl fun ac A => ?_)
              replace A := A.keep [(7, .pointer (some ⟨p, 0, none⟩)), (8, .map (some q)), (9, .int .i64 (((i : Nat) : Int))), (10, .int .i64 (((j : Nat) : Int))), (11, .int .i64 (((k3 : Nat) : Int))), (12, .slice ta x.1.length tc), (13, .int .i64 0), (14, .bool false), (70, .bool true)] ⟨rfl, rfl, rfl, rfl, rfl, rfl, rfl, rfl, rfl, trivial⟩
              refine hK24 _ _ ?_
              refine wp_seq_k fun K25 hK25 => ?_
              refine wp_seq_k fun K26 hK26 => ?_
              refine region_seq ?_  -- region 18
              refine L_op A rfl (by decide) rfl (y_assign rfl fun ac A => ?_)
              replace A := A.keep [(7, .pointer (some ⟨p, 0, none⟩)), (8, .map (some q)), (9, .int .i64 (((i : Nat) : Int))), (10, .int .i64 (((j : Nat) : Int))), (11, .int .i64 (((k3 : Nat) : Int))), (12, .slice ta x.1.length tc), (13, .int .i64 0), (14, .bool false), (15, .int .i64 0), (70, .bool true)] ⟨rfl, rfl, rfl, rfl, rfl, rfl, rfl, rfl, rfl, rfl, trivial⟩
              refine hK26 _ _ ?_
              refine wp_block ?_
              replace A := A.keep [(7, .pointer (some ⟨p, 0, none⟩)), (8, .map (some q)), (9, .int .i64 (((i : Nat) : Int))), (10, .int .i64 (((j : Nat) : Int))), (11, .int .i64 (((k3 : Nat) : Int))), (12, .slice ta x.1.length tc), (13, .int .i64 0), (14, .bool false), (15, .int .i64 0)] ⟨rfl, rfl, rfl, rfl, rfl, rfl, rfl, rfl, rfl, trivial⟩
              have hgk : goodK (((i : Nat) : Int), ((j : Nat) : Int)) := good i64i i64j
              obtain ⟨v0, HQ, H2, hv0, hsl0, hperm, -⟩ := hE.zoom (((i : Nat) : Int), ((j : Nat) : Int))
              obtain ⟨ra, rc, rfl⟩ := hsl0.len
              replace S : St _ _ _ ([(q, oq)] ++ (Hm1 ++ (Hb ++ (seH es)))) := S.perm (by classical rw [List.perm_iff_count]; intro x; simp only [List.count_append, List.count_cons, List.count_nil] <;> omega)
              replace S : St _ _ _ ([(q, oq)] ++ (Hm1 ++ (Hb ++ (HQ ++ H2)))) := S.perm (List.Perm.append_left _ (List.Perm.append_left _ (List.Perm.append_left _ hperm)))
              refine wp_loop_ghost (fun k4 ac w' => ∃ (z : Nat) (fd : Bool), k4 + z = (sn (((i : Nat) : Int), ((j : Nat) : Int))).length ∧ fd = ((sn (((i : Nat) : Int), ((j : Nat) : Int))).take z).any (fun s => nearF x.1 s) ∧ Sl 123 ac [(7, .pointer (some ⟨p, 0, none⟩)), (8, .map (some q)), (9, .int .i64 ((i : Nat) : Int)), (10, .int .i64 ((j : Nat) : Int)), (11, .int .i64 ((k3 : Nat) : Int)), (12, .slice ta x.1.length tc), (13, .int .i64 0), (14, .bool fd), (15, .int .i64 ((z : Nat) : Int))] ∧ St [] w0 w' ([(q, oq)] ++ (Hm1 ++ (Hb ++ (HQ ++ H2))))) (sn (((i : Nat) : Int), ((j : Nat) : Int))).length ⟨0, false, by simp, by simp, A, S⟩ ?_
              clear A S
              rintro k4 ac w5 ⟨z, fd, hk4, hfd, A, S⟩
              have hsfk := hsf (((i : Nat) : Int), ((j : Nat) : Int))
              rcases Nat.lt_or_ge z (sn (((i : Nat) : Int), ((j : Nat) : Int))).length with hz2 | hz2
              · obtain ⟨sx, hsx⟩ : ∃ s, (sn (((i : Nat) : Int), ((j : Nat) : Int)))[z]? = some s := ⟨_, List.getElem?_eq_getElem hz2⟩
                have hsxl := hsl (((i : Nat) : Int), ((j : Nat) : Int)) sx (List.mem_of_getElem? hsx)
                have htz : ((sn (((i : Nat) : Int), ((j : Nat) : Int))).take (z + 1)).any (fun s => nearF x.1 s) = (((sn (((i : Nat) : Int), ((j : Nat) : Int))).take z).any (fun s => nearF x.1 s) || nearF x.1 sx) := by rw [List.take_add_one, hsx]; simp
                rw [← hfd] at htz
                obtain ⟨rb, rcap, rcs, hra, rfl, hcs, hcap, htake⟩ := hsl0.block (by omega)
                simp only [Value.slice.injEq] at hra; obtain ⟨rfl, -, rfl⟩ := hra
                replace S : St _ _ _ ([(q, oq), (rb, .cells rcs 9 (0, 0))] ++ (Hm1 ++ (Hb ++ H2))) := S.perm (by classical rw [List.perm_iff_count]; intro x; simp only [List.count_append, List.count_cons, List.count_nil] <;> omega)
                cases fd with
                | true =>
                  refine wp_seq_k fun K27 hK27 => ?_
                  refine wp_seq_k fun K28 hK28 => ?_
                  refine region_seq ?_  -- region 19
                  refine L_op A rfl (by decide) rfl (y_move (A.get (s := 15) rfl) fun ac A => ?_)
                  refine L_op A rfl (by decide) rfl (y_move (A.get (s := 8) rfl) fun ac A => ?_)
                  refine L_op A rfl (by decide) rfl (y_move (A.get (s := 9) rfl) fun ac A => ?_)
                  refine L_op A rfl (by decide) rfl (y_move (A.get (s := 10) rfl) fun ac A => ?_)
                  replace A := A.keep [(7, .pointer (some ⟨p, 0, none⟩)), (8, .map (some q)), (9, .int .i64 (((i : Nat) : Int))), (10, .int .i64 (((j : Nat) : Int))), (11, .int .i64 (((k3 : Nat) : Int))), (12, .slice ta x.1.length tc), (13, .int .i64 0), (14, .bool true), (15, .int .i64 (((z : Nat) : Int))), (84, .int .i64 (((z : Nat) : Int))), (85, .map (some q)), (86, .int .i64 (((i : Nat) : Int))), (87, .int .i64 (((j : Nat) : Int)))] ⟨rfl, rfl, rfl, rfl, rfl, rfl, rfl, rfl, rfl, rfl, rfl, rfl, rfl, trivial⟩
                  refine L_op A rfl (by decide) rfl (y_build2 (A.get (s := 86) rfl) (A.get (s := 87) rfl) (v := .agg #[.int .i64 (((i : Nat) : Int)), .int .i64 (((j : Nat) : Int))]) (by kernel_rfl) fun ac A => ?_)
                  refine L_op A rfl (by decide) rfl (y_lookup (A.get (s := 85) rfl) (A.get (s := 88) rfl) (look_sent (S.get 0 rfl) hE.m (((i : Nat) : Int), ((j : Nat) : Int)) hgk hv0) fun ac A => ?_)
                  refine L_op A rfl (by decide) rfl (y_lenS (e := 9) (by kernel_rfl) (A.get (s := 89) rfl) fun ac A => ?_)
                  refine L_op A rfl (by decide) rfl (y_lss (A.get (s := 84) rfl) (A.get (s := 90) rfl) (c := true) (decide_eq_true (by omega)) fun ac A => ?_)
                  replace A := A.keep [(7, .pointer (some ⟨p, 0, none⟩)), (8, .map (some q)), (9, .int .i64 (((i : Nat) : Int))), (10, .int .i64 (((j : Nat) : Int))), (11, .int .i64 (((k3 : Nat) : Int))), (12, .slice ta x.1.length tc), (13, .int .i64 0), (14, .bool true), (15, .int .i64 (((z : Nat) : Int))), (91, .bool true)] ⟨rfl, rfl, rfl, rfl, rfl, rfl, rfl, rfl, rfl, rfl, trivial⟩
                  refine hK28 _ _ ?_
                  refine wp_cond_true (A.get rfl) ?_
                  refine wp_skip ?_
                  refine hK27 _ _ ?_
                  refine wp_seq_k fun K29 hK29 => ?_
                  refine wp_block ?_
                  refine region_seq ?_  -- region 21
                  refine L_op A rfl (by decide) rfl (y_move (A.get (s := 14) rfl) fun ac A => ?_)
                  refine L_op A rfl (by decide) rfl (y_move (A.get (s := 94) rfl) fun ac A => ?_)
                  refine L_no A rfl (by decide) rfl rfl (by decide) (A.get rfl) (by decide) fun ac A => ?_
                  refine L_no A rfl (by decide) rfl rfl (by decide) (A.get rfl) (by decide) fun ac A => ?_
                  replace A := A.keep [(7, .pointer (some ⟨p, 0, none⟩)), (8, .map (some q)), (9, .int .i64 (((i : Nat) : Int))), (10, .int .i64 (((j : Nat) : Int))), (11, .int .i64 (((k3 : Nat) : Int))), (12, .slice ta x.1.length tc), (13, .int .i64 0), (14, .bool true), (15, .int .i64 (((z : Nat) : Int))), (91, .bool true), (95, .bool true), (96, undef), (97, undef)] ⟨rfl, rfl, rfl, rfl, rfl, rfl, rfl, rfl, rfl, rfl, rfl, rfl, rfl, trivial⟩
                  refine L_no A rfl (by decide) rfl rfl (by decide) (A.get rfl) (by decide) fun ac A => ?_
                  refine L_no A rfl (by decide) rfl rfl (by decide) (A.get rfl) (by decide) fun ac A => ?_
                  refine L_no A rfl (by decide) rfl rfl (by decide) (A.get rfl) (by decide) fun ac A => ?_
                  refine L_no A rfl (by decide) rfl rfl (by decide) (A.get rfl) (by decide) fun ac A => ?_
                  replace A := A.keep [(7, .pointer (some ⟨p, 0, none⟩)), (8, .map (some q)), (9, .int .i64 (((i : Nat) : Int))), (10, .int .i64 (((j : Nat) : Int))), (11, .int .i64 (((k3 : Nat) : Int))), (12, .slice ta x.1.length tc), (13, .int .i64 0), (14, .bool true), (15, .int .i64 (((z : Nat) : Int))), (91, .bool true), (95, .bool true), (96, undef), (101, undef)] ⟨rfl, rfl, rfl, rfl, rfl, rfl, rfl, rfl, rfl, rfl, rfl, rfl, rfl, trivial⟩
                  refine L_no A rfl (by decide) rfl rfl (by decide) (A.get rfl) (by decide) fun ac A => ?_
                  refine L_no A rfl (by decide) rfl rfl (by decide) (A.get rfl) (by decide) fun ac A => ?_
                  refine L_no A rfl (by decide) rfl rfl (by decide) (A.get rfl) (by decide) fun ac A => ?_
                  refine L_no A rfl (by decide) rfl rfl (by decide) (A.get rfl) (by decide) fun ac A => ?_
                  replace A := A.keep [(7, .pointer (some ⟨p, 0, none⟩)), (8, .map (some q)), (9, .int .i64 (((i : Nat) : Int))), (10, .int .i64 (((j : Nat) : Int))), (11, .int .i64 (((k3 : Nat) : Int))), (12, .slice ta x.1.length tc), (13, .int .i64 0), (14, .bool true), (15, .int .i64 (((z : Nat) : Int))), (91, .bool true), (95, .bool true), (105, undef)] ⟨rfl, rfl, rfl, rfl, rfl, rfl, rfl, rfl, rfl, rfl, rfl, rfl, trivial⟩
                  refine L_op A rfl (by decide) rfl (y_pickT (A.get (s := 95) rfl) rfl fun ac A => ?_)
                  refine L_op A rfl (by decide) rfl (y_assign (A.get (s := 106) rfl) fun ac A => ?_)
                  replace A := A.keep [(7, .pointer (some ⟨p, 0, none⟩)), (8, .map (some q)), (9, .int .i64 (((i : Nat) : Int))), (10, .int .i64 (((j : Nat) : Int))), (11, .int .i64 (((k3 : Nat) : Int))), (12, .slice ta x.1.length tc), (13, .int .i64 0), (14, .bool true), (15, .int .i64 (((z : Nat) : Int))), (91, .bool true)] ⟨rfl, rfl, rfl, rfl, rfl, rfl, rfl, rfl, rfl, rfl, trivial⟩
                  refine hK29 _ _ ?_
                  refine region_seq ?_  -- region 20
                  refine L_op A rfl (by decide) rfl (y_move (A.get (s := 15) rfl) fun ac A => ?_)
                  refine L_op A rfl (by decide) rfl (y_add (A.get (s := 92) rfl) rfl (c := ((z + 1 : Nat) : Int)) ((wrap64 (by omega)).trans (by omega)) fun ac A => ?_)
                  refine L_op A rfl (by decide) rfl (y_assign (A.get (s := 93) rfl) fun ac A => ?_)
                  replace A := A.keep [(7, .pointer (some ⟨p, 0, none⟩)), (8, .map (some q)), (9, .int .i64 (((i : Nat) : Int))), (10, .int .i64 (((j : Nat) : Int))), (11, .int .i64 (((k3 : Nat) : Int))), (12, .slice ta x.1.length tc), (13, .int .i64 0), (14, .bool true), (15, .int .i64 (((z + 1 : Nat) : Int))), (91, .bool true)] ⟨rfl, rfl, rfl, rfl, rfl, rfl, rfl, rfl, rfl, rfl, trivial⟩
                  replace A := A.keep [(7, .pointer (some ⟨p, 0, none⟩)), (8, .map (some q)), (9, .int .i64 (((i : Nat) : Int))), (10, .int .i64 (((j : Nat) : Int))), (11, .int .i64 (((k3 : Nat) : Int))), (12, .slice ta x.1.length tc), (13, .int .i64 0), (14, .bool true), (15, .int .i64 (((z + 1 : Nat) : Int)))] ⟨rfl, rfl, rfl, rfl, rfl, rfl, rfl, rfl, rfl, trivial⟩
                  replace S : St _ _ _ ([(q, oq)] ++ (Hm1 ++ (Hb ++ ([(rb, .cells rcs 9 (0, 0))] ++ H2)))) := S.perm (by classical rw [List.perm_iff_count]; intro x; simp only [List.count_append, List.count_cons, List.count_nil] <;> omega)
                  exact ⟨k4 - 1, by omega, z + 1, true, by omega, by rw [htz]; simp, A, S⟩
                | false =>
                  refine wp_seq_k fun K27 hK27 => ?_
                  refine wp_seq_k fun K28 hK28 => ?_
                  refine region_seq ?_  -- region 19
                  refine L_op A rfl (by decide) rfl (y_move (A.get (s := 15) rfl) fun ac A => ?_)
                  refine L_op A rfl (by decide) rfl (y_move (A.get (s := 8) rfl) fun ac A => ?_)
                  refine L_op A rfl (by decide) rfl (y_move (A.get (s := 9) rfl) fun ac A => ?_)
                  refine L_op A rfl (by decide) rfl (y_move (A.get (s := 10) rfl) fun ac A => ?_)
                  replace A := A.keep [(7, .pointer (some ⟨p, 0, none⟩)), (8, .map (some q)), (9, .int .i64 (((i : Nat) : Int))), (10, .int .i64 (((j : Nat) : Int))), (11, .int .i64 (((k3 : Nat) : Int))), (12, .slice ta x.1.length tc), (13, .int .i64 0), (14, .bool false), (15, .int .i64 (((z : Nat) : Int))), (84, .int .i64 (((z : Nat) : Int))), (85, .map (some q)), (86, .int .i64 (((i : Nat) : Int))), (87, .int .i64 (((j : Nat) : Int)))] ⟨rfl, rfl, rfl, rfl, rfl, rfl, rfl, rfl, rfl, rfl, rfl, rfl, rfl, trivial⟩
                  refine L_op A rfl (by decide) rfl (y_build2 (A.get (s := 86) rfl) (A.get (s := 87) rfl) (v := .agg #[.int .i64 (((i : Nat) : Int)), .int .i64 (((j : Nat) : Int))]) (by kernel_rfl) fun ac A => ?_)
                  refine L_op A rfl (by decide) rfl (y_lookup (A.get (s := 85) rfl) (A.get (s := 88) rfl) (look_sent (S.get 0 rfl) hE.m (((i : Nat) : Int), ((j : Nat) : Int)) hgk hv0) fun ac A => ?_)
                  refine L_op A rfl (by decide) rfl (y_lenS (e := 9) (by kernel_rfl) (A.get (s := 89) rfl) fun ac A => ?_)
                  refine L_op A rfl (by decide) rfl (y_lss (A.get (s := 84) rfl) (A.get (s := 90) rfl) (c := true) (decide_eq_true (by omega)) fun ac A => ?_)
                  replace A := A.keep [(7, .pointer (some ⟨p, 0, none⟩)), (8, .map (some q)), (9, .int .i64 (((i : Nat) : Int))), (10, .int .i64 (((j : Nat) : Int))), (11, .int .i64 (((k3 : Nat) : Int))), (12, .slice ta x.1.length tc), (13, .int .i64 0), (14, .bool false), (15, .int .i64 (((z : Nat) : Int))), (91, .bool true)] ⟨rfl, rfl, rfl, rfl, rfl, rfl, rfl, rfl, rfl, rfl, trivial⟩
                  refine hK28 _ _ ?_
                  refine wp_cond_true (A.get rfl) ?_
                  refine wp_skip ?_
                  refine hK27 _ _ ?_
                  refine wp_seq_k fun K29 hK29 => ?_
                  refine wp_block ?_
                  refine region_seq ?_  -- region 21
                  refine L_op A rfl (by decide) rfl (y_move (A.get (s := 14) rfl) fun ac A => ?_)
                  refine L_op A rfl (by decide) rfl (y_move (A.get (s := 94) rfl) fun ac A => ?_)
                  refine L_yes A rfl (by decide) rfl rfl (by decide) (A.get rfl) (y_move (A.get (s := 12) rfl) fun ac A => ?_)
                  refine L_yes A rfl (by decide) rfl rfl (by decide) (A.get rfl) (y_move (A.get (s := 8) rfl) fun ac A => ?_)
                  replace A := A.keep [(7, .pointer (some ⟨p, 0, none⟩)), (8, .map (some q)), (9, .int .i64 (((i : Nat) : Int))), (10, .int .i64 (((j : Nat) : Int))), (11, .int .i64 (((k3 : Nat) : Int))), (12, .slice ta x.1.length tc), (13, .int .i64 0), (14, .bool false), (15, .int .i64 (((z : Nat) : Int))), (91, .bool true), (95, .bool false), (96, .slice ta x.1.length tc), (97, .map (some q))] ⟨rfl, rfl, rfl, rfl, rfl, rfl, rfl, rfl, rfl, rfl, rfl, rfl, rfl, trivial⟩
                  refine L_yes A rfl (by decide) rfl rfl (by decide) (A.get rfl) (y_move (A.get (s := 9) rfl) fun ac A => ?_)
                  refine L_yes A rfl (by decide) rfl rfl (by decide) (A.get rfl) (y_move (A.get (s := 10) rfl) fun ac A => ?_)
                  refine L_yes A rfl (by decide) rfl rfl (by decide) (A.get rfl) (y_build2 (A.get (s := 98) rfl) (A.get (s := 99) rfl) (v := .agg #[.int .i64 (((i : Nat) : Int)), .int .i64 (((j : Nat) : Int))]) (by kernel_rfl) fun ac A => ?_)
                  refine L_yes A rfl (by decide) rfl rfl (by decide) (A.get rfl) (y_lookup (A.get (s := 97) rfl) (A.get (s := 100) rfl) (look_sent (S.get 0 rfl) hE.m (((i : Nat) : Int), ((j : Nat) : Int)) hgk hv0) fun ac A => ?_)
                  replace A := A.keep [(7, .pointer (some ⟨p, 0, none⟩)), (8, .map (some q)), (9, .int .i64 (((i : Nat) : Int))), (10, .int .i64 (((j : Nat) : Int))), (11, .int .i64 (((k3 : Nat) : Int))), (12, .slice ta x.1.length tc), (13, .int .i64 0), (14, .bool false), (15, .int .i64 (((z : Nat) : Int))), (91, .bool true), (95, .bool false), (96, .slice ta x.1.length tc), (101, .slice (some ⟨rb, 0, none⟩) (sn (((i : Nat) : Int), ((j : Nat) : Int))).length rc)] ⟨rfl, rfl, rfl, rfl, rfl, rfl, rfl, rfl, rfl, rfl, rfl, rfl, rfl, trivial⟩
                  refine L_yes A rfl (by decide) rfl rfl (by decide) (A.get rfl) (y_move (A.get (s := 15) rfl) fun ac A => ?_)
                  refine L_yes A rfl (by decide) rfl rfl (by decide) (A.get rfl) (y_indexS (e := 9) (size := 1) (by kernel_rfl) (by kernel_rfl) (A.get (s := 101) rfl) (A.get (s := 102) rfl) (by omega) (by omega) (j := z) (by omega) fun ac A => ?_)
                  refine L_yes A rfl (by decide) rfl rfl (by decide) (A.get rfl) (y_load (by kernel_rfl) (A.get (s := 103) rfl) ((cell_of (S.get 1 rfl) _).trans ((SlRep.cell htake (by omega)).trans (by rw [List.getElem?_map, hsx]; rfl))) fun ac A => ?_)
                  refine L_yes A rfl (by decide) rfl rfl (by decide) (A.get rfl) (y_call2 (by kernel_rfl) rfl (A.get (s := 96) rfl) (A.get (s := 104) rfl) (callN (near_ok (b := sx) (hB.src (St.app_left (H := Hb) (K := ([(q, oq), (rb, .cells rcs 9 (0, 0))] ++ (Hm1 ++ H2))) (S.perm (by classical rw [List.perm_iff_count]; intro x; simp only [List.count_append, List.count_cons, List.count_nil] <;> omega))).holds) (by omega) (by omega)) fun v w H gG nN hf ac A => ?_))
                  obtain ⟨rfl, rfl⟩ := hf
                  replace S : St _ _ _ ([(q, oq), (rb, .cells rcs 9 (0, 0))] ++ (Hm1 ++ (Hb ++ H2))) := (S.new gG nN).perm (by first | exact List.Perm.refl _ | (rw [List.append_assoc]; exact List.Perm.refl _) | (simp only [List.append_assoc, List.nil_append, List.append_nil]; exact List.Perm.refl _))
                  replace A := A.keep [(7, .pointer (some ⟨p, 0, none⟩)), (8, .map (some q)), (9, .int .i64 (((i : Nat) : Int))), (10, .int .i64 (((j : Nat) : Int))), (11, .int .i64 (((k3 : Nat) : Int))), (12, .slice ta x.1.length tc), (13, .int .i64 0), (14, .bool false), (15, .int .i64 (((z : Nat) : Int))), (91, .bool true), (95, .bool false), (105, .bool ((nearF x.1 sx)))] ⟨rfl, rfl, rfl, rfl, rfl, rfl, rfl, rfl, rfl, rfl, rfl, rfl, trivial⟩
                  refine L_op A rfl (by decide) rfl (y_pickF (A.get (s := 95) rfl) (A.get (s := 105) rfl) fun ac A => ?_)
                  refine L_op A rfl (by decide) rfl (y_assign (A.get (s := 106) rfl) fun ac A => ?_)
                  replace A := A.keep [(7, .pointer (some ⟨p, 0, none⟩)), (8, .map (some q)), (9, .int .i64 (((i : Nat) : Int))), (10, .int .i64 (((j : Nat) : Int))), (11, .int .i64 (((k3 : Nat) : Int))), (12, .slice ta x.1.length tc), (13, .int .i64 0), (14, .bool ((nearF x.1 sx))), (15, .int .i64 (((z : Nat) : Int))), (91, .bool true)] ⟨rfl, rfl, rfl, rfl, rfl, rfl, rfl, rfl, rfl, rfl, trivial⟩
                  refine hK29 _ _ ?_
                  refine region_seq ?_  -- region 20
                  refine L_op A rfl (by decide) rfl (y_move (A.get (s := 15) rfl) fun ac A => ?_)
                  refine L_op A rfl (by decide) rfl (y_add (A.get (s := 92) rfl) rfl (c := ((z + 1 : Nat) : Int)) ((wrap64 (by omega)).trans (by omega)) fun ac A => ?_)
                  refine L_op A rfl (by decide) rfl (y_assign (A.get (s := 93) rfl) fun ac A => ?_)
                  replace A := A.keep [(7, .pointer (some ⟨p, 0, none⟩)), (8, .map (some q)), (9, .int .i64 (((i : Nat) : Int))), (10, .int .i64 (((j : Nat) : Int))), (11, .int .i64 (((k3 : Nat) : Int))), (12, .slice ta x.1.length tc), (13, .int .i64 0), (14, .bool ((nearF x.1 sx))), (15, .int .i64 (((z + 1 : Nat) : Int))), (91, .bool true)] ⟨rfl, rfl, rfl, rfl, rfl, rfl, rfl, rfl, rfl, rfl, trivial⟩
                  replace A := A.keep [(7, .pointer (some ⟨p, 0, none⟩)), (8, .map (some q)), (9, .int .i64 (((i : Nat) : Int))), (10, .int .i64 (((j : Nat) : Int))), (11, .int .i64 (((k3 : Nat) : Int))), (12, .slice ta x.1.length tc), (13, .int .i64 0), (14, .bool ((nearF x.1 sx))), (15, .int .i64 (((z + 1 : Nat) : Int)))] ⟨rfl, rfl, rfl, rfl, rfl, rfl, rfl, rfl, rfl, trivial⟩
                  replace S : St _ _ _ ([(q, oq)] ++ (Hm1 ++ (Hb ++ ([(rb, .cells rcs 9 (0, 0))] ++ H2)))) := S.perm (by classical rw [List.perm_iff_count]; intro x; simp only [List.count_append, List.count_cons, List.count_nil] <;> omega)
                  exact ⟨k4 - 1, by omega, z + 1, nearF x.1 sx, by omega, by rw [htz]; simp, A, S⟩
              · obtain rfl : z = (sn (((i : Nat) : Int), ((j : Nat) : Int))).length := by omega
                rw [List.take_length, hany] at hfd; subst hfd
                replace S : St _ _ _ ([(q, oq)] ++ (Hm1 ++ (Hb ++ (seH es)))) := S.perm (List.Perm.append_left _ (List.Perm.append_left _ (List.Perm.append_left _ hperm.symm)))
                refine wp_seq_k fun K27 hK27 => ?_
                refine wp_seq_k fun K28 hK28 => ?_
                refine region_seq ?_  -- region 19
                refine L_op A rfl (by decide) rfl (y_move (A.get (s := 15) rfl) fun ac A => ?_)
                refine L_op A rfl (by decide) rfl (y_move (A.get (s := 8) rfl) fun ac A => ?_)
                refine L_op A rfl (by decide) rfl (y_move (A.get (s := 9) rfl) fun ac A => ?_)
                refine L_op A rfl (by decide) rfl (y_move (A.get (s := 10) rfl) fun ac A => ?_)
                replace A := A.keep [(7, .pointer (some ⟨p, 0, none⟩)), (8, .map (some q)), (9, .int .i64 (((i : Nat) : Int))), (10, .int .i64 (((j : Nat) : Int))), (11, .int .i64 (((k3 : Nat) : Int))), (12, .slice ta x.1.length tc), (13, .int .i64 0), (14, .bool true), (15, .int .i64 ((((sn (((i : Nat) : Int), ((j : Nat) : Int))).length : Nat) : Int))), (84, .int .i64 ((((sn (((i : Nat) : Int), ((j : Nat) : Int))).length : Nat) : Int))), (85, .map (some q)), (86, .int .i64 (((i : Nat) : Int))), (87, .int .i64 (((j : Nat) : Int)))] ⟨rfl, rfl, rfl, rfl, rfl, rfl, rfl, rfl, rfl, rfl, rfl, rfl, rfl, trivial⟩
                refine L_op A rfl (by decide) rfl (y_build2 (A.get (s := 86) rfl) (A.get (s := 87) rfl) (v := .agg #[.int .i64 (((i : Nat) : Int)), .int .i64 (((j : Nat) : Int))]) (by kernel_rfl) fun ac A => ?_)
                refine L_op A rfl (by decide) rfl (y_lookup (A.get (s := 85) rfl) (A.get (s := 88) rfl) (look_sent (S.get 0 rfl) hE.m (((i : Nat) : Int), ((j : Nat) : Int)) hgk hv0) fun ac A => ?_)
                refine L_op A rfl (by decide) rfl (y_lenS (e := 9) (by kernel_rfl) (A.get (s := 89) rfl) fun ac A => ?_)
                refine L_op A rfl (by decide) rfl (y_lss (A.get (s := 84) rfl) (A.get (s := 90) rfl) (c := false) (decide_eq_false (by omega)) fun ac A => ?_)
                replace A := A.keep [(7, .pointer (some ⟨p, 0, none⟩)), (8, .map (some q)), (9, .int .i64 (((i : Nat) : Int))), (10, .int .i64 (((j : Nat) : Int))), (11, .int .i64 (((k3 : Nat) : Int))), (12, .slice ta x.1.length tc), (13, .int .i64 0), (14, .bool true), (15, .int .i64 ((((sn (((i : Nat) : Int), ((j : Nat) : Int))).length : Nat) : Int))), (91, .bool false)] ⟨rfl, rfl, rfl, rfl, rfl, rfl, rfl, rfl, rfl, rfl, trivial⟩
                refine hK28 _ _ ?_
                refine wp_cond_false (A.get rfl) ?_
                refine wp_exit ?_
                refine hK25 _ _ ?_
                refine wp_seq_k fun K29 hK29 => ?_
                refine region_seq ?_  -- region 22
                refine L_op A rfl (by decide) rfl (y_move (A.get (s := 13) rfl) fun ac A => ?_)
                refine L_op A rfl (by decide) rfl (y_neq (A.get (s := 107) rfl) rfl (c := false) (by decide) fun ac A => ?_)
                refine L_op A rfl (by decide) rfl (y_move (A.get (s := 108) rfl) fun ac A => ?_)
                refine L_yes A rfl (by decide) rfl rfl (by decide) (A.get rfl) (y_move (A.get (s := 14) rfl) fun ac A => ?_)
                replace A := A.keep [(7, .pointer (some ⟨p, 0, none⟩)), (8, .map (some q)), (9, .int .i64 (((i : Nat) : Int))), (10, .int .i64 (((j : Nat) : Int))), (11, .int .i64 (((k3 : Nat) : Int))), (12, .slice ta x.1.length tc), (13, .int .i64 0), (14, .bool true), (15, .int .i64 ((((sn (((i : Nat) : Int), ((j : Nat) : Int))).length : Nat) : Int))), (91, .bool false), (109, .bool false), (110, .bool true)] ⟨rfl, rfl, rfl, rfl, rfl, rfl, rfl, rfl, rfl, rfl, rfl, rfl, trivial⟩
                refine L_yes A rfl (by decide) rfl rfl (by decide) (A.get rfl) (y_not (A.get (s := 110) rfl) rfl fun ac A => ?_)
                refine L_op A rfl (by decide) rfl (y_pickF (A.get (s := 109) rfl) (A.get (s := 111) rfl) fun ac A => ?_)
                refine L_op A rfl (by decide) rfl (y_move (A.get (s := 112) rfl) fun ac A => ?_)
                refine L_yes A rfl (by decide) rfl rfl (by decide) (A.get rfl) (y_move (A.get (s := 7) rfl) fun ac A => ?_)
                replace A := A.keep [(7, .pointer (some ⟨p, 0, none⟩)), (8, .map (some q)), (9, .int .i64 (((i : Nat) : Int))), (10, .int .i64 (((j : Nat) : Int))), (11, .int .i64 (((k3 : Nat) : Int))), (12, .slice ta x.1.length tc), (13, .int .i64 0), (14, .bool true), (15, .int .i64 ((((sn (((i : Nat) : Int), ((j : Nat) : Int))).length : Nat) : Int))), (91, .bool false), (113, .bool false), (114, .pointer (some ⟨p, 0, none⟩))] ⟨rfl, rfl, rfl, rfl, rfl, rfl, rfl, rfl, rfl, rfl, rfl, rfl, trivial⟩
                refine L_yes A rfl (by decide) rfl rfl (by decide) (A.get rfl) (y_move (A.get (s := 9) rfl) fun ac A => ?_)
                refine L_yes A rfl (by decide) rfl rfl (by decide) (A.get rfl) (y_move (A.get (s := 10) rfl) fun ac A => ?_)
                refine L_yes A rfl (by decide) rfl rfl (by decide) (A.get rfl) (y_call3 (by kernel_rfl) rfl (A.get (s := 114) rfl) (A.get (s := 115) rfl) (A.get (s := 116) rfl) (callN (len_is (m := (m.setq (((i : Nat) : Int), ((j : Nat) : Int)) qq)) (by rw [M.setq_same]) hN (St.app_left (H := Hm1) (K := ([(q, oq)] ++ (Hb ++ (seH es)))) (S.perm (by classical rw [List.perm_iff_count]; intro x; simp only [List.count_append, List.count_cons, List.count_nil] <;> omega))).holds i64i i64j) fun v w H gG nN hf ac A => ?_))
                obtain ⟨rfl, rfl⟩ := hf
                replace S : St _ _ _ ([(q, oq)] ++ (Hm1 ++ (Hb ++ (seH es)))) := (S.new gG nN).perm (by first | exact List.Perm.refl _ | (rw [List.append_assoc]; exact List.Perm.refl _) | (simp only [List.append_assoc, List.nil_append, List.append_nil]; exact List.Perm.refl _))
                refine L_yes A rfl (by decide) rfl rfl (by decide) (A.get rfl) (y_move (A.get (s := 11) rfl) fun ac A => ?_)
                replace A := A.keep [(7, .pointer (some ⟨p, 0, none⟩)), (8, .map (some q)), (9, .int .i64 (((i : Nat) : Int))), (10, .int .i64 (((j : Nat) : Int))), (11, .int .i64 (((k3 : Nat) : Int))), (12, .slice ta x.1.length tc), (13, .int .i64 0), (14, .bool true), (15, .int .i64 ((((sn (((i : Nat) : Int), ((j : Nat) : Int))).length : Nat) : Int))), (91, .bool false), (113, .bool false), (117, .int .i64 (((qq.length : Nat) : Int))), (118, .int .i64 (((k3 : Nat) : Int)))] ⟨rfl, rfl, rfl, rfl, rfl, rfl, rfl, rfl, rfl, rfl, rfl, rfl, rfl, trivial⟩
                refine L_yes A rfl (by decide) rfl rfl (by decide) (A.get rfl) (y_sub (A.get (s := 118) rfl) rfl (c := ((qq.length : Nat) : Int)) ((wrap64 (by omega)).trans (by omega)) fun ac A => ?_)
                refine L_yes A rfl (by decide) rfl rfl (by decide) (A.get rfl) (y_neq (A.get (s := 117) rfl) (A.get (s := 119) rfl) (c := false) (by simp) fun ac A => ?_)
                refine L_op A rfl (by decide) rfl (y_pickF (A.get (s := 113) rfl) (A.get (s := 120) rfl) fun ac A => ?_)
                replace A := A.keep [(7, .pointer (some ⟨p, 0, none⟩)), (8, .map (some q)), (9, .int .i64 (((i : Nat) : Int))), (10, .int .i64 (((j : Nat) : Int))), (11, .int .i64 (((k3 : Nat) : Int))), (12, .slice ta x.1.length tc), (13, .int .i64 0), (14, .bool true), (15, .int .i64 ((((sn (((i : Nat) : Int), ((j : Nat) : Int))).length : Nat) : Int))), (91, .bool false), (121, .bool false)] ⟨rfl, rfl, rfl, rfl, rfl, rfl, rfl, rfl, rfl, rfl, rfl, trivial⟩
                refine hK29 _ _ ?_
                refine wp_cond_false (A.get rfl) ?_
                refine wp_skip ?_
                replace A := A.keep [(7, .pointer (some ⟨p, 0, none⟩)), (8, .map (some q)), (9, .int .i64 (((i : Nat) : Int))), (10, .int .i64 (((j : Nat) : Int)))] ⟨rfl, rfl, rfl, rfl, trivial⟩
                replace S : St _ _ _ ([(q, oq)] ++ (Hm1 ++ (seH es))) := St.app_left (K := Hb) (S.perm (by classical rw [List.perm_iff_count]; intro x; simp only [List.count_append, List.count_cons, List.count_nil] <;> omega))
                exact ⟨qq.length, by omega, m.setq (((i : Nat) : Int), ((j : Nat) : Int)) qq, _, by rw [M.setq_same], A, hg', hnd, S, hN⟩
        · skip
          refine wp_seq_k fun K13 hK13 => ?_
          refine wp_seq_k fun K14 hK14 => ?_
          refine region_seq ?_  -- region 10
          refine L_op A rfl (by decide) rfl (y_move (A.get (s := 10) rfl) fun ac A => ?_)
          refine L_op A rfl (by decide) rfl (y_move (A.get (s := 7) rfl) fun ac A => ?_)
          refine L_op A rfl (by decide) rfl (y_call1 (by kernel_rfl) rfl (A.get (s := 42) rfl) (callN ((hnd ▸ nodes_ok hN (St.app_left (H := Hn) (K := ([(q, oq)] ++ (seH es))) (S.perm (by classical rw [List.perm_iff_count]; intro x; simp only [List.count_append, List.count_cons, List.count_nil] <;> omega))).holds)) fun v w H gG nN hf ac A => ?_))
          obtain ⟨rfl, rfl⟩ := hf
          replace S : St _ _ _ ([(q, oq)] ++ (Hn ++ (seH es))) := (S.new gG nN).perm (by first | exact List.Perm.refl _ | (rw [List.append_assoc]; exact List.Perm.refl _) | (simp only [List.append_assoc, List.nil_append, List.append_nil]; exact List.Perm.refl _))
          refine L_op A rfl (by decide) rfl (y_leq (A.get (s := 41) rfl) (A.get (s := 43) rfl) (c := false) (decide_eq_false hj) fun ac A => ?_)
          replace A := A.keep [(7, .pointer (some ⟨p, 0, none⟩)), (8, .map (some q)), (9, .int .i64 (((i : Nat) : Int))), (10, .int .i64 (((j : Nat) : Int))), (44, .bool false)] ⟨rfl, rfl, rfl, rfl, rfl, trivial⟩
          refine hK14 _ _ ?_
          refine wp_cond_false (A.get rfl) ?_
          refine wp_exit ?_
          refine hK11 _ _ ?_
          refine region_seq ?_  -- region 8
          refine L_op A rfl (by decide) rfl (y_move (A.get (s := 9) rfl) fun ac A => ?_)
          refine L_op A rfl (by decide) rfl (y_add (A.get (s := 39) rfl) rfl (c := ((i + 1 : Nat) : Int)) ((wrap64 (by omega)).trans (by omega)) fun ac A => ?_)
          refine L_op A rfl (by decide) rfl (y_assign (A.get (s := 40) rfl) fun ac A => ?_)
          replace A := A.keep [(7, .pointer (some ⟨p, 0, none⟩)), (8, .map (some q)), (9, .int .i64 (((i + 1 : Nat) : Int))), (10, .int .i64 (((j : Nat) : Int))), (44, .bool false)] ⟨rfl, rfl, rfl, rfl, rfl, trivial⟩
          replace A := A.keep [(7, .pointer (some ⟨p, 0, none⟩)), (8, .map (some q)), (9, .int .i64 (((i + 1 : Nat) : Int)))] ⟨rfl, rfl, rfl, trivial⟩
          replace S : St _ _ _ ([(q, oq)] ++ (Hn ++ (seH es))) := S.perm (by classical rw [List.perm_iff_count]; intro x; simp only [List.count_append, List.count_cons, List.count_nil] <;> omega)
          exact ⟨kk - 1, by omega, i + 1, _, _, by omega, by omega, A, hg, hnd, S, hN⟩
      · skip
        refine wp_seq_k fun K9 hK9 => ?_
        refine wp_seq_k fun K10 hK10 => ?_
        refine region_seq ?_  -- region 7
        refine L_op A rfl (by decide) rfl (y_move (A.get (s := 9) rfl) fun ac A => ?_)
        refine L_op A rfl (by decide) rfl (y_move (A.get (s := 7) rfl) fun ac A => ?_)
        refine L_op A rfl (by decide) rfl (y_call1 (by kernel_rfl) rfl (A.get (s := 36) rfl) (callN ((hnd ▸ nodes_ok hN (St.app_left (H := Hn) (K := ([(q, oq)] ++ (seH es))) (S.perm (by classical rw [List.perm_iff_count]; intro x; simp only [List.count_append, List.count_cons, List.count_nil] <;> omega))).holds)) fun v w H gG nN hf ac A => ?_))
        obtain ⟨rfl, rfl⟩ := hf
        replace S : St _ _ _ ([(q, oq)] ++ (Hn ++ (seH es))) := (S.new gG nN).perm (by first | exact List.Perm.refl _ | (rw [List.append_assoc]; exact List.Perm.refl _) | (simp only [List.append_assoc, List.nil_append, List.append_nil]; exact List.Perm.refl _))
        refine L_op A rfl (by decide) rfl (y_leq (A.get (s := 35) rfl) (A.get (s := 37) rfl) (c := false) (decide_eq_false hi) fun ac A => ?_)
        replace A := A.keep [(7, .pointer (some ⟨p, 0, none⟩)), (8, .map (some q)), (9, .int .i64 (((i : Nat) : Int))), (38, .bool false)] ⟨rfl, rfl, rfl, rfl, trivial⟩
        refine hK10 _ _ ?_
        refine wp_cond_false (A.get rfl) ?_
        refine wp_exit ?_
        refine hK7 _ _ ?_
        refine wp_seq_k fun K11 hK11 => ?_
        refine region_seq ?_  -- region 24
        refine L_op A rfl (by decide) rfl (y_call0 (by kernel_rfl) rfl  (callN (awake_ok) fun v w Ha gG nN hf ac A => ?_))
        obtain rfl := hf
        replace S : St _ _ _ (Ha ++ ([(q, oq)] ++ (Hn ++ (seH es)))) := (S.new gG nN).perm (by first | exact List.Perm.refl _ | (rw [List.append_assoc]; exact List.Perm.refl _) | (simp only [List.append_assoc, List.nil_append, List.append_nil]; exact List.Perm.refl _))
        replace S : St _ _ _ ([(q, oq)] ++ (Ha ++ (Hn ++ (seH es)))) := S.swap1 (L := []) (A := Ha) (B := [(q, oq)])
        refine L_op A rfl (by decide) rfl (y_assign (A.get (s := 122) rfl) fun ac A => ?_)
        replace A := A.keep [(6, .bool true), (7, .pointer (some ⟨p, 0, none⟩)), (8, .map (some q)), (9, .int .i64 (((i : Nat) : Int))), (38, .bool false)] ⟨rfl, rfl, rfl, rfl, rfl, trivial⟩
        refine hK11 _ _ ?_
        exact wp_ret ⟨A.defers, _, res_run (rs := [.tmp 6]) (vs := [.bool true]) rfl ⟨A.get rfl, trivial⟩, ⟨_, rfl, S.kp.to_gr, _, rfl, S.newF⟩⟩
end Go.Proofs.Ytaeidblipdjgnaa
