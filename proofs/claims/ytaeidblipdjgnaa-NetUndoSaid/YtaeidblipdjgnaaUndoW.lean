import Derived.Test.YtaeidblipdjgnaaUndoL
namespace Go.Proofs.Ytaeidblipdjgnaa
open Go.RowKit Go.Maps Go.WideMaps

section
variable {p : Nat} {m m' : M} {H : Frag} {w : World} {a b i r : Int}
theorem cut_is (e : m.cut a b = (r, m')) (h : NetRep p m H) (nd : (keys H).Nodup) (hH : Holds w H) (ha : i64 a) (hb : i64 b) :
    Calls Try.prog 24 #[.pointer (some ⟨p, 0, none⟩), .int .i64 a, .int .i64 b] w (RetW (keys H) w fun v H' => v = .int .i64 r ∧ NetRep p m' H') := by
  have := cut_ok h nd hH ha hb; rw [e] at this; exact this
theorem heal_is (e : m.heal a b = (r, m')) (h : NetRep p m H) (nd : (keys H).Nodup) (hH : Holds w H) (ha : i64 a) (hb : i64 b) :
    Calls Try.prog 26 #[.pointer (some ⟨p, 0, none⟩), .int .i64 a, .int .i64 b] w (RetW (keys H) w fun v H' => v = .int .i64 r ∧ NetRep p m' H') := by
  have := heal_ok h nd hH ha hb; rw [e] at this; exact this
theorem drop_is {bs : List UInt8} (e : m.take a b i = (bs, r, m')) (h : NetRep p m H) (nd : (keys H).Nodup) (hH : Holds w H) (ha : i64 a) (hb : i64 b) :
    Calls Try.prog 22 #[.pointer (some ⟨p, 0, none⟩), .int .i64 a, .int .i64 b, .int .i64 i] w (RetW (keys H) w fun v H' => v = .int .i64 r ∧ NetRep p m' H') := by
  have := drop_ok (i := i) h nd hH ha hb; rw [e] at this; exact this
theorem rows_is {w0 : World} {va vb : Value} {x y : List (List (List UInt8))} {but : Int} (e : rowsF x y but = true) (ha : RSrc w0 va x) (hb : RSrc w0 vb y) (hl : x.length ≤ 1000000000) (hll : ∀ l ∈ x, l.length ≤ 1000000000) : Calls Try.prog 23 #[va, vb, .int .i64 but] w0 (RetN w0 (eqv (.bool true))) := by
  have := rows_ok (but := but) ha hb hl hll; rw [e] at this; exact this
theorem double_same (h : ¬ (m.double a b i).1 = 0) : (m.double a b i).2 = m := by
  unfold M.double at h ⊢
  split
  · rfl
  · split
    · rfl
    · rename_i x hx hq; simp [hx, hq] at h
theorem cut_same (h : ¬ (m.cut a b).1 = 0) : (m.cut a b).2 = m := by
  unfold M.cut at h ⊢
  split <;> simp_all
end
theorem shown_lens {p : Nat} {m : M} {H : Frag} (h : NetRep p m H) (hol : m.order.length ≤ 300) : (shownF m).length ≤ 1000000000 ∧ ∀ l ∈ shownF m, l.length ≤ 1000000000 := by
  constructor
  · have : (m.order.flatMap both).length = 2 * m.order.length := by
      generalize m.order = o
      induction o with
      | nil => rfl
      | cons x r ih => simp only [List.flatMap_cons, List.length_append, List.length_cons, ih, both]; simp; omega
    simp only [shownF, List.length_map, this]; omega
  · intro l hl
    simp only [shownF, List.mem_map] at hl
    obtain ⟨k, _, rfl⟩ := hl
    have := few_of h (k.1, k.2)
    simp [rowF]; omega

set_option maxRecDepth 20000 in
set_option maxHeartbeats 16000000 in
theorem netUndo_ok {w0 : World} {n a b i : Int} {vl v : Value} {ls : List (Int × Int)} {l : List Ac} (hls : Src w0 2 vl ls.length (pairs ls)) (hlg : ∀ l ∈ ls, i64 l.1 ∧ i64 l.2) (hs : AcSrc w0 v l) (ha : i64 a) (hb : i64 b) (hi : i64 i) : Calls Try.prog 5 #[.int .i64 n, vl, v, .int .i64 a, .int .i64 b, .int .i64 i] w0 (RetN w0 fun r _ => r = .bool true) := by
  obtain ⟨va, vc, rfl⟩ : ∃ a c, v = .slice a l.length c := by obtain ⟨_, _, _, h, _⟩ := hs; exact h.len'
  obtain ⟨la, lc, rfl⟩ := hls.len'
  by_cases h300 : 300 < ls.length
  · skip
    refine enter Try.func5 rfl (n := 197) rfl (Nat.le_of_ble_eq_true rfl) fun ac A => ?_
    have S : St _ _ _ [] := St.none w0
    refine wp_seq_k fun K1 hK1 => ?_
    refine region_seq ?_  -- region 0
    refine L_op A rfl (by decide) rfl (y_assign rfl fun ac A => ?_)
    replace A := A.keep [(0, .int .i64 n), (1, .slice la ls.length lc), (2, .slice va l.length vc), (3, .int .i64 a), (4, .int .i64 b), (5, .int .i64 i), (12, .bool false)] ⟨rfl, rfl, rfl, rfl, rfl, rfl, rfl, trivial⟩
    refine hK1 _ _ ?_
    refine wp_seq_k fun K2 hK2 => ?_
    refine wp_seq_k fun K3 hK3 => ?_
    refine region_seq ?_  -- region 1
    refine L_op A rfl (by decide) rfl (y_move (A.get (s := 1) rfl) fun ac A => ?_)
    refine L_op A rfl (by decide) rfl (y_lenS (e := 28) (by kernel_rfl) (A.get (s := 24) rfl) fun ac A => ?_)
    refine L_op A rfl (by decide) rfl (y_gtr (A.get (s := 25) rfl) rfl (c := true) (decide_eq_true (by omega)) fun ac A => ?_)
    refine L_op A rfl (by decide) rfl (y_move (A.get (s := 26) rfl) fun ac A => ?_)
    replace A := A.keep [(0, .int .i64 n), (1, .slice la ls.length lc), (2, .slice va l.length vc), (3, .int .i64 a), (4, .int .i64 b), (5, .int .i64 i), (12, .bool false), (27, .bool true)] ⟨rfl, rfl, rfl, rfl, rfl, rfl, rfl, rfl, trivial⟩
    refine L_no A rfl (by decide) rfl rfl (by decide) (A.get rfl) (by decide) fun ac A => ?_
    refine L_no A rfl (by decide) rfl rfl (by decide) (A.get rfl) (by decide) fun ac A => ?_
    refine L_no A rfl (by decide) rfl rfl (by decide) (A.get rfl) (by decide) fun ac A => ?_
    refine L_op A rfl (by decide) rfl (y_pickT (A.get (s := 27) rfl) rfl fun ac A => ?_)
    replace A := A.keep [(0, .int .i64 n), (1, .slice la ls.length lc), (2, .slice va l.length vc), (3, .int .i64 a), (4, .int .i64 b), (5, .int .i64 i), (12, .bool false), (31, .bool true)] ⟨rfl, rfl, rfl, rfl, rfl, rfl, rfl, rfl, trivial⟩
    refine hK3 _ _ ?_
    refine wp_cond_true (A.get rfl) ?_
    refine wp_seq_k fun K4 hK4 => ?_
    refine region_seq ?_  -- region 2
    refine L_op A rfl (by decide) rfl (y_call0 (by kernel_rfl) rfl  (callN (awake_ok) fun v w Ha gG nN hf ac A => ?_))
    obtain rfl := hf
    replace S : St _ _ _ Ha := (S.new gG nN).perm (by first | exact List.Perm.refl _ | (rw [List.append_assoc]; exact List.Perm.refl _) | (simp only [List.append_assoc, List.nil_append, List.append_nil]; exact List.Perm.refl _))
    refine L_op A rfl (by decide) rfl (y_assign (A.get (s := 32) rfl) fun ac A => ?_)
    replace A := A.keep [(0, .int .i64 n), (1, .slice la ls.length lc), (2, .slice va l.length vc), (3, .int .i64 a), (4, .int .i64 b), (5, .int .i64 i), (12, .bool true), (31, .bool true)] ⟨rfl, rfl, rfl, rfl, rfl, rfl, rfl, rfl, trivial⟩
    refine hK4 _ _ ?_
    exact wp_ret ⟨A.defers, _, res_run (rs := [.tmp 12]) (vs := [.bool true]) rfl ⟨A.get rfl, trivial⟩, ⟨_, rfl, S.kp.to_gr, _, rfl, S.newF⟩⟩
  have hsg : ∀ w, Gr w0 w → AcSrc w (.slice va l.length vc) l := fun w g => by
    obtain ⟨X, h1, h2, h3, h4⟩ := hs
    exact ⟨X, h1, h2, h3.gr g, fun i x hx => let ⟨u, e1, e2, e3⟩ := h4 i x hx; ⟨u, e1, e2.gr g, e3⟩⟩
  have hfewc : ∀ w, Gr w0 w → Calls Try.prog 14 #[.slice va l.length vc] w (RetN w (eqv (.bool (fewN 0 l)))) := fun w g => few_ok (hsg w g)
  cases hfew : fewN 0 l with
  | false =>
    rw [hfew] at hfewc
    refine enter Try.func5 rfl (n := 197) rfl (Nat.le_of_ble_eq_true rfl) fun ac A => ?_
    have S : St _ _ _ [] := St.none w0
    refine wp_seq_k fun K1 hK1 => ?_
    refine region_seq ?_  -- region 0
    refine L_op A rfl (by decide) rfl (y_assign rfl fun ac A => ?_)
    replace A := A.keep [(0, .int .i64 n), (1, .slice la ls.length lc), (2, .slice va l.length vc), (3, .int .i64 a), (4, .int .i64 b), (5, .int .i64 i), (12, .bool false)] ⟨rfl, rfl, rfl, rfl, rfl, rfl, rfl, trivial⟩
    refine hK1 _ _ ?_
    refine wp_seq_k fun K2 hK2 => ?_
    refine wp_seq_k fun K3 hK3 => ?_
    refine region_seq ?_  -- region 1
    refine L_op A rfl (by decide) rfl (y_move (A.get (s := 1) rfl) fun ac A => ?_)
    refine L_op A rfl (by decide) rfl (y_lenS (e := 28) (by kernel_rfl) (A.get (s := 24) rfl) fun ac A => ?_)
    refine L_op A rfl (by decide) rfl (y_gtr (A.get (s := 25) rfl) rfl (c := false) (decide_eq_false (by omega)) fun ac A => ?_)
    refine L_op A rfl (by decide) rfl (y_move (A.get (s := 26) rfl) fun ac A => ?_)
    replace A := A.keep [(0, .int .i64 n), (1, .slice la ls.length lc), (2, .slice va l.length vc), (3, .int .i64 a), (4, .int .i64 b), (5, .int .i64 i), (12, .bool false), (27, .bool false)] ⟨rfl, rfl, rfl, rfl, rfl, rfl, rfl, rfl, trivial⟩
    refine L_yes A rfl (by decide) rfl rfl (by decide) (A.get rfl) (y_move (A.get (s := 2) rfl) fun ac A => ?_)
    refine L_yes A rfl (by decide) rfl rfl (by decide) (A.get rfl) (y_call1 (by kernel_rfl) rfl (A.get (s := 28) rfl) (callN (hfewc _ S.kp.to_gr) fun v w H gG nN hf ac A => ?_))
    obtain ⟨rfl, rfl⟩ := hf
    replace S : St _ _ _ [] := S.new gG nN
    refine L_yes A rfl (by decide) rfl rfl (by decide) (A.get rfl) (y_not (A.get (s := 29) rfl) rfl fun ac A => ?_)
    refine L_op A rfl (by decide) rfl (y_pickF (A.get (s := 27) rfl) (A.get (s := 30) rfl) fun ac A => ?_)
    replace A := A.keep [(0, .int .i64 n), (1, .slice la ls.length lc), (2, .slice va l.length vc), (3, .int .i64 a), (4, .int .i64 b), (5, .int .i64 i), (12, .bool false), (31, .bool true)] ⟨rfl, rfl, rfl, rfl, rfl, rfl, rfl, rfl, trivial⟩
    refine hK3 _ _ ?_
    refine wp_cond_true (A.get rfl) ?_
    refine wp_seq_k fun K4 hK4 => ?_
    refine region_seq ?_  -- region 2
    refine L_op A rfl (by decide) rfl (y_call0 (by kernel_rfl) rfl  (callN (awake_ok) fun v w Ha gG nN hf ac A => ?_))
    obtain rfl := hf
    replace S : St _ _ _ Ha := (S.new gG nN).perm (by first | exact List.Perm.refl _ | (rw [List.append_assoc]; exact List.Perm.refl _) | (simp only [List.append_assoc, List.nil_append, List.append_nil]; exact List.Perm.refl _))
    refine L_op A rfl (by decide) rfl (y_assign (A.get (s := 32) rfl) fun ac A => ?_)
    replace A := A.keep [(0, .int .i64 n), (1, .slice la ls.length lc), (2, .slice va l.length vc), (3, .int .i64 a), (4, .int .i64 b), (5, .int .i64 i), (12, .bool true), (31, .bool true)] ⟨rfl, rfl, rfl, rfl, rfl, rfl, rfl, rfl, trivial⟩
    refine hK4 _ _ ?_
    exact wp_ret ⟨A.defers, _, res_run (rs := [.tmp 12]) (vs := [.bool true]) rfl ⟨A.get rfl, trivial⟩, ⟨_, rfl, S.kp.to_gr, _, rfl, S.newF⟩⟩
  | true =>
    rw [hfew] at hfewc
    have hl := fewN_len hfew (by omega)
    have hplay : ∀ w, Gr w0 w → Calls Try.prog 15 #[.int .i64 n, .slice la ls.length lc, .slice va l.length vc] w (RetN w (PlayedR n ls l)) := fun w g => played_ok (hls.gr g) (by omega) hlg (hsg w g) (by omega)
    cases hnew : newM n ls with
    | none =>
      have hplay' : ∀ w, Gr w0 w → Calls Try.prog 15 #[.int .i64 n, .slice la ls.length lc, .slice va l.length vc] w (RetN w (eqv (.tuple #[.pointer none, .map none]))) := fun w g => (hplay w g).mono (by
        rintro e w' ⟨v, rfl, g, H, hr, nf⟩
        rcases hr with ⟨_, rfl, rfl⟩ | ⟨m, _, _, _, _, _, h, _⟩
        · exact ⟨_, rfl, g, [], ⟨rfl, rfl⟩, nf⟩
        · rw [hnew] at h; simp at h)
      refine enter Try.func5 rfl (n := 197) rfl (Nat.le_of_ble_eq_true rfl) fun ac A => ?_
      have S : St _ _ _ [] := St.none w0
      refine wp_seq_k fun K1 hK1 => ?_
      refine region_seq ?_  -- region 0
      refine L_op A rfl (by decide) rfl (y_assign rfl fun ac A => ?_)
      replace A := A.keep [(0, .int .i64 n), (1, .slice la ls.length lc), (2, .slice va l.length vc), (3, .int .i64 a), (4, .int .i64 b), (5, .int .i64 i), (12, .bool false)] ⟨rfl, rfl, rfl, rfl, rfl, rfl, rfl, trivial⟩
      refine hK1 _ _ ?_
      refine wp_seq_k fun K2 hK2 => ?_
      refine wp_seq_k fun K3 hK3 => ?_
      refine region_seq ?_  -- region 1
      refine L_op A rfl (by decide) rfl (y_move (A.get (s := 1) rfl) fun ac A => ?_)
      refine L_op A rfl (by decide) rfl (y_lenS (e := 28) (by kernel_rfl) (A.get (s := 24) rfl) fun ac A => ?_)
      refine L_op A rfl (by decide) rfl (y_gtr (A.get (s := 25) rfl) rfl (c := false) (decide_eq_false (by omega)) fun ac A => ?_)
      refine L_op A rfl (by decide) rfl (y_move (A.get (s := 26) rfl) fun ac A => ?_)
      replace A := A.keep [(0, .int .i64 n), (1, .slice la ls.length lc), (2, .slice va l.length vc), (3, .int .i64 a), (4, .int .i64 b), (5, .int .i64 i), (12, .bool false), (27, .bool false)] ⟨rfl, rfl, rfl, rfl, rfl, rfl, rfl, rfl, trivial⟩
      refine L_yes A rfl (by decide) rfl rfl (by decide) (A.get rfl) (y_move (A.get (s := 2) rfl) fun ac A => ?_)
      refine L_yes A rfl (by decide) rfl rfl (by decide) (A.get rfl) (y_call1 (by kernel_rfl) rfl (A.get (s := 28) rfl) (callN (hfewc _ S.kp.to_gr) fun v w H gG nN hf ac A => ?_))
      obtain ⟨rfl, rfl⟩ := hf
      replace S : St _ _ _ [] := S.new gG nN
      refine L_yes A rfl (by decide) rfl rfl (by decide) (A.get rfl) (y_not (A.get (s := 29) rfl) rfl fun ac A => ?_)
      refine L_op A rfl (by decide) rfl (y_pickF (A.get (s := 27) rfl) (A.get (s := 30) rfl) fun ac A => ?_)
      replace A := A.keep [(0, .int .i64 n), (1, .slice la ls.length lc), (2, .slice va l.length vc), (3, .int .i64 a), (4, .int .i64 b), (5, .int .i64 i), (12, .bool false), (31, .bool false)] ⟨rfl, rfl, rfl, rfl, rfl, rfl, rfl, rfl, trivial⟩
      refine hK3 _ _ ?_
      refine wp_cond_false (A.get rfl) ?_
      refine wp_skip ?_
      refine hK2 _ _ ?_
      refine wp_seq_k fun K4 hK4 => ?_
      refine region_seq ?_  -- region 3
      refine L_op A rfl (by decide) rfl (y_move (A.get (s := 0) rfl) fun ac A => ?_)
      refine L_op A rfl (by decide) rfl (y_move (A.get (s := 1) rfl) fun ac A => ?_)
      refine L_op A rfl (by decide) rfl (y_move (A.get (s := 2) rfl) fun ac A => ?_)
      refine L_op A rfl (by decide) rfl (y_call3 (by kernel_rfl) rfl (A.get (s := 34) rfl) (A.get (s := 35) rfl) (A.get (s := 36) rfl) (callN (hplay' _ S.kp.to_gr) fun v w H gG nN hf ac A => ?_))
      obtain ⟨rfl, rfl⟩ := hf
      replace S : St _ _ _ [] := S.new gG nN
      replace A := A.keep [(0, .int .i64 n), (1, .slice la ls.length lc), (2, .slice va l.length vc), (3, .int .i64 a), (4, .int .i64 b), (5, .int .i64 i), (12, .bool false), (31, .bool false), (37, .tuple #[.pointer none, .map none])] ⟨rfl, rfl, rfl, rfl, rfl, rfl, rfl, rfl, rfl, trivial⟩
      refine L_op A rfl (by decide) rfl (y_move (A.get (s := 37) rfl) fun ac A => ?_)
      refine L_op A rfl (by decide) rfl (y_extract (A.get (s := 33) rfl) rfl fun ac A => ?_)
      refine L_op A rfl (by decide) rfl (y_extract (A.get (s := 33) rfl) rfl fun ac A => ?_)
      refine L_op A rfl (by decide) rfl (y_assign (A.get (s := 38) rfl) fun ac A => ?_)
      replace A := A.keep [(0, .int .i64 n), (1, .slice la ls.length lc), (2, .slice va l.length vc), (3, .int .i64 a), (4, .int .i64 b), (5, .int .i64 i), (12, .bool false), (13, .pointer none), (31, .bool false), (39, .map none)] ⟨rfl, rfl, rfl, rfl, rfl, rfl, rfl, rfl, rfl, rfl, trivial⟩
      refine L_op A rfl (by decide) rfl (y_assign (A.get (s := 39) rfl) fun ac A => ?_)
      replace A := A.keep [(0, .int .i64 n), (1, .slice la ls.length lc), (2, .slice va l.length vc), (3, .int .i64 a), (4, .int .i64 b), (5, .int .i64 i), (12, .bool false), (13, .pointer none), (31, .bool false)] ⟨rfl, rfl, rfl, rfl, rfl, rfl, rfl, rfl, rfl, trivial⟩
      refine hK4 _ _ ?_
      refine wp_seq_k fun K5 hK5 => ?_
      refine wp_seq_k fun K6 hK6 => ?_
      refine region_seq ?_  -- region 4
      refine L_op A rfl (by decide) rfl (y_move (A.get (s := 13) rfl) fun ac A => ?_)
      refine L_op A rfl (by decide) rfl (y_ptrNil (c := true) (by kernel_rfl) (A.get (s := 40) rfl) rfl rfl fun ac A => ?_)
      replace A := A.keep [(0, .int .i64 n), (1, .slice la ls.length lc), (2, .slice va l.length vc), (3, .int .i64 a), (4, .int .i64 b), (5, .int .i64 i), (12, .bool false), (13, .pointer none), (31, .bool false), (41, .bool true)] ⟨rfl, rfl, rfl, rfl, rfl, rfl, rfl, rfl, rfl, rfl, trivial⟩
      refine hK6 _ _ ?_
      refine wp_cond_true (A.get rfl) ?_
      refine wp_seq_k fun K7 hK7 => ?_
      refine region_seq ?_  -- region 5
      refine L_op A rfl (by decide) rfl (y_call0 (by kernel_rfl) rfl  (callN (awake_ok) fun v w Ha gG nN hf ac A => ?_))
      obtain rfl := hf
      replace S : St _ _ _ Ha := (S.new gG nN).perm (by first | exact List.Perm.refl _ | (rw [List.append_assoc]; exact List.Perm.refl _) | (simp only [List.append_assoc, List.nil_append, List.append_nil]; exact List.Perm.refl _))
      refine L_op A rfl (by decide) rfl (y_assign (A.get (s := 42) rfl) fun ac A => ?_)
      replace A := A.keep [(0, .int .i64 n), (1, .slice la ls.length lc), (2, .slice va l.length vc), (3, .int .i64 a), (4, .int .i64 b), (5, .int .i64 i), (12, .bool true), (13, .pointer none), (31, .bool false), (41, .bool true)] ⟨rfl, rfl, rfl, rfl, rfl, rfl, rfl, rfl, rfl, rfl, trivial⟩
      refine hK7 _ _ ?_
      exact wp_ret ⟨A.defers, _, res_run (rs := [.tmp 12]) (vs := [.bool true]) rfl ⟨A.get rfl, trivial⟩, ⟨_, rfl, S.kp.to_gr, _, rfl, S.newF⟩⟩
    | some m0 =>
      have hok := play_ok hnew l
      have hord : ∀ k ∈ (play m0 l).1.order, i64 k.1 ∧ i64 k.2 := by rw [play_order]; exact newM_i64 hnew
      have hol : (play m0 l).1.order.length ≤ 300 := by rw [play_order]; have := (newM_ok hnew).2.2.2.1; omega
      generalize hpl : (play m0 l).1 = m at hok hord hol
      have hplay' : ∀ w, Gr w0 w → Calls Try.prog 15 #[.int .i64 n, .slice la ls.length lc, .slice va l.length vc] w (RetN w (fun r H => ∃ p q Hn Hq, r = .tuple #[.pointer (some ⟨p, 0, none⟩), .map (some q)] ∧ NetRep p m Hn ∧ H = Hn ++ Hq)) := fun w g => (hplay w g).mono (by
        rintro e w' ⟨v, rfl, g, H, hr, nf⟩
        rcases hr with ⟨h, _⟩ | ⟨m, p, q, Hn, oq, es, h, rfl, h2, h3, rfl⟩
        · rw [hnew] at h; simp at h
        · rw [hnew] at h; cases h
          rw [hpl] at h2
          exact ⟨_, rfl, g, _, ⟨p, q, Hn, _, rfl, h2, rfl⟩, nf⟩)
      refine enter Try.func5 rfl (n := 197) rfl (Nat.le_of_ble_eq_true rfl) fun ac A => ?_
      have S : St _ _ _ [] := St.none w0
      refine wp_seq_k fun K1 hK1 => ?_
      refine region_seq ?_  -- region 0
      refine L_op A rfl (by decide) rfl (y_assign rfl fun ac A => ?_)
      replace A := A.keep [(0, .int .i64 n), (1, .slice la ls.length lc), (2, .slice va l.length vc), (3, .int .i64 a), (4, .int .i64 b), (5, .int .i64 i), (12, .bool false)] ⟨rfl, rfl, rfl, rfl, rfl, rfl, rfl, trivial⟩
      refine hK1 _ _ ?_
      refine wp_seq_k fun K2 hK2 => ?_
      refine wp_seq_k fun K3 hK3 => ?_
      refine region_seq ?_  -- region 1
      refine L_op A rfl (by decide) rfl (y_move (A.get (s := 1) rfl) fun ac A => ?_)
      refine L_op A rfl (by decide) rfl (y_lenS (e := 28) (by kernel_rfl) (A.get (s := 24) rfl) fun ac A => ?_)
      refine L_op A rfl (by decide) rfl (y_gtr (A.get (s := 25) rfl) rfl (c := false) (decide_eq_false (by omega)) fun ac A => ?_)
      refine L_op A rfl (by decide) rfl (y_move (A.get (s := 26) rfl) fun ac A => ?_)
      replace A := A.keep [(0, .int .i64 n), (1, .slice la ls.length lc), (2, .slice va l.length vc), (3, .int .i64 a), (4, .int .i64 b), (5, .int .i64 i), (12, .bool false), (27, .bool false)] ⟨rfl, rfl, rfl, rfl, rfl, rfl, rfl, rfl, trivial⟩
      refine L_yes A rfl (by decide) rfl rfl (by decide) (A.get rfl) (y_move (A.get (s := 2) rfl) fun ac A => ?_)
      refine L_yes A rfl (by decide) rfl rfl (by decide) (A.get rfl) (y_call1 (by kernel_rfl) rfl (A.get (s := 28) rfl) (callN (hfewc _ S.kp.to_gr) fun v w H gG nN hf ac A => ?_))
      obtain ⟨rfl, rfl⟩ := hf
      replace S : St _ _ _ [] := S.new gG nN
      refine L_yes A rfl (by decide) rfl rfl (by decide) (A.get rfl) (y_not (A.get (s := 29) rfl) rfl fun ac A => ?_)
      refine L_op A rfl (by decide) rfl (y_pickF (A.get (s := 27) rfl) (A.get (s := 30) rfl) fun ac A => ?_)
      replace A := A.keep [(0, .int .i64 n), (1, .slice la ls.length lc), (2, .slice va l.length vc), (3, .int .i64 a), (4, .int .i64 b), (5, .int .i64 i), (12, .bool false), (31, .bool false)] ⟨rfl, rfl, rfl, rfl, rfl, rfl, rfl, rfl, trivial⟩
      refine hK3 _ _ ?_
      refine wp_cond_false (A.get rfl) ?_
      refine wp_skip ?_
      refine hK2 _ _ ?_
      refine wp_seq_k fun K4 hK4 => ?_
      refine region_seq ?_  -- region 3
      refine L_op A rfl (by decide) rfl (y_move (A.get (s := 0) rfl) fun ac A => ?_)
      refine L_op A rfl (by decide) rfl (y_move (A.get (s := 1) rfl) fun ac A => ?_)
      refine L_op A rfl (by decide) rfl (y_move (A.get (s := 2) rfl) fun ac A => ?_)
      refine L_op A rfl (by decide) rfl (y_call3 (by kernel_rfl) rfl (A.get (s := 34) rfl) (A.get (s := 35) rfl) (A.get (s := 36) rfl) (callN (hplay' _ S.kp.to_gr) fun vp w Hp gG nN hf ac A => ?_))
      obtain ⟨p, q, Hn, Hq, rfl, hN, rfl⟩ := hf
      replace S := S.new gG nN
      replace S : St _ _ _ Hn := St.app_left (K := Hq) (S.perm (by rw [List.append_nil]))
      replace A := A.keep [(0, .int .i64 n), (1, .slice la ls.length lc), (2, .slice va l.length vc), (3, .int .i64 a), (4, .int .i64 b), (5, .int .i64 i), (12, .bool false), (31, .bool false), (37, .tuple #[.pointer (some ⟨p, 0, none⟩), .map (some q)])] ⟨rfl, rfl, rfl, rfl, rfl, rfl, rfl, rfl, rfl, trivial⟩
      refine L_op A rfl (by decide) rfl (y_move (A.get (s := 37) rfl) fun ac A => ?_)
      refine L_op A rfl (by decide) rfl (y_extract (A.get (s := 33) rfl) rfl fun ac A => ?_)
      refine L_op A rfl (by decide) rfl (y_extract (A.get (s := 33) rfl) rfl fun ac A => ?_)
      refine L_op A rfl (by decide) rfl (y_assign (A.get (s := 38) rfl) fun ac A => ?_)
      replace A := A.keep [(0, .int .i64 n), (1, .slice la ls.length lc), (2, .slice va l.length vc), (3, .int .i64 a), (4, .int .i64 b), (5, .int .i64 i), (12, .bool false), (13, .pointer (some ⟨p, 0, none⟩)), (31, .bool false), (39, .map (some q))] ⟨rfl, rfl, rfl, rfl, rfl, rfl, rfl, rfl, rfl, rfl, trivial⟩
      refine L_op A rfl (by decide) rfl (y_assign (A.get (s := 39) rfl) fun ac A => ?_)
      replace A := A.keep [(0, .int .i64 n), (1, .slice la ls.length lc), (2, .slice va l.length vc), (3, .int .i64 a), (4, .int .i64 b), (5, .int .i64 i), (12, .bool false), (13, .pointer (some ⟨p, 0, none⟩)), (31, .bool false)] ⟨rfl, rfl, rfl, rfl, rfl, rfl, rfl, rfl, rfl, trivial⟩
      refine hK4 _ _ ?_
      refine wp_seq_k fun K5 hK5 => ?_
      refine wp_seq_k fun K6 hK6 => ?_
      refine region_seq ?_  -- region 4
      refine L_op A rfl (by decide) rfl (y_move (A.get (s := 13) rfl) fun ac A => ?_)
      refine L_op A rfl (by decide) rfl (y_ptrNil (c := false) (by kernel_rfl) (A.get (s := 40) rfl) rfl rfl fun ac A => ?_)
      replace A := A.keep [(0, .int .i64 n), (1, .slice la ls.length lc), (2, .slice va l.length vc), (3, .int .i64 a), (4, .int .i64 b), (5, .int .i64 i), (12, .bool false), (13, .pointer (some ⟨p, 0, none⟩)), (31, .bool false), (41, .bool false)] ⟨rfl, rfl, rfl, rfl, rfl, rfl, rfl, rfl, rfl, rfl, trivial⟩
      refine hK6 _ _ ?_
      refine wp_cond_false (A.get rfl) ?_
      refine wp_skip ?_
      refine hK5 _ _ ?_
      refine wp_seq_k fun K7 hK7 => ?_
      refine region_seq ?_  -- region 6
      refine L_op A rfl (by decide) rfl (y_move (A.get (s := 13) rfl) fun ac A => ?_)
      replace S : St _ _ _ Hn := S.perm (List.Perm.refl _)
      replace S : St _ _ _ (Hn ++ []) := S.perm (by rw [List.append_nil])
      refine L_op A rfl (by decide) rfl (y_call1 (by kernel_rfl) rfl (A.get (s := 43) rfl) (callW (shown_ok (m := m) hN S.app_left.nd S.app_left.holds hord hol) fun wv w Hx s hf ac A => ?_))
      replace S : St _ _ _ (Hx ++ []) := St.call (H := Hn) (R := []) S rfl s
      obtain ⟨Hn1, wO, wR, hN, wH, rfl⟩ := hf
      rw [List.append_nil] at S
      replace S : St _ _ _ (Hn1 ++ (wO ++ (rsH wR))) := S.perm (by classical rw [List.perm_iff_count]; intro x; simp only [List.count_append] <;> omega)
      obtain ⟨wa, wc, rfl⟩ := wH.sl.len
      have wL := shown_lens hN hol
      refine L_op A rfl (by decide) rfl (y_assign (A.get (s := 44) rfl) fun ac A => ?_)
      replace A := A.keep [(0, .int .i64 n), (1, .slice la ls.length lc), (2, .slice va l.length vc), (3, .int .i64 a), (4, .int .i64 b), (5, .int .i64 i), (12, .bool false), (13, .pointer (some ⟨p, 0, none⟩)), (15, .slice wa (shownF m).length wc), (31, .bool false), (41, .bool false)] ⟨rfl, rfl, rfl, rfl, rfl, rfl, rfl, rfl, rfl, rfl, rfl, trivial⟩
      refine hK7 _ _ ?_
      refine wp_seq_k fun K8 hK8 => ?_
      have J : ∀ (ac : Act) (w : World) (Hj : Frag), Sl 197 ac [(3, .int .i64 a), (4, .int .i64 b), (13, .pointer (some ⟨p, 0, none⟩)), (15, .slice wa (shownF m).length wc)] → St [] w0 w (Hj ++ (wO ++ rsH wR)) → NetRep p m Hj → K8 ac w := by
        intro ac w Hj A S hN
        refine hK8 _ _ ?_
        refine wp_seq_k fun K9 hK9 => ?_
        refine wp_seq_k fun K10 hK10 => ?_
        refine region_seq ?_  -- region 12
        refine L_op A rfl (by decide) rfl (y_move (A.get (s := 13) rfl) fun ac A => ?_)
        refine L_op A rfl (by decide) rfl (y_move (A.get (s := 3) rfl) fun ac A => ?_)
        refine L_op A rfl (by decide) rfl (y_move (A.get (s := 4) rfl) fun ac A => ?_)
        replace S : St _ _ _ (Hj ++ (wO ++ (rsH wR))) := S.perm (by classical rw [List.perm_iff_count]; intro x; simp only [List.count_append] <;> omega)
        refine L_op A rfl (by decide) rfl (y_call3 (by kernel_rfl) rfl (A.get (s := 103) rfl) (A.get (s := 104) rfl) (A.get (s := 105) rfl) (callW (cut_ok hN S.app_left.nd S.app_left.holds ha hb) fun v w Hn1 s hf ac A => ?_))
        replace S : St _ _ _ (Hn1 ++ (wO ++ (rsH wR))) := St.call (H := Hj) (R := (wO ++ (rsH wR))) S rfl s
        obtain ⟨rfl, hN⟩ := hf
        replace S : St _ _ _ (Hn1 ++ (wO ++ (rsH wR))) := S.perm (by classical rw [List.perm_iff_count]; intro x; simp only [List.count_append] <;> omega)
        refine L_op A rfl (by decide) rfl (y_neq (A.get (s := 106) rfl) rfl rfl fun ac A => ?_)
        replace A := A.keep [(3, .int .i64 a), (4, .int .i64 b), (13, .pointer (some ⟨p, 0, none⟩)), (15, .slice wa (shownF m).length wc), (107, .bool (((m.cut a b).1 : Int) != 0))] ⟨rfl, rfl, rfl, rfl, rfl, trivial⟩
        refine hK10 _ _ ?_
        refine wp_cond_split (A.get rfl) (fun hc107 => ?_) (fun hc107 => ?_)
        · -- .bool (((m.cut a b).1 : Int) != 0) is true
          refine wp_seq_k fun K11 hK11 => ?_
          refine region_seq ?_  -- region 13
          refine L_op A rfl (by decide) rfl (y_call0 (by kernel_rfl) rfl  (callN (awake_ok) fun v w Ha gG nN hf ac A => ?_))
          obtain rfl := hf
          replace S : St _ _ _ (Ha ++ (Hn1 ++ (wO ++ (rsH wR)))) := (S.new gG nN).perm (by first | exact List.Perm.refl _ | (rw [List.append_assoc]; exact List.Perm.refl _) | (simp only [List.append_assoc, List.nil_append, List.append_nil]; exact List.Perm.refl _))
          refine L_op A rfl (by decide) rfl (y_assign (A.get (s := 108) rfl) fun ac A => ?_)
          replace A := A.keep [(3, .int .i64 a), (4, .int .i64 b), (12, .bool true), (13, .pointer (some ⟨p, 0, none⟩)), (15, .slice wa (shownF m).length wc), (107, .bool (((m.cut a b).1 : Int) != 0))] ⟨rfl, rfl, rfl, rfl, rfl, rfl, trivial⟩
          refine hK11 _ _ ?_
          exact wp_ret ⟨A.defers, _, res_run (rs := [.tmp 12]) (vs := [.bool true]) rfl ⟨A.get rfl, trivial⟩, ⟨_, rfl, S.kp.to_gr, _, rfl, S.newF⟩⟩
        · -- .bool (((m.cut a b).1 : Int) != 0) is false
          simp only [bne_eq_false_iff_eq] at hc107
          obtain ⟨hlf, hcut⟩ := cut_split hc107
          rw [hcut] at hN
          obtain ⟨jb, hjb, hrows⟩ := rows_undone hok hlf
          have hopf : (((m.setl (ends a b) true).setq (a, b) []).setq (b, a) []).open' a b = false := by simp [M.open', M.setq, M.setl]
          have hopt : (undone m a b).open' a b = true := by simp [M.open', undone, M.setq, hlf]
          have hqa : ((undone m a b).q (a, b)).length = 0 := by simp [undone, M.setq]
          have hqb : ((undone m a b).q (b, a)).length = 0 := by simp [undone, M.setq]
          refine wp_skip ?_
          refine hK9 _ _ ?_
          refine wp_seq_k fun K12 hK12 => ?_
          refine region_seq ?_  -- region 14
          refine L_op A rfl (by decide) rfl (y_assign rfl fun ac A => ?_)
          replace A := A.keep [(3, .int .i64 a), (4, .int .i64 b), (13, .pointer (some ⟨p, 0, none⟩)), (15, .slice wa (shownF m).length wc), (20, .int .i64 ((-1))), (107, .bool (((m.cut a b).1 : Int) != 0))] ⟨rfl, rfl, rfl, rfl, rfl, rfl, trivial⟩
          refine hK12 _ _ ?_
          refine wp_seq_k fun K13 hK13 => ?_
          refine region_seq ?_  -- region 15
          refine L_op A rfl (by decide) rfl (y_move (A.get (s := 13) rfl) fun ac A => ?_)
          refine L_op A rfl (by decide) rfl (y_call1 (by kernel_rfl) rfl (A.get (s := 109) rfl) (callN (links_ok hN (St.app_left (H := Hn1) (K := (wO ++ (rsH wR))) (S.perm (by classical rw [List.perm_iff_count]; intro x; simp only [List.count_append] <;> omega))).holds) fun vl w Hl gG nN hf ac A => ?_))
          obtain ⟨oa, oc, rfl⟩ := SlRep.len hf
          replace S : St _ _ _ (Hl ++ (Hn1 ++ (wO ++ (rsH wR)))) := (S.new gG nN).perm (by first | exact List.Perm.refl _ | (rw [List.append_assoc]; exact List.Perm.refl _) | (simp only [List.append_assoc, List.nil_append, List.append_nil]; exact List.Perm.refl _))
          have hL : SlRep 28 2 (.slice oa m.order.length oc) m.order.length (pairs m.order) Hl := hf
          refine L_op A rfl (by decide) rfl (y_assign (A.get (s := 110) rfl) fun ac A => ?_)
          replace A := A.keep [(3, .int .i64 a), (4, .int .i64 b), (13, .pointer (some ⟨p, 0, none⟩)), (15, .slice wa (shownF m).length wc), (20, .int .i64 ((-1))), (21, .slice oa m.order.length oc), (107, .bool (((m.cut a b).1 : Int) != 0))] ⟨rfl, rfl, rfl, rfl, rfl, rfl, rfl, trivial⟩
          refine hK13 _ _ ?_
          refine wp_seq_k fun K14 hK14 => ?_
          refine wp_seq_k fun K15 hK15 => ?_
          refine region_seq ?_  -- region 16
          refine L_op A rfl (by decide) rfl (y_assign rfl fun ac A => ?_)
          replace A := A.keep [(3, .int .i64 a), (4, .int .i64 b), (13, .pointer (some ⟨p, 0, none⟩)), (15, .slice wa (shownF m).length wc), (20, .int .i64 ((-1))), (21, .slice oa m.order.length oc), (22, .int .i64 0), (107, .bool (((m.cut a b).1 : Int) != 0))] ⟨rfl, rfl, rfl, rfl, rfl, rfl, rfl, rfl, trivial⟩
          refine hK15 _ _ ?_
          refine wp_block ?_
          replace A := A.keep [(3, .int .i64 a), (4, .int .i64 b), (13, .pointer (some ⟨p, 0, none⟩)), (15, .slice wa (shownF m).length wc), (20, .int .i64 ((-1))), (21, .slice oa m.order.length oc), (22, .int .i64 0)] ⟨rfl, rfl, rfl, rfl, rfl, rfl, rfl, trivial⟩
          replace S : St _ _ _ (Hn1 ++ (wO ++ ((rsH wR) ++ Hl))) := S.perm (by classical rw [List.perm_iff_count]; intro x; simp only [List.count_append] <;> omega)
          refine wp_loop_ghost (fun kk ac w' => ∃ (z : Nat), kk + z = m.order.length ∧ Sl 197 ac [(3, .int .i64 a), (4, .int .i64 b), (13, .pointer (some ⟨p, 0, none⟩)), (15, .slice wa (shownF m).length wc), (20, .int .i64 (butTo m.order a b z)), (21, .slice oa m.order.length oc), (22, .int .i64 ((z : Nat) : Int))] ∧ St [] w0 w' (Hn1 ++ (wO ++ ((rsH wR) ++ Hl)))) m.order.length ⟨0, by simp, A, S⟩ ?_
          clear A S
          rintro kk ac w2 ⟨z, hkk, A, S⟩
          rcases Nat.lt_or_ge z m.order.length with hz | hz
          · obtain ⟨lz, hlz⟩ : ∃ x, m.order[z]? = some x := ⟨_, List.getElem?_eq_getElem hz⟩
            obtain ⟨oa, oc', hva, hrow⟩ := pairs_row (hL.src (St.app_left (H := Hl) (K := (Hn1 ++ (wO ++ (rsH wR)))) (S.perm (by classical rw [List.perm_iff_count]; intro x; simp only [List.count_append] <;> omega))).holds) hlz
            simp only [Value.slice.injEq] at hva; obtain ⟨rfl, -, rfl⟩ := hva
            have hbut : butTo m.order a b (z + 1) = if hit a b lz then ((z : Nat) : Int) else butTo m.order a b z := by rw [butTo, List.getD_eq_getElem?_getD, hlz]; rfl
            by_cases e1 : lz.1 = a
            · by_cases e2 : lz.2 = b
              · skip
                refine wp_seq_k fun K16 hK16 => ?_
                refine wp_seq_k fun K17 hK17 => ?_
                refine region_seq ?_  -- region 17
                refine L_op A rfl (by decide) rfl (y_move (A.get (s := 22) rfl) fun ac A => ?_)
                refine L_op A rfl (by decide) rfl (y_move (A.get (s := 21) rfl) fun ac A => ?_)
                refine L_op A rfl (by decide) rfl (y_lenS (e := 28) (by kernel_rfl) (A.get (s := 112) rfl) fun ac A => ?_)
                refine L_op A rfl (by decide) rfl (y_lss (A.get (s := 111) rfl) (A.get (s := 113) rfl) (c := true) (decide_eq_true (by omega)) fun ac A => ?_)
                replace A := A.keep [(3, .int .i64 a), (4, .int .i64 b), (13, .pointer (some ⟨p, 0, none⟩)), (15, .slice wa (shownF m).length wc), (20, .int .i64 (butTo m.order a b z)), (21, .slice (some oa) m.order.length oc), (22, .int .i64 (((z : Nat) : Int))), (114, .bool true)] ⟨rfl, rfl, rfl, rfl, rfl, rfl, rfl, rfl, trivial⟩
                refine hK17 _ _ ?_
                refine wp_cond_true (A.get rfl) ?_
                refine wp_skip ?_
                refine hK16 _ _ ?_
                refine wp_seq_k fun K18 hK18 => ?_
                refine wp_block ?_
                refine wp_seq_k fun K19 hK19 => ?_
                refine region_seq ?_  -- region 19
                refine L_op A rfl (by decide) rfl (y_move (A.get (s := 21) rfl) fun ac A => ?_)
                refine L_op A rfl (by decide) rfl (y_move (A.get (s := 22) rfl) fun ac A => ?_)
                refine L_op A rfl (by decide) rfl (y_indexA (e := 28) (size := 2) (by kernel_rfl) (by kernel_rfl) (A.get (s := 117) rfl) (A.get (s := 118) rfl) (by omega) (by omega) fun ac A => ?_)
                refine L_op A rfl (by decide) rfl (y_indexPA (n := 2) (e := 3) (size := 1) (by kernel_rfl) (by kernel_rfl) (A.get (s := 119) rfl) rfl (by decide) (by decide) fun ac A => ?_)
                replace A := A.keep [(3, .int .i64 a), (4, .int .i64 b), (13, .pointer (some ⟨p, 0, none⟩)), (15, .slice wa (shownF m).length wc), (20, .int .i64 (butTo m.order a b z)), (21, .slice (some oa) m.order.length oc), (22, .int .i64 (((z : Nat) : Int))), (114, .bool true), (120, .pointer (some ((oa.add (((z : Nat) : Int).toNat * 2)).add 0)))] ⟨rfl, rfl, rfl, rfl, rfl, rfl, rfl, rfl, rfl, trivial⟩
                refine L_op A rfl (by decide) rfl (y_load (by kernel_rfl) (A.get (s := 120) rfl) (hrow 0 (Nat.zero_lt_succ _)) fun ac A => ?_)
                refine L_op A rfl (by decide) rfl (y_move (A.get (s := 3) rfl) fun ac A => ?_)
                refine L_op A rfl (by decide) rfl (y_eql (A.get (s := 121) rfl) (A.get (s := 122) rfl) (c := true) (by simp [e1]) fun ac A => ?_)
                refine L_op A rfl (by decide) rfl (y_move (A.get (s := 123) rfl) fun ac A => ?_)
                replace A := A.keep [(3, .int .i64 a), (4, .int .i64 b), (13, .pointer (some ⟨p, 0, none⟩)), (15, .slice wa (shownF m).length wc), (20, .int .i64 (butTo m.order a b z)), (21, .slice (some oa) m.order.length oc), (22, .int .i64 (((z : Nat) : Int))), (114, .bool true), (124, .bool true)] ⟨rfl, rfl, rfl, rfl, rfl, rfl, rfl, rfl, rfl, trivial⟩
                refine L_yes A rfl (by decide) rfl rfl (by decide) (A.get rfl) (y_move (A.get (s := 21) rfl) fun ac A => ?_)
                refine L_yes A rfl (by decide) rfl rfl (by decide) (A.get rfl) (y_move (A.get (s := 22) rfl) fun ac A => ?_)
                refine L_yes A rfl (by decide) rfl rfl (by decide) (A.get rfl) (y_indexA (e := 28) (size := 2) (by kernel_rfl) (by kernel_rfl) (A.get (s := 125) rfl) (A.get (s := 126) rfl) (by omega) (by omega) fun ac A => ?_)
                refine L_yes A rfl (by decide) rfl rfl (by decide) (A.get rfl) (y_indexPA (n := 2) (e := 3) (size := 1) (by kernel_rfl) (by kernel_rfl) (A.get (s := 127) rfl) rfl (by decide) (by decide) fun ac A => ?_)
                replace A := A.keep [(3, .int .i64 a), (4, .int .i64 b), (13, .pointer (some ⟨p, 0, none⟩)), (15, .slice wa (shownF m).length wc), (20, .int .i64 (butTo m.order a b z)), (21, .slice (some oa) m.order.length oc), (22, .int .i64 (((z : Nat) : Int))), (114, .bool true), (124, .bool true), (128, .pointer (some ((oa.add (((z : Nat) : Int).toNat * 2)).add 1)))] ⟨rfl, rfl, rfl, rfl, rfl, rfl, rfl, rfl, rfl, rfl, trivial⟩
                refine L_yes A rfl (by decide) rfl rfl (by decide) (A.get rfl) (y_load (by kernel_rfl) (A.get (s := 128) rfl) (hrow 1 (Nat.lt_succ_self _)) fun ac A => ?_)
                refine L_yes A rfl (by decide) rfl rfl (by decide) (A.get rfl) (y_move (A.get (s := 4) rfl) fun ac A => ?_)
                refine L_yes A rfl (by decide) rfl rfl (by decide) (A.get rfl) (y_eql (A.get (s := 129) rfl) (A.get (s := 130) rfl) (c := true) (by simp [e2]) fun ac A => ?_)
                refine L_op A rfl (by decide) rfl (y_pickT (A.get (s := 124) rfl) (A.get (s := 131) rfl) fun ac A => ?_)
                replace A := A.keep [(3, .int .i64 a), (4, .int .i64 b), (13, .pointer (some ⟨p, 0, none⟩)), (15, .slice wa (shownF m).length wc), (20, .int .i64 (butTo m.order a b z)), (21, .slice (some oa) m.order.length oc), (22, .int .i64 (((z : Nat) : Int))), (114, .bool true), (132, .bool true)] ⟨rfl, rfl, rfl, rfl, rfl, rfl, rfl, rfl, rfl, trivial⟩
                refine L_op A rfl (by decide) rfl (y_move (A.get (s := 132) rfl) fun ac A => ?_)
                refine L_no A rfl (by decide) rfl rfl (by decide) (A.get rfl) (by decide) fun ac A => ?_
                refine L_no A rfl (by decide) rfl rfl (by decide) (A.get rfl) (by decide) fun ac A => ?_
                refine L_no A rfl (by decide) rfl rfl (by decide) (A.get rfl) (by decide) fun ac A => ?_
                replace A := A.keep [(3, .int .i64 a), (4, .int .i64 b), (13, .pointer (some ⟨p, 0, none⟩)), (15, .slice wa (shownF m).length wc), (20, .int .i64 (butTo m.order a b z)), (21, .slice (some oa) m.order.length oc), (22, .int .i64 (((z : Nat) : Int))), (114, .bool true), (133, .bool true), (136, undef)] ⟨rfl, rfl, rfl, rfl, rfl, rfl, rfl, rfl, rfl, rfl, trivial⟩
                refine L_no A rfl (by decide) rfl rfl (by decide) (A.get rfl) (by decide) fun ac A => ?_
                refine L_no A rfl (by decide) rfl rfl (by decide) (A.get rfl) (by decide) fun ac A => ?_
                refine L_no A rfl (by decide) rfl rfl (by decide) (A.get rfl) (by decide) fun ac A => ?_
                refine L_no A rfl (by decide) rfl rfl (by decide) (A.get rfl) (by decide) fun ac A => ?_
                replace A := A.keep [(3, .int .i64 a), (4, .int .i64 b), (13, .pointer (some ⟨p, 0, none⟩)), (15, .slice wa (shownF m).length wc), (20, .int .i64 (butTo m.order a b z)), (21, .slice (some oa) m.order.length oc), (22, .int .i64 (((z : Nat) : Int))), (114, .bool true), (133, .bool true), (140, undef)] ⟨rfl, rfl, rfl, rfl, rfl, rfl, rfl, rfl, rfl, rfl, trivial⟩
                refine L_no A rfl (by decide) rfl rfl (by decide) (A.get rfl) (by decide) fun ac A => ?_
                refine L_nu A rfl (by decide) rfl rfl (by decide) (A.get rfl) fun ac A => ?_
                refine L_nu A rfl (by decide) rfl rfl (by decide) (A.get rfl) fun ac A => ?_
                refine L_nu A rfl (by decide) rfl rfl (by decide) (A.get rfl) fun ac A => ?_
                replace A := A.keep [(3, .int .i64 a), (4, .int .i64 b), (13, .pointer (some ⟨p, 0, none⟩)), (15, .slice wa (shownF m).length wc), (20, .int .i64 (butTo m.order a b z)), (21, .slice (some oa) m.order.length oc), (22, .int .i64 (((z : Nat) : Int))), (114, .bool true), (133, .bool true), (141, undef), (144, undef)] ⟨rfl, rfl, rfl, rfl, rfl, rfl, rfl, rfl, rfl, rfl, rfl, trivial⟩
                refine L_nu A rfl (by decide) rfl rfl (by decide) (A.get rfl) fun ac A => ?_
                refine L_nu A rfl (by decide) rfl rfl (by decide) (A.get rfl) fun ac A => ?_
                refine L_nu A rfl (by decide) rfl rfl (by decide) (A.get rfl) fun ac A => ?_
                refine L_nu A rfl (by decide) rfl rfl (by decide) (A.get rfl) fun ac A => ?_
                replace A := A.keep [(3, .int .i64 a), (4, .int .i64 b), (13, .pointer (some ⟨p, 0, none⟩)), (15, .slice wa (shownF m).length wc), (20, .int .i64 (butTo m.order a b z)), (21, .slice (some oa) m.order.length oc), (22, .int .i64 (((z : Nat) : Int))), (114, .bool true), (133, .bool true), (141, undef), (148, undef)] ⟨rfl, rfl, rfl, rfl, rfl, rfl, rfl, rfl, rfl, rfl, rfl, trivial⟩
                refine L_no A rfl (by decide) rfl rfl (by decide) (A.get rfl) (by decide) fun ac A => ?_
                refine L_op A rfl (by decide) rfl (y_pickT (A.get (s := 133) rfl) rfl fun ac A => ?_)
                replace A := A.keep [(3, .int .i64 a), (4, .int .i64 b), (13, .pointer (some ⟨p, 0, none⟩)), (15, .slice wa (shownF m).length wc), (20, .int .i64 (butTo m.order a b z)), (21, .slice (some oa) m.order.length oc), (22, .int .i64 (((z : Nat) : Int))), (114, .bool true), (150, .bool true)] ⟨rfl, rfl, rfl, rfl, rfl, rfl, rfl, rfl, rfl, trivial⟩
                refine hK19 _ _ ?_
                refine wp_cond_true (A.get rfl) ?_
                refine region_seq ?_  -- region 20
                refine L_op A rfl (by decide) rfl (y_move (A.get (s := 22) rfl) fun ac A => ?_)
                refine L_op A rfl (by decide) rfl (y_assign (A.get (s := 151) rfl) fun ac A => ?_)
                replace A := A.keep [(3, .int .i64 a), (4, .int .i64 b), (13, .pointer (some ⟨p, 0, none⟩)), (15, .slice wa (shownF m).length wc), (20, .int .i64 (((z : Nat) : Int))), (21, .slice (some oa) m.order.length oc), (22, .int .i64 (((z : Nat) : Int))), (114, .bool true), (150, .bool true)] ⟨rfl, rfl, rfl, rfl, rfl, rfl, rfl, rfl, rfl, trivial⟩
                refine hK18 _ _ ?_
                refine region_seq ?_  -- region 18
                refine L_op A rfl (by decide) rfl (y_move (A.get (s := 22) rfl) fun ac A => ?_)
                refine L_op A rfl (by decide) rfl (y_add (A.get (s := 115) rfl) rfl (c := ((z + 1 : Nat) : Int)) ((wrap64 (by omega)).trans (by omega)) fun ac A => ?_)
                refine L_op A rfl (by decide) rfl (y_assign (A.get (s := 116) rfl) fun ac A => ?_)
                replace A := A.keep [(3, .int .i64 a), (4, .int .i64 b), (13, .pointer (some ⟨p, 0, none⟩)), (15, .slice wa (shownF m).length wc), (20, .int .i64 (((z : Nat) : Int))), (21, .slice (some oa) m.order.length oc), (22, .int .i64 (((z + 1 : Nat) : Int))), (114, .bool true), (150, .bool true)] ⟨rfl, rfl, rfl, rfl, rfl, rfl, rfl, rfl, rfl, trivial⟩
                replace A := A.keep [(3, .int .i64 a), (4, .int .i64 b), (13, .pointer (some ⟨p, 0, none⟩)), (15, .slice wa (shownF m).length wc), (20, .int .i64 (((z : Nat) : Int))), (21, .slice (some oa) m.order.length oc), (22, .int .i64 (((z + 1 : Nat) : Int)))] ⟨rfl, rfl, rfl, rfl, rfl, rfl, rfl, trivial⟩
                have hh : hit a b lz = true := by simp only [hit, Bool.or_eq_true, Bool.and_eq_true, beq_iff_eq]; omega
                rw [show (((z : Nat) : Int) : Int) = butTo m.order a b (z + 1) by rw [hbut, hh]; simp] at A
                exact ⟨kk - 1, by omega, z + 1, by omega, A, S⟩
              · skip
                by_cases e3 : lz.1 = b
                · by_cases e4 : lz.2 = a
                  · skip
                    refine wp_seq_k fun K16 hK16 => ?_
                    refine wp_seq_k fun K17 hK17 => ?_
                    refine region_seq ?_  -- region 17
                    refine L_op A rfl (by decide) rfl (y_move (A.get (s := 22) rfl) fun ac A => ?_)
                    refine L_op A rfl (by decide) rfl (y_move (A.get (s := 21) rfl) fun ac A => ?_)
                    refine L_op A rfl (by decide) rfl (y_lenS (e := 28) (by kernel_rfl) (A.get (s := 112) rfl) fun ac A => ?_)
                    refine L_op A rfl (by decide) rfl (y_lss (A.get (s := 111) rfl) (A.get (s := 113) rfl) (c := true) (decide_eq_true (by omega)) fun ac A => ?_)
                    replace A := A.keep [(3, .int .i64 a), (4, .int .i64 b), (13, .pointer (some ⟨p, 0, none⟩)), (15, .slice wa (shownF m).length wc), (20, .int .i64 (butTo m.order a b z)), (21, .slice (some oa) m.order.length oc), (22, .int .i64 (((z : Nat) : Int))), (114, .bool true)] ⟨rfl, rfl, rfl, rfl, rfl, rfl, rfl, rfl, trivial⟩
                    refine hK17 _ _ ?_
                    refine wp_cond_true (A.get rfl) ?_
                    refine wp_skip ?_
                    refine hK16 _ _ ?_
                    refine wp_seq_k fun K18 hK18 => ?_
                    refine wp_block ?_
                    refine wp_seq_k fun K19 hK19 => ?_
                    refine region_seq ?_  -- region 19
                    refine L_op A rfl (by decide) rfl (y_move (A.get (s := 21) rfl) fun ac A => ?_)
                    refine L_op A rfl (by decide) rfl (y_move (A.get (s := 22) rfl) fun ac A => ?_)
                    refine L_op A rfl (by decide) rfl (y_indexA (e := 28) (size := 2) (by kernel_rfl) (by kernel_rfl) (A.get (s := 117) rfl) (A.get (s := 118) rfl) (by omega) (by omega) fun ac A => ?_)
                    refine L_op A rfl (by decide) rfl (y_indexPA (n := 2) (e := 3) (size := 1) (by kernel_rfl) (by kernel_rfl) (A.get (s := 119) rfl) rfl (by decide) (by decide) fun ac A => ?_)
                    replace A := A.keep [(3, .int .i64 a), (4, .int .i64 b), (13, .pointer (some ⟨p, 0, none⟩)), (15, .slice wa (shownF m).length wc), (20, .int .i64 (butTo m.order a b z)), (21, .slice (some oa) m.order.length oc), (22, .int .i64 (((z : Nat) : Int))), (114, .bool true), (120, .pointer (some ((oa.add (((z : Nat) : Int).toNat * 2)).add 0)))] ⟨rfl, rfl, rfl, rfl, rfl, rfl, rfl, rfl, rfl, trivial⟩
                    refine L_op A rfl (by decide) rfl (y_load (by kernel_rfl) (A.get (s := 120) rfl) (hrow 0 (Nat.zero_lt_succ _)) fun ac A => ?_)
                    refine L_op A rfl (by decide) rfl (y_move (A.get (s := 3) rfl) fun ac A => ?_)
                    refine L_op A rfl (by decide) rfl (y_eql (A.get (s := 121) rfl) (A.get (s := 122) rfl) (c := true) (by simp [e1]) fun ac A => ?_)
                    refine L_op A rfl (by decide) rfl (y_move (A.get (s := 123) rfl) fun ac A => ?_)
                    replace A := A.keep [(3, .int .i64 a), (4, .int .i64 b), (13, .pointer (some ⟨p, 0, none⟩)), (15, .slice wa (shownF m).length wc), (20, .int .i64 (butTo m.order a b z)), (21, .slice (some oa) m.order.length oc), (22, .int .i64 (((z : Nat) : Int))), (114, .bool true), (124, .bool true)] ⟨rfl, rfl, rfl, rfl, rfl, rfl, rfl, rfl, rfl, trivial⟩
                    refine L_yes A rfl (by decide) rfl rfl (by decide) (A.get rfl) (y_move (A.get (s := 21) rfl) fun ac A => ?_)
                    refine L_yes A rfl (by decide) rfl rfl (by decide) (A.get rfl) (y_move (A.get (s := 22) rfl) fun ac A => ?_)
                    refine L_yes A rfl (by decide) rfl rfl (by decide) (A.get rfl) (y_indexA (e := 28) (size := 2) (by kernel_rfl) (by kernel_rfl) (A.get (s := 125) rfl) (A.get (s := 126) rfl) (by omega) (by omega) fun ac A => ?_)
                    refine L_yes A rfl (by decide) rfl rfl (by decide) (A.get rfl) (y_indexPA (n := 2) (e := 3) (size := 1) (by kernel_rfl) (by kernel_rfl) (A.get (s := 127) rfl) rfl (by decide) (by decide) fun ac A => ?_)
                    replace A := A.keep [(3, .int .i64 a), (4, .int .i64 b), (13, .pointer (some ⟨p, 0, none⟩)), (15, .slice wa (shownF m).length wc), (20, .int .i64 (butTo m.order a b z)), (21, .slice (some oa) m.order.length oc), (22, .int .i64 (((z : Nat) : Int))), (114, .bool true), (124, .bool true), (128, .pointer (some ((oa.add (((z : Nat) : Int).toNat * 2)).add 1)))] ⟨rfl, rfl, rfl, rfl, rfl, rfl, rfl, rfl, rfl, rfl, trivial⟩
                    refine L_yes A rfl (by decide) rfl rfl (by decide) (A.get rfl) (y_load (by kernel_rfl) (A.get (s := 128) rfl) (hrow 1 (Nat.lt_succ_self _)) fun ac A => ?_)
                    refine L_yes A rfl (by decide) rfl rfl (by decide) (A.get rfl) (y_move (A.get (s := 4) rfl) fun ac A => ?_)
                    refine L_yes A rfl (by decide) rfl rfl (by decide) (A.get rfl) (y_eql (A.get (s := 129) rfl) (A.get (s := 130) rfl) (c := false) (by simpa using e2) fun ac A => ?_)
                    refine L_op A rfl (by decide) rfl (y_pickT (A.get (s := 124) rfl) (A.get (s := 131) rfl) fun ac A => ?_)
                    replace A := A.keep [(3, .int .i64 a), (4, .int .i64 b), (13, .pointer (some ⟨p, 0, none⟩)), (15, .slice wa (shownF m).length wc), (20, .int .i64 (butTo m.order a b z)), (21, .slice (some oa) m.order.length oc), (22, .int .i64 (((z : Nat) : Int))), (114, .bool true), (132, .bool false)] ⟨rfl, rfl, rfl, rfl, rfl, rfl, rfl, rfl, rfl, trivial⟩
                    refine L_op A rfl (by decide) rfl (y_move (A.get (s := 132) rfl) fun ac A => ?_)
                    refine L_yes A rfl (by decide) rfl rfl (by decide) (A.get rfl) (y_move (A.get (s := 21) rfl) fun ac A => ?_)
                    refine L_yes A rfl (by decide) rfl rfl (by decide) (A.get rfl) (y_move (A.get (s := 22) rfl) fun ac A => ?_)
                    refine L_yes A rfl (by decide) rfl rfl (by decide) (A.get rfl) (y_indexA (e := 28) (size := 2) (by kernel_rfl) (by kernel_rfl) (A.get (s := 134) rfl) (A.get (s := 135) rfl) (by omega) (by omega) fun ac A => ?_)
                    replace A := A.keep [(3, .int .i64 a), (4, .int .i64 b), (13, .pointer (some ⟨p, 0, none⟩)), (15, .slice wa (shownF m).length wc), (20, .int .i64 (butTo m.order a b z)), (21, .slice (some oa) m.order.length oc), (22, .int .i64 (((z : Nat) : Int))), (114, .bool true), (133, .bool false), (136, .pointer (some (oa.add (((z : Nat) : Int).toNat * 2))))] ⟨rfl, rfl, rfl, rfl, rfl, rfl, rfl, rfl, rfl, rfl, trivial⟩
                    refine L_yes A rfl (by decide) rfl rfl (by decide) (A.get rfl) (y_indexPA (n := 2) (e := 3) (size := 1) (by kernel_rfl) (by kernel_rfl) (A.get (s := 136) rfl) rfl (by decide) (by decide) fun ac A => ?_)
                    refine L_yes A rfl (by decide) rfl rfl (by decide) (A.get rfl) (y_load (by kernel_rfl) (A.get (s := 137) rfl) (hrow 0 (Nat.zero_lt_succ _)) fun ac A => ?_)
                    refine L_yes A rfl (by decide) rfl rfl (by decide) (A.get rfl) (y_move (A.get (s := 4) rfl) fun ac A => ?_)
                    refine L_yes A rfl (by decide) rfl rfl (by decide) (A.get rfl) (y_eql (A.get (s := 138) rfl) (A.get (s := 139) rfl) (c := true) (by simp [e3]) fun ac A => ?_)
                    replace A := A.keep [(3, .int .i64 a), (4, .int .i64 b), (13, .pointer (some ⟨p, 0, none⟩)), (15, .slice wa (shownF m).length wc), (20, .int .i64 (butTo m.order a b z)), (21, .slice (some oa) m.order.length oc), (22, .int .i64 (((z : Nat) : Int))), (114, .bool true), (133, .bool false), (140, .bool true)] ⟨rfl, rfl, rfl, rfl, rfl, rfl, rfl, rfl, rfl, rfl, trivial⟩
                    refine L_yes A rfl (by decide) rfl rfl (by decide) (A.get rfl) (y_move (A.get (s := 140) rfl) fun ac A => ?_)
                    refine L_yes A rfl (by decide) rfl rfl (by decide) (A.get rfl) (y_move (A.get (s := 21) rfl) fun ac A => ?_)
                    refine L_yes A rfl (by decide) rfl rfl (by decide) (A.get rfl) (y_move (A.get (s := 22) rfl) fun ac A => ?_)
                    refine L_yes A rfl (by decide) rfl rfl (by decide) (A.get rfl) (y_indexA (e := 28) (size := 2) (by kernel_rfl) (by kernel_rfl) (A.get (s := 142) rfl) (A.get (s := 143) rfl) (by omega) (by omega) fun ac A => ?_)
                    replace A := A.keep [(3, .int .i64 a), (4, .int .i64 b), (13, .pointer (some ⟨p, 0, none⟩)), (15, .slice wa (shownF m).length wc), (20, .int .i64 (butTo m.order a b z)), (21, .slice (some oa) m.order.length oc), (22, .int .i64 (((z : Nat) : Int))), (114, .bool true), (133, .bool false), (141, .bool true), (144, .pointer (some (oa.add (((z : Nat) : Int).toNat * 2))))] ⟨rfl, rfl, rfl, rfl, rfl, rfl, rfl, rfl, rfl, rfl, rfl, trivial⟩
                    refine L_yes A rfl (by decide) rfl rfl (by decide) (A.get rfl) (y_indexPA (n := 2) (e := 3) (size := 1) (by kernel_rfl) (by kernel_rfl) (A.get (s := 144) rfl) rfl (by decide) (by decide) fun ac A => ?_)
                    refine L_yes A rfl (by decide) rfl rfl (by decide) (A.get rfl) (y_load (by kernel_rfl) (A.get (s := 145) rfl) (hrow 1 (Nat.lt_succ_self _)) fun ac A => ?_)
                    refine L_yes A rfl (by decide) rfl rfl (by decide) (A.get rfl) (y_move (A.get (s := 3) rfl) fun ac A => ?_)
                    refine L_yes A rfl (by decide) rfl rfl (by decide) (A.get rfl) (y_eql (A.get (s := 146) rfl) (A.get (s := 147) rfl) (c := true) (by simp [e4]) fun ac A => ?_)
                    replace A := A.keep [(3, .int .i64 a), (4, .int .i64 b), (13, .pointer (some ⟨p, 0, none⟩)), (15, .slice wa (shownF m).length wc), (20, .int .i64 (butTo m.order a b z)), (21, .slice (some oa) m.order.length oc), (22, .int .i64 (((z : Nat) : Int))), (114, .bool true), (133, .bool false), (141, .bool true), (148, .bool true)] ⟨rfl, rfl, rfl, rfl, rfl, rfl, rfl, rfl, rfl, rfl, rfl, trivial⟩
                    refine L_yes A rfl (by decide) rfl rfl (by decide) (A.get rfl) (y_pickT (A.get (s := 141) rfl) (A.get (s := 148) rfl) fun ac A => ?_)
                    refine L_op A rfl (by decide) rfl (y_pickF (A.get (s := 133) rfl) (A.get (s := 149) rfl) fun ac A => ?_)
                    replace A := A.keep [(3, .int .i64 a), (4, .int .i64 b), (13, .pointer (some ⟨p, 0, none⟩)), (15, .slice wa (shownF m).length wc), (20, .int .i64 (butTo m.order a b z)), (21, .slice (some oa) m.order.length oc), (22, .int .i64 (((z : Nat) : Int))), (114, .bool true), (150, .bool true)] ⟨rfl, rfl, rfl, rfl, rfl, rfl, rfl, rfl, rfl, trivial⟩
                    refine hK19 _ _ ?_
                    refine wp_cond_true (A.get rfl) ?_
                    refine region_seq ?_  -- region 20
                    refine L_op A rfl (by decide) rfl (y_move (A.get (s := 22) rfl) fun ac A => ?_)
                    refine L_op A rfl (by decide) rfl (y_assign (A.get (s := 151) rfl) fun ac A => ?_)
                    replace A := A.keep [(3, .int .i64 a), (4, .int .i64 b), (13, .pointer (some ⟨p, 0, none⟩)), (15, .slice wa (shownF m).length wc), (20, .int .i64 (((z : Nat) : Int))), (21, .slice (some oa) m.order.length oc), (22, .int .i64 (((z : Nat) : Int))), (114, .bool true), (150, .bool true)] ⟨rfl, rfl, rfl, rfl, rfl, rfl, rfl, rfl, rfl, trivial⟩
                    refine hK18 _ _ ?_
                    refine region_seq ?_  -- region 18
                    refine L_op A rfl (by decide) rfl (y_move (A.get (s := 22) rfl) fun ac A => ?_)
                    refine L_op A rfl (by decide) rfl (y_add (A.get (s := 115) rfl) rfl (c := ((z + 1 : Nat) : Int)) ((wrap64 (by omega)).trans (by omega)) fun ac A => ?_)
                    refine L_op A rfl (by decide) rfl (y_assign (A.get (s := 116) rfl) fun ac A => ?_)
                    replace A := A.keep [(3, .int .i64 a), (4, .int .i64 b), (13, .pointer (some ⟨p, 0, none⟩)), (15, .slice wa (shownF m).length wc), (20, .int .i64 (((z : Nat) : Int))), (21, .slice (some oa) m.order.length oc), (22, .int .i64 (((z + 1 : Nat) : Int))), (114, .bool true), (150, .bool true)] ⟨rfl, rfl, rfl, rfl, rfl, rfl, rfl, rfl, rfl, trivial⟩
                    replace A := A.keep [(3, .int .i64 a), (4, .int .i64 b), (13, .pointer (some ⟨p, 0, none⟩)), (15, .slice wa (shownF m).length wc), (20, .int .i64 (((z : Nat) : Int))), (21, .slice (some oa) m.order.length oc), (22, .int .i64 (((z + 1 : Nat) : Int)))] ⟨rfl, rfl, rfl, rfl, rfl, rfl, rfl, trivial⟩
                    have hh : hit a b lz = true := by simp only [hit, Bool.or_eq_true, Bool.and_eq_true, beq_iff_eq]; omega
                    rw [show (((z : Nat) : Int) : Int) = butTo m.order a b (z + 1) by rw [hbut, hh]; simp] at A
                    exact ⟨kk - 1, by omega, z + 1, by omega, A, S⟩
                  · skip
                    refine wp_seq_k fun K16 hK16 => ?_
                    refine wp_seq_k fun K17 hK17 => ?_
                    refine region_seq ?_  -- region 17
                    refine L_op A rfl (by decide) rfl (y_move (A.get (s := 22) rfl) fun ac A => ?_)
                    refine L_op A rfl (by decide) rfl (y_move (A.get (s := 21) rfl) fun ac A => ?_)
                    refine L_op A rfl (by decide) rfl (y_lenS (e := 28) (by kernel_rfl) (A.get (s := 112) rfl) fun ac A => ?_)
                    refine L_op A rfl (by decide) rfl (y_lss (A.get (s := 111) rfl) (A.get (s := 113) rfl) (c := true) (decide_eq_true (by omega)) fun ac A => ?_)
                    replace A := A.keep [(3, .int .i64 a), (4, .int .i64 b), (13, .pointer (some ⟨p, 0, none⟩)), (15, .slice wa (shownF m).length wc), (20, .int .i64 (butTo m.order a b z)), (21, .slice (some oa) m.order.length oc), (22, .int .i64 (((z : Nat) : Int))), (114, .bool true)] ⟨rfl, rfl, rfl, rfl, rfl, rfl, rfl, rfl, trivial⟩
                    refine hK17 _ _ ?_
                    refine wp_cond_true (A.get rfl) ?_
                    refine wp_skip ?_
                    refine hK16 _ _ ?_
                    refine wp_seq_k fun K18 hK18 => ?_
                    refine wp_block ?_
                    refine wp_seq_k fun K19 hK19 => ?_
                    refine region_seq ?_  -- region 19
                    refine L_op A rfl (by decide) rfl (y_move (A.get (s := 21) rfl) fun ac A => ?_)
                    refine L_op A rfl (by decide) rfl (y_move (A.get (s := 22) rfl) fun ac A => ?_)
                    refine L_op A rfl (by decide) rfl (y_indexA (e := 28) (size := 2) (by kernel_rfl) (by kernel_rfl) (A.get (s := 117) rfl) (A.get (s := 118) rfl) (by omega) (by omega) fun ac A => ?_)
                    refine L_op A rfl (by decide) rfl (y_indexPA (n := 2) (e := 3) (size := 1) (by kernel_rfl) (by kernel_rfl) (A.get (s := 119) rfl) rfl (by decide) (by decide) fun ac A => ?_)
                    replace A := A.keep [(3, .int .i64 a), (4, .int .i64 b), (13, .pointer (some ⟨p, 0, none⟩)), (15, .slice wa (shownF m).length wc), (20, .int .i64 (butTo m.order a b z)), (21, .slice (some oa) m.order.length oc), (22, .int .i64 (((z : Nat) : Int))), (114, .bool true), (120, .pointer (some ((oa.add (((z : Nat) : Int).toNat * 2)).add 0)))] ⟨rfl, rfl, rfl, rfl, rfl, rfl, rfl, rfl, rfl, trivial⟩
                    refine L_op A rfl (by decide) rfl (y_load (by kernel_rfl) (A.get (s := 120) rfl) (hrow 0 (Nat.zero_lt_succ _)) fun ac A => ?_)
                    refine L_op A rfl (by decide) rfl (y_move (A.get (s := 3) rfl) fun ac A => ?_)
                    refine L_op A rfl (by decide) rfl (y_eql (A.get (s := 121) rfl) (A.get (s := 122) rfl) (c := true) (by simp [e1]) fun ac A => ?_)
                    refine L_op A rfl (by decide) rfl (y_move (A.get (s := 123) rfl) fun ac A => ?_)
                    replace A := A.keep [(3, .int .i64 a), (4, .int .i64 b), (13, .pointer (some ⟨p, 0, none⟩)), (15, .slice wa (shownF m).length wc), (20, .int .i64 (butTo m.order a b z)), (21, .slice (some oa) m.order.length oc), (22, .int .i64 (((z : Nat) : Int))), (114, .bool true), (124, .bool true)] ⟨rfl, rfl, rfl, rfl, rfl, rfl, rfl, rfl, rfl, trivial⟩
                    refine L_yes A rfl (by decide) rfl rfl (by decide) (A.get rfl) (y_move (A.get (s := 21) rfl) fun ac A => ?_)
                    refine L_yes A rfl (by decide) rfl rfl (by decide) (A.get rfl) (y_move (A.get (s := 22) rfl) fun ac A => ?_)
                    refine L_yes A rfl (by decide) rfl rfl (by decide) (A.get rfl) (y_indexA (e := 28) (size := 2) (by kernel_rfl) (by kernel_rfl) (A.get (s := 125) rfl) (A.get (s := 126) rfl) (by omega) (by omega) fun ac A => ?_)
                    refine L_yes A rfl (by decide) rfl rfl (by decide) (A.get rfl) (y_indexPA (n := 2) (e := 3) (size := 1) (by kernel_rfl) (by kernel_rfl) (A.get (s := 127) rfl) rfl (by decide) (by decide) fun ac A => ?_)
                    replace A := A.keep [(3, .int .i64 a), (4, .int .i64 b), (13, .pointer (some ⟨p, 0, none⟩)), (15, .slice wa (shownF m).length wc), (20, .int .i64 (butTo m.order a b z)), (21, .slice (some oa) m.order.length oc), (22, .int .i64 (((z : Nat) : Int))), (114, .bool true), (124, .bool true), (128, .pointer (some ((oa.add (((z : Nat) : Int).toNat * 2)).add 1)))] ⟨rfl, rfl, rfl, rfl, rfl, rfl, rfl, rfl, rfl, rfl, trivial⟩
                    refine L_yes A rfl (by decide) rfl rfl (by decide) (A.get rfl) (y_load (by kernel_rfl) (A.get (s := 128) rfl) (hrow 1 (Nat.lt_succ_self _)) fun ac A => ?_)
                    refine L_yes A rfl (by decide) rfl rfl (by decide) (A.get rfl) (y_move (A.get (s := 4) rfl) fun ac A => ?_)
                    refine L_yes A rfl (by decide) rfl rfl (by decide) (A.get rfl) (y_eql (A.get (s := 129) rfl) (A.get (s := 130) rfl) (c := false) (by simpa using e2) fun ac A => ?_)
                    refine L_op A rfl (by decide) rfl (y_pickT (A.get (s := 124) rfl) (A.get (s := 131) rfl) fun ac A => ?_)
                    replace A := A.keep [(3, .int .i64 a), (4, .int .i64 b), (13, .pointer (some ⟨p, 0, none⟩)), (15, .slice wa (shownF m).length wc), (20, .int .i64 (butTo m.order a b z)), (21, .slice (some oa) m.order.length oc), (22, .int .i64 (((z : Nat) : Int))), (114, .bool true), (132, .bool false)] ⟨rfl, rfl, rfl, rfl, rfl, rfl, rfl, rfl, rfl, trivial⟩
                    refine L_op A rfl (by decide) rfl (y_move (A.get (s := 132) rfl) fun ac A => ?_)
                    refine L_yes A rfl (by decide) rfl rfl (by decide) (A.get rfl) (y_move (A.get (s := 21) rfl) fun ac A => ?_)
                    refine L_yes A rfl (by decide) rfl rfl (by decide) (A.get rfl) (y_move (A.get (s := 22) rfl) fun ac A => ?_)
                    refine L_yes A rfl (by decide) rfl rfl (by decide) (A.get rfl) (y_indexA (e := 28) (size := 2) (by kernel_rfl) (by kernel_rfl) (A.get (s := 134) rfl) (A.get (s := 135) rfl) (by omega) (by omega) fun ac A => ?_)
                    replace A := A.keep [(3, .int .i64 a), (4, .int .i64 b), (13, .pointer (some ⟨p, 0, none⟩)), (15, .slice wa (shownF m).length wc), (20, .int .i64 (butTo m.order a b z)), (21, .slice (some oa) m.order.length oc), (22, .int .i64 (((z : Nat) : Int))), (114, .bool true), (133, .bool false), (136, .pointer (some (oa.add (((z : Nat) : Int).toNat * 2))))] ⟨rfl, rfl, rfl, rfl, rfl, rfl, rfl, rfl, rfl, rfl, trivial⟩
                    refine L_yes A rfl (by decide) rfl rfl (by decide) (A.get rfl) (y_indexPA (n := 2) (e := 3) (size := 1) (by kernel_rfl) (by kernel_rfl) (A.get (s := 136) rfl) rfl (by decide) (by decide) fun ac A => ?_)
                    refine L_yes A rfl (by decide) rfl rfl (by decide) (A.get rfl) (y_load (by kernel_rfl) (A.get (s := 137) rfl) (hrow 0 (Nat.zero_lt_succ _)) fun ac A => ?_)
                    refine L_yes A rfl (by decide) rfl rfl (by decide) (A.get rfl) (y_move (A.get (s := 4) rfl) fun ac A => ?_)
                    refine L_yes A rfl (by decide) rfl rfl (by decide) (A.get rfl) (y_eql (A.get (s := 138) rfl) (A.get (s := 139) rfl) (c := true) (by simp [e3]) fun ac A => ?_)
                    replace A := A.keep [(3, .int .i64 a), (4, .int .i64 b), (13, .pointer (some ⟨p, 0, none⟩)), (15, .slice wa (shownF m).length wc), (20, .int .i64 (butTo m.order a b z)), (21, .slice (some oa) m.order.length oc), (22, .int .i64 (((z : Nat) : Int))), (114, .bool true), (133, .bool false), (140, .bool true)] ⟨rfl, rfl, rfl, rfl, rfl, rfl, rfl, rfl, rfl, rfl, trivial⟩
                    refine L_yes A rfl (by decide) rfl rfl (by decide) (A.get rfl) (y_move (A.get (s := 140) rfl) fun ac A => ?_)
                    refine L_yes A rfl (by decide) rfl rfl (by decide) (A.get rfl) (y_move (A.get (s := 21) rfl) fun ac A => ?_)
                    refine L_yes A rfl (by decide) rfl rfl (by decide) (A.get rfl) (y_move (A.get (s := 22) rfl) fun ac A => ?_)
                    refine L_yes A rfl (by decide) rfl rfl (by decide) (A.get rfl) (y_indexA (e := 28) (size := 2) (by kernel_rfl) (by kernel_rfl) (A.get (s := 142) rfl) (A.get (s := 143) rfl) (by omega) (by omega) fun ac A => ?_)
                    replace A := A.keep [(3, .int .i64 a), (4, .int .i64 b), (13, .pointer (some ⟨p, 0, none⟩)), (15, .slice wa (shownF m).length wc), (20, .int .i64 (butTo m.order a b z)), (21, .slice (some oa) m.order.length oc), (22, .int .i64 (((z : Nat) : Int))), (114, .bool true), (133, .bool false), (141, .bool true), (144, .pointer (some (oa.add (((z : Nat) : Int).toNat * 2))))] ⟨rfl, rfl, rfl, rfl, rfl, rfl, rfl, rfl, rfl, rfl, rfl, trivial⟩
                    refine L_yes A rfl (by decide) rfl rfl (by decide) (A.get rfl) (y_indexPA (n := 2) (e := 3) (size := 1) (by kernel_rfl) (by kernel_rfl) (A.get (s := 144) rfl) rfl (by decide) (by decide) fun ac A => ?_)
                    refine L_yes A rfl (by decide) rfl rfl (by decide) (A.get rfl) (y_load (by kernel_rfl) (A.get (s := 145) rfl) (hrow 1 (Nat.lt_succ_self _)) fun ac A => ?_)
                    refine L_yes A rfl (by decide) rfl rfl (by decide) (A.get rfl) (y_move (A.get (s := 3) rfl) fun ac A => ?_)
                    refine L_yes A rfl (by decide) rfl rfl (by decide) (A.get rfl) (y_eql (A.get (s := 146) rfl) (A.get (s := 147) rfl) (c := false) (by simpa using e4) fun ac A => ?_)
                    replace A := A.keep [(3, .int .i64 a), (4, .int .i64 b), (13, .pointer (some ⟨p, 0, none⟩)), (15, .slice wa (shownF m).length wc), (20, .int .i64 (butTo m.order a b z)), (21, .slice (some oa) m.order.length oc), (22, .int .i64 (((z : Nat) : Int))), (114, .bool true), (133, .bool false), (141, .bool true), (148, .bool false)] ⟨rfl, rfl, rfl, rfl, rfl, rfl, rfl, rfl, rfl, rfl, rfl, trivial⟩
                    refine L_yes A rfl (by decide) rfl rfl (by decide) (A.get rfl) (y_pickT (A.get (s := 141) rfl) (A.get (s := 148) rfl) fun ac A => ?_)
                    refine L_op A rfl (by decide) rfl (y_pickF (A.get (s := 133) rfl) (A.get (s := 149) rfl) fun ac A => ?_)
                    replace A := A.keep [(3, .int .i64 a), (4, .int .i64 b), (13, .pointer (some ⟨p, 0, none⟩)), (15, .slice wa (shownF m).length wc), (20, .int .i64 (butTo m.order a b z)), (21, .slice (some oa) m.order.length oc), (22, .int .i64 (((z : Nat) : Int))), (114, .bool true), (150, .bool false)] ⟨rfl, rfl, rfl, rfl, rfl, rfl, rfl, rfl, rfl, trivial⟩
                    refine hK19 _ _ ?_
                    refine wp_cond_false (A.get rfl) ?_
                    refine wp_skip ?_
                    refine hK18 _ _ ?_
                    refine region_seq ?_  -- region 18
                    refine L_op A rfl (by decide) rfl (y_move (A.get (s := 22) rfl) fun ac A => ?_)
                    refine L_op A rfl (by decide) rfl (y_add (A.get (s := 115) rfl) rfl (c := ((z + 1 : Nat) : Int)) ((wrap64 (by omega)).trans (by omega)) fun ac A => ?_)
                    refine L_op A rfl (by decide) rfl (y_assign (A.get (s := 116) rfl) fun ac A => ?_)
                    replace A := A.keep [(3, .int .i64 a), (4, .int .i64 b), (13, .pointer (some ⟨p, 0, none⟩)), (15, .slice wa (shownF m).length wc), (20, .int .i64 (butTo m.order a b z)), (21, .slice (some oa) m.order.length oc), (22, .int .i64 (((z + 1 : Nat) : Int))), (114, .bool true), (150, .bool false)] ⟨rfl, rfl, rfl, rfl, rfl, rfl, rfl, rfl, rfl, trivial⟩
                    replace A := A.keep [(3, .int .i64 a), (4, .int .i64 b), (13, .pointer (some ⟨p, 0, none⟩)), (15, .slice wa (shownF m).length wc), (20, .int .i64 (butTo m.order a b z)), (21, .slice (some oa) m.order.length oc), (22, .int .i64 (((z + 1 : Nat) : Int)))] ⟨rfl, rfl, rfl, rfl, rfl, rfl, rfl, trivial⟩
                    have hh : hit a b lz = false := by rw [Bool.eq_false_iff, ne_eq]; simp only [hit, Bool.or_eq_true, Bool.and_eq_true, beq_iff_eq]; omega
                    rw [show (butTo m.order a b z : Int) = butTo m.order a b (z + 1) by rw [hbut, hh]; simp] at A
                    exact ⟨kk - 1, by omega, z + 1, by omega, A, S⟩
                · skip
                  refine wp_seq_k fun K16 hK16 => ?_
                  refine wp_seq_k fun K17 hK17 => ?_
                  refine region_seq ?_  -- region 17
                  refine L_op A rfl (by decide) rfl (y_move (A.get (s := 22) rfl) fun ac A => ?_)
                  refine L_op A rfl (by decide) rfl (y_move (A.get (s := 21) rfl) fun ac A => ?_)
                  refine L_op A rfl (by decide) rfl (y_lenS (e := 28) (by kernel_rfl) (A.get (s := 112) rfl) fun ac A => ?_)
                  refine L_op A rfl (by decide) rfl (y_lss (A.get (s := 111) rfl) (A.get (s := 113) rfl) (c := true) (decide_eq_true (by omega)) fun ac A => ?_)
                  replace A := A.keep [(3, .int .i64 a), (4, .int .i64 b), (13, .pointer (some ⟨p, 0, none⟩)), (15, .slice wa (shownF m).length wc), (20, .int .i64 (butTo m.order a b z)), (21, .slice (some oa) m.order.length oc), (22, .int .i64 (((z : Nat) : Int))), (114, .bool true)] ⟨rfl, rfl, rfl, rfl, rfl, rfl, rfl, rfl, trivial⟩
                  refine hK17 _ _ ?_
                  refine wp_cond_true (A.get rfl) ?_
                  refine wp_skip ?_
                  refine hK16 _ _ ?_
                  refine wp_seq_k fun K18 hK18 => ?_
                  refine wp_block ?_
                  refine wp_seq_k fun K19 hK19 => ?_
                  refine region_seq ?_  -- region 19
                  refine L_op A rfl (by decide) rfl (y_move (A.get (s := 21) rfl) fun ac A => ?_)
                  refine L_op A rfl (by decide) rfl (y_move (A.get (s := 22) rfl) fun ac A => ?_)
                  refine L_op A rfl (by decide) rfl (y_indexA (e := 28) (size := 2) (by kernel_rfl) (by kernel_rfl) (A.get (s := 117) rfl) (A.get (s := 118) rfl) (by omega) (by omega) fun ac A => ?_)
                  refine L_op A rfl (by decide) rfl (y_indexPA (n := 2) (e := 3) (size := 1) (by kernel_rfl) (by kernel_rfl) (A.get (s := 119) rfl) rfl (by decide) (by decide) fun ac A => ?_)
                  replace A := A.keep [(3, .int .i64 a), (4, .int .i64 b), (13, .pointer (some ⟨p, 0, none⟩)), (15, .slice wa (shownF m).length wc), (20, .int .i64 (butTo m.order a b z)), (21, .slice (some oa) m.order.length oc), (22, .int .i64 (((z : Nat) : Int))), (114, .bool true), (120, .pointer (some ((oa.add (((z : Nat) : Int).toNat * 2)).add 0)))] ⟨rfl, rfl, rfl, rfl, rfl, rfl, rfl, rfl, rfl, trivial⟩
                  refine L_op A rfl (by decide) rfl (y_load (by kernel_rfl) (A.get (s := 120) rfl) (hrow 0 (Nat.zero_lt_succ _)) fun ac A => ?_)
                  refine L_op A rfl (by decide) rfl (y_move (A.get (s := 3) rfl) fun ac A => ?_)
                  refine L_op A rfl (by decide) rfl (y_eql (A.get (s := 121) rfl) (A.get (s := 122) rfl) (c := true) (by simp [e1]) fun ac A => ?_)
                  refine L_op A rfl (by decide) rfl (y_move (A.get (s := 123) rfl) fun ac A => ?_)
                  replace A := A.keep [(3, .int .i64 a), (4, .int .i64 b), (13, .pointer (some ⟨p, 0, none⟩)), (15, .slice wa (shownF m).length wc), (20, .int .i64 (butTo m.order a b z)), (21, .slice (some oa) m.order.length oc), (22, .int .i64 (((z : Nat) : Int))), (114, .bool true), (124, .bool true)] ⟨rfl, rfl, rfl, rfl, rfl, rfl, rfl, rfl, rfl, trivial⟩
                  refine L_yes A rfl (by decide) rfl rfl (by decide) (A.get rfl) (y_move (A.get (s := 21) rfl) fun ac A => ?_)
                  refine L_yes A rfl (by decide) rfl rfl (by decide) (A.get rfl) (y_move (A.get (s := 22) rfl) fun ac A => ?_)
                  refine L_yes A rfl (by decide) rfl rfl (by decide) (A.get rfl) (y_indexA (e := 28) (size := 2) (by kernel_rfl) (by kernel_rfl) (A.get (s := 125) rfl) (A.get (s := 126) rfl) (by omega) (by omega) fun ac A => ?_)
                  refine L_yes A rfl (by decide) rfl rfl (by decide) (A.get rfl) (y_indexPA (n := 2) (e := 3) (size := 1) (by kernel_rfl) (by kernel_rfl) (A.get (s := 127) rfl) rfl (by decide) (by decide) fun ac A => ?_)
                  replace A := A.keep [(3, .int .i64 a), (4, .int .i64 b), (13, .pointer (some ⟨p, 0, none⟩)), (15, .slice wa (shownF m).length wc), (20, .int .i64 (butTo m.order a b z)), (21, .slice (some oa) m.order.length oc), (22, .int .i64 (((z : Nat) : Int))), (114, .bool true), (124, .bool true), (128, .pointer (some ((oa.add (((z : Nat) : Int).toNat * 2)).add 1)))] ⟨rfl, rfl, rfl, rfl, rfl, rfl, rfl, rfl, rfl, rfl, trivial⟩
                  refine L_yes A rfl (by decide) rfl rfl (by decide) (A.get rfl) (y_load (by kernel_rfl) (A.get (s := 128) rfl) (hrow 1 (Nat.lt_succ_self _)) fun ac A => ?_)
                  refine L_yes A rfl (by decide) rfl rfl (by decide) (A.get rfl) (y_move (A.get (s := 4) rfl) fun ac A => ?_)
                  refine L_yes A rfl (by decide) rfl rfl (by decide) (A.get rfl) (y_eql (A.get (s := 129) rfl) (A.get (s := 130) rfl) (c := false) (by simpa using e2) fun ac A => ?_)
                  refine L_op A rfl (by decide) rfl (y_pickT (A.get (s := 124) rfl) (A.get (s := 131) rfl) fun ac A => ?_)
                  replace A := A.keep [(3, .int .i64 a), (4, .int .i64 b), (13, .pointer (some ⟨p, 0, none⟩)), (15, .slice wa (shownF m).length wc), (20, .int .i64 (butTo m.order a b z)), (21, .slice (some oa) m.order.length oc), (22, .int .i64 (((z : Nat) : Int))), (114, .bool true), (132, .bool false)] ⟨rfl, rfl, rfl, rfl, rfl, rfl, rfl, rfl, rfl, trivial⟩
                  refine L_op A rfl (by decide) rfl (y_move (A.get (s := 132) rfl) fun ac A => ?_)
                  refine L_yes A rfl (by decide) rfl rfl (by decide) (A.get rfl) (y_move (A.get (s := 21) rfl) fun ac A => ?_)
                  refine L_yes A rfl (by decide) rfl rfl (by decide) (A.get rfl) (y_move (A.get (s := 22) rfl) fun ac A => ?_)
                  refine L_yes A rfl (by decide) rfl rfl (by decide) (A.get rfl) (y_indexA (e := 28) (size := 2) (by kernel_rfl) (by kernel_rfl) (A.get (s := 134) rfl) (A.get (s := 135) rfl) (by omega) (by omega) fun ac A => ?_)
                  replace A := A.keep [(3, .int .i64 a), (4, .int .i64 b), (13, .pointer (some ⟨p, 0, none⟩)), (15, .slice wa (shownF m).length wc), (20, .int .i64 (butTo m.order a b z)), (21, .slice (some oa) m.order.length oc), (22, .int .i64 (((z : Nat) : Int))), (114, .bool true), (133, .bool false), (136, .pointer (some (oa.add (((z : Nat) : Int).toNat * 2))))] ⟨rfl, rfl, rfl, rfl, rfl, rfl, rfl, rfl, rfl, rfl, trivial⟩
                  refine L_yes A rfl (by decide) rfl rfl (by decide) (A.get rfl) (y_indexPA (n := 2) (e := 3) (size := 1) (by kernel_rfl) (by kernel_rfl) (A.get (s := 136) rfl) rfl (by decide) (by decide) fun ac A => ?_)
                  refine L_yes A rfl (by decide) rfl rfl (by decide) (A.get rfl) (y_load (by kernel_rfl) (A.get (s := 137) rfl) (hrow 0 (Nat.zero_lt_succ _)) fun ac A => ?_)
                  refine L_yes A rfl (by decide) rfl rfl (by decide) (A.get rfl) (y_move (A.get (s := 4) rfl) fun ac A => ?_)
                  refine L_yes A rfl (by decide) rfl rfl (by decide) (A.get rfl) (y_eql (A.get (s := 138) rfl) (A.get (s := 139) rfl) (c := false) (by simpa using e3) fun ac A => ?_)
                  replace A := A.keep [(3, .int .i64 a), (4, .int .i64 b), (13, .pointer (some ⟨p, 0, none⟩)), (15, .slice wa (shownF m).length wc), (20, .int .i64 (butTo m.order a b z)), (21, .slice (some oa) m.order.length oc), (22, .int .i64 (((z : Nat) : Int))), (114, .bool true), (133, .bool false), (140, .bool false)] ⟨rfl, rfl, rfl, rfl, rfl, rfl, rfl, rfl, rfl, rfl, trivial⟩
                  refine L_yes A rfl (by decide) rfl rfl (by decide) (A.get rfl) (y_move (A.get (s := 140) rfl) fun ac A => ?_)
                  refine L_no A rfl (by decide) rfl rfl (by decide) (A.get rfl) (by decide) fun ac A => ?_
                  refine L_no A rfl (by decide) rfl rfl (by decide) (A.get rfl) (by decide) fun ac A => ?_
                  refine L_no A rfl (by decide) rfl rfl (by decide) (A.get rfl) (by decide) fun ac A => ?_
                  replace A := A.keep [(3, .int .i64 a), (4, .int .i64 b), (13, .pointer (some ⟨p, 0, none⟩)), (15, .slice wa (shownF m).length wc), (20, .int .i64 (butTo m.order a b z)), (21, .slice (some oa) m.order.length oc), (22, .int .i64 (((z : Nat) : Int))), (114, .bool true), (133, .bool false), (141, .bool false), (144, undef)] ⟨rfl, rfl, rfl, rfl, rfl, rfl, rfl, rfl, rfl, rfl, rfl, trivial⟩
                  refine L_no A rfl (by decide) rfl rfl (by decide) (A.get rfl) (by decide) fun ac A => ?_
                  refine L_no A rfl (by decide) rfl rfl (by decide) (A.get rfl) (by decide) fun ac A => ?_
                  refine L_no A rfl (by decide) rfl rfl (by decide) (A.get rfl) (by decide) fun ac A => ?_
                  refine L_no A rfl (by decide) rfl rfl (by decide) (A.get rfl) (by decide) fun ac A => ?_
                  replace A := A.keep [(3, .int .i64 a), (4, .int .i64 b), (13, .pointer (some ⟨p, 0, none⟩)), (15, .slice wa (shownF m).length wc), (20, .int .i64 (butTo m.order a b z)), (21, .slice (some oa) m.order.length oc), (22, .int .i64 (((z : Nat) : Int))), (114, .bool true), (133, .bool false), (141, .bool false), (148, undef)] ⟨rfl, rfl, rfl, rfl, rfl, rfl, rfl, rfl, rfl, rfl, rfl, trivial⟩
                  refine L_yes A rfl (by decide) rfl rfl (by decide) (A.get rfl) (y_pickF (A.get (s := 141) rfl) rfl fun ac A => ?_)
                  refine L_op A rfl (by decide) rfl (y_pickF (A.get (s := 133) rfl) (A.get (s := 149) rfl) fun ac A => ?_)
                  replace A := A.keep [(3, .int .i64 a), (4, .int .i64 b), (13, .pointer (some ⟨p, 0, none⟩)), (15, .slice wa (shownF m).length wc), (20, .int .i64 (butTo m.order a b z)), (21, .slice (some oa) m.order.length oc), (22, .int .i64 (((z : Nat) : Int))), (114, .bool true), (150, .bool false)] ⟨rfl, rfl, rfl, rfl, rfl, rfl, rfl, rfl, rfl, trivial⟩
                  refine hK19 _ _ ?_
                  refine wp_cond_false (A.get rfl) ?_
                  refine wp_skip ?_
                  refine hK18 _ _ ?_
                  refine region_seq ?_  -- region 18
                  refine L_op A rfl (by decide) rfl (y_move (A.get (s := 22) rfl) fun ac A => ?_)
                  refine L_op A rfl (by decide) rfl (y_add (A.get (s := 115) rfl) rfl (c := ((z + 1 : Nat) : Int)) ((wrap64 (by omega)).trans (by omega)) fun ac A => ?_)
                  refine L_op A rfl (by decide) rfl (y_assign (A.get (s := 116) rfl) fun ac A => ?_)
                  replace A := A.keep [(3, .int .i64 a), (4, .int .i64 b), (13, .pointer (some ⟨p, 0, none⟩)), (15, .slice wa (shownF m).length wc), (20, .int .i64 (butTo m.order a b z)), (21, .slice (some oa) m.order.length oc), (22, .int .i64 (((z + 1 : Nat) : Int))), (114, .bool true), (150, .bool false)] ⟨rfl, rfl, rfl, rfl, rfl, rfl, rfl, rfl, rfl, trivial⟩
                  replace A := A.keep [(3, .int .i64 a), (4, .int .i64 b), (13, .pointer (some ⟨p, 0, none⟩)), (15, .slice wa (shownF m).length wc), (20, .int .i64 (butTo m.order a b z)), (21, .slice (some oa) m.order.length oc), (22, .int .i64 (((z + 1 : Nat) : Int)))] ⟨rfl, rfl, rfl, rfl, rfl, rfl, rfl, trivial⟩
                  have hh : hit a b lz = false := by rw [Bool.eq_false_iff, ne_eq]; simp only [hit, Bool.or_eq_true, Bool.and_eq_true, beq_iff_eq]; omega
                  rw [show (butTo m.order a b z : Int) = butTo m.order a b (z + 1) by rw [hbut, hh]; simp] at A
                  exact ⟨kk - 1, by omega, z + 1, by omega, A, S⟩
            · skip
              by_cases e3 : lz.1 = b
              · by_cases e4 : lz.2 = a
                · skip
                  refine wp_seq_k fun K16 hK16 => ?_
                  refine wp_seq_k fun K17 hK17 => ?_
                  refine region_seq ?_  -- region 17
                  refine L_op A rfl (by decide) rfl (y_move (A.get (s := 22) rfl) fun ac A => ?_)
                  refine L_op A rfl (by decide) rfl (y_move (A.get (s := 21) rfl) fun ac A => ?_)
                  refine L_op A rfl (by decide) rfl (y_lenS (e := 28) (by kernel_rfl) (A.get (s := 112) rfl) fun ac A => ?_)
                  refine L_op A rfl (by decide) rfl (y_lss (A.get (s := 111) rfl) (A.get (s := 113) rfl) (c := true) (decide_eq_true (by omega)) fun ac A => ?_)
                  replace A := A.keep [(3, .int .i64 a), (4, .int .i64 b), (13, .pointer (some ⟨p, 0, none⟩)), (15, .slice wa (shownF m).length wc), (20, .int .i64 (butTo m.order a b z)), (21, .slice (some oa) m.order.length oc), (22, .int .i64 (((z : Nat) : Int))), (114, .bool true)] ⟨rfl, rfl, rfl, rfl, rfl, rfl, rfl, rfl, trivial⟩
                  refine hK17 _ _ ?_
                  refine wp_cond_true (A.get rfl) ?_
                  refine wp_skip ?_
                  refine hK16 _ _ ?_
                  refine wp_seq_k fun K18 hK18 => ?_
                  refine wp_block ?_
                  refine wp_seq_k fun K19 hK19 => ?_
                  refine region_seq ?_  -- region 19
                  refine L_op A rfl (by decide) rfl (y_move (A.get (s := 21) rfl) fun ac A => ?_)
                  refine L_op A rfl (by decide) rfl (y_move (A.get (s := 22) rfl) fun ac A => ?_)
                  refine L_op A rfl (by decide) rfl (y_indexA (e := 28) (size := 2) (by kernel_rfl) (by kernel_rfl) (A.get (s := 117) rfl) (A.get (s := 118) rfl) (by omega) (by omega) fun ac A => ?_)
                  refine L_op A rfl (by decide) rfl (y_indexPA (n := 2) (e := 3) (size := 1) (by kernel_rfl) (by kernel_rfl) (A.get (s := 119) rfl) rfl (by decide) (by decide) fun ac A => ?_)
                  replace A := A.keep [(3, .int .i64 a), (4, .int .i64 b), (13, .pointer (some ⟨p, 0, none⟩)), (15, .slice wa (shownF m).length wc), (20, .int .i64 (butTo m.order a b z)), (21, .slice (some oa) m.order.length oc), (22, .int .i64 (((z : Nat) : Int))), (114, .bool true), (120, .pointer (some ((oa.add (((z : Nat) : Int).toNat * 2)).add 0)))] ⟨rfl, rfl, rfl, rfl, rfl, rfl, rfl, rfl, rfl, trivial⟩
                  refine L_op A rfl (by decide) rfl (y_load (by kernel_rfl) (A.get (s := 120) rfl) (hrow 0 (Nat.zero_lt_succ _)) fun ac A => ?_)
                  refine L_op A rfl (by decide) rfl (y_move (A.get (s := 3) rfl) fun ac A => ?_)
                  refine L_op A rfl (by decide) rfl (y_eql (A.get (s := 121) rfl) (A.get (s := 122) rfl) (c := false) (by simpa using e1) fun ac A => ?_)
                  refine L_op A rfl (by decide) rfl (y_move (A.get (s := 123) rfl) fun ac A => ?_)
                  replace A := A.keep [(3, .int .i64 a), (4, .int .i64 b), (13, .pointer (some ⟨p, 0, none⟩)), (15, .slice wa (shownF m).length wc), (20, .int .i64 (butTo m.order a b z)), (21, .slice (some oa) m.order.length oc), (22, .int .i64 (((z : Nat) : Int))), (114, .bool true), (124, .bool false)] ⟨rfl, rfl, rfl, rfl, rfl, rfl, rfl, rfl, rfl, trivial⟩
                  refine L_no A rfl (by decide) rfl rfl (by decide) (A.get rfl) (by decide) fun ac A => ?_
                  refine L_no A rfl (by decide) rfl rfl (by decide) (A.get rfl) (by decide) fun ac A => ?_
                  refine L_no A rfl (by decide) rfl rfl (by decide) (A.get rfl) (by decide) fun ac A => ?_
                  refine L_no A rfl (by decide) rfl rfl (by decide) (A.get rfl) (by decide) fun ac A => ?_
                  replace A := A.keep [(3, .int .i64 a), (4, .int .i64 b), (13, .pointer (some ⟨p, 0, none⟩)), (15, .slice wa (shownF m).length wc), (20, .int .i64 (butTo m.order a b z)), (21, .slice (some oa) m.order.length oc), (22, .int .i64 (((z : Nat) : Int))), (114, .bool true), (124, .bool false), (128, undef)] ⟨rfl, rfl, rfl, rfl, rfl, rfl, rfl, rfl, rfl, rfl, trivial⟩
                  refine L_no A rfl (by decide) rfl rfl (by decide) (A.get rfl) (by decide) fun ac A => ?_
                  refine L_no A rfl (by decide) rfl rfl (by decide) (A.get rfl) (by decide) fun ac A => ?_
                  refine L_no A rfl (by decide) rfl rfl (by decide) (A.get rfl) (by decide) fun ac A => ?_
                  refine L_op A rfl (by decide) rfl (y_pickF (A.get (s := 124) rfl) rfl fun ac A => ?_)
                  replace A := A.keep [(3, .int .i64 a), (4, .int .i64 b), (13, .pointer (some ⟨p, 0, none⟩)), (15, .slice wa (shownF m).length wc), (20, .int .i64 (butTo m.order a b z)), (21, .slice (some oa) m.order.length oc), (22, .int .i64 (((z : Nat) : Int))), (114, .bool true), (132, .bool false)] ⟨rfl, rfl, rfl, rfl, rfl, rfl, rfl, rfl, rfl, trivial⟩
                  refine L_op A rfl (by decide) rfl (y_move (A.get (s := 132) rfl) fun ac A => ?_)
                  refine L_yes A rfl (by decide) rfl rfl (by decide) (A.get rfl) (y_move (A.get (s := 21) rfl) fun ac A => ?_)
                  refine L_yes A rfl (by decide) rfl rfl (by decide) (A.get rfl) (y_move (A.get (s := 22) rfl) fun ac A => ?_)
                  refine L_yes A rfl (by decide) rfl rfl (by decide) (A.get rfl) (y_indexA (e := 28) (size := 2) (by kernel_rfl) (by kernel_rfl) (A.get (s := 134) rfl) (A.get (s := 135) rfl) (by omega) (by omega) fun ac A => ?_)
                  replace A := A.keep [(3, .int .i64 a), (4, .int .i64 b), (13, .pointer (some ⟨p, 0, none⟩)), (15, .slice wa (shownF m).length wc), (20, .int .i64 (butTo m.order a b z)), (21, .slice (some oa) m.order.length oc), (22, .int .i64 (((z : Nat) : Int))), (114, .bool true), (133, .bool false), (136, .pointer (some (oa.add (((z : Nat) : Int).toNat * 2))))] ⟨rfl, rfl, rfl, rfl, rfl, rfl, rfl, rfl, rfl, rfl, trivial⟩
                  refine L_yes A rfl (by decide) rfl rfl (by decide) (A.get rfl) (y_indexPA (n := 2) (e := 3) (size := 1) (by kernel_rfl) (by kernel_rfl) (A.get (s := 136) rfl) rfl (by decide) (by decide) fun ac A => ?_)
                  refine L_yes A rfl (by decide) rfl rfl (by decide) (A.get rfl) (y_load (by kernel_rfl) (A.get (s := 137) rfl) (hrow 0 (Nat.zero_lt_succ _)) fun ac A => ?_)
                  refine L_yes A rfl (by decide) rfl rfl (by decide) (A.get rfl) (y_move (A.get (s := 4) rfl) fun ac A => ?_)
                  refine L_yes A rfl (by decide) rfl rfl (by decide) (A.get rfl) (y_eql (A.get (s := 138) rfl) (A.get (s := 139) rfl) (c := true) (by simp [e3]) fun ac A => ?_)
                  replace A := A.keep [(3, .int .i64 a), (4, .int .i64 b), (13, .pointer (some ⟨p, 0, none⟩)), (15, .slice wa (shownF m).length wc), (20, .int .i64 (butTo m.order a b z)), (21, .slice (some oa) m.order.length oc), (22, .int .i64 (((z : Nat) : Int))), (114, .bool true), (133, .bool false), (140, .bool true)] ⟨rfl, rfl, rfl, rfl, rfl, rfl, rfl, rfl, rfl, rfl, trivial⟩
                  refine L_yes A rfl (by decide) rfl rfl (by decide) (A.get rfl) (y_move (A.get (s := 140) rfl) fun ac A => ?_)
                  refine L_yes A rfl (by decide) rfl rfl (by decide) (A.get rfl) (y_move (A.get (s := 21) rfl) fun ac A => ?_)
                  refine L_yes A rfl (by decide) rfl rfl (by decide) (A.get rfl) (y_move (A.get (s := 22) rfl) fun ac A => ?_)
                  refine L_yes A rfl (by decide) rfl rfl (by decide) (A.get rfl) (y_indexA (e := 28) (size := 2) (by kernel_rfl) (by kernel_rfl) (A.get (s := 142) rfl) (A.get (s := 143) rfl) (by omega) (by omega) fun ac A => ?_)
                  replace A := A.keep [(3, .int .i64 a), (4, .int .i64 b), (13, .pointer (some ⟨p, 0, none⟩)), (15, .slice wa (shownF m).length wc), (20, .int .i64 (butTo m.order a b z)), (21, .slice (some oa) m.order.length oc), (22, .int .i64 (((z : Nat) : Int))), (114, .bool true), (133, .bool false), (141, .bool true), (144, .pointer (some (oa.add (((z : Nat) : Int).toNat * 2))))] ⟨rfl, rfl, rfl, rfl, rfl, rfl, rfl, rfl, rfl, rfl, rfl, trivial⟩
                  refine L_yes A rfl (by decide) rfl rfl (by decide) (A.get rfl) (y_indexPA (n := 2) (e := 3) (size := 1) (by kernel_rfl) (by kernel_rfl) (A.get (s := 144) rfl) rfl (by decide) (by decide) fun ac A => ?_)
                  refine L_yes A rfl (by decide) rfl rfl (by decide) (A.get rfl) (y_load (by kernel_rfl) (A.get (s := 145) rfl) (hrow 1 (Nat.lt_succ_self _)) fun ac A => ?_)
                  refine L_yes A rfl (by decide) rfl rfl (by decide) (A.get rfl) (y_move (A.get (s := 3) rfl) fun ac A => ?_)
                  refine L_yes A rfl (by decide) rfl rfl (by decide) (A.get rfl) (y_eql (A.get (s := 146) rfl) (A.get (s := 147) rfl) (c := true) (by simp [e4]) fun ac A => ?_)
                  replace A := A.keep [(3, .int .i64 a), (4, .int .i64 b), (13, .pointer (some ⟨p, 0, none⟩)), (15, .slice wa (shownF m).length wc), (20, .int .i64 (butTo m.order a b z)), (21, .slice (some oa) m.order.length oc), (22, .int .i64 (((z : Nat) : Int))), (114, .bool true), (133, .bool false), (141, .bool true), (148, .bool true)] ⟨rfl, rfl, rfl, rfl, rfl, rfl, rfl, rfl, rfl, rfl, rfl, trivial⟩
                  refine L_yes A rfl (by decide) rfl rfl (by decide) (A.get rfl) (y_pickT (A.get (s := 141) rfl) (A.get (s := 148) rfl) fun ac A => ?_)
                  refine L_op A rfl (by decide) rfl (y_pickF (A.get (s := 133) rfl) (A.get (s := 149) rfl) fun ac A => ?_)
                  replace A := A.keep [(3, .int .i64 a), (4, .int .i64 b), (13, .pointer (some ⟨p, 0, none⟩)), (15, .slice wa (shownF m).length wc), (20, .int .i64 (butTo m.order a b z)), (21, .slice (some oa) m.order.length oc), (22, .int .i64 (((z : Nat) : Int))), (114, .bool true), (150, .bool true)] ⟨rfl, rfl, rfl, rfl, rfl, rfl, rfl, rfl, rfl, trivial⟩
                  refine hK19 _ _ ?_
                  refine wp_cond_true (A.get rfl) ?_
                  refine region_seq ?_  -- region 20
                  refine L_op A rfl (by decide) rfl (y_move (A.get (s := 22) rfl) fun ac A => ?_)
                  refine L_op A rfl (by decide) rfl (y_assign (A.get (s := 151) rfl) fun ac A => ?_)
                  replace A := A.keep [(3, .int .i64 a), (4, .int .i64 b), (13, .pointer (some ⟨p, 0, none⟩)), (15, .slice wa (shownF m).length wc), (20, .int .i64 (((z : Nat) : Int))), (21, .slice (some oa) m.order.length oc), (22, .int .i64 (((z : Nat) : Int))), (114, .bool true), (150, .bool true)] ⟨rfl, rfl, rfl, rfl, rfl, rfl, rfl, rfl, rfl, trivial⟩
                  refine hK18 _ _ ?_
                  refine region_seq ?_  -- region 18
                  refine L_op A rfl (by decide) rfl (y_move (A.get (s := 22) rfl) fun ac A => ?_)
                  refine L_op A rfl (by decide) rfl (y_add (A.get (s := 115) rfl) rfl (c := ((z + 1 : Nat) : Int)) ((wrap64 (by omega)).trans (by omega)) fun ac A => ?_)
                  refine L_op A rfl (by decide) rfl (y_assign (A.get (s := 116) rfl) fun ac A => ?_)
                  replace A := A.keep [(3, .int .i64 a), (4, .int .i64 b), (13, .pointer (some ⟨p, 0, none⟩)), (15, .slice wa (shownF m).length wc), (20, .int .i64 (((z : Nat) : Int))), (21, .slice (some oa) m.order.length oc), (22, .int .i64 (((z + 1 : Nat) : Int))), (114, .bool true), (150, .bool true)] ⟨rfl, rfl, rfl, rfl, rfl, rfl, rfl, rfl, rfl, trivial⟩
                  replace A := A.keep [(3, .int .i64 a), (4, .int .i64 b), (13, .pointer (some ⟨p, 0, none⟩)), (15, .slice wa (shownF m).length wc), (20, .int .i64 (((z : Nat) : Int))), (21, .slice (some oa) m.order.length oc), (22, .int .i64 (((z + 1 : Nat) : Int)))] ⟨rfl, rfl, rfl, rfl, rfl, rfl, rfl, trivial⟩
                  have hh : hit a b lz = true := by simp only [hit, Bool.or_eq_true, Bool.and_eq_true, beq_iff_eq]; omega
                  rw [show (((z : Nat) : Int) : Int) = butTo m.order a b (z + 1) by rw [hbut, hh]; simp] at A
                  exact ⟨kk - 1, by omega, z + 1, by omega, A, S⟩
                · skip
                  refine wp_seq_k fun K16 hK16 => ?_
                  refine wp_seq_k fun K17 hK17 => ?_
                  refine region_seq ?_  -- region 17
                  refine L_op A rfl (by decide) rfl (y_move (A.get (s := 22) rfl) fun ac A => ?_)
                  refine L_op A rfl (by decide) rfl (y_move (A.get (s := 21) rfl) fun ac A => ?_)
                  refine L_op A rfl (by decide) rfl (y_lenS (e := 28) (by kernel_rfl) (A.get (s := 112) rfl) fun ac A => ?_)
                  refine L_op A rfl (by decide) rfl (y_lss (A.get (s := 111) rfl) (A.get (s := 113) rfl) (c := true) (decide_eq_true (by omega)) fun ac A => ?_)
                  replace A := A.keep [(3, .int .i64 a), (4, .int .i64 b), (13, .pointer (some ⟨p, 0, none⟩)), (15, .slice wa (shownF m).length wc), (20, .int .i64 (butTo m.order a b z)), (21, .slice (some oa) m.order.length oc), (22, .int .i64 (((z : Nat) : Int))), (114, .bool true)] ⟨rfl, rfl, rfl, rfl, rfl, rfl, rfl, rfl, trivial⟩
                  refine hK17 _ _ ?_
                  refine wp_cond_true (A.get rfl) ?_
                  refine wp_skip ?_
                  refine hK16 _ _ ?_
                  refine wp_seq_k fun K18 hK18 => ?_
                  refine wp_block ?_
                  refine wp_seq_k fun K19 hK19 => ?_
                  refine region_seq ?_  -- region 19
                  refine L_op A rfl (by decide) rfl (y_move (A.get (s := 21) rfl) fun ac A => ?_)
                  refine L_op A rfl (by decide) rfl (y_move (A.get (s := 22) rfl) fun ac A => ?_)
                  refine L_op A rfl (by decide) rfl (y_indexA (e := 28) (size := 2) (by kernel_rfl) (by kernel_rfl) (A.get (s := 117) rfl) (A.get (s := 118) rfl) (by omega) (by omega) fun ac A => ?_)
                  refine L_op A rfl (by decide) rfl (y_indexPA (n := 2) (e := 3) (size := 1) (by kernel_rfl) (by kernel_rfl) (A.get (s := 119) rfl) rfl (by decide) (by decide) fun ac A => ?_)
                  replace A := A.keep [(3, .int .i64 a), (4, .int .i64 b), (13, .pointer (some ⟨p, 0, none⟩)), (15, .slice wa (shownF m).length wc), (20, .int .i64 (butTo m.order a b z)), (21, .slice (some oa) m.order.length oc), (22, .int .i64 (((z : Nat) : Int))), (114, .bool true), (120, .pointer (some ((oa.add (((z : Nat) : Int).toNat * 2)).add 0)))] ⟨rfl, rfl, rfl, rfl, rfl, rfl, rfl, rfl, rfl, trivial⟩
                  refine L_op A rfl (by decide) rfl (y_load (by kernel_rfl) (A.get (s := 120) rfl) (hrow 0 (Nat.zero_lt_succ _)) fun ac A => ?_)
                  refine L_op A rfl (by decide) rfl (y_move (A.get (s := 3) rfl) fun ac A => ?_)
                  refine L_op A rfl (by decide) rfl (y_eql (A.get (s := 121) rfl) (A.get (s := 122) rfl) (c := false) (by simpa using e1) fun ac A => ?_)
                  refine L_op A rfl (by decide) rfl (y_move (A.get (s := 123) rfl) fun ac A => ?_)
                  replace A := A.keep [(3, .int .i64 a), (4, .int .i64 b), (13, .pointer (some ⟨p, 0, none⟩)), (15, .slice wa (shownF m).length wc), (20, .int .i64 (butTo m.order a b z)), (21, .slice (some oa) m.order.length oc), (22, .int .i64 (((z : Nat) : Int))), (114, .bool true), (124, .bool false)] ⟨rfl, rfl, rfl, rfl, rfl, rfl, rfl, rfl, rfl, trivial⟩
                  refine L_no A rfl (by decide) rfl rfl (by decide) (A.get rfl) (by decide) fun ac A => ?_
                  refine L_no A rfl (by decide) rfl rfl (by decide) (A.get rfl) (by decide) fun ac A => ?_
                  refine L_no A rfl (by decide) rfl rfl (by decide) (A.get rfl) (by decide) fun ac A => ?_
                  refine L_no A rfl (by decide) rfl rfl (by decide) (A.get rfl) (by decide) fun ac A => ?_
                  replace A := A.keep [(3, .int .i64 a), (4, .int .i64 b), (13, .pointer (some ⟨p, 0, none⟩)), (15, .slice wa (shownF m).length wc), (20, .int .i64 (butTo m.order a b z)), (21, .slice (some oa) m.order.length oc), (22, .int .i64 (((z : Nat) : Int))), (114, .bool true), (124, .bool false), (128, undef)] ⟨rfl, rfl, rfl, rfl, rfl, rfl, rfl, rfl, rfl, rfl, trivial⟩
                  refine L_no A rfl (by decide) rfl rfl (by decide) (A.get rfl) (by decide) fun ac A => ?_
                  refine L_no A rfl (by decide) rfl rfl (by decide) (A.get rfl) (by decide) fun ac A => ?_
                  refine L_no A rfl (by decide) rfl rfl (by decide) (A.get rfl) (by decide) fun ac A => ?_
                  refine L_op A rfl (by decide) rfl (y_pickF (A.get (s := 124) rfl) rfl fun ac A => ?_)
                  replace A := A.keep [(3, .int .i64 a), (4, .int .i64 b), (13, .pointer (some ⟨p, 0, none⟩)), (15, .slice wa (shownF m).length wc), (20, .int .i64 (butTo m.order a b z)), (21, .slice (some oa) m.order.length oc), (22, .int .i64 (((z : Nat) : Int))), (114, .bool true), (132, .bool false)] ⟨rfl, rfl, rfl, rfl, rfl, rfl, rfl, rfl, rfl, trivial⟩
                  refine L_op A rfl (by decide) rfl (y_move (A.get (s := 132) rfl) fun ac A => ?_)
                  refine L_yes A rfl (by decide) rfl rfl (by decide) (A.get rfl) (y_move (A.get (s := 21) rfl) fun ac A => ?_)
                  refine L_yes A rfl (by decide) rfl rfl (by decide) (A.get rfl) (y_move (A.get (s := 22) rfl) fun ac A => ?_)
                  refine L_yes A rfl (by decide) rfl rfl (by decide) (A.get rfl) (y_indexA (e := 28) (size := 2) (by kernel_rfl) (by kernel_rfl) (A.get (s := 134) rfl) (A.get (s := 135) rfl) (by omega) (by omega) fun ac A => ?_)
                  replace A := A.keep [(3, .int .i64 a), (4, .int .i64 b), (13, .pointer (some ⟨p, 0, none⟩)), (15, .slice wa (shownF m).length wc), (20, .int .i64 (butTo m.order a b z)), (21, .slice (some oa) m.order.length oc), (22, .int .i64 (((z : Nat) : Int))), (114, .bool true), (133, .bool false), (136, .pointer (some (oa.add (((z : Nat) : Int).toNat * 2))))] ⟨rfl, rfl, rfl, rfl, rfl, rfl, rfl, rfl, rfl, rfl, trivial⟩
                  refine L_yes A rfl (by decide) rfl rfl (by decide) (A.get rfl) (y_indexPA (n := 2) (e := 3) (size := 1) (by kernel_rfl) (by kernel_rfl) (A.get (s := 136) rfl) rfl (by decide) (by decide) fun ac A => ?_)
                  refine L_yes A rfl (by decide) rfl rfl (by decide) (A.get rfl) (y_load (by kernel_rfl) (A.get (s := 137) rfl) (hrow 0 (Nat.zero_lt_succ _)) fun ac A => ?_)
                  refine L_yes A rfl (by decide) rfl rfl (by decide) (A.get rfl) (y_move (A.get (s := 4) rfl) fun ac A => ?_)
                  refine L_yes A rfl (by decide) rfl rfl (by decide) (A.get rfl) (y_eql (A.get (s := 138) rfl) (A.get (s := 139) rfl) (c := true) (by simp [e3]) fun ac A => ?_)
                  replace A := A.keep [(3, .int .i64 a), (4, .int .i64 b), (13, .pointer (some ⟨p, 0, none⟩)), (15, .slice wa (shownF m).length wc), (20, .int .i64 (butTo m.order a b z)), (21, .slice (some oa) m.order.length oc), (22, .int .i64 (((z : Nat) : Int))), (114, .bool true), (133, .bool false), (140, .bool true)] ⟨rfl, rfl, rfl, rfl, rfl, rfl, rfl, rfl, rfl, rfl, trivial⟩
                  refine L_yes A rfl (by decide) rfl rfl (by decide) (A.get rfl) (y_move (A.get (s := 140) rfl) fun ac A => ?_)
                  refine L_yes A rfl (by decide) rfl rfl (by decide) (A.get rfl) (y_move (A.get (s := 21) rfl) fun ac A => ?_)
                  refine L_yes A rfl (by decide) rfl rfl (by decide) (A.get rfl) (y_move (A.get (s := 22) rfl) fun ac A => ?_)
                  refine L_yes A rfl (by decide) rfl rfl (by decide) (A.get rfl) (y_indexA (e := 28) (size := 2) (by kernel_rfl) (by kernel_rfl) (A.get (s := 142) rfl) (A.get (s := 143) rfl) (by omega) (by omega) fun ac A => ?_)
                  replace A := A.keep [(3, .int .i64 a), (4, .int .i64 b), (13, .pointer (some ⟨p, 0, none⟩)), (15, .slice wa (shownF m).length wc), (20, .int .i64 (butTo m.order a b z)), (21, .slice (some oa) m.order.length oc), (22, .int .i64 (((z : Nat) : Int))), (114, .bool true), (133, .bool false), (141, .bool true), (144, .pointer (some (oa.add (((z : Nat) : Int).toNat * 2))))] ⟨rfl, rfl, rfl, rfl, rfl, rfl, rfl, rfl, rfl, rfl, rfl, trivial⟩
                  refine L_yes A rfl (by decide) rfl rfl (by decide) (A.get rfl) (y_indexPA (n := 2) (e := 3) (size := 1) (by kernel_rfl) (by kernel_rfl) (A.get (s := 144) rfl) rfl (by decide) (by decide) fun ac A => ?_)
                  refine L_yes A rfl (by decide) rfl rfl (by decide) (A.get rfl) (y_load (by kernel_rfl) (A.get (s := 145) rfl) (hrow 1 (Nat.lt_succ_self _)) fun ac A => ?_)
                  refine L_yes A rfl (by decide) rfl rfl (by decide) (A.get rfl) (y_move (A.get (s := 3) rfl) fun ac A => ?_)
                  refine L_yes A rfl (by decide) rfl rfl (by decide) (A.get rfl) (y_eql (A.get (s := 146) rfl) (A.get (s := 147) rfl) (c := false) (by simpa using e4) fun ac A => ?_)
                  replace A := A.keep [(3, .int .i64 a), (4, .int .i64 b), (13, .pointer (some ⟨p, 0, none⟩)), (15, .slice wa (shownF m).length wc), (20, .int .i64 (butTo m.order a b z)), (21, .slice (some oa) m.order.length oc), (22, .int .i64 (((z : Nat) : Int))), (114, .bool true), (133, .bool false), (141, .bool true), (148, .bool false)] ⟨rfl, rfl, rfl, rfl, rfl, rfl, rfl, rfl, rfl, rfl, rfl, trivial⟩
                  refine L_yes A rfl (by decide) rfl rfl (by decide) (A.get rfl) (y_pickT (A.get (s := 141) rfl) (A.get (s := 148) rfl) fun ac A => ?_)
                  refine L_op A rfl (by decide) rfl (y_pickF (A.get (s := 133) rfl) (A.get (s := 149) rfl) fun ac A => ?_)
                  replace A := A.keep [(3, .int .i64 a), (4, .int .i64 b), (13, .pointer (some ⟨p, 0, none⟩)), (15, .slice wa (shownF m).length wc), (20, .int .i64 (butTo m.order a b z)), (21, .slice (some oa) m.order.length oc), (22, .int .i64 (((z : Nat) : Int))), (114, .bool true), (150, .bool false)] ⟨rfl, rfl, rfl, rfl, rfl, rfl, rfl, rfl, rfl, trivial⟩
                  refine hK19 _ _ ?_
                  refine wp_cond_false (A.get rfl) ?_
                  refine wp_skip ?_
                  refine hK18 _ _ ?_
                  refine region_seq ?_  -- region 18
                  refine L_op A rfl (by decide) rfl (y_move (A.get (s := 22) rfl) fun ac A => ?_)
                  refine L_op A rfl (by decide) rfl (y_add (A.get (s := 115) rfl) rfl (c := ((z + 1 : Nat) : Int)) ((wrap64 (by omega)).trans (by omega)) fun ac A => ?_)
                  refine L_op A rfl (by decide) rfl (y_assign (A.get (s := 116) rfl) fun ac A => ?_)
                  replace A := A.keep [(3, .int .i64 a), (4, .int .i64 b), (13, .pointer (some ⟨p, 0, none⟩)), (15, .slice wa (shownF m).length wc), (20, .int .i64 (butTo m.order a b z)), (21, .slice (some oa) m.order.length oc), (22, .int .i64 (((z + 1 : Nat) : Int))), (114, .bool true), (150, .bool false)] ⟨rfl, rfl, rfl, rfl, rfl, rfl, rfl, rfl, rfl, trivial⟩
                  replace A := A.keep [(3, .int .i64 a), (4, .int .i64 b), (13, .pointer (some ⟨p, 0, none⟩)), (15, .slice wa (shownF m).length wc), (20, .int .i64 (butTo m.order a b z)), (21, .slice (some oa) m.order.length oc), (22, .int .i64 (((z + 1 : Nat) : Int)))] ⟨rfl, rfl, rfl, rfl, rfl, rfl, rfl, trivial⟩
                  have hh : hit a b lz = false := by rw [Bool.eq_false_iff, ne_eq]; simp only [hit, Bool.or_eq_true, Bool.and_eq_true, beq_iff_eq]; omega
                  rw [show (butTo m.order a b z : Int) = butTo m.order a b (z + 1) by rw [hbut, hh]; simp] at A
                  exact ⟨kk - 1, by omega, z + 1, by omega, A, S⟩
              · skip
                refine wp_seq_k fun K16 hK16 => ?_
                refine wp_seq_k fun K17 hK17 => ?_
                refine region_seq ?_  -- region 17
                refine L_op A rfl (by decide) rfl (y_move (A.get (s := 22) rfl) fun ac A => ?_)
                refine L_op A rfl (by decide) rfl (y_move (A.get (s := 21) rfl) fun ac A => ?_)
                refine L_op A rfl (by decide) rfl (y_lenS (e := 28) (by kernel_rfl) (A.get (s := 112) rfl) fun ac A => ?_)
                refine L_op A rfl (by decide) rfl (y_lss (A.get (s := 111) rfl) (A.get (s := 113) rfl) (c := true) (decide_eq_true (by omega)) fun ac A => ?_)
                replace A := A.keep [(3, .int .i64 a), (4, .int .i64 b), (13, .pointer (some ⟨p, 0, none⟩)), (15, .slice wa (shownF m).length wc), (20, .int .i64 (butTo m.order a b z)), (21, .slice (some oa) m.order.length oc), (22, .int .i64 (((z : Nat) : Int))), (114, .bool true)] ⟨rfl, rfl, rfl, rfl, rfl, rfl, rfl, rfl, trivial⟩
                refine hK17 _ _ ?_
                refine wp_cond_true (A.get rfl) ?_
                refine wp_skip ?_
                refine hK16 _ _ ?_
                refine wp_seq_k fun K18 hK18 => ?_
                refine wp_block ?_
                refine wp_seq_k fun K19 hK19 => ?_
                refine region_seq ?_  -- region 19
                refine L_op A rfl (by decide) rfl (y_move (A.get (s := 21) rfl) fun ac A => ?_)
                refine L_op A rfl (by decide) rfl (y_move (A.get (s := 22) rfl) fun ac A => ?_)
                refine L_op A rfl (by decide) rfl (y_indexA (e := 28) (size := 2) (by kernel_rfl) (by kernel_rfl) (A.get (s := 117) rfl) (A.get (s := 118) rfl) (by omega) (by omega) fun ac A => ?_)
                refine L_op A rfl (by decide) rfl (y_indexPA (n := 2) (e := 3) (size := 1) (by kernel_rfl) (by kernel_rfl) (A.get (s := 119) rfl) rfl (by decide) (by decide) fun ac A => ?_)
                replace A := A.keep [(3, .int .i64 a), (4, .int .i64 b), (13, .pointer (some ⟨p, 0, none⟩)), (15, .slice wa (shownF m).length wc), (20, .int .i64 (butTo m.order a b z)), (21, .slice (some oa) m.order.length oc), (22, .int .i64 (((z : Nat) : Int))), (114, .bool true), (120, .pointer (some ((oa.add (((z : Nat) : Int).toNat * 2)).add 0)))] ⟨rfl, rfl, rfl, rfl, rfl, rfl, rfl, rfl, rfl, trivial⟩
                refine L_op A rfl (by decide) rfl (y_load (by kernel_rfl) (A.get (s := 120) rfl) (hrow 0 (Nat.zero_lt_succ _)) fun ac A => ?_)
                refine L_op A rfl (by decide) rfl (y_move (A.get (s := 3) rfl) fun ac A => ?_)
                refine L_op A rfl (by decide) rfl (y_eql (A.get (s := 121) rfl) (A.get (s := 122) rfl) (c := false) (by simpa using e1) fun ac A => ?_)
                refine L_op A rfl (by decide) rfl (y_move (A.get (s := 123) rfl) fun ac A => ?_)
                replace A := A.keep [(3, .int .i64 a), (4, .int .i64 b), (13, .pointer (some ⟨p, 0, none⟩)), (15, .slice wa (shownF m).length wc), (20, .int .i64 (butTo m.order a b z)), (21, .slice (some oa) m.order.length oc), (22, .int .i64 (((z : Nat) : Int))), (114, .bool true), (124, .bool false)] ⟨rfl, rfl, rfl, rfl, rfl, rfl, rfl, rfl, rfl, trivial⟩
                refine L_no A rfl (by decide) rfl rfl (by decide) (A.get rfl) (by decide) fun ac A => ?_
                refine L_no A rfl (by decide) rfl rfl (by decide) (A.get rfl) (by decide) fun ac A => ?_
                refine L_no A rfl (by decide) rfl rfl (by decide) (A.get rfl) (by decide) fun ac A => ?_
                refine L_no A rfl (by decide) rfl rfl (by decide) (A.get rfl) (by decide) fun ac A => ?_
                replace A := A.keep [(3, .int .i64 a), (4, .int .i64 b), (13, .pointer (some ⟨p, 0, none⟩)), (15, .slice wa (shownF m).length wc), (20, .int .i64 (butTo m.order a b z)), (21, .slice (some oa) m.order.length oc), (22, .int .i64 (((z : Nat) : Int))), (114, .bool true), (124, .bool false), (128, undef)] ⟨rfl, rfl, rfl, rfl, rfl, rfl, rfl, rfl, rfl, rfl, trivial⟩
                refine L_no A rfl (by decide) rfl rfl (by decide) (A.get rfl) (by decide) fun ac A => ?_
                refine L_no A rfl (by decide) rfl rfl (by decide) (A.get rfl) (by decide) fun ac A => ?_
                refine L_no A rfl (by decide) rfl rfl (by decide) (A.get rfl) (by decide) fun ac A => ?_
                refine L_op A rfl (by decide) rfl (y_pickF (A.get (s := 124) rfl) rfl fun ac A => ?_)
                replace A := A.keep [(3, .int .i64 a), (4, .int .i64 b), (13, .pointer (some ⟨p, 0, none⟩)), (15, .slice wa (shownF m).length wc), (20, .int .i64 (butTo m.order a b z)), (21, .slice (some oa) m.order.length oc), (22, .int .i64 (((z : Nat) : Int))), (114, .bool true), (132, .bool false)] ⟨rfl, rfl, rfl, rfl, rfl, rfl, rfl, rfl, rfl, trivial⟩
                refine L_op A rfl (by decide) rfl (y_move (A.get (s := 132) rfl) fun ac A => ?_)
                refine L_yes A rfl (by decide) rfl rfl (by decide) (A.get rfl) (y_move (A.get (s := 21) rfl) fun ac A => ?_)
                refine L_yes A rfl (by decide) rfl rfl (by decide) (A.get rfl) (y_move (A.get (s := 22) rfl) fun ac A => ?_)
                refine L_yes A rfl (by decide) rfl rfl (by decide) (A.get rfl) (y_indexA (e := 28) (size := 2) (by kernel_rfl) (by kernel_rfl) (A.get (s := 134) rfl) (A.get (s := 135) rfl) (by omega) (by omega) fun ac A => ?_)
                replace A := A.keep [(3, .int .i64 a), (4, .int .i64 b), (13, .pointer (some ⟨p, 0, none⟩)), (15, .slice wa (shownF m).length wc), (20, .int .i64 (butTo m.order a b z)), (21, .slice (some oa) m.order.length oc), (22, .int .i64 (((z : Nat) : Int))), (114, .bool true), (133, .bool false), (136, .pointer (some (oa.add (((z : Nat) : Int).toNat * 2))))] ⟨rfl, rfl, rfl, rfl, rfl, rfl, rfl, rfl, rfl, rfl, trivial⟩
                refine L_yes A rfl (by decide) rfl rfl (by decide) (A.get rfl) (y_indexPA (n := 2) (e := 3) (size := 1) (by kernel_rfl) (by kernel_rfl) (A.get (s := 136) rfl) rfl (by decide) (by decide) fun ac A => ?_)
                refine L_yes A rfl (by decide) rfl rfl (by decide) (A.get rfl) (y_load (by kernel_rfl) (A.get (s := 137) rfl) (hrow 0 (Nat.zero_lt_succ _)) fun ac A => ?_)
                refine L_yes A rfl (by decide) rfl rfl (by decide) (A.get rfl) (y_move (A.get (s := 4) rfl) fun ac A => ?_)
                refine L_yes A rfl (by decide) rfl rfl (by decide) (A.get rfl) (y_eql (A.get (s := 138) rfl) (A.get (s := 139) rfl) (c := false) (by simpa using e3) fun ac A => ?_)
                replace A := A.keep [(3, .int .i64 a), (4, .int .i64 b), (13, .pointer (some ⟨p, 0, none⟩)), (15, .slice wa (shownF m).length wc), (20, .int .i64 (butTo m.order a b z)), (21, .slice (some oa) m.order.length oc), (22, .int .i64 (((z : Nat) : Int))), (114, .bool true), (133, .bool false), (140, .bool false)] ⟨rfl, rfl, rfl, rfl, rfl, rfl, rfl, rfl, rfl, rfl, trivial⟩
                refine L_yes A rfl (by decide) rfl rfl (by decide) (A.get rfl) (y_move (A.get (s := 140) rfl) fun ac A => ?_)
                refine L_no A rfl (by decide) rfl rfl (by decide) (A.get rfl) (by decide) fun ac A => ?_
                refine L_no A rfl (by decide) rfl rfl (by decide) (A.get rfl) (by decide) fun ac A => ?_
                refine L_no A rfl (by decide) rfl rfl (by decide) (A.get rfl) (by decide) fun ac A => ?_
                replace A := A.keep [(3, .int .i64 a), (4, .int .i64 b), (13, .pointer (some ⟨p, 0, none⟩)), (15, .slice wa (shownF m).length wc), (20, .int .i64 (butTo m.order a b z)), (21, .slice (some oa) m.order.length oc), (22, .int .i64 (((z : Nat) : Int))), (114, .bool true), (133, .bool false), (141, .bool false), (144, undef)] ⟨rfl, rfl, rfl, rfl, rfl, rfl, rfl, rfl, rfl, rfl, rfl, trivial⟩
                refine L_no A rfl (by decide) rfl rfl (by decide) (A.get rfl) (by decide) fun ac A => ?_
                refine L_no A rfl (by decide) rfl rfl (by decide) (A.get rfl) (by decide) fun ac A => ?_
                refine L_no A rfl (by decide) rfl rfl (by decide) (A.get rfl) (by decide) fun ac A => ?_
                refine L_no A rfl (by decide) rfl rfl (by decide) (A.get rfl) (by decide) fun ac A => ?_
                replace A := A.keep [(3, .int .i64 a), (4, .int .i64 b), (13, .pointer (some ⟨p, 0, none⟩)), (15, .slice wa (shownF m).length wc), (20, .int .i64 (butTo m.order a b z)), (21, .slice (some oa) m.order.length oc), (22, .int .i64 (((z : Nat) : Int))), (114, .bool true), (133, .bool false), (141, .bool false), (148, undef)] ⟨rfl, rfl, rfl, rfl, rfl, rfl, rfl, rfl, rfl, rfl, rfl, trivial⟩
                refine L_yes A rfl (by decide) rfl rfl (by decide) (A.get rfl) (y_pickF (A.get (s := 141) rfl) rfl fun ac A => ?_)
                refine L_op A rfl (by decide) rfl (y_pickF (A.get (s := 133) rfl) (A.get (s := 149) rfl) fun ac A => ?_)
                replace A := A.keep [(3, .int .i64 a), (4, .int .i64 b), (13, .pointer (some ⟨p, 0, none⟩)), (15, .slice wa (shownF m).length wc), (20, .int .i64 (butTo m.order a b z)), (21, .slice (some oa) m.order.length oc), (22, .int .i64 (((z : Nat) : Int))), (114, .bool true), (150, .bool false)] ⟨rfl, rfl, rfl, rfl, rfl, rfl, rfl, rfl, rfl, trivial⟩
                refine hK19 _ _ ?_
                refine wp_cond_false (A.get rfl) ?_
                refine wp_skip ?_
                refine hK18 _ _ ?_
                refine region_seq ?_  -- region 18
                refine L_op A rfl (by decide) rfl (y_move (A.get (s := 22) rfl) fun ac A => ?_)
                refine L_op A rfl (by decide) rfl (y_add (A.get (s := 115) rfl) rfl (c := ((z + 1 : Nat) : Int)) ((wrap64 (by omega)).trans (by omega)) fun ac A => ?_)
                refine L_op A rfl (by decide) rfl (y_assign (A.get (s := 116) rfl) fun ac A => ?_)
                replace A := A.keep [(3, .int .i64 a), (4, .int .i64 b), (13, .pointer (some ⟨p, 0, none⟩)), (15, .slice wa (shownF m).length wc), (20, .int .i64 (butTo m.order a b z)), (21, .slice (some oa) m.order.length oc), (22, .int .i64 (((z + 1 : Nat) : Int))), (114, .bool true), (150, .bool false)] ⟨rfl, rfl, rfl, rfl, rfl, rfl, rfl, rfl, rfl, trivial⟩
                replace A := A.keep [(3, .int .i64 a), (4, .int .i64 b), (13, .pointer (some ⟨p, 0, none⟩)), (15, .slice wa (shownF m).length wc), (20, .int .i64 (butTo m.order a b z)), (21, .slice (some oa) m.order.length oc), (22, .int .i64 (((z + 1 : Nat) : Int)))] ⟨rfl, rfl, rfl, rfl, rfl, rfl, rfl, trivial⟩
                have hh : hit a b lz = false := by rw [Bool.eq_false_iff, ne_eq]; simp only [hit, Bool.or_eq_true, Bool.and_eq_true, beq_iff_eq]; omega
                rw [show (butTo m.order a b z : Int) = butTo m.order a b (z + 1) by rw [hbut, hh]; simp] at A
                exact ⟨kk - 1, by omega, z + 1, by omega, A, S⟩
          · obtain rfl : z = m.order.length := by omega
            rw [hjb] at A hrows
            refine wp_seq_k fun K16 hK16 => ?_
            refine wp_seq_k fun K17 hK17 => ?_
            refine region_seq ?_  -- region 17
            refine L_op A rfl (by decide) rfl (y_move (A.get (s := 22) rfl) fun ac A => ?_)
            refine L_op A rfl (by decide) rfl (y_move (A.get (s := 21) rfl) fun ac A => ?_)
            refine L_op A rfl (by decide) rfl (y_lenS (e := 28) (by kernel_rfl) (A.get (s := 112) rfl) fun ac A => ?_)
            refine L_op A rfl (by decide) rfl (y_lss (A.get (s := 111) rfl) (A.get (s := 113) rfl) (c := false) (decide_eq_false (by omega)) fun ac A => ?_)
            replace A := A.keep [(3, .int .i64 a), (4, .int .i64 b), (13, .pointer (some ⟨p, 0, none⟩)), (15, .slice wa (shownF m).length wc), (20, .int .i64 (((jb : Nat) : Int))), (21, .slice oa m.order.length oc), (22, .int .i64 (((m.order.length : Nat) : Int))), (114, .bool false)] ⟨rfl, rfl, rfl, rfl, rfl, rfl, rfl, rfl, trivial⟩
            refine hK17 _ _ ?_
            refine wp_cond_false (A.get rfl) ?_
            refine wp_exit ?_
            refine hK14 _ _ ?_
            refine wp_seq_k fun K18 hK18 => ?_
            refine region_seq ?_  -- region 21
            refine L_op A rfl (by decide) rfl (y_move (A.get (s := 13) rfl) fun ac A => ?_)
            refine L_op A rfl (by decide) rfl (y_move (A.get (s := 3) rfl) fun ac A => ?_)
            refine L_op A rfl (by decide) rfl (y_move (A.get (s := 4) rfl) fun ac A => ?_)
            refine L_op A rfl (by decide) rfl (y_call3 (by kernel_rfl) rfl (A.get (s := 152) rfl) (A.get (s := 153) rfl) (A.get (s := 154) rfl) (callN (open_is hopf hN (St.app_left (H := Hn1) (K := (wO ++ ((rsH wR) ++ Hl))) (S.perm (by classical rw [List.perm_iff_count]; intro x; simp only [List.count_append] <;> omega))).holds ha hb) fun v w H gG nN hf ac A => ?_))
            obtain ⟨rfl, rfl⟩ := hf
            replace S : St _ _ _ (Hn1 ++ (wO ++ ((rsH wR) ++ Hl))) := (S.new gG nN).perm (by first | exact List.Perm.refl _ | (rw [List.append_assoc]; exact List.Perm.refl _) | (simp only [List.append_assoc, List.nil_append, List.append_nil]; exact List.Perm.refl _))
            refine L_op A rfl (by decide) rfl (y_assign (A.get (s := 155) rfl) fun ac A => ?_)
            replace A := A.keep [(3, .int .i64 a), (4, .int .i64 b), (13, .pointer (some ⟨p, 0, none⟩)), (15, .slice wa (shownF m).length wc), (20, .int .i64 (((jb : Nat) : Int))), (21, .slice oa m.order.length oc), (22, .int .i64 (((m.order.length : Nat) : Int))), (23, .bool false), (114, .bool false)] ⟨rfl, rfl, rfl, rfl, rfl, rfl, rfl, rfl, rfl, trivial⟩
            refine hK18 _ _ ?_
            refine wp_seq_k fun K19 hK19 => ?_
            refine wp_seq_k fun K20 hK20 => ?_
            refine region_seq ?_  -- region 22
            refine L_op A rfl (by decide) rfl (y_move (A.get (s := 23) rfl) fun ac A => ?_)
            refine L_op A rfl (by decide) rfl (y_move (A.get (s := 156) rfl) fun ac A => ?_)
            refine L_yes A rfl (by decide) rfl rfl (by decide) (A.get rfl) (y_move (A.get (s := 20) rfl) fun ac A => ?_)
            refine L_yes A rfl (by decide) rfl rfl (by decide) (A.get rfl) (y_lss (A.get (s := 158) rfl) rfl (c := false) (decide_eq_false (by omega)) fun ac A => ?_)
            replace A := A.keep [(3, .int .i64 a), (4, .int .i64 b), (13, .pointer (some ⟨p, 0, none⟩)), (15, .slice wa (shownF m).length wc), (20, .int .i64 (((jb : Nat) : Int))), (21, .slice oa m.order.length oc), (22, .int .i64 (((m.order.length : Nat) : Int))), (23, .bool false), (114, .bool false), (157, .bool false), (159, .bool false)] ⟨rfl, rfl, rfl, rfl, rfl, rfl, rfl, rfl, rfl, rfl, rfl, trivial⟩
            refine L_op A rfl (by decide) rfl (y_pickF (A.get (s := 157) rfl) (A.get (s := 159) rfl) fun ac A => ?_)
            refine L_op A rfl (by decide) rfl (y_move (A.get (s := 160) rfl) fun ac A => ?_)
            refine L_yes A rfl (by decide) rfl rfl (by decide) (A.get rfl) (y_move (A.get (s := 13) rfl) fun ac A => ?_)
            refine L_yes A rfl (by decide) rfl rfl (by decide) (A.get rfl) (y_move (A.get (s := 3) rfl) fun ac A => ?_)
            replace A := A.keep [(3, .int .i64 a), (4, .int .i64 b), (13, .pointer (some ⟨p, 0, none⟩)), (15, .slice wa (shownF m).length wc), (20, .int .i64 (((jb : Nat) : Int))), (21, .slice oa m.order.length oc), (22, .int .i64 (((m.order.length : Nat) : Int))), (23, .bool false), (114, .bool false), (161, .bool false), (162, .pointer (some ⟨p, 0, none⟩)), (163, .int .i64 a)] ⟨rfl, rfl, rfl, rfl, rfl, rfl, rfl, rfl, rfl, rfl, rfl, rfl, trivial⟩
            refine L_yes A rfl (by decide) rfl rfl (by decide) (A.get rfl) (y_move (A.get (s := 4) rfl) fun ac A => ?_)
            replace S : St _ _ _ (Hn1 ++ (wO ++ ((rsH wR) ++ Hl))) := S.perm (by classical rw [List.perm_iff_count]; intro x; simp only [List.count_append] <;> omega)
            refine L_yes A rfl (by decide) rfl rfl (by decide) (A.get rfl) (y_call3 (by kernel_rfl) rfl (A.get (s := 162) rfl) (A.get (s := 163) rfl) (A.get (s := 164) rfl) (callW (heal_is (healed hlf) hN S.app_left.nd S.app_left.holds ha hb) fun v w Hn2 s hf ac A => ?_))
            replace S : St _ _ _ (Hn2 ++ (wO ++ ((rsH wR) ++ Hl))) := St.call (H := Hn1) (R := (wO ++ ((rsH wR) ++ Hl))) S rfl s
            obtain ⟨rfl, hN⟩ := hf
            replace S : St _ _ _ (Hn2 ++ (wO ++ ((rsH wR) ++ Hl))) := S.perm (by classical rw [List.perm_iff_count]; intro x; simp only [List.count_append] <;> omega)
            refine L_yes A rfl (by decide) rfl rfl (by decide) (A.get rfl) (y_neq (A.get (s := 165) rfl) rfl (c := false) (by decide) fun ac A => ?_)
            refine L_op A rfl (by decide) rfl (y_pickF (A.get (s := 161) rfl) (A.get (s := 166) rfl) fun ac A => ?_)
            replace A := A.keep [(3, .int .i64 a), (4, .int .i64 b), (13, .pointer (some ⟨p, 0, none⟩)), (15, .slice wa (shownF m).length wc), (20, .int .i64 (((jb : Nat) : Int))), (21, .slice oa m.order.length oc), (22, .int .i64 (((m.order.length : Nat) : Int))), (23, .bool false), (114, .bool false), (167, .bool false)] ⟨rfl, rfl, rfl, rfl, rfl, rfl, rfl, rfl, rfl, rfl, trivial⟩
            refine L_op A rfl (by decide) rfl (y_move (A.get (s := 167) rfl) fun ac A => ?_)
            refine L_yes A rfl (by decide) rfl rfl (by decide) (A.get rfl) (y_move (A.get (s := 13) rfl) fun ac A => ?_)
            refine L_yes A rfl (by decide) rfl rfl (by decide) (A.get rfl) (y_move (A.get (s := 3) rfl) fun ac A => ?_)
            refine L_yes A rfl (by decide) rfl rfl (by decide) (A.get rfl) (y_move (A.get (s := 4) rfl) fun ac A => ?_)
            replace A := A.keep [(3, .int .i64 a), (4, .int .i64 b), (13, .pointer (some ⟨p, 0, none⟩)), (15, .slice wa (shownF m).length wc), (20, .int .i64 (((jb : Nat) : Int))), (21, .slice oa m.order.length oc), (22, .int .i64 (((m.order.length : Nat) : Int))), (23, .bool false), (114, .bool false), (168, .bool false), (169, .pointer (some ⟨p, 0, none⟩)), (170, .int .i64 a), (171, .int .i64 b)] ⟨rfl, rfl, rfl, rfl, rfl, rfl, rfl, rfl, rfl, rfl, rfl, rfl, rfl, trivial⟩
            refine L_yes A rfl (by decide) rfl rfl (by decide) (A.get rfl) (y_call3 (by kernel_rfl) rfl (A.get (s := 169) rfl) (A.get (s := 170) rfl) (A.get (s := 171) rfl) (callN (open_is hopt hN (St.app_left (H := Hn2) (K := (wO ++ ((rsH wR) ++ Hl))) (S.perm (by classical rw [List.perm_iff_count]; intro x; simp only [List.count_append] <;> omega))).holds ha hb) fun v w H gG nN hf ac A => ?_))
            obtain ⟨rfl, rfl⟩ := hf
            replace S : St _ _ _ (Hn2 ++ (wO ++ ((rsH wR) ++ Hl))) := (S.new gG nN).perm (by first | exact List.Perm.refl _ | (rw [List.append_assoc]; exact List.Perm.refl _) | (simp only [List.append_assoc, List.nil_append, List.append_nil]; exact List.Perm.refl _))
            refine L_yes A rfl (by decide) rfl rfl (by decide) (A.get rfl) (y_not (A.get (s := 172) rfl) rfl fun ac A => ?_)
            refine L_op A rfl (by decide) rfl (y_pickF (A.get (s := 168) rfl) (A.get (s := 173) rfl) fun ac A => ?_)
            refine L_op A rfl (by decide) rfl (y_move (A.get (s := 174) rfl) fun ac A => ?_)
            replace A := A.keep [(3, .int .i64 a), (4, .int .i64 b), (13, .pointer (some ⟨p, 0, none⟩)), (15, .slice wa (shownF m).length wc), (20, .int .i64 (((jb : Nat) : Int))), (21, .slice oa m.order.length oc), (22, .int .i64 (((m.order.length : Nat) : Int))), (23, .bool false), (114, .bool false), (175, .bool false)] ⟨rfl, rfl, rfl, rfl, rfl, rfl, rfl, rfl, rfl, rfl, trivial⟩
            refine L_yes A rfl (by decide) rfl rfl (by decide) (A.get rfl) (y_move (A.get (s := 13) rfl) fun ac A => ?_)
            refine L_yes A rfl (by decide) rfl rfl (by decide) (A.get rfl) (y_move (A.get (s := 3) rfl) fun ac A => ?_)
            refine L_yes A rfl (by decide) rfl rfl (by decide) (A.get rfl) (y_move (A.get (s := 4) rfl) fun ac A => ?_)
            refine L_yes A rfl (by decide) rfl rfl (by decide) (A.get rfl) (y_call3 (by kernel_rfl) rfl (A.get (s := 176) rfl) (A.get (s := 177) rfl) (A.get (s := 178) rfl) (callN (len_is (n := 0) hqa hN (St.app_left (H := Hn2) (K := (wO ++ ((rsH wR) ++ Hl))) (S.perm (by classical rw [List.perm_iff_count]; intro x; simp only [List.count_append] <;> omega))).holds ha hb) fun v w H gG nN hf ac A => ?_))
            obtain ⟨rfl, rfl⟩ := hf
            replace S : St _ _ _ (Hn2 ++ (wO ++ ((rsH wR) ++ Hl))) := (S.new gG nN).perm (by first | exact List.Perm.refl _ | (rw [List.append_assoc]; exact List.Perm.refl _) | (simp only [List.append_assoc, List.nil_append, List.append_nil]; exact List.Perm.refl _))
            replace A := A.keep [(3, .int .i64 a), (4, .int .i64 b), (13, .pointer (some ⟨p, 0, none⟩)), (15, .slice wa (shownF m).length wc), (20, .int .i64 (((jb : Nat) : Int))), (21, .slice oa m.order.length oc), (22, .int .i64 (((m.order.length : Nat) : Int))), (23, .bool false), (114, .bool false), (175, .bool false), (179, .int .i64 0)] ⟨rfl, rfl, rfl, rfl, rfl, rfl, rfl, rfl, rfl, rfl, rfl, trivial⟩
            refine L_yes A rfl (by decide) rfl rfl (by decide) (A.get rfl) (y_neq (A.get (s := 179) rfl) rfl (c := false) (by decide) fun ac A => ?_)
            refine L_op A rfl (by decide) rfl (y_pickF (A.get (s := 175) rfl) (A.get (s := 180) rfl) fun ac A => ?_)
            refine L_op A rfl (by decide) rfl (y_move (A.get (s := 181) rfl) fun ac A => ?_)
            refine L_yes A rfl (by decide) rfl rfl (by decide) (A.get rfl) (y_move (A.get (s := 13) rfl) fun ac A => ?_)
            replace A := A.keep [(3, .int .i64 a), (4, .int .i64 b), (13, .pointer (some ⟨p, 0, none⟩)), (15, .slice wa (shownF m).length wc), (20, .int .i64 (((jb : Nat) : Int))), (21, .slice oa m.order.length oc), (22, .int .i64 (((m.order.length : Nat) : Int))), (23, .bool false), (114, .bool false), (182, .bool false), (183, .pointer (some ⟨p, 0, none⟩))] ⟨rfl, rfl, rfl, rfl, rfl, rfl, rfl, rfl, rfl, rfl, rfl, trivial⟩
            refine L_yes A rfl (by decide) rfl rfl (by decide) (A.get rfl) (y_move (A.get (s := 4) rfl) fun ac A => ?_)
            refine L_yes A rfl (by decide) rfl rfl (by decide) (A.get rfl) (y_move (A.get (s := 3) rfl) fun ac A => ?_)
            refine L_yes A rfl (by decide) rfl rfl (by decide) (A.get rfl) (y_call3 (by kernel_rfl) rfl (A.get (s := 183) rfl) (A.get (s := 184) rfl) (A.get (s := 185) rfl) (callN (len_is (n := 0) hqb hN (St.app_left (H := Hn2) (K := (wO ++ ((rsH wR) ++ Hl))) (S.perm (by classical rw [List.perm_iff_count]; intro x; simp only [List.count_append] <;> omega))).holds hb ha) fun v w H gG nN hf ac A => ?_))
            obtain ⟨rfl, rfl⟩ := hf
            replace S : St _ _ _ (Hn2 ++ (wO ++ ((rsH wR) ++ Hl))) := (S.new gG nN).perm (by first | exact List.Perm.refl _ | (rw [List.append_assoc]; exact List.Perm.refl _) | (simp only [List.append_assoc, List.nil_append, List.append_nil]; exact List.Perm.refl _))
            refine L_yes A rfl (by decide) rfl rfl (by decide) (A.get rfl) (y_neq (A.get (s := 186) rfl) rfl (c := false) (by decide) fun ac A => ?_)
            replace A := A.keep [(3, .int .i64 a), (4, .int .i64 b), (13, .pointer (some ⟨p, 0, none⟩)), (15, .slice wa (shownF m).length wc), (20, .int .i64 (((jb : Nat) : Int))), (21, .slice oa m.order.length oc), (22, .int .i64 (((m.order.length : Nat) : Int))), (23, .bool false), (114, .bool false), (182, .bool false), (187, .bool false)] ⟨rfl, rfl, rfl, rfl, rfl, rfl, rfl, rfl, rfl, rfl, rfl, trivial⟩
            refine L_op A rfl (by decide) rfl (y_pickF (A.get (s := 182) rfl) (A.get (s := 187) rfl) fun ac A => ?_)
            replace A := A.keep [(3, .int .i64 a), (4, .int .i64 b), (13, .pointer (some ⟨p, 0, none⟩)), (15, .slice wa (shownF m).length wc), (20, .int .i64 (((jb : Nat) : Int))), (21, .slice oa m.order.length oc), (22, .int .i64 (((m.order.length : Nat) : Int))), (23, .bool false), (114, .bool false), (188, .bool false)] ⟨rfl, rfl, rfl, rfl, rfl, rfl, rfl, rfl, rfl, rfl, trivial⟩
            refine hK20 _ _ ?_
            refine wp_cond_false (A.get rfl) ?_
            refine wp_skip ?_
            refine hK19 _ _ ?_
            refine wp_seq_k fun K21 hK21 => ?_
            refine region_seq ?_  -- region 24
            refine L_op A rfl (by decide) rfl (y_move (A.get (s := 13) rfl) fun ac A => ?_)
            replace S : St _ _ _ (Hn2 ++ (wO ++ ((rsH wR) ++ Hl))) := S.perm (by classical rw [List.perm_iff_count]; intro x; simp only [List.count_append] <;> omega)
            refine L_op A rfl (by decide) rfl (y_call1 (by kernel_rfl) rfl (A.get (s := 189) rfl) (callW (shown_ok (m := undone m a b) hN S.app_left.nd S.app_left.holds hord hol) fun zv w Hx s hf ac A => ?_))
            replace S : St _ _ _ (Hx ++ (wO ++ ((rsH wR) ++ Hl))) := St.call (H := Hn2) (R := (wO ++ ((rsH wR) ++ Hl))) S rfl s
            obtain ⟨Hn3, zO, zR, hN, zH, rfl⟩ := hf
            replace S : St _ _ _ ((Hn3 ++ (zO ++ (rsH zR))) ++ (wO ++ ((rsH wR) ++ Hl))) := S
            replace S : St _ _ _ (Hn3 ++ (zO ++ ((rsH zR) ++ (wO ++ ((rsH wR) ++ Hl))))) := S.perm (by classical rw [List.perm_iff_count]; intro x; simp only [List.count_append] <;> omega)
            replace S : St _ _ _ (Hn3 ++ (zO ++ ((rsH zR) ++ (wO ++ ((rsH wR) ++ Hl))))) := S.perm (by classical rw [List.perm_iff_count]; intro x; simp only [List.count_append] <;> omega)
            obtain ⟨za, zc, rfl⟩ := zH.sl.len
            have zL := shown_lens hN hol
            refine L_op A rfl (by decide) rfl (y_move (A.get (s := 15) rfl) fun ac A => ?_)
            refine L_op A rfl (by decide) rfl (y_move (A.get (s := 20) rfl) fun ac A => ?_)
            replace A := A.keep [(3, .int .i64 a), (4, .int .i64 b), (13, .pointer (some ⟨p, 0, none⟩)), (15, .slice wa (shownF m).length wc), (20, .int .i64 (((jb : Nat) : Int))), (21, .slice oa m.order.length oc), (22, .int .i64 (((m.order.length : Nat) : Int))), (23, .bool false), (114, .bool false), (188, .bool false), (190, .slice za (shownF (undone m a b)).length zc), (191, .slice wa (shownF m).length wc), (192, .int .i64 (((jb : Nat) : Int)))] ⟨rfl, rfl, rfl, rfl, rfl, rfl, rfl, rfl, rfl, rfl, rfl, rfl, rfl, trivial⟩
            refine L_op A rfl (by decide) rfl (y_call3 (by kernel_rfl) rfl (A.get (s := 190) rfl) (A.get (s := 191) rfl) (A.get (s := 192) rfl) (callN (rows_is hrows (zH.src (St.app_left (H := zO ++ rsH zR) (K := (Hn3 ++ (wO ++ ((rsH wR) ++ Hl)))) (S.perm (by classical rw [List.perm_iff_count]; intro x; simp only [List.count_append, List.count_cons, List.count_nil] <;> omega))).holds) (wH.src (St.app_left (H := wO ++ rsH wR) (K := (Hn3 ++ (zO ++ ((rsH zR) ++ Hl)))) (S.perm (by classical rw [List.perm_iff_count]; intro x; simp only [List.count_append, List.count_cons, List.count_nil] <;> omega))).holds) zL.1 zL.2) fun v w H gG nN hf ac A => ?_))
            obtain ⟨rfl, rfl⟩ := hf
            replace S : St _ _ _ (Hn3 ++ (zO ++ ((rsH zR) ++ (wO ++ ((rsH wR) ++ Hl))))) := (S.new gG nN).perm (by first | exact List.Perm.refl _ | (rw [List.append_assoc]; exact List.Perm.refl _) | (simp only [List.append_assoc, List.nil_append, List.append_nil]; exact List.Perm.refl _))
            refine L_op A rfl (by decide) rfl (y_move (A.get (s := 193) rfl) fun ac A => ?_)
            refine L_yes A rfl (by decide) rfl rfl (by decide) (A.get rfl) (y_call0 (by kernel_rfl) rfl  (callN (awake_ok) fun v w Ha gG nN hf ac A => ?_))
            obtain rfl := hf
            replace S : St _ _ _ (Ha ++ (Hn3 ++ (zO ++ ((rsH zR) ++ (wO ++ ((rsH wR) ++ Hl)))))) := (S.new gG nN).perm (by first | exact List.Perm.refl _ | (rw [List.append_assoc]; exact List.Perm.refl _) | (simp only [List.append_assoc, List.nil_append, List.append_nil]; exact List.Perm.refl _))
            refine L_op A rfl (by decide) rfl (y_pickT (A.get (s := 194) rfl) (A.get (s := 195) rfl) fun ac A => ?_)
            replace A := A.keep [(3, .int .i64 a), (4, .int .i64 b), (13, .pointer (some ⟨p, 0, none⟩)), (15, .slice wa (shownF m).length wc), (20, .int .i64 (((jb : Nat) : Int))), (21, .slice oa m.order.length oc), (22, .int .i64 (((m.order.length : Nat) : Int))), (23, .bool false), (114, .bool false), (188, .bool false), (196, .bool true)] ⟨rfl, rfl, rfl, rfl, rfl, rfl, rfl, rfl, rfl, rfl, rfl, trivial⟩
            refine L_op A rfl (by decide) rfl (y_assign (A.get (s := 196) rfl) fun ac A => ?_)
            replace A := A.keep [(3, .int .i64 a), (4, .int .i64 b), (12, .bool true), (13, .pointer (some ⟨p, 0, none⟩)), (15, .slice wa (shownF m).length wc), (20, .int .i64 (((jb : Nat) : Int))), (21, .slice oa m.order.length oc), (22, .int .i64 (((m.order.length : Nat) : Int))), (23, .bool false), (114, .bool false), (188, .bool false)] ⟨rfl, rfl, rfl, rfl, rfl, rfl, rfl, rfl, rfl, rfl, rfl, trivial⟩
            refine hK21 _ _ ?_
            exact wp_ret ⟨A.defers, _, res_run (rs := [.tmp 12]) (vs := [.bool true]) rfl ⟨A.get rfl, trivial⟩, ⟨_, rfl, S.kp.to_gr, _, rfl, S.newF⟩⟩
      refine wp_seq_k fun K9 hK9 => ?_
      refine region_seq ?_  -- region 7
      refine L_op A rfl (by decide) rfl (y_move (A.get (s := 13) rfl) fun ac A => ?_)
      refine L_op A rfl (by decide) rfl (y_move (A.get (s := 3) rfl) fun ac A => ?_)
      refine L_op A rfl (by decide) rfl (y_move (A.get (s := 4) rfl) fun ac A => ?_)
      refine L_op A rfl (by decide) rfl (y_move (A.get (s := 5) rfl) fun ac A => ?_)
      replace S : St _ _ _ (Hn1 ++ (wO ++ (rsH wR))) := S.perm (by classical rw [List.perm_iff_count]; intro x; simp only [List.count_append] <;> omega)
      refine L_op A rfl (by decide) rfl (y_call4 (by kernel_rfl) rfl (A.get (s := 45) rfl) (A.get (s := 46) rfl) (A.get (s := 47) rfl) (A.get (s := 48) rfl) (callW (double_ok (i := i) hN S.app_left.nd S.app_left.holds ha hb) fun v w Hn2 s hf ac A => ?_))
      replace S : St _ _ _ (Hn2 ++ (wO ++ (rsH wR))) := St.call (H := Hn1) (R := (wO ++ (rsH wR))) S rfl s
      obtain ⟨rfl, hN⟩ := hf
      replace S : St _ _ _ (Hn2 ++ (wO ++ (rsH wR))) := S.perm (by classical rw [List.perm_iff_count]; intro x; simp only [List.count_append] <;> omega)
      refine L_op A rfl (by decide) rfl (y_eql (A.get (s := 49) rfl) rfl rfl fun ac A => ?_)
      replace A := A.keep [(0, .int .i64 n), (1, .slice la ls.length lc), (2, .slice va l.length vc), (3, .int .i64 a), (4, .int .i64 b), (5, .int .i64 i), (12, .bool false), (13, .pointer (some ⟨p, 0, none⟩)), (15, .slice wa (shownF m).length wc), (31, .bool false), (41, .bool false), (50, .bool (((m.double a b i).1 : Int) == 0))] ⟨rfl, rfl, rfl, rfl, rfl, rfl, rfl, rfl, rfl, rfl, rfl, rfl, trivial⟩
      refine hK9 _ _ ?_
      refine wp_cond_split (A.get rfl) (fun hc50 => ?_) (fun hc50 => ?_)
      · -- .bool (((m.double a b i).1 : Int) == 0) is true
        simp only [beq_iff_eq] at hc50
        obtain ⟨c, x, j, hij, hlk, hqj, hdd⟩ := double_split hc50
        rw [hdd] at hN
        have hqm : (m.setq (a, b) (m.q (a, b) ++ [x])).q (a, b) = m.q (a, b) ++ [x] := M.setq_same _ _ _
        have hjl := lt_of_get hqj
        have hq24 := few_of hN (a, b)
        rw [hqm] at hq24; simp only [List.length_append, List.length_cons, List.length_nil] at hq24
        have hp1 : (m.setq (a, b) (m.q (a, b) ++ [x])).peek a b i = (x.1, 0) := by rw [hij]; exact peek_at (c := c) hlk (by rw [hqm, List.getElem?_append_left hjl]; exact hqj)
        have hp2 : (m.setq (a, b) (m.q (a, b) ++ [x])).peek a b (((m.q (a, b)).length : Nat) : Int) = (x.1, 0) := peek_at (c := c) hlk (by rw [hqm]; simp)
        have htk : (m.setq (a, b) (m.q (a, b) ++ [x])).take a b (((m.q (a, b)).length : Nat) : Int) = (x.1, 0, m) := by rw [take_last (m := m.setq (a, b) (m.q (a, b) ++ [x])) (c := c) hlk hqm, M.setq_setq, M.setq_id]
        refine wp_seq_k fun K10 hK10 => ?_
        refine region_seq ?_  -- region 8
        refine L_op A rfl (by decide) rfl (y_move (A.get (s := 13) rfl) fun ac A => ?_)
        refine L_op A rfl (by decide) rfl (y_move (A.get (s := 3) rfl) fun ac A => ?_)
        refine L_op A rfl (by decide) rfl (y_move (A.get (s := 4) rfl) fun ac A => ?_)
        refine L_op A rfl (by decide) rfl (y_move (A.get (s := 5) rfl) fun ac A => ?_)
        replace A := A.keep [(0, .int .i64 n), (1, .slice la ls.length lc), (2, .slice va l.length vc), (3, .int .i64 a), (4, .int .i64 b), (5, .int .i64 i), (12, .bool false), (13, .pointer (some ⟨p, 0, none⟩)), (15, .slice wa (shownF m).length wc), (31, .bool false), (41, .bool false), (50, .bool (((m.double a b i).1 : Int) == 0)), (52, .pointer (some ⟨p, 0, none⟩)), (53, .int .i64 a), (54, .int .i64 b), (55, .int .i64 i)] ⟨rfl, rfl, rfl, rfl, rfl, rfl, rfl, rfl, rfl, rfl, rfl, rfl, rfl, rfl, rfl, rfl, trivial⟩
        replace S : St _ _ _ (Hn2 ++ (wO ++ (rsH wR))) := S.perm (by classical rw [List.perm_iff_count]; intro x; simp only [List.count_append] <;> omega)
        refine L_op A rfl (by decide) rfl (y_call4 (by kernel_rfl) rfl (A.get (s := 52) rfl) (A.get (s := 53) rfl) (A.get (s := 54) rfl) (A.get (s := 55) rfl) (callW (peek_is hN S.app_left.nd S.app_left.holds ha hb hp1) fun v w Hx s hf ac A => ?_))
        replace S : St _ _ _ (Hx ++ (wO ++ (rsH wR))) := St.call (H := Hn2) (R := (wO ++ (rsH wR))) S rfl s
        obtain ⟨x1v, x1H, Hn3, rfl, x1B, rfl, hN⟩ := hf
        replace S : St _ _ _ ((Hn3 ++ x1H) ++ (wO ++ (rsH wR))) := S
        replace S : St _ _ _ (Hn3 ++ (x1H ++ (wO ++ (rsH wR)))) := S.perm (by classical rw [List.perm_iff_count]; intro x; simp only [List.count_append] <;> omega)
        replace S : St _ _ _ (Hn3 ++ (x1H ++ (wO ++ (rsH wR)))) := S.perm (by classical rw [List.perm_iff_count]; intro x; simp only [List.count_append] <;> omega)
        obtain ⟨x1a, x1c, rfl⟩ := SlRep.len x1B
        refine L_op A rfl (by decide) rfl (y_move (A.get (s := 56) rfl) fun ac A => ?_)
        refine L_op A rfl (by decide) rfl (y_extract (A.get (s := 51) rfl) rfl fun ac A => ?_)
        refine L_op A rfl (by decide) rfl (y_extract (A.get (s := 51) rfl) rfl fun ac A => ?_)
        replace A := A.keep [(0, .int .i64 n), (1, .slice la ls.length lc), (2, .slice va l.length vc), (3, .int .i64 a), (4, .int .i64 b), (5, .int .i64 i), (12, .bool false), (13, .pointer (some ⟨p, 0, none⟩)), (15, .slice wa (shownF m).length wc), (31, .bool false), (41, .bool false), (50, .bool (((m.double a b i).1 : Int) == 0)), (57, .slice x1a x.1.length x1c), (58, .int .i64 0)] ⟨rfl, rfl, rfl, rfl, rfl, rfl, rfl, rfl, rfl, rfl, rfl, rfl, rfl, rfl, trivial⟩
        refine L_op A rfl (by decide) rfl (y_assign (A.get (s := 57) rfl) fun ac A => ?_)
        refine L_op A rfl (by decide) rfl (y_assign (A.get (s := 58) rfl) fun ac A => ?_)
        replace A := A.keep [(0, .int .i64 n), (1, .slice la ls.length lc), (2, .slice va l.length vc), (3, .int .i64 a), (4, .int .i64 b), (5, .int .i64 i), (12, .bool false), (13, .pointer (some ⟨p, 0, none⟩)), (15, .slice wa (shownF m).length wc), (16, .slice x1a x.1.length x1c), (17, .int .i64 0), (31, .bool false), (41, .bool false), (50, .bool (((m.double a b i).1 : Int) == 0))] ⟨rfl, rfl, rfl, rfl, rfl, rfl, rfl, rfl, rfl, rfl, rfl, rfl, rfl, rfl, trivial⟩
        refine hK10 _ _ ?_
        refine wp_seq_k fun K11 hK11 => ?_
        refine region_seq ?_  -- region 9
        refine L_op A rfl (by decide) rfl (y_move (A.get (s := 13) rfl) fun ac A => ?_)
        refine L_op A rfl (by decide) rfl (y_move (A.get (s := 3) rfl) fun ac A => ?_)
        refine L_op A rfl (by decide) rfl (y_move (A.get (s := 4) rfl) fun ac A => ?_)
        refine L_op A rfl (by decide) rfl (y_move (A.get (s := 13) rfl) fun ac A => ?_)
        replace A := A.keep [(0, .int .i64 n), (1, .slice la ls.length lc), (2, .slice va l.length vc), (3, .int .i64 a), (4, .int .i64 b), (5, .int .i64 i), (12, .bool false), (13, .pointer (some ⟨p, 0, none⟩)), (15, .slice wa (shownF m).length wc), (16, .slice x1a x.1.length x1c), (17, .int .i64 0), (31, .bool false), (41, .bool false), (50, .bool (((m.double a b i).1 : Int) == 0)), (60, .pointer (some ⟨p, 0, none⟩)), (61, .int .i64 a), (62, .int .i64 b), (63, .pointer (some ⟨p, 0, none⟩))] ⟨rfl, rfl, rfl, rfl, rfl, rfl, rfl, rfl, rfl, rfl, rfl, rfl, rfl, rfl, rfl, rfl, rfl, rfl, trivial⟩
        refine L_op A rfl (by decide) rfl (y_move (A.get (s := 3) rfl) fun ac A => ?_)
        refine L_op A rfl (by decide) rfl (y_move (A.get (s := 4) rfl) fun ac A => ?_)
        refine L_op A rfl (by decide) rfl (y_call3 (by kernel_rfl) rfl (A.get (s := 63) rfl) (A.get (s := 64) rfl) (A.get (s := 65) rfl) (callN (len_is (m := (m.setq (a, b) (m.q (a, b) ++ [x]))) (n := (m.q (a, b)).length + 1) (by rw [hqm]; simp) hN (St.app_left (H := Hn3) (K := (x1H ++ (wO ++ (rsH wR)))) (S.perm (by classical rw [List.perm_iff_count]; intro x; simp only [List.count_append] <;> omega))).holds ha hb) fun v w H gG nN hf ac A => ?_))
        obtain ⟨rfl, rfl⟩ := hf
        replace S : St _ _ _ (Hn3 ++ (x1H ++ (wO ++ (rsH wR)))) := (S.new gG nN).perm (by first | exact List.Perm.refl _ | (rw [List.append_assoc]; exact List.Perm.refl _) | (simp only [List.append_assoc, List.nil_append, List.append_nil]; exact List.Perm.refl _))
        refine L_op A rfl (by decide) rfl (y_sub (A.get (s := 66) rfl) rfl (c := (((m.q (a, b)).length : Nat) : Int)) ((wrap64 (by omega)).trans (by omega)) fun ac A => ?_)
        replace A := A.keep [(0, .int .i64 n), (1, .slice la ls.length lc), (2, .slice va l.length vc), (3, .int .i64 a), (4, .int .i64 b), (5, .int .i64 i), (12, .bool false), (13, .pointer (some ⟨p, 0, none⟩)), (15, .slice wa (shownF m).length wc), (16, .slice x1a x.1.length x1c), (17, .int .i64 0), (31, .bool false), (41, .bool false), (50, .bool (((m.double a b i).1 : Int) == 0)), (60, .pointer (some ⟨p, 0, none⟩)), (61, .int .i64 a), (62, .int .i64 b), (67, .int .i64 ((((m.q (a, b)).length : Nat) : Int)))] ⟨rfl, rfl, rfl, rfl, rfl, rfl, rfl, rfl, rfl, rfl, rfl, rfl, rfl, rfl, rfl, rfl, rfl, rfl, trivial⟩
        replace S : St _ _ _ (Hn3 ++ (x1H ++ (wO ++ (rsH wR)))) := S.perm (by classical rw [List.perm_iff_count]; intro x; simp only [List.count_append] <;> omega)
        refine L_op A rfl (by decide) rfl (y_call4 (by kernel_rfl) rfl (A.get (s := 60) rfl) (A.get (s := 61) rfl) (A.get (s := 62) rfl) (A.get (s := 67) rfl) (callW (peek_is hN S.app_left.nd S.app_left.holds ha hb hp2) fun v w Hx s hf ac A => ?_))
        replace S : St _ _ _ (Hx ++ (x1H ++ (wO ++ (rsH wR)))) := St.call (H := Hn3) (R := (x1H ++ (wO ++ (rsH wR)))) S rfl s
        obtain ⟨x2v, x2H, Hn4, rfl, x2B, rfl, hN⟩ := hf
        replace S : St _ _ _ ((Hn4 ++ x2H) ++ (x1H ++ (wO ++ (rsH wR)))) := S
        replace S : St _ _ _ (Hn4 ++ (x2H ++ (x1H ++ (wO ++ (rsH wR))))) := S.perm (by classical rw [List.perm_iff_count]; intro x; simp only [List.count_append] <;> omega)
        replace S : St _ _ _ (Hn4 ++ (x2H ++ (x1H ++ (wO ++ (rsH wR))))) := S.perm (by classical rw [List.perm_iff_count]; intro x; simp only [List.count_append] <;> omega)
        obtain ⟨x2a, x2c, rfl⟩ := SlRep.len x2B
        refine L_op A rfl (by decide) rfl (y_move (A.get (s := 68) rfl) fun ac A => ?_)
        refine L_op A rfl (by decide) rfl (y_extract (A.get (s := 59) rfl) rfl fun ac A => ?_)
        refine L_op A rfl (by decide) rfl (y_extract (A.get (s := 59) rfl) rfl fun ac A => ?_)
        replace A := A.keep [(0, .int .i64 n), (1, .slice la ls.length lc), (2, .slice va l.length vc), (3, .int .i64 a), (4, .int .i64 b), (5, .int .i64 i), (12, .bool false), (13, .pointer (some ⟨p, 0, none⟩)), (15, .slice wa (shownF m).length wc), (16, .slice x1a x.1.length x1c), (17, .int .i64 0), (31, .bool false), (41, .bool false), (50, .bool (((m.double a b i).1 : Int) == 0)), (69, .slice x2a x.1.length x2c), (70, .int .i64 0)] ⟨rfl, rfl, rfl, rfl, rfl, rfl, rfl, rfl, rfl, rfl, rfl, rfl, rfl, rfl, rfl, rfl, trivial⟩
        refine L_op A rfl (by decide) rfl (y_assign (A.get (s := 69) rfl) fun ac A => ?_)
        refine L_op A rfl (by decide) rfl (y_assign (A.get (s := 70) rfl) fun ac A => ?_)
        replace A := A.keep [(0, .int .i64 n), (1, .slice la ls.length lc), (2, .slice va l.length vc), (3, .int .i64 a), (4, .int .i64 b), (5, .int .i64 i), (12, .bool false), (13, .pointer (some ⟨p, 0, none⟩)), (15, .slice wa (shownF m).length wc), (16, .slice x1a x.1.length x1c), (17, .int .i64 0), (18, .slice x2a x.1.length x2c), (19, .int .i64 0), (31, .bool false), (41, .bool false), (50, .bool (((m.double a b i).1 : Int) == 0))] ⟨rfl, rfl, rfl, rfl, rfl, rfl, rfl, rfl, rfl, rfl, rfl, rfl, rfl, rfl, rfl, rfl, trivial⟩
        refine hK11 _ _ ?_
        refine wp_seq_k fun K12 hK12 => ?_
        refine region_seq ?_  -- region 10
        refine L_op A rfl (by decide) rfl (y_move (A.get (s := 17) rfl) fun ac A => ?_)
        refine L_op A rfl (by decide) rfl (y_neq (A.get (s := 71) rfl) rfl (c := false) (by decide) fun ac A => ?_)
        refine L_op A rfl (by decide) rfl (y_move (A.get (s := 72) rfl) fun ac A => ?_)
        refine L_yes A rfl (by decide) rfl rfl (by decide) (A.get rfl) (y_move (A.get (s := 19) rfl) fun ac A => ?_)
        replace A := A.keep [(0, .int .i64 n), (1, .slice la ls.length lc), (2, .slice va l.length vc), (3, .int .i64 a), (4, .int .i64 b), (5, .int .i64 i), (12, .bool false), (13, .pointer (some ⟨p, 0, none⟩)), (15, .slice wa (shownF m).length wc), (16, .slice x1a x.1.length x1c), (17, .int .i64 0), (18, .slice x2a x.1.length x2c), (19, .int .i64 0), (31, .bool false), (41, .bool false), (50, .bool (((m.double a b i).1 : Int) == 0)), (73, .bool false), (74, .int .i64 0)] ⟨rfl, rfl, rfl, rfl, rfl, rfl, rfl, rfl, rfl, rfl, rfl, rfl, rfl, rfl, rfl, rfl, rfl, rfl, trivial⟩
        refine L_yes A rfl (by decide) rfl rfl (by decide) (A.get rfl) (y_neq (A.get (s := 74) rfl) rfl (c := false) (by decide) fun ac A => ?_)
        refine L_op A rfl (by decide) rfl (y_pickF (A.get (s := 73) rfl) (A.get (s := 75) rfl) fun ac A => ?_)
        refine L_op A rfl (by decide) rfl (y_move (A.get (s := 76) rfl) fun ac A => ?_)
        refine L_yes A rfl (by decide) rfl rfl (by decide) (A.get rfl) (y_move (A.get (s := 16) rfl) fun ac A => ?_)
        replace A := A.keep [(0, .int .i64 n), (1, .slice la ls.length lc), (2, .slice va l.length vc), (3, .int .i64 a), (4, .int .i64 b), (5, .int .i64 i), (12, .bool false), (13, .pointer (some ⟨p, 0, none⟩)), (15, .slice wa (shownF m).length wc), (16, .slice x1a x.1.length x1c), (17, .int .i64 0), (18, .slice x2a x.1.length x2c), (19, .int .i64 0), (31, .bool false), (41, .bool false), (50, .bool (((m.double a b i).1 : Int) == 0)), (77, .bool false), (78, .slice x1a x.1.length x1c)] ⟨rfl, rfl, rfl, rfl, rfl, rfl, rfl, rfl, rfl, rfl, rfl, rfl, rfl, rfl, rfl, rfl, rfl, rfl, trivial⟩
        refine L_yes A rfl (by decide) rfl rfl (by decide) (A.get rfl) (y_bytesStr (e := 5) (l := x.1) (by kernel_rfl) (by kernel_rfl) (by kernel_rfl) (A.get (s := 78) rfl) (x1B.src (St.app_left (H := x1H) (K := (Hn4 ++ (x2H ++ (wO ++ (rsH wR))))) (S.perm (by classical rw [List.perm_iff_count]; intro x; simp only [List.count_append] <;> omega))).holds) fun ac A => ?_)
        refine L_yes A rfl (by decide) rfl rfl (by decide) (A.get rfl) (y_move (A.get (s := 18) rfl) fun ac A => ?_)
        refine L_yes A rfl (by decide) rfl rfl (by decide) (A.get rfl) (y_bytesStr (e := 5) (l := x.1) (by kernel_rfl) (by kernel_rfl) (by kernel_rfl) (A.get (s := 80) rfl) (x2B.src (St.app_left (H := x2H) (K := (Hn4 ++ (x1H ++ (wO ++ (rsH wR))))) (S.perm (by classical rw [List.perm_iff_count]; intro x; simp only [List.count_append] <;> omega))).holds) fun ac A => ?_)
        refine L_yes A rfl (by decide) rfl rfl (by decide) (A.get rfl) (y_neqStr (a := x.1) (b := x.1) (A.get (s := 79) rfl) (A.get (s := 81) rfl) (c := false) (by simp) fun ac A => ?_)
        replace A := A.keep [(0, .int .i64 n), (1, .slice la ls.length lc), (2, .slice va l.length vc), (3, .int .i64 a), (4, .int .i64 b), (5, .int .i64 i), (12, .bool false), (13, .pointer (some ⟨p, 0, none⟩)), (15, .slice wa (shownF m).length wc), (16, .slice x1a x.1.length x1c), (17, .int .i64 0), (18, .slice x2a x.1.length x2c), (19, .int .i64 0), (31, .bool false), (41, .bool false), (50, .bool (((m.double a b i).1 : Int) == 0)), (77, .bool false), (82, .bool false)] ⟨rfl, rfl, rfl, rfl, rfl, rfl, rfl, rfl, rfl, rfl, rfl, rfl, rfl, rfl, rfl, rfl, rfl, rfl, trivial⟩
        refine L_op A rfl (by decide) rfl (y_pickF (A.get (s := 77) rfl) (A.get (s := 82) rfl) fun ac A => ?_)
        refine L_op A rfl (by decide) rfl (y_move (A.get (s := 83) rfl) fun ac A => ?_)
        refine L_yes A rfl (by decide) rfl rfl (by decide) (A.get rfl) (y_move (A.get (s := 13) rfl) fun ac A => ?_)
        refine L_yes A rfl (by decide) rfl rfl (by decide) (A.get rfl) (y_move (A.get (s := 3) rfl) fun ac A => ?_)
        replace A := A.keep [(0, .int .i64 n), (1, .slice la ls.length lc), (2, .slice va l.length vc), (3, .int .i64 a), (4, .int .i64 b), (5, .int .i64 i), (12, .bool false), (13, .pointer (some ⟨p, 0, none⟩)), (15, .slice wa (shownF m).length wc), (16, .slice x1a x.1.length x1c), (17, .int .i64 0), (18, .slice x2a x.1.length x2c), (19, .int .i64 0), (31, .bool false), (41, .bool false), (50, .bool (((m.double a b i).1 : Int) == 0)), (84, .bool false), (85, .pointer (some ⟨p, 0, none⟩)), (86, .int .i64 a)] ⟨rfl, rfl, rfl, rfl, rfl, rfl, rfl, rfl, rfl, rfl, rfl, rfl, rfl, rfl, rfl, rfl, rfl, rfl, rfl, trivial⟩
        refine L_yes A rfl (by decide) rfl rfl (by decide) (A.get rfl) (y_move (A.get (s := 4) rfl) fun ac A => ?_)
        refine L_yes A rfl (by decide) rfl rfl (by decide) (A.get rfl) (y_move (A.get (s := 13) rfl) fun ac A => ?_)
        refine L_yes A rfl (by decide) rfl rfl (by decide) (A.get rfl) (y_move (A.get (s := 3) rfl) fun ac A => ?_)
        refine L_yes A rfl (by decide) rfl rfl (by decide) (A.get rfl) (y_move (A.get (s := 4) rfl) fun ac A => ?_)
        replace A := A.keep [(0, .int .i64 n), (1, .slice la ls.length lc), (2, .slice va l.length vc), (3, .int .i64 a), (4, .int .i64 b), (5, .int .i64 i), (12, .bool false), (13, .pointer (some ⟨p, 0, none⟩)), (15, .slice wa (shownF m).length wc), (16, .slice x1a x.1.length x1c), (17, .int .i64 0), (18, .slice x2a x.1.length x2c), (19, .int .i64 0), (31, .bool false), (41, .bool false), (50, .bool (((m.double a b i).1 : Int) == 0)), (84, .bool false), (85, .pointer (some ⟨p, 0, none⟩)), (86, .int .i64 a), (87, .int .i64 b), (88, .pointer (some ⟨p, 0, none⟩)), (89, .int .i64 a), (90, .int .i64 b)] ⟨rfl, rfl, rfl, rfl, rfl, rfl, rfl, rfl, rfl, rfl, rfl, rfl, rfl, rfl, rfl, rfl, rfl, rfl, rfl, rfl, rfl, rfl, rfl, trivial⟩
        refine L_yes A rfl (by decide) rfl rfl (by decide) (A.get rfl) (y_call3 (by kernel_rfl) rfl (A.get (s := 88) rfl) (A.get (s := 89) rfl) (A.get (s := 90) rfl) (callN (len_is (m := (m.setq (a, b) (m.q (a, b) ++ [x]))) (n := (m.q (a, b)).length + 1) (by rw [hqm]; simp) hN (St.app_left (H := Hn4) (K := (x2H ++ (x1H ++ (wO ++ (rsH wR))))) (S.perm (by classical rw [List.perm_iff_count]; intro x; simp only [List.count_append] <;> omega))).holds ha hb) fun v w H gG nN hf ac A => ?_))
        obtain ⟨rfl, rfl⟩ := hf
        replace S : St _ _ _ (Hn4 ++ (x2H ++ (x1H ++ (wO ++ (rsH wR))))) := (S.new gG nN).perm (by first | exact List.Perm.refl _ | (rw [List.append_assoc]; exact List.Perm.refl _) | (simp only [List.append_assoc, List.nil_append, List.append_nil]; exact List.Perm.refl _))
        refine L_yes A rfl (by decide) rfl rfl (by decide) (A.get rfl) (y_sub (A.get (s := 91) rfl) rfl (c := (((m.q (a, b)).length : Nat) : Int)) ((wrap64 (by omega)).trans (by omega)) fun ac A => ?_)
        replace S : St _ _ _ (Hn4 ++ (x2H ++ (x1H ++ (wO ++ (rsH wR))))) := S.perm (by classical rw [List.perm_iff_count]; intro x; simp only [List.count_append] <;> omega)
        refine L_yes A rfl (by decide) rfl rfl (by decide) (A.get rfl) (y_call4 (by kernel_rfl) rfl (A.get (s := 85) rfl) (A.get (s := 86) rfl) (A.get (s := 87) rfl) (A.get (s := 92) rfl) (callW (drop_is htk hN S.app_left.nd S.app_left.holds ha hb) fun v w Hn5 s hf ac A => ?_))
        replace S : St _ _ _ (Hn5 ++ (x2H ++ (x1H ++ (wO ++ (rsH wR))))) := St.call (H := Hn4) (R := (x2H ++ (x1H ++ (wO ++ (rsH wR))))) S rfl s
        obtain ⟨rfl, hN⟩ := hf
        replace S : St _ _ _ (Hn5 ++ (x2H ++ (x1H ++ (wO ++ (rsH wR))))) := S.perm (by classical rw [List.perm_iff_count]; intro x; simp only [List.count_append] <;> omega)
        refine L_yes A rfl (by decide) rfl rfl (by decide) (A.get rfl) (y_neq (A.get (s := 93) rfl) rfl (c := false) (by decide) fun ac A => ?_)
        replace A := A.keep [(0, .int .i64 n), (1, .slice la ls.length lc), (2, .slice va l.length vc), (3, .int .i64 a), (4, .int .i64 b), (5, .int .i64 i), (12, .bool false), (13, .pointer (some ⟨p, 0, none⟩)), (15, .slice wa (shownF m).length wc), (16, .slice x1a x.1.length x1c), (17, .int .i64 0), (18, .slice x2a x.1.length x2c), (19, .int .i64 0), (31, .bool false), (41, .bool false), (50, .bool (((m.double a b i).1 : Int) == 0)), (84, .bool false), (94, .bool false)] ⟨rfl, rfl, rfl, rfl, rfl, rfl, rfl, rfl, rfl, rfl, rfl, rfl, rfl, rfl, rfl, rfl, rfl, rfl, trivial⟩
        refine L_op A rfl (by decide) rfl (y_pickF (A.get (s := 84) rfl) (A.get (s := 94) rfl) fun ac A => ?_)
        refine L_op A rfl (by decide) rfl (y_move (A.get (s := 95) rfl) fun ac A => ?_)
        refine L_yes A rfl (by decide) rfl rfl (by decide) (A.get rfl) (y_move (A.get (s := 13) rfl) fun ac A => ?_)
        replace S : St _ _ _ (Hn5 ++ (x2H ++ (x1H ++ (wO ++ (rsH wR))))) := S.perm (by classical rw [List.perm_iff_count]; intro x; simp only [List.count_append] <;> omega)
        refine L_yes A rfl (by decide) rfl rfl (by decide) (A.get rfl) (y_call1 (by kernel_rfl) rfl (A.get (s := 97) rfl) (callW (shown_ok (m := m) hN S.app_left.nd S.app_left.holds hord hol) fun yv w Hx s hf ac A => ?_))
        replace S : St _ _ _ (Hx ++ (x2H ++ (x1H ++ (wO ++ (rsH wR))))) := St.call (H := Hn5) (R := (x2H ++ (x1H ++ (wO ++ (rsH wR))))) S rfl s
        obtain ⟨Hn6, yO, yR, hN, yH, rfl⟩ := hf
        replace S : St _ _ _ ((Hn6 ++ (yO ++ (rsH yR))) ++ (x2H ++ (x1H ++ (wO ++ (rsH wR))))) := S
        replace S : St _ _ _ (Hn6 ++ (yO ++ ((rsH yR) ++ (x2H ++ (x1H ++ (wO ++ (rsH wR))))))) := S.perm (by classical rw [List.perm_iff_count]; intro x; simp only [List.count_append] <;> omega)
        replace S : St _ _ _ (Hn6 ++ (yO ++ ((rsH yR) ++ (x2H ++ (x1H ++ (wO ++ (rsH wR))))))) := S.perm (by classical rw [List.perm_iff_count]; intro x; simp only [List.count_append] <;> omega)
        obtain ⟨ya, yc, rfl⟩ := yH.sl.len
        have yL := shown_lens hN hol
        replace A := A.keep [(0, .int .i64 n), (1, .slice la ls.length lc), (2, .slice va l.length vc), (3, .int .i64 a), (4, .int .i64 b), (5, .int .i64 i), (12, .bool false), (13, .pointer (some ⟨p, 0, none⟩)), (15, .slice wa (shownF m).length wc), (16, .slice x1a x.1.length x1c), (17, .int .i64 0), (18, .slice x2a x.1.length x2c), (19, .int .i64 0), (31, .bool false), (41, .bool false), (50, .bool (((m.double a b i).1 : Int) == 0)), (96, .bool false), (98, .slice ya (shownF m).length yc)] ⟨rfl, rfl, rfl, rfl, rfl, rfl, rfl, rfl, rfl, rfl, rfl, rfl, rfl, rfl, rfl, rfl, rfl, rfl, trivial⟩
        refine L_yes A rfl (by decide) rfl rfl (by decide) (A.get rfl) (y_move (A.get (s := 15) rfl) fun ac A => ?_)
        refine L_yes A rfl (by decide) rfl rfl (by decide) (A.get rfl) (y_call3 (by kernel_rfl) rfl (A.get (s := 98) rfl) (A.get (s := 99) rfl) rfl (callN (rows_is (rowsF_refl _ _) (yH.src (St.app_left (H := yO ++ rsH yR) (K := (Hn6 ++ (x2H ++ (x1H ++ (wO ++ (rsH wR)))))) (S.perm (by classical rw [List.perm_iff_count]; intro x; simp only [List.count_append, List.count_cons, List.count_nil] <;> omega))).holds) (wH.src (St.app_left (H := wO ++ rsH wR) (K := (Hn6 ++ (yO ++ ((rsH yR) ++ (x2H ++ x1H))))) (S.perm (by classical rw [List.perm_iff_count]; intro x; simp only [List.count_append, List.count_cons, List.count_nil] <;> omega))).holds) yL.1 yL.2) fun v w H gG nN hf ac A => ?_))
        obtain ⟨rfl, rfl⟩ := hf
        replace S : St _ _ _ (Hn6 ++ (yO ++ ((rsH yR) ++ (x2H ++ (x1H ++ (wO ++ (rsH wR))))))) := (S.new gG nN).perm (by first | exact List.Perm.refl _ | (rw [List.append_assoc]; exact List.Perm.refl _) | (simp only [List.append_assoc, List.nil_append, List.append_nil]; exact List.Perm.refl _))
        refine L_yes A rfl (by decide) rfl rfl (by decide) (A.get rfl) (y_not (A.get (s := 100) rfl) rfl fun ac A => ?_)
        refine L_op A rfl (by decide) rfl (y_pickF (A.get (s := 96) rfl) (A.get (s := 101) rfl) fun ac A => ?_)
        replace A := A.keep [(0, .int .i64 n), (1, .slice la ls.length lc), (2, .slice va l.length vc), (3, .int .i64 a), (4, .int .i64 b), (5, .int .i64 i), (12, .bool false), (13, .pointer (some ⟨p, 0, none⟩)), (15, .slice wa (shownF m).length wc), (16, .slice x1a x.1.length x1c), (17, .int .i64 0), (18, .slice x2a x.1.length x2c), (19, .int .i64 0), (31, .bool false), (41, .bool false), (50, .bool (((m.double a b i).1 : Int) == 0)), (102, .bool false)] ⟨rfl, rfl, rfl, rfl, rfl, rfl, rfl, rfl, rfl, rfl, rfl, rfl, rfl, rfl, rfl, rfl, rfl, trivial⟩
        refine hK12 _ _ ?_
        refine wp_cond_false (A.get rfl) ?_
        refine wp_skip ?_
        replace A := A.keep [(3, .int .i64 a), (4, .int .i64 b), (13, .pointer (some ⟨p, 0, none⟩)), (15, .slice wa (shownF m).length wc)] ⟨rfl, rfl, rfl, rfl, trivial⟩
        replace S : St _ _ _ (Hn6 ++ (wO ++ (rsH wR))) := St.app_left (K := (yO ++ ((rsH yR) ++ (x2H ++ x1H)))) (S.perm (by classical rw [List.perm_iff_count]; intro x; simp only [List.count_append] <;> omega))
        exact J _ _ _ A S hN
      · -- .bool (((m.double a b i).1 : Int) == 0) is false
        simp only [beq_eq_false_iff_ne, ne_eq] at hc50
        rw [double_same hc50] at hN
        refine wp_skip ?_
        replace A := A.keep [(3, .int .i64 a), (4, .int .i64 b), (13, .pointer (some ⟨p, 0, none⟩)), (15, .slice wa (shownF m).length wc)] ⟨rfl, rfl, rfl, rfl, trivial⟩
        replace S : St _ _ _ (Hn2 ++ (wO ++ (rsH wR))) := S.perm (by classical rw [List.perm_iff_count]; intro x; simp only [List.count_append] <;> omega)
        exact J _ _ _ A S hN
end Go.Proofs.Ytaeidblipdjgnaa
