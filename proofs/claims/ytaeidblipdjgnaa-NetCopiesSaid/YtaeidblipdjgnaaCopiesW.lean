import Derived.Test.YtaeidblipdjgnaaAll
import Derived.Test.YtaeidblipdjgnaaCopy
namespace Go.Proofs.Ytaeidblipdjgnaa
open Go.RowKit Go.Maps Go.WideMaps

theorem playStep_nodes (s : M × Sent) (x : Ac) : (playStep s x).1.nodes = s.1.nodes := by
  have h1 : ∀ (m : M) (a b : Int) (bs : List UInt8), (m.send a b bs).2.nodes = m.nodes := by intro m a b bs; unfold M.send; split <;> (try rfl); split <;> (try rfl); split <;> rfl
  have h2 : ∀ (m : M) (a b i : Int), (m.take a b i).2.2.nodes = m.nodes := by intro m a b i; unfold M.take; split <;> rfl
  have h3 : ∀ (m : M) (a b i : Int), (m.double a b i).2.nodes = m.nodes := by intro m a b i; unfold M.double; split <;> (try rfl); split <;> rfl
  have h4 : ∀ (m : M) (a b i c : Int), (m.spoil a b i c).2.nodes = m.nodes := by intro m a b i c; unfold M.spoil; split <;> (try rfl); split <;> (try rfl); split <;> (try rfl); split <;> rfl
  have h5 : ∀ (m : M) (a b : Int), (m.cut a b).2.nodes = m.nodes := by intro m a b; unfold M.cut; split <;> rfl
  have h6 : ∀ (m : M) (a b : Int), (m.heal a b).2.nodes = m.nodes := by intro m a b; unfold M.heal; split <;> rfl
  unfold playStep
  repeat' split
  all_goals first | rw [h1] | rw [h2] | rw [h3] | rw [h4] | rw [h5] | rw [h6] | rw [(empty_same _ _).1] | rfl

theorem same_self {w : World} {va vb : Value} {a : List (List UInt8)} {Ha Hb : Frag} (ha : SlRep 9 1 va a.length (a.map strv) Ha) (hb : SlRep 9 1 vb a.length (a.map strv) Hb) (hA : Holds w Ha) (hB : Holds w Hb) (hl : a.length ≤ 15000) : Calls Try.prog 36 #[va, vb] w (RetN w (eqv (.bool true))) := by
  have := same_ok (ha.ssrc hA) (hb.ssrc hB) (by omega)
  rw [show (a == a) = true by simp] at this; exact this
theorem AcSrc.gr {w w' : World} {v : Value} {l : List Ac} (hs : AcSrc w v l) (g : Gr w w') : AcSrc w' v l := by
  obtain ⟨X, h1, h2, h3, h4⟩ := hs
  exact ⟨X, h1, h2, h3.gr g, fun i x hx => let ⟨u, e1, e2, e3⟩ := h4 i x hx; ⟨u, e1, e2.gr g, e3⟩⟩
set_option maxRecDepth 20000 in
set_option maxHeartbeats 16000000 in
theorem netCopies_ok {w0 : World} {n : Int} {vl v u : Value} {ls : List (Int × Int)} {l b : List Ac} (hls : Src w0 2 vl ls.length (pairs ls)) (hlg : ∀ l ∈ ls, i64 l.1 ∧ i64 l.2) (hs : AcSrc w0 v l) (hbh : AcSrc w0 u b) : Calls Try.prog 8 #[.int .i64 n, vl, v, u] w0 (RetN w0 fun r _ => r = .bool true) := by
  obtain ⟨va, vc, rfl⟩ : ∃ a c, v = .slice a l.length c := by obtain ⟨_, _, _, h, _⟩ := hs; exact h.len'
  obtain ⟨ua, uc, rfl⟩ : ∃ a c, u = .slice a b.length c := by obtain ⟨_, _, _, h, _⟩ := hbh; exact h.len'
  obtain ⟨la, lc, rfl⟩ := hls.len'
  have hfa : ∀ w, Gr w0 w → Calls Try.prog 14 #[.slice va l.length vc] w (RetN w (eqv (.bool (fewN 0 l)))) := fun w g => few_ok (hs.gr g)
  have hfb : ∀ w, Gr w0 w → Calls Try.prog 14 #[.slice ua b.length uc] w (RetN w (eqv (.bool (fewN 0 b)))) := fun w g => few_ok (hbh.gr g)
  by_cases h300 : 300 < ls.length
  · skip
    refine enter Try.func8 rfl (n := 153) rfl (Nat.le_of_ble_eq_true rfl) fun ac A => ?_
    have S : St _ _ _ [] := St.none w0
    refine wp_seq_k fun K1 hK1 => ?_
    refine region_seq ?_  -- region 0
    refine L_op A rfl (by decide) rfl (y_assign rfl fun ac A => ?_)
    replace A := A.keep [(0, .int .i64 n), (1, .slice la ls.length lc), (2, .slice va l.length vc), (3, .slice ua b.length uc), (8, .bool false)] ⟨rfl, rfl, rfl, rfl, rfl, trivial⟩
    refine hK1 _ _ ?_
    refine wp_seq_k fun K2 hK2 => ?_
    refine wp_seq_k fun K3 hK3 => ?_
    refine region_seq ?_  -- region 1
    refine L_op A rfl (by decide) rfl (y_move (A.get (s := 1) rfl) fun ac A => ?_)
    refine L_op A rfl (by decide) rfl (y_lenS (e := 28) (by kernel_rfl) (A.get (s := 17) rfl) fun ac A => ?_)
    refine L_op A rfl (by decide) rfl (y_gtr (A.get (s := 18) rfl) rfl (c := true) (decide_eq_true (by omega)) fun ac A => ?_)
    refine L_op A rfl (by decide) rfl (y_move (A.get (s := 19) rfl) fun ac A => ?_)
    replace A := A.keep [(0, .int .i64 n), (1, .slice la ls.length lc), (2, .slice va l.length vc), (3, .slice ua b.length uc), (8, .bool false), (20, .bool true)] ⟨rfl, rfl, rfl, rfl, rfl, rfl, trivial⟩
    refine L_no A rfl (by decide) rfl rfl (by decide) (A.get rfl) (by decide) fun ac A => ?_
    refine L_no A rfl (by decide) rfl rfl (by decide) (A.get rfl) (by decide) fun ac A => ?_
    refine L_no A rfl (by decide) rfl rfl (by decide) (A.get rfl) (by decide) fun ac A => ?_
    refine L_op A rfl (by decide) rfl (y_pickT (A.get (s := 20) rfl) rfl fun ac A => ?_)
    replace A := A.keep [(0, .int .i64 n), (1, .slice la ls.length lc), (2, .slice va l.length vc), (3, .slice ua b.length uc), (8, .bool false), (24, .bool true)] ⟨rfl, rfl, rfl, rfl, rfl, rfl, trivial⟩
    refine L_op A rfl (by decide) rfl (y_move (A.get (s := 24) rfl) fun ac A => ?_)
    refine L_no A rfl (by decide) rfl rfl (by decide) (A.get rfl) (by decide) fun ac A => ?_
    refine L_no A rfl (by decide) rfl rfl (by decide) (A.get rfl) (by decide) fun ac A => ?_
    refine L_no A rfl (by decide) rfl rfl (by decide) (A.get rfl) (by decide) fun ac A => ?_
    replace A := A.keep [(0, .int .i64 n), (1, .slice la ls.length lc), (2, .slice va l.length vc), (3, .slice ua b.length uc), (8, .bool false), (25, .bool true), (28, undef)] ⟨rfl, rfl, rfl, rfl, rfl, rfl, rfl, trivial⟩
    refine L_op A rfl (by decide) rfl (y_pickT (A.get (s := 25) rfl) rfl fun ac A => ?_)
    refine L_op A rfl (by decide) rfl (y_move (A.get (s := 29) rfl) fun ac A => ?_)
    refine L_no A rfl (by decide) rfl rfl (by decide) (A.get rfl) (by decide) fun ac A => ?_
    refine L_no A rfl (by decide) rfl rfl (by decide) (A.get rfl) (by decide) fun ac A => ?_
    replace A := A.keep [(0, .int .i64 n), (1, .slice la ls.length lc), (2, .slice va l.length vc), (3, .slice ua b.length uc), (8, .bool false), (30, .bool true), (32, undef)] ⟨rfl, rfl, rfl, rfl, rfl, rfl, rfl, trivial⟩
    refine L_no A rfl (by decide) rfl rfl (by decide) (A.get rfl) (by decide) fun ac A => ?_
    refine L_op A rfl (by decide) rfl (y_pickT (A.get (s := 30) rfl) rfl fun ac A => ?_)
    refine L_op A rfl (by decide) rfl (y_move (A.get (s := 34) rfl) fun ac A => ?_)
    refine L_no A rfl (by decide) rfl rfl (by decide) (A.get rfl) (by decide) fun ac A => ?_
    replace A := A.keep [(0, .int .i64 n), (1, .slice la ls.length lc), (2, .slice va l.length vc), (3, .slice ua b.length uc), (8, .bool false), (35, .bool true), (36, undef)] ⟨rfl, rfl, rfl, rfl, rfl, rfl, rfl, trivial⟩
    refine L_no A rfl (by decide) rfl rfl (by decide) (A.get rfl) (by decide) fun ac A => ?_
    refine L_no A rfl (by decide) rfl rfl (by decide) (A.get rfl) (by decide) fun ac A => ?_
    refine L_op A rfl (by decide) rfl (y_pickT (A.get (s := 35) rfl) rfl fun ac A => ?_)
    replace A := A.keep [(0, .int .i64 n), (1, .slice la ls.length lc), (2, .slice va l.length vc), (3, .slice ua b.length uc), (8, .bool false), (39, .bool true)] ⟨rfl, rfl, rfl, rfl, rfl, rfl, trivial⟩
    refine hK3 _ _ ?_
    refine wp_cond_true (A.get rfl) ?_
    refine wp_seq_k fun K4 hK4 => ?_
    refine region_seq ?_  -- region 2
    refine L_op A rfl (by decide) rfl (y_call0 (by kernel_rfl) rfl  (callN (awake_ok) fun v w Ha gG nN hf ac A => ?_))
    obtain rfl := hf
    replace S : St _ _ _ Ha := (S.new gG nN).perm (by first | exact List.Perm.refl _ | (rw [List.append_assoc]; exact List.Perm.refl _) | (simp only [List.append_assoc, List.nil_append, List.append_nil]; exact List.Perm.refl _))
    refine L_op A rfl (by decide) rfl (y_assign (A.get (s := 40) rfl) fun ac A => ?_)
    replace A := A.keep [(0, .int .i64 n), (1, .slice la ls.length lc), (2, .slice va l.length vc), (3, .slice ua b.length uc), (8, .bool true), (39, .bool true)] ⟨rfl, rfl, rfl, rfl, rfl, rfl, trivial⟩
    refine hK4 _ _ ?_
    exact wp_ret ⟨A.defers, _, res_run (rs := [.tmp 8]) (vs := [.bool true]) rfl ⟨A.get rfl, trivial⟩, ⟨_, rfl, S.kp.to_gr, _, rfl, S.newF⟩⟩
  cases hfewa : fewN 0 l with
  | false =>
    rw [hfewa] at hfa
    refine enter Try.func8 rfl (n := 153) rfl (Nat.le_of_ble_eq_true rfl) fun ac A => ?_
    have S : St _ _ _ [] := St.none w0
    refine wp_seq_k fun K1 hK1 => ?_
    refine region_seq ?_  -- region 0
    refine L_op A rfl (by decide) rfl (y_assign rfl fun ac A => ?_)
    replace A := A.keep [(0, .int .i64 n), (1, .slice la ls.length lc), (2, .slice va l.length vc), (3, .slice ua b.length uc), (8, .bool false)] ⟨rfl, rfl, rfl, rfl, rfl, trivial⟩
    refine hK1 _ _ ?_
    refine wp_seq_k fun K2 hK2 => ?_
    refine wp_seq_k fun K3 hK3 => ?_
    refine region_seq ?_  -- region 1
    refine L_op A rfl (by decide) rfl (y_move (A.get (s := 1) rfl) fun ac A => ?_)
    refine L_op A rfl (by decide) rfl (y_lenS (e := 28) (by kernel_rfl) (A.get (s := 17) rfl) fun ac A => ?_)
    refine L_op A rfl (by decide) rfl (y_gtr (A.get (s := 18) rfl) rfl (c := false) (decide_eq_false (by omega)) fun ac A => ?_)
    refine L_op A rfl (by decide) rfl (y_move (A.get (s := 19) rfl) fun ac A => ?_)
    replace A := A.keep [(0, .int .i64 n), (1, .slice la ls.length lc), (2, .slice va l.length vc), (3, .slice ua b.length uc), (8, .bool false), (20, .bool false)] ⟨rfl, rfl, rfl, rfl, rfl, rfl, trivial⟩
    refine L_yes A rfl (by decide) rfl rfl (by decide) (A.get rfl) (y_move (A.get (s := 2) rfl) fun ac A => ?_)
    refine L_yes A rfl (by decide) rfl rfl (by decide) (A.get rfl) (y_call1 (by kernel_rfl) rfl (A.get (s := 21) rfl) (callN (hfa _ S.kp.to_gr) fun v w H gG nN hf ac A => ?_))
    obtain ⟨rfl, rfl⟩ := hf
    replace S : St _ _ _ [] := S.new gG nN
    refine L_yes A rfl (by decide) rfl rfl (by decide) (A.get rfl) (y_not (A.get (s := 22) rfl) rfl fun ac A => ?_)
    refine L_op A rfl (by decide) rfl (y_pickF (A.get (s := 20) rfl) (A.get (s := 23) rfl) fun ac A => ?_)
    replace A := A.keep [(0, .int .i64 n), (1, .slice la ls.length lc), (2, .slice va l.length vc), (3, .slice ua b.length uc), (8, .bool false), (24, .bool true)] ⟨rfl, rfl, rfl, rfl, rfl, rfl, trivial⟩
    refine L_op A rfl (by decide) rfl (y_move (A.get (s := 24) rfl) fun ac A => ?_)
    refine L_no A rfl (by decide) rfl rfl (by decide) (A.get rfl) (by decide) fun ac A => ?_
    refine L_no A rfl (by decide) rfl rfl (by decide) (A.get rfl) (by decide) fun ac A => ?_
    refine L_no A rfl (by decide) rfl rfl (by decide) (A.get rfl) (by decide) fun ac A => ?_
    replace A := A.keep [(0, .int .i64 n), (1, .slice la ls.length lc), (2, .slice va l.length vc), (3, .slice ua b.length uc), (8, .bool false), (25, .bool true), (28, undef)] ⟨rfl, rfl, rfl, rfl, rfl, rfl, rfl, trivial⟩
    refine L_op A rfl (by decide) rfl (y_pickT (A.get (s := 25) rfl) rfl fun ac A => ?_)
    refine L_op A rfl (by decide) rfl (y_move (A.get (s := 29) rfl) fun ac A => ?_)
    refine L_no A rfl (by decide) rfl rfl (by decide) (A.get rfl) (by decide) fun ac A => ?_
    refine L_no A rfl (by decide) rfl rfl (by decide) (A.get rfl) (by decide) fun ac A => ?_
    replace A := A.keep [(0, .int .i64 n), (1, .slice la ls.length lc), (2, .slice va l.length vc), (3, .slice ua b.length uc), (8, .bool false), (30, .bool true), (32, undef)] ⟨rfl, rfl, rfl, rfl, rfl, rfl, rfl, trivial⟩
    refine L_no A rfl (by decide) rfl rfl (by decide) (A.get rfl) (by decide) fun ac A => ?_
    refine L_op A rfl (by decide) rfl (y_pickT (A.get (s := 30) rfl) rfl fun ac A => ?_)
    refine L_op A rfl (by decide) rfl (y_move (A.get (s := 34) rfl) fun ac A => ?_)
    refine L_no A rfl (by decide) rfl rfl (by decide) (A.get rfl) (by decide) fun ac A => ?_
    replace A := A.keep [(0, .int .i64 n), (1, .slice la ls.length lc), (2, .slice va l.length vc), (3, .slice ua b.length uc), (8, .bool false), (35, .bool true), (36, undef)] ⟨rfl, rfl, rfl, rfl, rfl, rfl, rfl, trivial⟩
    refine L_no A rfl (by decide) rfl rfl (by decide) (A.get rfl) (by decide) fun ac A => ?_
    refine L_no A rfl (by decide) rfl rfl (by decide) (A.get rfl) (by decide) fun ac A => ?_
    refine L_op A rfl (by decide) rfl (y_pickT (A.get (s := 35) rfl) rfl fun ac A => ?_)
    replace A := A.keep [(0, .int .i64 n), (1, .slice la ls.length lc), (2, .slice va l.length vc), (3, .slice ua b.length uc), (8, .bool false), (39, .bool true)] ⟨rfl, rfl, rfl, rfl, rfl, rfl, trivial⟩
    refine hK3 _ _ ?_
    refine wp_cond_true (A.get rfl) ?_
    refine wp_seq_k fun K4 hK4 => ?_
    refine region_seq ?_  -- region 2
    refine L_op A rfl (by decide) rfl (y_call0 (by kernel_rfl) rfl  (callN (awake_ok) fun v w Ha gG nN hf ac A => ?_))
    obtain rfl := hf
    replace S : St _ _ _ Ha := (S.new gG nN).perm (by first | exact List.Perm.refl _ | (rw [List.append_assoc]; exact List.Perm.refl _) | (simp only [List.append_assoc, List.nil_append, List.append_nil]; exact List.Perm.refl _))
    refine L_op A rfl (by decide) rfl (y_assign (A.get (s := 40) rfl) fun ac A => ?_)
    replace A := A.keep [(0, .int .i64 n), (1, .slice la ls.length lc), (2, .slice va l.length vc), (3, .slice ua b.length uc), (8, .bool true), (39, .bool true)] ⟨rfl, rfl, rfl, rfl, rfl, rfl, trivial⟩
    refine hK4 _ _ ?_
    exact wp_ret ⟨A.defers, _, res_run (rs := [.tmp 8]) (vs := [.bool true]) rfl ⟨A.get rfl, trivial⟩, ⟨_, rfl, S.kp.to_gr, _, rfl, S.newF⟩⟩
  | true =>
  rw [hfewa] at hfa
  cases hfewb : fewN 0 b with
  | false =>
    rw [hfewb] at hfb
    refine enter Try.func8 rfl (n := 153) rfl (Nat.le_of_ble_eq_true rfl) fun ac A => ?_
    have S : St _ _ _ [] := St.none w0
    refine wp_seq_k fun K1 hK1 => ?_
    refine region_seq ?_  -- region 0
    refine L_op A rfl (by decide) rfl (y_assign rfl fun ac A => ?_)
    replace A := A.keep [(0, .int .i64 n), (1, .slice la ls.length lc), (2, .slice va l.length vc), (3, .slice ua b.length uc), (8, .bool false)] ⟨rfl, rfl, rfl, rfl, rfl, trivial⟩
    refine hK1 _ _ ?_
    refine wp_seq_k fun K2 hK2 => ?_
    refine wp_seq_k fun K3 hK3 => ?_
    refine region_seq ?_  -- region 1
    refine L_op A rfl (by decide) rfl (y_move (A.get (s := 1) rfl) fun ac A => ?_)
    refine L_op A rfl (by decide) rfl (y_lenS (e := 28) (by kernel_rfl) (A.get (s := 17) rfl) fun ac A => ?_)
    refine L_op A rfl (by decide) rfl (y_gtr (A.get (s := 18) rfl) rfl (c := false) (decide_eq_false (by omega)) fun ac A => ?_)
    refine L_op A rfl (by decide) rfl (y_move (A.get (s := 19) rfl) fun ac A => ?_)
    replace A := A.keep [(0, .int .i64 n), (1, .slice la ls.length lc), (2, .slice va l.length vc), (3, .slice ua b.length uc), (8, .bool false), (20, .bool false)] ⟨rfl, rfl, rfl, rfl, rfl, rfl, trivial⟩
    refine L_yes A rfl (by decide) rfl rfl (by decide) (A.get rfl) (y_move (A.get (s := 2) rfl) fun ac A => ?_)
    refine L_yes A rfl (by decide) rfl rfl (by decide) (A.get rfl) (y_call1 (by kernel_rfl) rfl (A.get (s := 21) rfl) (callN (hfa _ S.kp.to_gr) fun v w H gG nN hf ac A => ?_))
    obtain ⟨rfl, rfl⟩ := hf
    replace S : St _ _ _ [] := S.new gG nN
    refine L_yes A rfl (by decide) rfl rfl (by decide) (A.get rfl) (y_not (A.get (s := 22) rfl) rfl fun ac A => ?_)
    refine L_op A rfl (by decide) rfl (y_pickF (A.get (s := 20) rfl) (A.get (s := 23) rfl) fun ac A => ?_)
    replace A := A.keep [(0, .int .i64 n), (1, .slice la ls.length lc), (2, .slice va l.length vc), (3, .slice ua b.length uc), (8, .bool false), (24, .bool false)] ⟨rfl, rfl, rfl, rfl, rfl, rfl, trivial⟩
    refine L_op A rfl (by decide) rfl (y_move (A.get (s := 24) rfl) fun ac A => ?_)
    refine L_yes A rfl (by decide) rfl rfl (by decide) (A.get rfl) (y_move (A.get (s := 3) rfl) fun ac A => ?_)
    refine L_yes A rfl (by decide) rfl rfl (by decide) (A.get rfl) (y_call1 (by kernel_rfl) rfl (A.get (s := 26) rfl) (callN (hfb _ S.kp.to_gr) fun v w H gG nN hf ac A => ?_))
    obtain ⟨rfl, rfl⟩ := hf
    replace S : St _ _ _ [] := S.new gG nN
    refine L_yes A rfl (by decide) rfl rfl (by decide) (A.get rfl) (y_not (A.get (s := 27) rfl) rfl fun ac A => ?_)
    replace A := A.keep [(0, .int .i64 n), (1, .slice la ls.length lc), (2, .slice va l.length vc), (3, .slice ua b.length uc), (8, .bool false), (25, .bool false), (28, .bool true)] ⟨rfl, rfl, rfl, rfl, rfl, rfl, rfl, trivial⟩
    refine L_op A rfl (by decide) rfl (y_pickF (A.get (s := 25) rfl) (A.get (s := 28) rfl) fun ac A => ?_)
    refine L_op A rfl (by decide) rfl (y_move (A.get (s := 29) rfl) fun ac A => ?_)
    refine L_no A rfl (by decide) rfl rfl (by decide) (A.get rfl) (by decide) fun ac A => ?_
    refine L_no A rfl (by decide) rfl rfl (by decide) (A.get rfl) (by decide) fun ac A => ?_
    replace A := A.keep [(0, .int .i64 n), (1, .slice la ls.length lc), (2, .slice va l.length vc), (3, .slice ua b.length uc), (8, .bool false), (30, .bool true), (32, undef)] ⟨rfl, rfl, rfl, rfl, rfl, rfl, rfl, trivial⟩
    refine L_no A rfl (by decide) rfl rfl (by decide) (A.get rfl) (by decide) fun ac A => ?_
    refine L_op A rfl (by decide) rfl (y_pickT (A.get (s := 30) rfl) rfl fun ac A => ?_)
    refine L_op A rfl (by decide) rfl (y_move (A.get (s := 34) rfl) fun ac A => ?_)
    refine L_no A rfl (by decide) rfl rfl (by decide) (A.get rfl) (by decide) fun ac A => ?_
    replace A := A.keep [(0, .int .i64 n), (1, .slice la ls.length lc), (2, .slice va l.length vc), (3, .slice ua b.length uc), (8, .bool false), (35, .bool true), (36, undef)] ⟨rfl, rfl, rfl, rfl, rfl, rfl, rfl, trivial⟩
    refine L_no A rfl (by decide) rfl rfl (by decide) (A.get rfl) (by decide) fun ac A => ?_
    refine L_no A rfl (by decide) rfl rfl (by decide) (A.get rfl) (by decide) fun ac A => ?_
    refine L_op A rfl (by decide) rfl (y_pickT (A.get (s := 35) rfl) rfl fun ac A => ?_)
    replace A := A.keep [(0, .int .i64 n), (1, .slice la ls.length lc), (2, .slice va l.length vc), (3, .slice ua b.length uc), (8, .bool false), (39, .bool true)] ⟨rfl, rfl, rfl, rfl, rfl, rfl, trivial⟩
    refine hK3 _ _ ?_
    refine wp_cond_true (A.get rfl) ?_
    refine wp_seq_k fun K4 hK4 => ?_
    refine region_seq ?_  -- region 2
    refine L_op A rfl (by decide) rfl (y_call0 (by kernel_rfl) rfl  (callN (awake_ok) fun v w Ha gG nN hf ac A => ?_))
    obtain rfl := hf
    replace S : St _ _ _ Ha := (S.new gG nN).perm (by first | exact List.Perm.refl _ | (rw [List.append_assoc]; exact List.Perm.refl _) | (simp only [List.append_assoc, List.nil_append, List.append_nil]; exact List.Perm.refl _))
    refine L_op A rfl (by decide) rfl (y_assign (A.get (s := 40) rfl) fun ac A => ?_)
    replace A := A.keep [(0, .int .i64 n), (1, .slice la ls.length lc), (2, .slice va l.length vc), (3, .slice ua b.length uc), (8, .bool true), (39, .bool true)] ⟨rfl, rfl, rfl, rfl, rfl, rfl, trivial⟩
    refine hK4 _ _ ?_
    exact wp_ret ⟨A.defers, _, res_run (rs := [.tmp 8]) (vs := [.bool true]) rfl ⟨A.get rfl, trivial⟩, ⟨_, rfl, S.kp.to_gr, _, rfl, S.newF⟩⟩
  | true =>
  rw [hfewb] at hfb
  by_cases h5a : 500 < l.length
  · skip
    refine enter Try.func8 rfl (n := 153) rfl (Nat.le_of_ble_eq_true rfl) fun ac A => ?_
    have S : St _ _ _ [] := St.none w0
    refine wp_seq_k fun K1 hK1 => ?_
    refine region_seq ?_  -- region 0
    refine L_op A rfl (by decide) rfl (y_assign rfl fun ac A => ?_)
    replace A := A.keep [(0, .int .i64 n), (1, .slice la ls.length lc), (2, .slice va l.length vc), (3, .slice ua b.length uc), (8, .bool false)] ⟨rfl, rfl, rfl, rfl, rfl, trivial⟩
    refine hK1 _ _ ?_
    refine wp_seq_k fun K2 hK2 => ?_
    refine wp_seq_k fun K3 hK3 => ?_
    refine region_seq ?_  -- region 1
    refine L_op A rfl (by decide) rfl (y_move (A.get (s := 1) rfl) fun ac A => ?_)
    refine L_op A rfl (by decide) rfl (y_lenS (e := 28) (by kernel_rfl) (A.get (s := 17) rfl) fun ac A => ?_)
    refine L_op A rfl (by decide) rfl (y_gtr (A.get (s := 18) rfl) rfl (c := false) (decide_eq_false (by omega)) fun ac A => ?_)
    refine L_op A rfl (by decide) rfl (y_move (A.get (s := 19) rfl) fun ac A => ?_)
    replace A := A.keep [(0, .int .i64 n), (1, .slice la ls.length lc), (2, .slice va l.length vc), (3, .slice ua b.length uc), (8, .bool false), (20, .bool false)] ⟨rfl, rfl, rfl, rfl, rfl, rfl, trivial⟩
    refine L_yes A rfl (by decide) rfl rfl (by decide) (A.get rfl) (y_move (A.get (s := 2) rfl) fun ac A => ?_)
    refine L_yes A rfl (by decide) rfl rfl (by decide) (A.get rfl) (y_call1 (by kernel_rfl) rfl (A.get (s := 21) rfl) (callN (hfa _ S.kp.to_gr) fun v w H gG nN hf ac A => ?_))
    obtain ⟨rfl, rfl⟩ := hf
    replace S : St _ _ _ [] := S.new gG nN
    refine L_yes A rfl (by decide) rfl rfl (by decide) (A.get rfl) (y_not (A.get (s := 22) rfl) rfl fun ac A => ?_)
    refine L_op A rfl (by decide) rfl (y_pickF (A.get (s := 20) rfl) (A.get (s := 23) rfl) fun ac A => ?_)
    replace A := A.keep [(0, .int .i64 n), (1, .slice la ls.length lc), (2, .slice va l.length vc), (3, .slice ua b.length uc), (8, .bool false), (24, .bool false)] ⟨rfl, rfl, rfl, rfl, rfl, rfl, trivial⟩
    refine L_op A rfl (by decide) rfl (y_move (A.get (s := 24) rfl) fun ac A => ?_)
    refine L_yes A rfl (by decide) rfl rfl (by decide) (A.get rfl) (y_move (A.get (s := 3) rfl) fun ac A => ?_)
    refine L_yes A rfl (by decide) rfl rfl (by decide) (A.get rfl) (y_call1 (by kernel_rfl) rfl (A.get (s := 26) rfl) (callN (hfb _ S.kp.to_gr) fun v w H gG nN hf ac A => ?_))
    obtain ⟨rfl, rfl⟩ := hf
    replace S : St _ _ _ [] := S.new gG nN
    refine L_yes A rfl (by decide) rfl rfl (by decide) (A.get rfl) (y_not (A.get (s := 27) rfl) rfl fun ac A => ?_)
    replace A := A.keep [(0, .int .i64 n), (1, .slice la ls.length lc), (2, .slice va l.length vc), (3, .slice ua b.length uc), (8, .bool false), (25, .bool false), (28, .bool false)] ⟨rfl, rfl, rfl, rfl, rfl, rfl, rfl, trivial⟩
    refine L_op A rfl (by decide) rfl (y_pickF (A.get (s := 25) rfl) (A.get (s := 28) rfl) fun ac A => ?_)
    refine L_op A rfl (by decide) rfl (y_move (A.get (s := 29) rfl) fun ac A => ?_)
    refine L_yes A rfl (by decide) rfl rfl (by decide) (A.get rfl) (y_move (A.get (s := 2) rfl) fun ac A => ?_)
    refine L_yes A rfl (by decide) rfl rfl (by decide) (A.get rfl) (y_lenS (e := 57) (by kernel_rfl) (A.get (s := 31) rfl) fun ac A => ?_)
    replace A := A.keep [(0, .int .i64 n), (1, .slice la ls.length lc), (2, .slice va l.length vc), (3, .slice ua b.length uc), (8, .bool false), (30, .bool false), (32, .int .i64 l.length)] ⟨rfl, rfl, rfl, rfl, rfl, rfl, rfl, trivial⟩
    refine L_yes A rfl (by decide) rfl rfl (by decide) (A.get rfl) (y_gtr (A.get (s := 32) rfl) rfl (c := true) (decide_eq_true (by omega)) fun ac A => ?_)
    refine L_op A rfl (by decide) rfl (y_pickF (A.get (s := 30) rfl) (A.get (s := 33) rfl) fun ac A => ?_)
    refine L_op A rfl (by decide) rfl (y_move (A.get (s := 34) rfl) fun ac A => ?_)
    refine L_no A rfl (by decide) rfl rfl (by decide) (A.get rfl) (by decide) fun ac A => ?_
    replace A := A.keep [(0, .int .i64 n), (1, .slice la ls.length lc), (2, .slice va l.length vc), (3, .slice ua b.length uc), (8, .bool false), (35, .bool true), (36, undef)] ⟨rfl, rfl, rfl, rfl, rfl, rfl, rfl, trivial⟩
    refine L_no A rfl (by decide) rfl rfl (by decide) (A.get rfl) (by decide) fun ac A => ?_
    refine L_no A rfl (by decide) rfl rfl (by decide) (A.get rfl) (by decide) fun ac A => ?_
    refine L_op A rfl (by decide) rfl (y_pickT (A.get (s := 35) rfl) rfl fun ac A => ?_)
    replace A := A.keep [(0, .int .i64 n), (1, .slice la ls.length lc), (2, .slice va l.length vc), (3, .slice ua b.length uc), (8, .bool false), (39, .bool true)] ⟨rfl, rfl, rfl, rfl, rfl, rfl, trivial⟩
    refine hK3 _ _ ?_
    refine wp_cond_true (A.get rfl) ?_
    refine wp_seq_k fun K4 hK4 => ?_
    refine region_seq ?_  -- region 2
    refine L_op A rfl (by decide) rfl (y_call0 (by kernel_rfl) rfl  (callN (awake_ok) fun v w Ha gG nN hf ac A => ?_))
    obtain rfl := hf
    replace S : St _ _ _ Ha := (S.new gG nN).perm (by first | exact List.Perm.refl _ | (rw [List.append_assoc]; exact List.Perm.refl _) | (simp only [List.append_assoc, List.nil_append, List.append_nil]; exact List.Perm.refl _))
    refine L_op A rfl (by decide) rfl (y_assign (A.get (s := 40) rfl) fun ac A => ?_)
    replace A := A.keep [(0, .int .i64 n), (1, .slice la ls.length lc), (2, .slice va l.length vc), (3, .slice ua b.length uc), (8, .bool true), (39, .bool true)] ⟨rfl, rfl, rfl, rfl, rfl, rfl, trivial⟩
    refine hK4 _ _ ?_
    exact wp_ret ⟨A.defers, _, res_run (rs := [.tmp 8]) (vs := [.bool true]) rfl ⟨A.get rfl, trivial⟩, ⟨_, rfl, S.kp.to_gr, _, rfl, S.newF⟩⟩
  by_cases h5b : 500 < b.length
  · skip
    refine enter Try.func8 rfl (n := 153) rfl (Nat.le_of_ble_eq_true rfl) fun ac A => ?_
    have S : St _ _ _ [] := St.none w0
    refine wp_seq_k fun K1 hK1 => ?_
    refine region_seq ?_  -- region 0
    refine L_op A rfl (by decide) rfl (y_assign rfl fun ac A => ?_)
    replace A := A.keep [(0, .int .i64 n), (1, .slice la ls.length lc), (2, .slice va l.length vc), (3, .slice ua b.length uc), (8, .bool false)] ⟨rfl, rfl, rfl, rfl, rfl, trivial⟩
    refine hK1 _ _ ?_
    refine wp_seq_k fun K2 hK2 => ?_
    refine wp_seq_k fun K3 hK3 => ?_
    refine region_seq ?_  -- region 1
    refine L_op A rfl (by decide) rfl (y_move (A.get (s := 1) rfl) fun ac A => ?_)
    refine L_op A rfl (by decide) rfl (y_lenS (e := 28) (by kernel_rfl) (A.get (s := 17) rfl) fun ac A => ?_)
    refine L_op A rfl (by decide) rfl (y_gtr (A.get (s := 18) rfl) rfl (c := false) (decide_eq_false (by omega)) fun ac A => ?_)
    refine L_op A rfl (by decide) rfl (y_move (A.get (s := 19) rfl) fun ac A => ?_)
    replace A := A.keep [(0, .int .i64 n), (1, .slice la ls.length lc), (2, .slice va l.length vc), (3, .slice ua b.length uc), (8, .bool false), (20, .bool false)] ⟨rfl, rfl, rfl, rfl, rfl, rfl, trivial⟩
    refine L_yes A rfl (by decide) rfl rfl (by decide) (A.get rfl) (y_move (A.get (s := 2) rfl) fun ac A => ?_)
    refine L_yes A rfl (by decide) rfl rfl (by decide) (A.get rfl) (y_call1 (by kernel_rfl) rfl (A.get (s := 21) rfl) (callN (hfa _ S.kp.to_gr) fun v w H gG nN hf ac A => ?_))
    obtain ⟨rfl, rfl⟩ := hf
    replace S : St _ _ _ [] := S.new gG nN
    refine L_yes A rfl (by decide) rfl rfl (by decide) (A.get rfl) (y_not (A.get (s := 22) rfl) rfl fun ac A => ?_)
    refine L_op A rfl (by decide) rfl (y_pickF (A.get (s := 20) rfl) (A.get (s := 23) rfl) fun ac A => ?_)
    replace A := A.keep [(0, .int .i64 n), (1, .slice la ls.length lc), (2, .slice va l.length vc), (3, .slice ua b.length uc), (8, .bool false), (24, .bool false)] ⟨rfl, rfl, rfl, rfl, rfl, rfl, trivial⟩
    refine L_op A rfl (by decide) rfl (y_move (A.get (s := 24) rfl) fun ac A => ?_)
    refine L_yes A rfl (by decide) rfl rfl (by decide) (A.get rfl) (y_move (A.get (s := 3) rfl) fun ac A => ?_)
    refine L_yes A rfl (by decide) rfl rfl (by decide) (A.get rfl) (y_call1 (by kernel_rfl) rfl (A.get (s := 26) rfl) (callN (hfb _ S.kp.to_gr) fun v w H gG nN hf ac A => ?_))
    obtain ⟨rfl, rfl⟩ := hf
    replace S : St _ _ _ [] := S.new gG nN
    refine L_yes A rfl (by decide) rfl rfl (by decide) (A.get rfl) (y_not (A.get (s := 27) rfl) rfl fun ac A => ?_)
    replace A := A.keep [(0, .int .i64 n), (1, .slice la ls.length lc), (2, .slice va l.length vc), (3, .slice ua b.length uc), (8, .bool false), (25, .bool false), (28, .bool false)] ⟨rfl, rfl, rfl, rfl, rfl, rfl, rfl, trivial⟩
    refine L_op A rfl (by decide) rfl (y_pickF (A.get (s := 25) rfl) (A.get (s := 28) rfl) fun ac A => ?_)
    refine L_op A rfl (by decide) rfl (y_move (A.get (s := 29) rfl) fun ac A => ?_)
    refine L_yes A rfl (by decide) rfl rfl (by decide) (A.get rfl) (y_move (A.get (s := 2) rfl) fun ac A => ?_)
    refine L_yes A rfl (by decide) rfl rfl (by decide) (A.get rfl) (y_lenS (e := 57) (by kernel_rfl) (A.get (s := 31) rfl) fun ac A => ?_)
    replace A := A.keep [(0, .int .i64 n), (1, .slice la ls.length lc), (2, .slice va l.length vc), (3, .slice ua b.length uc), (8, .bool false), (30, .bool false), (32, .int .i64 l.length)] ⟨rfl, rfl, rfl, rfl, rfl, rfl, rfl, trivial⟩
    refine L_yes A rfl (by decide) rfl rfl (by decide) (A.get rfl) (y_gtr (A.get (s := 32) rfl) rfl (c := false) (decide_eq_false (by omega)) fun ac A => ?_)
    refine L_op A rfl (by decide) rfl (y_pickF (A.get (s := 30) rfl) (A.get (s := 33) rfl) fun ac A => ?_)
    refine L_op A rfl (by decide) rfl (y_move (A.get (s := 34) rfl) fun ac A => ?_)
    refine L_yes A rfl (by decide) rfl rfl (by decide) (A.get rfl) (y_move (A.get (s := 3) rfl) fun ac A => ?_)
    replace A := A.keep [(0, .int .i64 n), (1, .slice la ls.length lc), (2, .slice va l.length vc), (3, .slice ua b.length uc), (8, .bool false), (35, .bool false), (36, .slice ua b.length uc)] ⟨rfl, rfl, rfl, rfl, rfl, rfl, rfl, trivial⟩
    refine L_yes A rfl (by decide) rfl rfl (by decide) (A.get rfl) (y_lenS (e := 57) (by kernel_rfl) (A.get (s := 36) rfl) fun ac A => ?_)
    refine L_yes A rfl (by decide) rfl rfl (by decide) (A.get rfl) (y_gtr (A.get (s := 37) rfl) rfl (c := true) (decide_eq_true (by omega)) fun ac A => ?_)
    refine L_op A rfl (by decide) rfl (y_pickF (A.get (s := 35) rfl) (A.get (s := 38) rfl) fun ac A => ?_)
    replace A := A.keep [(0, .int .i64 n), (1, .slice la ls.length lc), (2, .slice va l.length vc), (3, .slice ua b.length uc), (8, .bool false), (39, .bool true)] ⟨rfl, rfl, rfl, rfl, rfl, rfl, trivial⟩
    refine hK3 _ _ ?_
    refine wp_cond_true (A.get rfl) ?_
    refine wp_seq_k fun K4 hK4 => ?_
    refine region_seq ?_  -- region 2
    refine L_op A rfl (by decide) rfl (y_call0 (by kernel_rfl) rfl  (callN (awake_ok) fun v w Ha gG nN hf ac A => ?_))
    obtain rfl := hf
    replace S : St _ _ _ Ha := (S.new gG nN).perm (by first | exact List.Perm.refl _ | (rw [List.append_assoc]; exact List.Perm.refl _) | (simp only [List.append_assoc, List.nil_append, List.append_nil]; exact List.Perm.refl _))
    refine L_op A rfl (by decide) rfl (y_assign (A.get (s := 40) rfl) fun ac A => ?_)
    replace A := A.keep [(0, .int .i64 n), (1, .slice la ls.length lc), (2, .slice va l.length vc), (3, .slice ua b.length uc), (8, .bool true), (39, .bool true)] ⟨rfl, rfl, rfl, rfl, rfl, rfl, trivial⟩
    refine hK4 _ _ ?_
    exact wp_ret ⟨A.defers, _, res_run (rs := [.tmp 8]) (vs := [.bool true]) rfl ⟨A.get rfl, trivial⟩, ⟨_, rfl, S.kp.to_gr, _, rfl, S.newF⟩⟩
  have hplay : ∀ w, Gr w0 w → Calls Try.prog 15 #[.int .i64 n, .slice la ls.length lc, .slice va l.length vc] w (RetN w (PlayedR n ls l)) := fun w g => played_ok (hls.gr g) (by omega) hlg (hs.gr g) (by omega)
  cases hnew : newM n ls with
  | none =>
    have hplay' : ∀ w, Gr w0 w → Calls Try.prog 15 #[.int .i64 n, .slice la ls.length lc, .slice va l.length vc] w (RetN w (eqv (.tuple #[.pointer none, .map none]))) := fun w g => (hplay w g).mono (by
      rintro e w' ⟨v, rfl, g, H, hr, nf⟩
      rcases hr with ⟨_, rfl, rfl⟩ | ⟨m, _, _, _, _, _, h, _⟩
      · exact ⟨_, rfl, g, [], ⟨rfl, rfl⟩, nf⟩
      · rw [hnew] at h; simp at h)
    refine enter Try.func8 rfl (n := 153) rfl (Nat.le_of_ble_eq_true rfl) fun ac A => ?_
    have S : St _ _ _ [] := St.none w0
    refine wp_seq_k fun K1 hK1 => ?_
    refine region_seq ?_  -- region 0
    refine L_op A rfl (by decide) rfl (y_assign rfl fun ac A => ?_)
    replace A := A.keep [(0, .int .i64 n), (1, .slice la ls.length lc), (2, .slice va l.length vc), (3, .slice ua b.length uc), (8, .bool false)] ⟨rfl, rfl, rfl, rfl, rfl, trivial⟩
    refine hK1 _ _ ?_
    refine wp_seq_k fun K2 hK2 => ?_
    refine wp_seq_k fun K3 hK3 => ?_
    refine region_seq ?_  -- region 1
    refine L_op A rfl (by decide) rfl (y_move (A.get (s := 1) rfl) fun ac A => ?_)
    refine L_op A rfl (by decide) rfl (y_lenS (e := 28) (by kernel_rfl) (A.get (s := 17) rfl) fun ac A => ?_)
    refine L_op A rfl (by decide) rfl (y_gtr (A.get (s := 18) rfl) rfl (c := false) (decide_eq_false (by omega)) fun ac A => ?_)
    refine L_op A rfl (by decide) rfl (y_move (A.get (s := 19) rfl) fun ac A => ?_)
    replace A := A.keep [(0, .int .i64 n), (1, .slice la ls.length lc), (2, .slice va l.length vc), (3, .slice ua b.length uc), (8, .bool false), (20, .bool false)] ⟨rfl, rfl, rfl, rfl, rfl, rfl, trivial⟩
    refine L_yes A rfl (by decide) rfl rfl (by decide) (A.get rfl) (y_move (A.get (s := 2) rfl) fun ac A => ?_)
    refine L_yes A rfl (by decide) rfl rfl (by decide) (A.get rfl) (y_call1 (by kernel_rfl) rfl (A.get (s := 21) rfl) (callN (hfa _ S.kp.to_gr) fun v w H gG nN hf ac A => ?_))
    obtain ⟨rfl, rfl⟩ := hf
    replace S : St _ _ _ [] := S.new gG nN
    refine L_yes A rfl (by decide) rfl rfl (by decide) (A.get rfl) (y_not (A.get (s := 22) rfl) rfl fun ac A => ?_)
    refine L_op A rfl (by decide) rfl (y_pickF (A.get (s := 20) rfl) (A.get (s := 23) rfl) fun ac A => ?_)
    replace A := A.keep [(0, .int .i64 n), (1, .slice la ls.length lc), (2, .slice va l.length vc), (3, .slice ua b.length uc), (8, .bool false), (24, .bool false)] ⟨rfl, rfl, rfl, rfl, rfl, rfl, trivial⟩
    refine L_op A rfl (by decide) rfl (y_move (A.get (s := 24) rfl) fun ac A => ?_)
    refine L_yes A rfl (by decide) rfl rfl (by decide) (A.get rfl) (y_move (A.get (s := 3) rfl) fun ac A => ?_)
    refine L_yes A rfl (by decide) rfl rfl (by decide) (A.get rfl) (y_call1 (by kernel_rfl) rfl (A.get (s := 26) rfl) (callN (hfb _ S.kp.to_gr) fun v w H gG nN hf ac A => ?_))
    obtain ⟨rfl, rfl⟩ := hf
    replace S : St _ _ _ [] := S.new gG nN
    refine L_yes A rfl (by decide) rfl rfl (by decide) (A.get rfl) (y_not (A.get (s := 27) rfl) rfl fun ac A => ?_)
    replace A := A.keep [(0, .int .i64 n), (1, .slice la ls.length lc), (2, .slice va l.length vc), (3, .slice ua b.length uc), (8, .bool false), (25, .bool false), (28, .bool false)] ⟨rfl, rfl, rfl, rfl, rfl, rfl, rfl, trivial⟩
    refine L_op A rfl (by decide) rfl (y_pickF (A.get (s := 25) rfl) (A.get (s := 28) rfl) fun ac A => ?_)
    refine L_op A rfl (by decide) rfl (y_move (A.get (s := 29) rfl) fun ac A => ?_)
    refine L_yes A rfl (by decide) rfl rfl (by decide) (A.get rfl) (y_move (A.get (s := 2) rfl) fun ac A => ?_)
    refine L_yes A rfl (by decide) rfl rfl (by decide) (A.get rfl) (y_lenS (e := 57) (by kernel_rfl) (A.get (s := 31) rfl) fun ac A => ?_)
    replace A := A.keep [(0, .int .i64 n), (1, .slice la ls.length lc), (2, .slice va l.length vc), (3, .slice ua b.length uc), (8, .bool false), (30, .bool false), (32, .int .i64 l.length)] ⟨rfl, rfl, rfl, rfl, rfl, rfl, rfl, trivial⟩
    refine L_yes A rfl (by decide) rfl rfl (by decide) (A.get rfl) (y_gtr (A.get (s := 32) rfl) rfl (c := false) (decide_eq_false (by omega)) fun ac A => ?_)
    refine L_op A rfl (by decide) rfl (y_pickF (A.get (s := 30) rfl) (A.get (s := 33) rfl) fun ac A => ?_)
    refine L_op A rfl (by decide) rfl (y_move (A.get (s := 34) rfl) fun ac A => ?_)
    refine L_yes A rfl (by decide) rfl rfl (by decide) (A.get rfl) (y_move (A.get (s := 3) rfl) fun ac A => ?_)
    replace A := A.keep [(0, .int .i64 n), (1, .slice la ls.length lc), (2, .slice va l.length vc), (3, .slice ua b.length uc), (8, .bool false), (35, .bool false), (36, .slice ua b.length uc)] ⟨rfl, rfl, rfl, rfl, rfl, rfl, rfl, trivial⟩
    refine L_yes A rfl (by decide) rfl rfl (by decide) (A.get rfl) (y_lenS (e := 57) (by kernel_rfl) (A.get (s := 36) rfl) fun ac A => ?_)
    refine L_yes A rfl (by decide) rfl rfl (by decide) (A.get rfl) (y_gtr (A.get (s := 37) rfl) rfl (c := false) (decide_eq_false (by omega)) fun ac A => ?_)
    refine L_op A rfl (by decide) rfl (y_pickF (A.get (s := 35) rfl) (A.get (s := 38) rfl) fun ac A => ?_)
    replace A := A.keep [(0, .int .i64 n), (1, .slice la ls.length lc), (2, .slice va l.length vc), (3, .slice ua b.length uc), (8, .bool false), (39, .bool false)] ⟨rfl, rfl, rfl, rfl, rfl, rfl, trivial⟩
    refine hK3 _ _ ?_
    refine wp_cond_false (A.get rfl) ?_
    refine wp_skip ?_
    refine hK2 _ _ ?_
    refine wp_seq_k fun K4 hK4 => ?_
    refine region_seq ?_  -- region 3
    refine L_op A rfl (by decide) rfl (y_move (A.get (s := 0) rfl) fun ac A => ?_)
    refine L_op A rfl (by decide) rfl (y_move (A.get (s := 1) rfl) fun ac A => ?_)
    refine L_op A rfl (by decide) rfl (y_move (A.get (s := 2) rfl) fun ac A => ?_)
    refine L_op A rfl (by decide) rfl (y_call3 (by kernel_rfl) rfl (A.get (s := 42) rfl) (A.get (s := 43) rfl) (A.get (s := 44) rfl) (callN (hplay' _ S.kp.to_gr) fun v w H gG nN hf ac A => ?_))
    obtain ⟨rfl, rfl⟩ := hf
    replace S : St _ _ _ [] := S.new gG nN
    replace A := A.keep [(0, .int .i64 n), (1, .slice la ls.length lc), (2, .slice va l.length vc), (3, .slice ua b.length uc), (8, .bool false), (39, .bool false), (45, .tuple #[.pointer none, .map none])] ⟨rfl, rfl, rfl, rfl, rfl, rfl, rfl, trivial⟩
    refine L_op A rfl (by decide) rfl (y_move (A.get (s := 45) rfl) fun ac A => ?_)
    refine L_op A rfl (by decide) rfl (y_extract (A.get (s := 41) rfl) rfl fun ac A => ?_)
    refine L_op A rfl (by decide) rfl (y_extract (A.get (s := 41) rfl) rfl fun ac A => ?_)
    refine L_op A rfl (by decide) rfl (y_assign (A.get (s := 46) rfl) fun ac A => ?_)
    replace A := A.keep [(0, .int .i64 n), (1, .slice la ls.length lc), (2, .slice va l.length vc), (3, .slice ua b.length uc), (8, .bool false), (9, .pointer none), (39, .bool false), (47, .map none)] ⟨rfl, rfl, rfl, rfl, rfl, rfl, rfl, rfl, trivial⟩
    refine L_op A rfl (by decide) rfl (y_assign (A.get (s := 47) rfl) fun ac A => ?_)
    replace A := A.keep [(0, .int .i64 n), (1, .slice la ls.length lc), (2, .slice va l.length vc), (3, .slice ua b.length uc), (8, .bool false), (9, .pointer none), (39, .bool false)] ⟨rfl, rfl, rfl, rfl, rfl, rfl, rfl, trivial⟩
    refine hK4 _ _ ?_
    refine wp_seq_k fun K5 hK5 => ?_
    refine wp_seq_k fun K6 hK6 => ?_
    refine region_seq ?_  -- region 4
    refine L_op A rfl (by decide) rfl (y_move (A.get (s := 9) rfl) fun ac A => ?_)
    refine L_op A rfl (by decide) rfl (y_ptrNil (c := true) (by kernel_rfl) (A.get (s := 48) rfl) rfl rfl fun ac A => ?_)
    replace A := A.keep [(0, .int .i64 n), (1, .slice la ls.length lc), (2, .slice va l.length vc), (3, .slice ua b.length uc), (8, .bool false), (9, .pointer none), (39, .bool false), (49, .bool true)] ⟨rfl, rfl, rfl, rfl, rfl, rfl, rfl, rfl, trivial⟩
    refine hK6 _ _ ?_
    refine wp_cond_true (A.get rfl) ?_
    refine wp_seq_k fun K7 hK7 => ?_
    refine region_seq ?_  -- region 5
    refine L_op A rfl (by decide) rfl (y_call0 (by kernel_rfl) rfl  (callN (awake_ok) fun v w Ha gG nN hf ac A => ?_))
    obtain rfl := hf
    replace S : St _ _ _ Ha := (S.new gG nN).perm (by first | exact List.Perm.refl _ | (rw [List.append_assoc]; exact List.Perm.refl _) | (simp only [List.append_assoc, List.nil_append, List.append_nil]; exact List.Perm.refl _))
    refine L_op A rfl (by decide) rfl (y_assign (A.get (s := 50) rfl) fun ac A => ?_)
    replace A := A.keep [(0, .int .i64 n), (1, .slice la ls.length lc), (2, .slice va l.length vc), (3, .slice ua b.length uc), (8, .bool true), (9, .pointer none), (39, .bool false), (49, .bool true)] ⟨rfl, rfl, rfl, rfl, rfl, rfl, rfl, rfl, trivial⟩
    refine hK7 _ _ ?_
    exact wp_ret ⟨A.defers, _, res_run (rs := [.tmp 8]) (vs := [.bool true]) rfl ⟨A.get rfl, trivial⟩, ⟨_, rfl, S.kp.to_gr, _, rfl, S.newF⟩⟩
  | some m0 =>
    have hord : ∀ k ∈ (play m0 l).1.order, i64 k.1 ∧ i64 k.2 := by
      have : ∀ (l : List Ac) (s : M × Sent), (l.foldl playStep s).1.order = s.1.order := by
        intro l; induction l with
        | nil => intro s; rfl
        | cons x r ih => intro s; rw [List.foldl_cons, ih, playStep_order]
      show ∀ k ∈ (l.foldl playStep (m0, fun _ => [])).1.order, _
      rw [this]; exact newM_i64 hnew
    have hol : (play m0 l).1.order.length ≤ 300 := by
      have : ∀ (l : List Ac) (s : M × Sent), (l.foldl playStep s).1.order = s.1.order := by
        intro l; induction l with
        | nil => intro s; rfl
        | cons x r ih => intro s; rw [List.foldl_cons, ih, playStep_order]
      show (l.foldl playStep (m0, fun _ => [])).1.order.length ≤ 300
      rw [this]; show m0.order.length ≤ 300; have := (newM_ok hnew).2.2.2.1; omega
    generalize hpl : (play m0 l).1 = m at hord hol
    have hplay' : ∀ w, Gr w0 w → Calls Try.prog 15 #[.int .i64 n, .slice la ls.length lc, .slice va l.length vc] w (RetN w (fun r H => ∃ p q Hn Hq, r = .tuple #[.pointer (some ⟨p, 0, none⟩), .map (some q)] ∧ NetRep p m Hn ∧ H = Hn ++ Hq)) := fun w g => (hplay w g).mono (by
      rintro e w' ⟨v, rfl, g, H, hr, nf⟩
      rcases hr with ⟨h, _⟩ | ⟨m, p, q, Hn, oq, es, h, rfl, h2, h3, rfl⟩
      · rw [hnew] at h; simp at h
      · rw [hnew] at h; cases h
        rw [hpl] at h2
        exact ⟨_, rfl, g, _, ⟨p, q, Hn, _, rfl, h2, rfl⟩, nf⟩)
    have hmn0 : m.nodes ≤ 10 := by
      have : ∀ (l : List Ac) (s : M × Sent), (l.foldl playStep s).1.nodes = s.1.nodes := by
        intro l; induction l with
        | nil => intro s; rfl
        | cons x r ih => intro s; rw [List.foldl_cons, ih, playStep_nodes]
      rw [← hpl]; show (l.foldl playStep (m0, fun _ => [])).1.nodes ≤ 10
      rw [this]; show m0.nodes ≤ 10; have := newM_ok hnew; omega
    refine enter Try.func8 rfl (n := 153) rfl (Nat.le_of_ble_eq_true rfl) fun ac A => ?_
    have S : St _ _ _ [] := St.none w0
    refine wp_seq_k fun K1 hK1 => ?_
    refine region_seq ?_  -- region 0
    refine L_op A rfl (by decide) rfl (y_assign rfl fun ac A => ?_)
    replace A := A.keep [(0, .int .i64 n), (1, .slice la ls.length lc), (2, .slice va l.length vc), (3, .slice ua b.length uc), (8, .bool false)] ⟨rfl, rfl, rfl, rfl, rfl, trivial⟩
    refine hK1 _ _ ?_
    refine wp_seq_k fun K2 hK2 => ?_
    refine wp_seq_k fun K3 hK3 => ?_
    refine region_seq ?_  -- region 1
    refine L_op A rfl (by decide) rfl (y_move (A.get (s := 1) rfl) fun ac A => ?_)
    refine L_op A rfl (by decide) rfl (y_lenS (e := 28) (by kernel_rfl) (A.get (s := 17) rfl) fun ac A => ?_)
    refine L_op A rfl (by decide) rfl (y_gtr (A.get (s := 18) rfl) rfl (c := false) (decide_eq_false (by omega)) fun ac A => ?_)
    refine L_op A rfl (by decide) rfl (y_move (A.get (s := 19) rfl) fun ac A => ?_)
    replace A := A.keep [(0, .int .i64 n), (1, .slice la ls.length lc), (2, .slice va l.length vc), (3, .slice ua b.length uc), (8, .bool false), (20, .bool false)] ⟨rfl, rfl, rfl, rfl, rfl, rfl, trivial⟩
    refine L_yes A rfl (by decide) rfl rfl (by decide) (A.get rfl) (y_move (A.get (s := 2) rfl) fun ac A => ?_)
    refine L_yes A rfl (by decide) rfl rfl (by decide) (A.get rfl) (y_call1 (by kernel_rfl) rfl (A.get (s := 21) rfl) (callN (hfa _ S.kp.to_gr) fun v w H gG nN hf ac A => ?_))
    obtain ⟨rfl, rfl⟩ := hf
    replace S : St _ _ _ [] := S.new gG nN
    refine L_yes A rfl (by decide) rfl rfl (by decide) (A.get rfl) (y_not (A.get (s := 22) rfl) rfl fun ac A => ?_)
    refine L_op A rfl (by decide) rfl (y_pickF (A.get (s := 20) rfl) (A.get (s := 23) rfl) fun ac A => ?_)
    replace A := A.keep [(0, .int .i64 n), (1, .slice la ls.length lc), (2, .slice va l.length vc), (3, .slice ua b.length uc), (8, .bool false), (24, .bool false)] ⟨rfl, rfl, rfl, rfl, rfl, rfl, trivial⟩
    refine L_op A rfl (by decide) rfl (y_move (A.get (s := 24) rfl) fun ac A => ?_)
    refine L_yes A rfl (by decide) rfl rfl (by decide) (A.get rfl) (y_move (A.get (s := 3) rfl) fun ac A => ?_)
    refine L_yes A rfl (by decide) rfl rfl (by decide) (A.get rfl) (y_call1 (by kernel_rfl) rfl (A.get (s := 26) rfl) (callN (hfb _ S.kp.to_gr) fun v w H gG nN hf ac A => ?_))
    obtain ⟨rfl, rfl⟩ := hf
    replace S : St _ _ _ [] := S.new gG nN
    refine L_yes A rfl (by decide) rfl rfl (by decide) (A.get rfl) (y_not (A.get (s := 27) rfl) rfl fun ac A => ?_)
    replace A := A.keep [(0, .int .i64 n), (1, .slice la ls.length lc), (2, .slice va l.length vc), (3, .slice ua b.length uc), (8, .bool false), (25, .bool false), (28, .bool false)] ⟨rfl, rfl, rfl, rfl, rfl, rfl, rfl, trivial⟩
    refine L_op A rfl (by decide) rfl (y_pickF (A.get (s := 25) rfl) (A.get (s := 28) rfl) fun ac A => ?_)
    refine L_op A rfl (by decide) rfl (y_move (A.get (s := 29) rfl) fun ac A => ?_)
    refine L_yes A rfl (by decide) rfl rfl (by decide) (A.get rfl) (y_move (A.get (s := 2) rfl) fun ac A => ?_)
    refine L_yes A rfl (by decide) rfl rfl (by decide) (A.get rfl) (y_lenS (e := 57) (by kernel_rfl) (A.get (s := 31) rfl) fun ac A => ?_)
    replace A := A.keep [(0, .int .i64 n), (1, .slice la ls.length lc), (2, .slice va l.length vc), (3, .slice ua b.length uc), (8, .bool false), (30, .bool false), (32, .int .i64 l.length)] ⟨rfl, rfl, rfl, rfl, rfl, rfl, rfl, trivial⟩
    refine L_yes A rfl (by decide) rfl rfl (by decide) (A.get rfl) (y_gtr (A.get (s := 32) rfl) rfl (c := false) (decide_eq_false (by omega)) fun ac A => ?_)
    refine L_op A rfl (by decide) rfl (y_pickF (A.get (s := 30) rfl) (A.get (s := 33) rfl) fun ac A => ?_)
    refine L_op A rfl (by decide) rfl (y_move (A.get (s := 34) rfl) fun ac A => ?_)
    refine L_yes A rfl (by decide) rfl rfl (by decide) (A.get rfl) (y_move (A.get (s := 3) rfl) fun ac A => ?_)
    replace A := A.keep [(0, .int .i64 n), (1, .slice la ls.length lc), (2, .slice va l.length vc), (3, .slice ua b.length uc), (8, .bool false), (35, .bool false), (36, .slice ua b.length uc)] ⟨rfl, rfl, rfl, rfl, rfl, rfl, rfl, trivial⟩
    refine L_yes A rfl (by decide) rfl rfl (by decide) (A.get rfl) (y_lenS (e := 57) (by kernel_rfl) (A.get (s := 36) rfl) fun ac A => ?_)
    refine L_yes A rfl (by decide) rfl rfl (by decide) (A.get rfl) (y_gtr (A.get (s := 37) rfl) rfl (c := false) (decide_eq_false (by omega)) fun ac A => ?_)
    refine L_op A rfl (by decide) rfl (y_pickF (A.get (s := 35) rfl) (A.get (s := 38) rfl) fun ac A => ?_)
    replace A := A.keep [(0, .int .i64 n), (1, .slice la ls.length lc), (2, .slice va l.length vc), (3, .slice ua b.length uc), (8, .bool false), (39, .bool false)] ⟨rfl, rfl, rfl, rfl, rfl, rfl, trivial⟩
    refine hK3 _ _ ?_
    refine wp_cond_false (A.get rfl) ?_
    refine wp_skip ?_
    refine hK2 _ _ ?_
    refine wp_seq_k fun K4 hK4 => ?_
    refine region_seq ?_  -- region 3
    refine L_op A rfl (by decide) rfl (y_move (A.get (s := 0) rfl) fun ac A => ?_)
    refine L_op A rfl (by decide) rfl (y_move (A.get (s := 1) rfl) fun ac A => ?_)
    refine L_op A rfl (by decide) rfl (y_move (A.get (s := 2) rfl) fun ac A => ?_)
    refine L_op A rfl (by decide) rfl (y_call3 (by kernel_rfl) rfl (A.get (s := 42) rfl) (A.get (s := 43) rfl) (A.get (s := 44) rfl) (callN (hplay' _ S.kp.to_gr) fun vp w Hp gG nN hf ac A => ?_))
    obtain ⟨p, q, Hn, Hq, rfl, hN, rfl⟩ := hf
    replace S := S.new gG nN
    replace S : St _ _ _ Hn := St.app_left (K := Hq) (S.perm (by rw [List.append_nil]))
    replace A := A.keep [(0, .int .i64 n), (1, .slice la ls.length lc), (2, .slice va l.length vc), (3, .slice ua b.length uc), (8, .bool false), (39, .bool false), (45, .tuple #[.pointer (some ⟨p, 0, none⟩), .map (some q)])] ⟨rfl, rfl, rfl, rfl, rfl, rfl, rfl, trivial⟩
    refine L_op A rfl (by decide) rfl (y_move (A.get (s := 45) rfl) fun ac A => ?_)
    refine L_op A rfl (by decide) rfl (y_extract (A.get (s := 41) rfl) rfl fun ac A => ?_)
    refine L_op A rfl (by decide) rfl (y_extract (A.get (s := 41) rfl) rfl fun ac A => ?_)
    refine L_op A rfl (by decide) rfl (y_assign (A.get (s := 46) rfl) fun ac A => ?_)
    replace A := A.keep [(0, .int .i64 n), (1, .slice la ls.length lc), (2, .slice va l.length vc), (3, .slice ua b.length uc), (8, .bool false), (9, .pointer (some ⟨p, 0, none⟩)), (39, .bool false), (47, .map (some q))] ⟨rfl, rfl, rfl, rfl, rfl, rfl, rfl, rfl, trivial⟩
    refine L_op A rfl (by decide) rfl (y_assign (A.get (s := 47) rfl) fun ac A => ?_)
    replace A := A.keep [(0, .int .i64 n), (1, .slice la ls.length lc), (2, .slice va l.length vc), (3, .slice ua b.length uc), (8, .bool false), (9, .pointer (some ⟨p, 0, none⟩)), (39, .bool false)] ⟨rfl, rfl, rfl, rfl, rfl, rfl, rfl, trivial⟩
    refine hK4 _ _ ?_
    refine wp_seq_k fun K5 hK5 => ?_
    refine wp_seq_k fun K6 hK6 => ?_
    refine region_seq ?_  -- region 4
    refine L_op A rfl (by decide) rfl (y_move (A.get (s := 9) rfl) fun ac A => ?_)
    refine L_op A rfl (by decide) rfl (y_ptrNil (c := false) (by kernel_rfl) (A.get (s := 48) rfl) rfl rfl fun ac A => ?_)
    replace A := A.keep [(0, .int .i64 n), (1, .slice la ls.length lc), (2, .slice va l.length vc), (3, .slice ua b.length uc), (8, .bool false), (9, .pointer (some ⟨p, 0, none⟩)), (39, .bool false), (49, .bool false)] ⟨rfl, rfl, rfl, rfl, rfl, rfl, rfl, rfl, trivial⟩
    refine hK6 _ _ ?_
    refine wp_cond_false (A.get rfl) ?_
    refine wp_skip ?_
    refine hK5 _ _ ?_
    refine wp_seq_k fun K7 hK7 => ?_
    refine region_seq ?_  -- region 6
    refine L_op A rfl (by decide) rfl (y_move (A.get (s := 9) rfl) fun ac A => ?_)
    replace S : St _ _ _ Hn := S.perm (List.Perm.refl _)
    replace S : St _ _ _ (Hn ++ []) := S.perm (by rw [List.append_nil])
    refine L_op A rfl (by decide) rfl (y_call1 (by kernel_rfl) rfl (A.get (s := 51) rfl) (callW (all_ok hN S.app_left.nd S.app_left.holds hord hol) fun b0v w Hx s hf ac A => ?_))
    replace S : St _ _ _ (Hx ++ []) := St.call (H := Hn) (R := []) S rfl s
    obtain ⟨Hn1, b0O, hN, b0R, b0L, rfl⟩ := hf
    rw [List.append_nil] at S
    replace S : St _ _ _ (Hn1 ++ b0O) := S.perm (by classical rw [List.perm_iff_count]; intro x; simp only [List.count_append] <;> omega)
    obtain ⟨b0a, b0c, rfl⟩ := b0R.len
    refine L_op A rfl (by decide) rfl (y_move (A.get (s := 9) rfl) fun ac A => ?_)
    refine L_op A rfl (by decide) rfl (y_call1 (by kernel_rfl) rfl (A.get (s := 53) rfl) (callN (copy_ok hN (St.app_left (H := Hn1) (K := b0O) (S.perm (by classical rw [List.perm_iff_count]; intro x; simp only [List.count_append] <;> omega))).holds) fun v w Hc gG nN hf ac A => ?_))
    obtain ⟨p2, rfl, hC⟩ := hf
    replace S : St _ _ _ (Hc ++ (Hn1 ++ b0O)) := (S.new gG nN).perm (by first | exact List.Perm.refl _ | (rw [List.append_assoc]; exact List.Perm.refl _) | (simp only [List.append_assoc, List.nil_append, List.append_nil]; exact List.Perm.refl _))
    refine L_op A rfl (by decide) rfl (y_assign (A.get (s := 52) rfl) fun ac A => ?_)
    refine L_op A rfl (by decide) rfl (y_assign (A.get (s := 54) rfl) fun ac A => ?_)
    replace A := A.keep [(0, .int .i64 n), (1, .slice la ls.length lc), (2, .slice va l.length vc), (3, .slice ua b.length uc), (8, .bool false), (9, .pointer (some ⟨p, 0, none⟩)), (11, .slice b0a (allF m).length b0c), (12, .pointer (some ⟨p2, 0, none⟩)), (39, .bool false), (49, .bool false)] ⟨rfl, rfl, rfl, rfl, rfl, rfl, rfl, rfl, rfl, rfl, trivial⟩
    refine hK7 _ _ ?_
    refine wp_seq_k fun K8 hK8 => ?_
    refine wp_seq_k fun K9 hK9 => ?_
    refine region_seq ?_  -- region 7
    refine L_op A rfl (by decide) rfl (y_move (A.get (s := 12) rfl) fun ac A => ?_)
    refine L_op A rfl (by decide) rfl (y_ptrNil (c := false) (by kernel_rfl) (A.get (s := 55) rfl) rfl rfl fun ac A => ?_)
    refine L_op A rfl (by decide) rfl (y_move (A.get (s := 56) rfl) fun ac A => ?_)
    refine L_yes A rfl (by decide) rfl rfl (by decide) (A.get rfl) (y_move (A.get (s := 12) rfl) fun ac A => ?_)
    replace A := A.keep [(0, .int .i64 n), (1, .slice la ls.length lc), (2, .slice va l.length vc), (3, .slice ua b.length uc), (8, .bool false), (9, .pointer (some ⟨p, 0, none⟩)), (11, .slice b0a (allF m).length b0c), (12, .pointer (some ⟨p2, 0, none⟩)), (39, .bool false), (49, .bool false), (57, .bool false), (58, .pointer (some ⟨p2, 0, none⟩))] ⟨rfl, rfl, rfl, rfl, rfl, rfl, rfl, rfl, rfl, rfl, rfl, rfl, trivial⟩
    replace S : St _ _ _ (Hc ++ (Hn1 ++ b0O)) := S.perm (by classical rw [List.perm_iff_count]; intro x; simp only [List.count_append] <;> omega)
    refine L_yes A rfl (by decide) rfl rfl (by decide) (A.get rfl) (y_call1 (by kernel_rfl) rfl (A.get (s := 58) rfl) (callW (all_ok hC S.app_left.nd S.app_left.holds hord hol) fun c0v w Hx s hf ac A => ?_))
    replace S : St _ _ _ (Hx ++ (Hn1 ++ b0O)) := St.call (H := Hc) (R := (Hn1 ++ b0O)) S rfl s
    obtain ⟨Hc2, c0O, hC, c0R, c0L, rfl⟩ := hf
    replace S : St _ _ _ ((Hc2 ++ c0O) ++ (Hn1 ++ b0O)) := S
    replace S : St _ _ _ (Hc2 ++ (c0O ++ (Hn1 ++ b0O))) := S.perm (by classical rw [List.perm_iff_count]; intro x; simp only [List.count_append] <;> omega)
    replace S : St _ _ _ (Hc2 ++ (c0O ++ (Hn1 ++ b0O))) := S.perm (by classical rw [List.perm_iff_count]; intro x; simp only [List.count_append] <;> omega)
    obtain ⟨c0a, c0c, rfl⟩ := c0R.len
    refine L_yes A rfl (by decide) rfl rfl (by decide) (A.get rfl) (y_move (A.get (s := 11) rfl) fun ac A => ?_)
    refine L_yes A rfl (by decide) rfl rfl (by decide) (A.get rfl) (y_call2 (by kernel_rfl) rfl (A.get (s := 59) rfl) (A.get (s := 60) rfl) (callN (same_self c0R b0R (St.app_left (H := c0O) (K := (Hc2 ++ (Hn1 ++ b0O))) (S.perm (by classical rw [List.perm_iff_count]; intro x; simp only [List.count_append] <;> omega))).holds (St.app_left (H := b0O) (K := (Hc2 ++ (c0O ++ Hn1))) (S.perm (by classical rw [List.perm_iff_count]; intro x; simp only [List.count_append] <;> omega))).holds c0L) fun v w H gG nN hf ac A => ?_))
    obtain ⟨rfl, rfl⟩ := hf
    replace S : St _ _ _ (Hc2 ++ (c0O ++ (Hn1 ++ b0O))) := (S.new gG nN).perm (by first | exact List.Perm.refl _ | (rw [List.append_assoc]; exact List.Perm.refl _) | (simp only [List.append_assoc, List.nil_append, List.append_nil]; exact List.Perm.refl _))
    refine L_yes A rfl (by decide) rfl rfl (by decide) (A.get rfl) (y_not (A.get (s := 61) rfl) rfl fun ac A => ?_)
    replace A := A.keep [(0, .int .i64 n), (1, .slice la ls.length lc), (2, .slice va l.length vc), (3, .slice ua b.length uc), (8, .bool false), (9, .pointer (some ⟨p, 0, none⟩)), (11, .slice b0a (allF m).length b0c), (12, .pointer (some ⟨p2, 0, none⟩)), (39, .bool false), (49, .bool false), (57, .bool false), (62, .bool false)] ⟨rfl, rfl, rfl, rfl, rfl, rfl, rfl, rfl, rfl, rfl, rfl, rfl, trivial⟩
    refine L_op A rfl (by decide) rfl (y_pickF (A.get (s := 57) rfl) (A.get (s := 62) rfl) fun ac A => ?_)
    replace A := A.keep [(0, .int .i64 n), (1, .slice la ls.length lc), (2, .slice va l.length vc), (3, .slice ua b.length uc), (8, .bool false), (9, .pointer (some ⟨p, 0, none⟩)), (11, .slice b0a (allF m).length b0c), (12, .pointer (some ⟨p2, 0, none⟩)), (39, .bool false), (49, .bool false), (63, .bool false)] ⟨rfl, rfl, rfl, rfl, rfl, rfl, rfl, rfl, rfl, rfl, rfl, trivial⟩
    refine hK9 _ _ ?_
    refine wp_cond_false (A.get rfl) ?_
    refine wp_skip ?_
    refine hK8 _ _ ?_
    refine wp_seq_k fun K10 hK10 => ?_
    refine wp_seq_k fun K11 hK11 => ?_
    refine region_seq ?_  -- region 9
    refine L_op A rfl (by decide) rfl (y_assign rfl fun ac A => ?_)
    replace A := A.keep [(0, .int .i64 n), (1, .slice la ls.length lc), (2, .slice va l.length vc), (3, .slice ua b.length uc), (8, .bool false), (9, .pointer (some ⟨p, 0, none⟩)), (11, .slice b0a (allF m).length b0c), (12, .pointer (some ⟨p2, 0, none⟩)), (13, .int .i64 0), (39, .bool false), (49, .bool false), (63, .bool false)] ⟨rfl, rfl, rfl, rfl, rfl, rfl, rfl, rfl, rfl, rfl, rfl, rfl, trivial⟩
    refine hK11 _ _ ?_
    refine wp_block ?_
    replace A := A.keep [(3, .slice ua b.length uc), (9, .pointer (some ⟨p, 0, none⟩)), (11, .slice b0a (allF m).length b0c), (12, .pointer (some ⟨p2, 0, none⟩)), (13, .int .i64 0)] ⟨rfl, rfl, rfl, rfl, rfl, trivial⟩
    replace S : St _ _ _ (Hn1 ++ (b0O ++ Hc2)) := St.app_left (K := c0O) (S.perm (by classical rw [List.perm_iff_count]; intro x; simp only [List.count_append] <;> omega))
    refine wp_loop_ghost (fun kk ac w' => ∃ (i : Nat) (mc : M) (Hc : Frag), kk + i = b.length ∧ mc.order = m.order ∧ Sl 153 ac [(3, .slice ua b.length uc), (9, .pointer (some ⟨p, 0, none⟩)), (11, .slice b0a (allF m).length b0c), (12, .pointer (some ⟨p2, 0, none⟩)), (13, .int .i64 ((i : Nat) : Int))] ∧ St [] w0 w' (Hn1 ++ (b0O ++ Hc)) ∧ NetRep p2 mc Hc) b.length ⟨0, m, Hc2, by simp, rfl, A, S, hC⟩ ?_
    clear A S hC
    rintro kk ac w2 ⟨i, mc, Hc, hkk, hmo, A, S, hC⟩
    rcases Nat.lt_or_ge i b.length with hi | hi
    · obtain ⟨x, hli⟩ : ∃ x, b[i]? = some x := ⟨_, List.getElem?_eq_getElem hi⟩
      obtain ⟨ua, uc, ba, bc, hva, hcell, hbs, hok⟩ := hbh.at hli
      obtain ⟨okd, okf, okt, oki, okb, hbl⟩ := hok
      simp only [Value.slice.injEq] at hva; obtain ⟨rfl, -, rfl⟩ := hva
      by_cases e3 : x.d = 3
      · skip
        refine wp_seq_k fun K12 hK12 => ?_
        refine wp_seq_k fun K13 hK13 => ?_
        refine region_seq ?_  -- region 10
        refine L_op A rfl (by decide) rfl (y_move (A.get (s := 13) rfl) fun ac A => ?_)
        refine L_op A rfl (by decide) rfl (y_move (A.get (s := 3) rfl) fun ac A => ?_)
        refine L_op A rfl (by decide) rfl (y_lenS (e := 57) (by kernel_rfl) (A.get (s := 65) rfl) fun ac A => ?_)
        refine L_op A rfl (by decide) rfl (y_lss (A.get (s := 64) rfl) (A.get (s := 66) rfl) (c := true) (decide_eq_true (by omega)) fun ac A => ?_)
        replace A := A.keep [(3, .slice (some ua) b.length uc), (9, .pointer (some ⟨p, 0, none⟩)), (11, .slice b0a (allF m).length b0c), (12, .pointer (some ⟨p2, 0, none⟩)), (13, .int .i64 (((i : Nat) : Int))), (67, .bool true)] ⟨rfl, rfl, rfl, rfl, rfl, rfl, trivial⟩
        refine hK13 _ _ ?_
        refine wp_cond_true (A.get rfl) ?_
        refine wp_skip ?_
        refine hK12 _ _ ?_
        refine wp_seq_k fun K14 hK14 => ?_
        refine wp_block ?_
        refine wp_seq_k fun K15 hK15 => ?_
        refine region_seq ?_  -- region 12
        refine L_op A rfl (by decide) rfl (y_move (A.get (s := 3) rfl) fun ac A => ?_)
        refine L_op A rfl (by decide) rfl (y_move (A.get (s := 13) rfl) fun ac A => ?_)
        refine L_op A rfl (by decide) rfl (y_indexA (e := 57) (size := 6) (by kernel_rfl) (by kernel_rfl) (A.get (s := 70) rfl) (A.get (s := 71) rfl) (by omega) (by omega) fun ac A => ?_)
        refine L_op A rfl (by decide) rfl (y_loadAgg (acCells x (.slice ba x.bs.length bc)) (by kernel_rfl) (A.get (s := 72) rfl) (fun j hj => S.kp.to_gr.cell' (hcell j hj)) fun ac A => ?_)
        refine L_op A rfl (by decide) rfl (y_allocN (z := .agg #[.int .i64 0, .int .i64 0, .int .i64 0, .int .i64 0, .int .i64 0, .slice none 0 0]) (by kernel_rfl) fun b1 w gG nN ac A => ?_)
        replace S : St _ _ _ ([(b1, .cells #[.int .i64 0, .int .i64 0, .int .i64 0, .int .i64 0, .int .i64 0, .slice none 0 0] 57 (0, 0))] ++ (Hn1 ++ (b0O ++ Hc))) := (S.new gG nN).perm (by first | exact List.Perm.refl _ | (rw [List.append_assoc]; exact List.Perm.refl _) | (simp only [List.append_assoc, List.nil_append, List.append_nil]; exact List.Perm.refl _))
        refine L_opN A rfl rfl (y_store 6 (by kernel_rfl) (A.get (s := 14) rfl) (A.get (s := 73) rfl) (S.get 0 rfl) rfl (Nat.le_of_ble_eq_true rfl) (one_all rfl) ?_)
        replace S : St _ _ _ ([(b1, .cells #[.int .i64 x.d, .int .i64 x.f, .int .i64 x.t, .int .i64 x.i, .int .i64 x.b, .slice ba x.bs.length bc] 57 (0, 0))] ++ (Hn1 ++ (b0O ++ Hc))) := S.setAt 0 rfl _
        replace A := A.keep [(3, .slice (some ua) b.length uc), (9, .pointer (some ⟨p, 0, none⟩)), (11, .slice b0a (allF m).length b0c), (12, .pointer (some ⟨p2, 0, none⟩)), (13, .int .i64 (((i : Nat) : Int))), (14, .pointer (some ⟨b1, 0, none⟩)), (67, .bool true)] ⟨rfl, rfl, rfl, rfl, rfl, rfl, rfl, trivial⟩
        refine hK15 _ _ ?_
        refine wp_seq_k fun K16 hK16 => ?_
        refine region_seq ?_  -- region 13
        refine L_op A rfl (by decide) rfl (y_move (A.get (s := 12) rfl) fun ac A => ?_)
        refine L_op A rfl (by decide) rfl (y_fieldAddr (off := 1) (j := 1) (by kernel_rfl) (A.get (s := 14) rfl) (by first | rfl | omega) fun ac A => ?_)
        refine L_op A rfl (by decide) rfl (y_load (by kernel_rfl) (A.get (s := 75) rfl) ((cell_of (S.get 0 rfl) _).trans rfl) fun ac A => ?_)
        refine L_op A rfl (by decide) rfl (y_fieldAddr (off := 2) (j := 2) (by kernel_rfl) (A.get (s := 14) rfl) (by first | rfl | omega) fun ac A => ?_)
        replace A := A.keep [(3, .slice (some ua) b.length uc), (9, .pointer (some ⟨p, 0, none⟩)), (11, .slice b0a (allF m).length b0c), (12, .pointer (some ⟨p2, 0, none⟩)), (13, .int .i64 (((i : Nat) : Int))), (14, .pointer (some ⟨b1, 0, none⟩)), (67, .bool true), (74, .pointer (some ⟨p2, 0, none⟩)), (76, .int .i64 x.f), (77, .pointer (some ⟨b1, 2, none⟩))] ⟨rfl, rfl, rfl, rfl, rfl, rfl, rfl, rfl, rfl, rfl, trivial⟩
        refine L_op A rfl (by decide) rfl (y_load (by kernel_rfl) (A.get (s := 77) rfl) ((cell_of (S.get 0 rfl) _).trans rfl) fun ac A => ?_)
        refine L_op A rfl (by decide) rfl (y_fieldAddr (off := 5) (j := 5) (by kernel_rfl) (A.get (s := 14) rfl) (by first | rfl | omega) fun ac A => ?_)
        refine L_op A rfl (by decide) rfl (y_load (by kernel_rfl) (A.get (s := 79) rfl) ((cell_of (S.get 0 rfl) _).trans rfl) fun ac A => ?_)
        replace S : St _ _ _ (Hc ++ ([(b1, .cells #[.int .i64 x.d, .int .i64 x.f, .int .i64 x.t, .int .i64 x.i, .int .i64 x.b, .slice ba x.bs.length bc] 57 (0, 0))] ++ (Hn1 ++ b0O))) := S.perm (by classical rw [List.perm_iff_count]; intro x; simp only [List.count_append, List.count_cons, List.count_nil] <;> omega)
        refine L_op A rfl (by decide) rfl (y_call4 (by kernel_rfl) rfl (A.get (s := 74) rfl) (A.get (s := 76) rfl) (A.get (s := 78) rfl) (A.get (s := 80) rfl) (callW (send_ok hC S.app_left.nd S.app_left.holds okf okt (hbs.gr S.kp.to_gr) (off_base S hbs)) fun v w Hc11 s hf ac A => ?_))
        replace S : St _ _ _ (Hc11 ++ ([(b1, .cells #[.int .i64 x.d, .int .i64 x.f, .int .i64 x.t, .int .i64 x.i, .int .i64 x.b, .slice ba x.bs.length bc] 57 (0, 0))] ++ (Hn1 ++ b0O))) := St.call (H := Hc) (R := ([(b1, .cells #[.int .i64 x.d, .int .i64 x.f, .int .i64 x.t, .int .i64 x.i, .int .i64 x.b, .slice ba x.bs.length bc] 57 (0, 0))] ++ (Hn1 ++ b0O))) S rfl s
        obtain ⟨rfl, hC⟩ := hf
        replace S : St _ _ _ ([(b1, .cells #[.int .i64 x.d, .int .i64 x.f, .int .i64 x.t, .int .i64 x.i, .int .i64 x.b, .slice ba x.bs.length bc] 57 (0, 0))] ++ (Hc11 ++ (Hn1 ++ b0O))) := S.perm (by classical rw [List.perm_iff_count]; intro x; simp only [List.count_append, List.count_cons, List.count_nil] <;> omega)
        replace A := A.keep [(3, .slice (some ua) b.length uc), (9, .pointer (some ⟨p, 0, none⟩)), (11, .slice b0a (allF m).length b0c), (12, .pointer (some ⟨p2, 0, none⟩)), (13, .int .i64 (((i : Nat) : Int))), (14, .pointer (some ⟨b1, 0, none⟩)), (67, .bool true)] ⟨rfl, rfl, rfl, rfl, rfl, rfl, rfl, trivial⟩
        refine hK16 _ _ ?_
        refine wp_seq_k fun K17 hK17 => ?_
        refine region_seq ?_  -- region 14
        refine L_op A rfl (by decide) rfl (y_move (A.get (s := 12) rfl) fun ac A => ?_)
        refine L_op A rfl (by decide) rfl (y_fieldAddr (off := 1) (j := 1) (by kernel_rfl) (A.get (s := 14) rfl) (by first | rfl | omega) fun ac A => ?_)
        refine L_op A rfl (by decide) rfl (y_load (by kernel_rfl) (A.get (s := 83) rfl) ((cell_of (S.get 0 rfl) _).trans rfl) fun ac A => ?_)
        refine L_op A rfl (by decide) rfl (y_fieldAddr (off := 2) (j := 2) (by kernel_rfl) (A.get (s := 14) rfl) (by first | rfl | omega) fun ac A => ?_)
        replace A := A.keep [(3, .slice (some ua) b.length uc), (9, .pointer (some ⟨p, 0, none⟩)), (11, .slice b0a (allF m).length b0c), (12, .pointer (some ⟨p2, 0, none⟩)), (13, .int .i64 (((i : Nat) : Int))), (14, .pointer (some ⟨b1, 0, none⟩)), (67, .bool true), (82, .pointer (some ⟨p2, 0, none⟩)), (84, .int .i64 x.f), (85, .pointer (some ⟨b1, 2, none⟩))] ⟨rfl, rfl, rfl, rfl, rfl, rfl, rfl, rfl, rfl, rfl, trivial⟩
        refine L_op A rfl (by decide) rfl (y_load (by kernel_rfl) (A.get (s := 85) rfl) ((cell_of (S.get 0 rfl) _).trans rfl) fun ac A => ?_)
        refine L_op A rfl (by decide) rfl (y_fieldAddr (off := 3) (j := 3) (by kernel_rfl) (A.get (s := 14) rfl) (by first | rfl | omega) fun ac A => ?_)
        refine L_op A rfl (by decide) rfl (y_load (by kernel_rfl) (A.get (s := 87) rfl) ((cell_of (S.get 0 rfl) _).trans rfl) fun ac A => ?_)
        refine L_op A rfl (by decide) rfl (y_fieldAddr (off := 4) (j := 4) (by kernel_rfl) (A.get (s := 14) rfl) (by first | rfl | omega) fun ac A => ?_)
        replace A := A.keep [(3, .slice (some ua) b.length uc), (9, .pointer (some ⟨p, 0, none⟩)), (11, .slice b0a (allF m).length b0c), (12, .pointer (some ⟨p2, 0, none⟩)), (13, .int .i64 (((i : Nat) : Int))), (14, .pointer (some ⟨b1, 0, none⟩)), (67, .bool true), (82, .pointer (some ⟨p2, 0, none⟩)), (84, .int .i64 x.f), (86, .int .i64 x.t), (88, .int .i64 x.i), (89, .pointer (some ⟨b1, 4, none⟩))] ⟨rfl, rfl, rfl, rfl, rfl, rfl, rfl, rfl, rfl, rfl, rfl, rfl, trivial⟩
        refine L_op A rfl (by decide) rfl (y_load (by kernel_rfl) (A.get (s := 89) rfl) ((cell_of (S.get 0 rfl) _).trans rfl) fun ac A => ?_)
        replace S : St _ _ _ (Hc11 ++ ([(b1, .cells #[.int .i64 x.d, .int .i64 x.f, .int .i64 x.t, .int .i64 x.i, .int .i64 x.b, .slice ba x.bs.length bc] 57 (0, 0))] ++ (Hn1 ++ b0O))) := S.perm (by classical rw [List.perm_iff_count]; intro x; simp only [List.count_append, List.count_cons, List.count_nil] <;> omega)
        refine L_op A rfl (by decide) rfl (y_call5 (by kernel_rfl) rfl (A.get (s := 82) rfl) (A.get (s := 84) rfl) (A.get (s := 86) rfl) (A.get (s := 88) rfl) (A.get (s := 90) rfl) (callW (spoil_ok (i := x.i) hC S.app_left.nd S.app_left.holds okf okt okb) fun v w Hc12 s hf ac A => ?_))
        replace S : St _ _ _ (Hc12 ++ ([(b1, .cells #[.int .i64 x.d, .int .i64 x.f, .int .i64 x.t, .int .i64 x.i, .int .i64 x.b, .slice ba x.bs.length bc] 57 (0, 0))] ++ (Hn1 ++ b0O))) := St.call (H := Hc11) (R := ([(b1, .cells #[.int .i64 x.d, .int .i64 x.f, .int .i64 x.t, .int .i64 x.i, .int .i64 x.b, .slice ba x.bs.length bc] 57 (0, 0))] ++ (Hn1 ++ b0O))) S rfl s
        obtain ⟨rfl, hC⟩ := hf
        replace S : St _ _ _ ([(b1, .cells #[.int .i64 x.d, .int .i64 x.f, .int .i64 x.t, .int .i64 x.i, .int .i64 x.b, .slice ba x.bs.length bc] 57 (0, 0))] ++ (Hc12 ++ (Hn1 ++ b0O))) := S.perm (by classical rw [List.perm_iff_count]; intro x; simp only [List.count_append, List.count_cons, List.count_nil] <;> omega)
        replace A := A.keep [(3, .slice (some ua) b.length uc), (9, .pointer (some ⟨p, 0, none⟩)), (11, .slice b0a (allF m).length b0c), (12, .pointer (some ⟨p2, 0, none⟩)), (13, .int .i64 (((i : Nat) : Int))), (14, .pointer (some ⟨b1, 0, none⟩)), (67, .bool true)] ⟨rfl, rfl, rfl, rfl, rfl, rfl, rfl, trivial⟩
        refine hK17 _ _ ?_
        refine wp_seq_k fun K18 hK18 => ?_
        refine region_seq ?_  -- region 15
        refine L_op A rfl (by decide) rfl (y_fieldAddr (off := 0) (j := 0) (by kernel_rfl) (A.get (s := 14) rfl) (by first | rfl | omega) fun ac A => ?_)
        refine L_op A rfl (by decide) rfl (y_load (by kernel_rfl) (A.get (s := 92) rfl) ((cell_of (S.get 0 rfl) _).trans rfl) fun ac A => ?_)
        replace A := A.keep [(3, .slice (some ua) b.length uc), (9, .pointer (some ⟨p, 0, none⟩)), (11, .slice b0a (allF m).length b0c), (12, .pointer (some ⟨p2, 0, none⟩)), (13, .int .i64 (((i : Nat) : Int))), (14, .pointer (some ⟨b1, 0, none⟩)), (67, .bool true), (93, .int .i64 x.d)] ⟨rfl, rfl, rfl, rfl, rfl, rfl, rfl, rfl, trivial⟩
        refine hK18 _ _ ?_
        refine wp_block ?_
        refine wp_seq_k fun K19 hK19 => ?_
        refine region_seq ?_  -- region 16
        refine L_op A rfl (by decide) rfl (y_eql (A.get (s := 93) rfl) rfl (c := true) (by simp [e3]) fun ac A => ?_)
        refine L_op A rfl (by decide) rfl (y_assign (A.get (s := 95) rfl) fun ac A => ?_)
        replace A := A.keep [(3, .slice (some ua) b.length uc), (9, .pointer (some ⟨p, 0, none⟩)), (11, .slice b0a (allF m).length b0c), (12, .pointer (some ⟨p2, 0, none⟩)), (13, .int .i64 (((i : Nat) : Int))), (14, .pointer (some ⟨b1, 0, none⟩)), (67, .bool true), (93, .int .i64 x.d), (94, .bool true)] ⟨rfl, rfl, rfl, rfl, rfl, rfl, rfl, rfl, rfl, trivial⟩
        refine hK19 _ _ ?_
        refine wp_cond_true (A.get rfl) ?_
        refine region_seq ?_  -- region 17
        refine L_op A rfl (by decide) rfl (y_move (A.get (s := 12) rfl) fun ac A => ?_)
        refine L_op A rfl (by decide) rfl (y_fieldAddr (off := 1) (j := 1) (by kernel_rfl) (A.get (s := 14) rfl) (by first | rfl | omega) fun ac A => ?_)
        refine L_op A rfl (by decide) rfl (y_load (by kernel_rfl) (A.get (s := 97) rfl) ((cell_of (S.get 0 rfl) _).trans rfl) fun ac A => ?_)
        refine L_op A rfl (by decide) rfl (y_fieldAddr (off := 2) (j := 2) (by kernel_rfl) (A.get (s := 14) rfl) (by first | rfl | omega) fun ac A => ?_)
        replace A := A.keep [(3, .slice (some ua) b.length uc), (9, .pointer (some ⟨p, 0, none⟩)), (11, .slice b0a (allF m).length b0c), (12, .pointer (some ⟨p2, 0, none⟩)), (13, .int .i64 (((i : Nat) : Int))), (14, .pointer (some ⟨b1, 0, none⟩)), (67, .bool true), (93, .int .i64 x.d), (94, .bool true), (96, .pointer (some ⟨p2, 0, none⟩)), (98, .int .i64 x.f), (99, .pointer (some ⟨b1, 2, none⟩))] ⟨rfl, rfl, rfl, rfl, rfl, rfl, rfl, rfl, rfl, rfl, rfl, rfl, trivial⟩
        refine L_op A rfl (by decide) rfl (y_load (by kernel_rfl) (A.get (s := 99) rfl) ((cell_of (S.get 0 rfl) _).trans rfl) fun ac A => ?_)
        refine L_op A rfl (by decide) rfl (y_fieldAddr (off := 3) (j := 3) (by kernel_rfl) (A.get (s := 14) rfl) (by first | rfl | omega) fun ac A => ?_)
        refine L_op A rfl (by decide) rfl (y_load (by kernel_rfl) (A.get (s := 101) rfl) ((cell_of (S.get 0 rfl) _).trans rfl) fun ac A => ?_)
        replace S : St _ _ _ (Hc12 ++ ([(b1, .cells #[.int .i64 x.d, .int .i64 x.f, .int .i64 x.t, .int .i64 x.i, .int .i64 x.b, .slice ba x.bs.length bc] 57 (0, 0))] ++ (Hn1 ++ b0O))) := S.perm (by classical rw [List.perm_iff_count]; intro x; simp only [List.count_append, List.count_cons, List.count_nil] <;> omega)
        refine L_op A rfl (by decide) rfl (y_call4 (by kernel_rfl) rfl (A.get (s := 96) rfl) (A.get (s := 98) rfl) (A.get (s := 100) rfl) (A.get (s := 102) rfl) (callW (drop_ok (i := x.i) hC S.app_left.nd S.app_left.holds okf okt) fun v w Hc13 s hf ac A => ?_))
        replace S : St _ _ _ (Hc13 ++ ([(b1, .cells #[.int .i64 x.d, .int .i64 x.f, .int .i64 x.t, .int .i64 x.i, .int .i64 x.b, .slice ba x.bs.length bc] 57 (0, 0))] ++ (Hn1 ++ b0O))) := St.call (H := Hc12) (R := ([(b1, .cells #[.int .i64 x.d, .int .i64 x.f, .int .i64 x.t, .int .i64 x.i, .int .i64 x.b, .slice ba x.bs.length bc] 57 (0, 0))] ++ (Hn1 ++ b0O))) S rfl s
        obtain ⟨rfl, hC⟩ := hf
        replace S : St _ _ _ ([(b1, .cells #[.int .i64 x.d, .int .i64 x.f, .int .i64 x.t, .int .i64 x.i, .int .i64 x.b, .slice ba x.bs.length bc] 57 (0, 0))] ++ (Hc13 ++ (Hn1 ++ b0O))) := S.perm (by classical rw [List.perm_iff_count]; intro x; simp only [List.count_append, List.count_cons, List.count_nil] <;> omega)
        replace A := A.keep [(3, .slice (some ua) b.length uc), (9, .pointer (some ⟨p, 0, none⟩)), (11, .slice b0a (allF m).length b0c), (12, .pointer (some ⟨p2, 0, none⟩)), (13, .int .i64 (((i : Nat) : Int))), (14, .pointer (some ⟨b1, 0, none⟩)), (67, .bool true), (93, .int .i64 x.d), (94, .bool true)] ⟨rfl, rfl, rfl, rfl, rfl, rfl, rfl, rfl, rfl, trivial⟩
        refine hK14 _ _ ?_
        refine region_seq ?_  -- region 11
        refine L_op A rfl (by decide) rfl (y_move (A.get (s := 13) rfl) fun ac A => ?_)
        refine L_op A rfl (by decide) rfl (y_add (A.get (s := 68) rfl) rfl (c := ((i + 1 : Nat) : Int)) ((wrap64 (by omega)).trans (by omega)) fun ac A => ?_)
        refine L_op A rfl (by decide) rfl (y_assign (A.get (s := 69) rfl) fun ac A => ?_)
        replace A := A.keep [(3, .slice (some ua) b.length uc), (9, .pointer (some ⟨p, 0, none⟩)), (11, .slice b0a (allF m).length b0c), (12, .pointer (some ⟨p2, 0, none⟩)), (13, .int .i64 (((i + 1 : Nat) : Int))), (14, .pointer (some ⟨b1, 0, none⟩)), (67, .bool true), (93, .int .i64 x.d), (94, .bool true)] ⟨rfl, rfl, rfl, rfl, rfl, rfl, rfl, rfl, rfl, trivial⟩
        replace A := A.keep [(3, .slice (some ua) b.length uc), (9, .pointer (some ⟨p, 0, none⟩)), (11, .slice b0a (allF m).length b0c), (12, .pointer (some ⟨p2, 0, none⟩)), (13, .int .i64 (((i + 1 : Nat) : Int)))] ⟨rfl, rfl, rfl, rfl, rfl, trivial⟩
        replace S : St _ _ _ (Hn1 ++ (b0O ++ Hc13)) := St.app_left (K := [(b1, .cells #[.int .i64 x.d, .int .i64 x.f, .int .i64 x.t, .int .i64 x.i, .int .i64 x.b, .slice ba x.bs.length bc] 57 (0, 0))]) (S.perm (by classical rw [List.perm_iff_count]; intro x; simp only [List.count_append, List.count_cons, List.count_nil] <;> omega))
        exact ⟨kk - 1, by omega, i + 1, _, _, by omega, (((take_order _ _ _ _).trans (spoil_order _ _ _ _ _)).trans (send_order _ _ _ _)).trans (hmo), A, S, hC⟩
      by_cases e4 : x.d = 4
      · skip
        refine wp_seq_k fun K12 hK12 => ?_
        refine wp_seq_k fun K13 hK13 => ?_
        refine region_seq ?_  -- region 10
        refine L_op A rfl (by decide) rfl (y_move (A.get (s := 13) rfl) fun ac A => ?_)
        refine L_op A rfl (by decide) rfl (y_move (A.get (s := 3) rfl) fun ac A => ?_)
        refine L_op A rfl (by decide) rfl (y_lenS (e := 57) (by kernel_rfl) (A.get (s := 65) rfl) fun ac A => ?_)
        refine L_op A rfl (by decide) rfl (y_lss (A.get (s := 64) rfl) (A.get (s := 66) rfl) (c := true) (decide_eq_true (by omega)) fun ac A => ?_)
        replace A := A.keep [(3, .slice (some ua) b.length uc), (9, .pointer (some ⟨p, 0, none⟩)), (11, .slice b0a (allF m).length b0c), (12, .pointer (some ⟨p2, 0, none⟩)), (13, .int .i64 (((i : Nat) : Int))), (67, .bool true)] ⟨rfl, rfl, rfl, rfl, rfl, rfl, trivial⟩
        refine hK13 _ _ ?_
        refine wp_cond_true (A.get rfl) ?_
        refine wp_skip ?_
        refine hK12 _ _ ?_
        refine wp_seq_k fun K14 hK14 => ?_
        refine wp_block ?_
        refine wp_seq_k fun K15 hK15 => ?_
        refine region_seq ?_  -- region 12
        refine L_op A rfl (by decide) rfl (y_move (A.get (s := 3) rfl) fun ac A => ?_)
        refine L_op A rfl (by decide) rfl (y_move (A.get (s := 13) rfl) fun ac A => ?_)
        refine L_op A rfl (by decide) rfl (y_indexA (e := 57) (size := 6) (by kernel_rfl) (by kernel_rfl) (A.get (s := 70) rfl) (A.get (s := 71) rfl) (by omega) (by omega) fun ac A => ?_)
        refine L_op A rfl (by decide) rfl (y_loadAgg (acCells x (.slice ba x.bs.length bc)) (by kernel_rfl) (A.get (s := 72) rfl) (fun j hj => S.kp.to_gr.cell' (hcell j hj)) fun ac A => ?_)
        refine L_op A rfl (by decide) rfl (y_allocN (z := .agg #[.int .i64 0, .int .i64 0, .int .i64 0, .int .i64 0, .int .i64 0, .slice none 0 0]) (by kernel_rfl) fun b1 w gG nN ac A => ?_)
        replace S : St _ _ _ ([(b1, .cells #[.int .i64 0, .int .i64 0, .int .i64 0, .int .i64 0, .int .i64 0, .slice none 0 0] 57 (0, 0))] ++ (Hn1 ++ (b0O ++ Hc))) := (S.new gG nN).perm (by first | exact List.Perm.refl _ | (rw [List.append_assoc]; exact List.Perm.refl _) | (simp only [List.append_assoc, List.nil_append, List.append_nil]; exact List.Perm.refl _))
        refine L_opN A rfl rfl (y_store 6 (by kernel_rfl) (A.get (s := 14) rfl) (A.get (s := 73) rfl) (S.get 0 rfl) rfl (Nat.le_of_ble_eq_true rfl) (one_all rfl) ?_)
        replace S : St _ _ _ ([(b1, .cells #[.int .i64 x.d, .int .i64 x.f, .int .i64 x.t, .int .i64 x.i, .int .i64 x.b, .slice ba x.bs.length bc] 57 (0, 0))] ++ (Hn1 ++ (b0O ++ Hc))) := S.setAt 0 rfl _
        replace A := A.keep [(3, .slice (some ua) b.length uc), (9, .pointer (some ⟨p, 0, none⟩)), (11, .slice b0a (allF m).length b0c), (12, .pointer (some ⟨p2, 0, none⟩)), (13, .int .i64 (((i : Nat) : Int))), (14, .pointer (some ⟨b1, 0, none⟩)), (67, .bool true)] ⟨rfl, rfl, rfl, rfl, rfl, rfl, rfl, trivial⟩
        refine hK15 _ _ ?_
        refine wp_seq_k fun K16 hK16 => ?_
        refine region_seq ?_  -- region 13
        refine L_op A rfl (by decide) rfl (y_move (A.get (s := 12) rfl) fun ac A => ?_)
        refine L_op A rfl (by decide) rfl (y_fieldAddr (off := 1) (j := 1) (by kernel_rfl) (A.get (s := 14) rfl) (by first | rfl | omega) fun ac A => ?_)
        refine L_op A rfl (by decide) rfl (y_load (by kernel_rfl) (A.get (s := 75) rfl) ((cell_of (S.get 0 rfl) _).trans rfl) fun ac A => ?_)
        refine L_op A rfl (by decide) rfl (y_fieldAddr (off := 2) (j := 2) (by kernel_rfl) (A.get (s := 14) rfl) (by first | rfl | omega) fun ac A => ?_)
        replace A := A.keep [(3, .slice (some ua) b.length uc), (9, .pointer (some ⟨p, 0, none⟩)), (11, .slice b0a (allF m).length b0c), (12, .pointer (some ⟨p2, 0, none⟩)), (13, .int .i64 (((i : Nat) : Int))), (14, .pointer (some ⟨b1, 0, none⟩)), (67, .bool true), (74, .pointer (some ⟨p2, 0, none⟩)), (76, .int .i64 x.f), (77, .pointer (some ⟨b1, 2, none⟩))] ⟨rfl, rfl, rfl, rfl, rfl, rfl, rfl, rfl, rfl, rfl, trivial⟩
        refine L_op A rfl (by decide) rfl (y_load (by kernel_rfl) (A.get (s := 77) rfl) ((cell_of (S.get 0 rfl) _).trans rfl) fun ac A => ?_)
        refine L_op A rfl (by decide) rfl (y_fieldAddr (off := 5) (j := 5) (by kernel_rfl) (A.get (s := 14) rfl) (by first | rfl | omega) fun ac A => ?_)
        refine L_op A rfl (by decide) rfl (y_load (by kernel_rfl) (A.get (s := 79) rfl) ((cell_of (S.get 0 rfl) _).trans rfl) fun ac A => ?_)
        replace S : St _ _ _ (Hc ++ ([(b1, .cells #[.int .i64 x.d, .int .i64 x.f, .int .i64 x.t, .int .i64 x.i, .int .i64 x.b, .slice ba x.bs.length bc] 57 (0, 0))] ++ (Hn1 ++ b0O))) := S.perm (by classical rw [List.perm_iff_count]; intro x; simp only [List.count_append, List.count_cons, List.count_nil] <;> omega)
        refine L_op A rfl (by decide) rfl (y_call4 (by kernel_rfl) rfl (A.get (s := 74) rfl) (A.get (s := 76) rfl) (A.get (s := 78) rfl) (A.get (s := 80) rfl) (callW (send_ok hC S.app_left.nd S.app_left.holds okf okt (hbs.gr S.kp.to_gr) (off_base S hbs)) fun v w Hc11 s hf ac A => ?_))
        replace S : St _ _ _ (Hc11 ++ ([(b1, .cells #[.int .i64 x.d, .int .i64 x.f, .int .i64 x.t, .int .i64 x.i, .int .i64 x.b, .slice ba x.bs.length bc] 57 (0, 0))] ++ (Hn1 ++ b0O))) := St.call (H := Hc) (R := ([(b1, .cells #[.int .i64 x.d, .int .i64 x.f, .int .i64 x.t, .int .i64 x.i, .int .i64 x.b, .slice ba x.bs.length bc] 57 (0, 0))] ++ (Hn1 ++ b0O))) S rfl s
        obtain ⟨rfl, hC⟩ := hf
        replace S : St _ _ _ ([(b1, .cells #[.int .i64 x.d, .int .i64 x.f, .int .i64 x.t, .int .i64 x.i, .int .i64 x.b, .slice ba x.bs.length bc] 57 (0, 0))] ++ (Hc11 ++ (Hn1 ++ b0O))) := S.perm (by classical rw [List.perm_iff_count]; intro x; simp only [List.count_append, List.count_cons, List.count_nil] <;> omega)
        replace A := A.keep [(3, .slice (some ua) b.length uc), (9, .pointer (some ⟨p, 0, none⟩)), (11, .slice b0a (allF m).length b0c), (12, .pointer (some ⟨p2, 0, none⟩)), (13, .int .i64 (((i : Nat) : Int))), (14, .pointer (some ⟨b1, 0, none⟩)), (67, .bool true)] ⟨rfl, rfl, rfl, rfl, rfl, rfl, rfl, trivial⟩
        refine hK16 _ _ ?_
        refine wp_seq_k fun K17 hK17 => ?_
        refine region_seq ?_  -- region 14
        refine L_op A rfl (by decide) rfl (y_move (A.get (s := 12) rfl) fun ac A => ?_)
        refine L_op A rfl (by decide) rfl (y_fieldAddr (off := 1) (j := 1) (by kernel_rfl) (A.get (s := 14) rfl) (by first | rfl | omega) fun ac A => ?_)
        refine L_op A rfl (by decide) rfl (y_load (by kernel_rfl) (A.get (s := 83) rfl) ((cell_of (S.get 0 rfl) _).trans rfl) fun ac A => ?_)
        refine L_op A rfl (by decide) rfl (y_fieldAddr (off := 2) (j := 2) (by kernel_rfl) (A.get (s := 14) rfl) (by first | rfl | omega) fun ac A => ?_)
        replace A := A.keep [(3, .slice (some ua) b.length uc), (9, .pointer (some ⟨p, 0, none⟩)), (11, .slice b0a (allF m).length b0c), (12, .pointer (some ⟨p2, 0, none⟩)), (13, .int .i64 (((i : Nat) : Int))), (14, .pointer (some ⟨b1, 0, none⟩)), (67, .bool true), (82, .pointer (some ⟨p2, 0, none⟩)), (84, .int .i64 x.f), (85, .pointer (some ⟨b1, 2, none⟩))] ⟨rfl, rfl, rfl, rfl, rfl, rfl, rfl, rfl, rfl, rfl, trivial⟩
        refine L_op A rfl (by decide) rfl (y_load (by kernel_rfl) (A.get (s := 85) rfl) ((cell_of (S.get 0 rfl) _).trans rfl) fun ac A => ?_)
        refine L_op A rfl (by decide) rfl (y_fieldAddr (off := 3) (j := 3) (by kernel_rfl) (A.get (s := 14) rfl) (by first | rfl | omega) fun ac A => ?_)
        refine L_op A rfl (by decide) rfl (y_load (by kernel_rfl) (A.get (s := 87) rfl) ((cell_of (S.get 0 rfl) _).trans rfl) fun ac A => ?_)
        refine L_op A rfl (by decide) rfl (y_fieldAddr (off := 4) (j := 4) (by kernel_rfl) (A.get (s := 14) rfl) (by first | rfl | omega) fun ac A => ?_)
        replace A := A.keep [(3, .slice (some ua) b.length uc), (9, .pointer (some ⟨p, 0, none⟩)), (11, .slice b0a (allF m).length b0c), (12, .pointer (some ⟨p2, 0, none⟩)), (13, .int .i64 (((i : Nat) : Int))), (14, .pointer (some ⟨b1, 0, none⟩)), (67, .bool true), (82, .pointer (some ⟨p2, 0, none⟩)), (84, .int .i64 x.f), (86, .int .i64 x.t), (88, .int .i64 x.i), (89, .pointer (some ⟨b1, 4, none⟩))] ⟨rfl, rfl, rfl, rfl, rfl, rfl, rfl, rfl, rfl, rfl, rfl, rfl, trivial⟩
        refine L_op A rfl (by decide) rfl (y_load (by kernel_rfl) (A.get (s := 89) rfl) ((cell_of (S.get 0 rfl) _).trans rfl) fun ac A => ?_)
        replace S : St _ _ _ (Hc11 ++ ([(b1, .cells #[.int .i64 x.d, .int .i64 x.f, .int .i64 x.t, .int .i64 x.i, .int .i64 x.b, .slice ba x.bs.length bc] 57 (0, 0))] ++ (Hn1 ++ b0O))) := S.perm (by classical rw [List.perm_iff_count]; intro x; simp only [List.count_append, List.count_cons, List.count_nil] <;> omega)
        refine L_op A rfl (by decide) rfl (y_call5 (by kernel_rfl) rfl (A.get (s := 82) rfl) (A.get (s := 84) rfl) (A.get (s := 86) rfl) (A.get (s := 88) rfl) (A.get (s := 90) rfl) (callW (spoil_ok (i := x.i) hC S.app_left.nd S.app_left.holds okf okt okb) fun v w Hc12 s hf ac A => ?_))
        replace S : St _ _ _ (Hc12 ++ ([(b1, .cells #[.int .i64 x.d, .int .i64 x.f, .int .i64 x.t, .int .i64 x.i, .int .i64 x.b, .slice ba x.bs.length bc] 57 (0, 0))] ++ (Hn1 ++ b0O))) := St.call (H := Hc11) (R := ([(b1, .cells #[.int .i64 x.d, .int .i64 x.f, .int .i64 x.t, .int .i64 x.i, .int .i64 x.b, .slice ba x.bs.length bc] 57 (0, 0))] ++ (Hn1 ++ b0O))) S rfl s
        obtain ⟨rfl, hC⟩ := hf
        replace S : St _ _ _ ([(b1, .cells #[.int .i64 x.d, .int .i64 x.f, .int .i64 x.t, .int .i64 x.i, .int .i64 x.b, .slice ba x.bs.length bc] 57 (0, 0))] ++ (Hc12 ++ (Hn1 ++ b0O))) := S.perm (by classical rw [List.perm_iff_count]; intro x; simp only [List.count_append, List.count_cons, List.count_nil] <;> omega)
        replace A := A.keep [(3, .slice (some ua) b.length uc), (9, .pointer (some ⟨p, 0, none⟩)), (11, .slice b0a (allF m).length b0c), (12, .pointer (some ⟨p2, 0, none⟩)), (13, .int .i64 (((i : Nat) : Int))), (14, .pointer (some ⟨b1, 0, none⟩)), (67, .bool true)] ⟨rfl, rfl, rfl, rfl, rfl, rfl, rfl, trivial⟩
        refine hK17 _ _ ?_
        refine wp_seq_k fun K18 hK18 => ?_
        refine region_seq ?_  -- region 15
        refine L_op A rfl (by decide) rfl (y_fieldAddr (off := 0) (j := 0) (by kernel_rfl) (A.get (s := 14) rfl) (by first | rfl | omega) fun ac A => ?_)
        refine L_op A rfl (by decide) rfl (y_load (by kernel_rfl) (A.get (s := 92) rfl) ((cell_of (S.get 0 rfl) _).trans rfl) fun ac A => ?_)
        replace A := A.keep [(3, .slice (some ua) b.length uc), (9, .pointer (some ⟨p, 0, none⟩)), (11, .slice b0a (allF m).length b0c), (12, .pointer (some ⟨p2, 0, none⟩)), (13, .int .i64 (((i : Nat) : Int))), (14, .pointer (some ⟨b1, 0, none⟩)), (67, .bool true), (93, .int .i64 x.d)] ⟨rfl, rfl, rfl, rfl, rfl, rfl, rfl, rfl, trivial⟩
        refine hK18 _ _ ?_
        refine wp_block ?_
        refine wp_seq_k fun K19 hK19 => ?_
        refine region_seq ?_  -- region 16
        refine L_op A rfl (by decide) rfl (y_eql (A.get (s := 93) rfl) rfl (c := false) (by simpa using e3) fun ac A => ?_)
        refine L_op A rfl (by decide) rfl (y_assign (A.get (s := 95) rfl) fun ac A => ?_)
        replace A := A.keep [(3, .slice (some ua) b.length uc), (9, .pointer (some ⟨p, 0, none⟩)), (11, .slice b0a (allF m).length b0c), (12, .pointer (some ⟨p2, 0, none⟩)), (13, .int .i64 (((i : Nat) : Int))), (14, .pointer (some ⟨b1, 0, none⟩)), (67, .bool true), (93, .int .i64 x.d), (94, .bool false)] ⟨rfl, rfl, rfl, rfl, rfl, rfl, rfl, rfl, rfl, trivial⟩
        refine hK19 _ _ ?_
        refine wp_cond_false (A.get rfl) ?_
        refine wp_seq_k fun K20 hK20 => ?_
        refine region_seq ?_  -- region 18
        refine L_op A rfl (by decide) rfl (y_eql (A.get (s := 93) rfl) rfl (c := true) (by simp [e4]) fun ac A => ?_)
        refine L_op A rfl (by decide) rfl (y_assign (A.get (s := 105) rfl) fun ac A => ?_)
        replace A := A.keep [(3, .slice (some ua) b.length uc), (9, .pointer (some ⟨p, 0, none⟩)), (11, .slice b0a (allF m).length b0c), (12, .pointer (some ⟨p2, 0, none⟩)), (13, .int .i64 (((i : Nat) : Int))), (14, .pointer (some ⟨b1, 0, none⟩)), (67, .bool true), (93, .int .i64 x.d), (94, .bool false), (104, .bool true)] ⟨rfl, rfl, rfl, rfl, rfl, rfl, rfl, rfl, rfl, rfl, trivial⟩
        refine hK20 _ _ ?_
        refine wp_cond_true (A.get rfl) ?_
        refine region_seq ?_  -- region 19
        refine L_op A rfl (by decide) rfl (y_move (A.get (s := 12) rfl) fun ac A => ?_)
        refine L_op A rfl (by decide) rfl (y_fieldAddr (off := 1) (j := 1) (by kernel_rfl) (A.get (s := 14) rfl) (by first | rfl | omega) fun ac A => ?_)
        refine L_op A rfl (by decide) rfl (y_load (by kernel_rfl) (A.get (s := 107) rfl) ((cell_of (S.get 0 rfl) _).trans rfl) fun ac A => ?_)
        refine L_op A rfl (by decide) rfl (y_fieldAddr (off := 2) (j := 2) (by kernel_rfl) (A.get (s := 14) rfl) (by first | rfl | omega) fun ac A => ?_)
        replace A := A.keep [(3, .slice (some ua) b.length uc), (9, .pointer (some ⟨p, 0, none⟩)), (11, .slice b0a (allF m).length b0c), (12, .pointer (some ⟨p2, 0, none⟩)), (13, .int .i64 (((i : Nat) : Int))), (14, .pointer (some ⟨b1, 0, none⟩)), (67, .bool true), (93, .int .i64 x.d), (94, .bool false), (104, .bool true), (106, .pointer (some ⟨p2, 0, none⟩)), (108, .int .i64 x.f), (109, .pointer (some ⟨b1, 2, none⟩))] ⟨rfl, rfl, rfl, rfl, rfl, rfl, rfl, rfl, rfl, rfl, rfl, rfl, rfl, trivial⟩
        refine L_op A rfl (by decide) rfl (y_load (by kernel_rfl) (A.get (s := 109) rfl) ((cell_of (S.get 0 rfl) _).trans rfl) fun ac A => ?_)
        refine L_op A rfl (by decide) rfl (y_fieldAddr (off := 3) (j := 3) (by kernel_rfl) (A.get (s := 14) rfl) (by first | rfl | omega) fun ac A => ?_)
        refine L_op A rfl (by decide) rfl (y_load (by kernel_rfl) (A.get (s := 111) rfl) ((cell_of (S.get 0 rfl) _).trans rfl) fun ac A => ?_)
        replace S : St _ _ _ (Hc12 ++ ([(b1, .cells #[.int .i64 x.d, .int .i64 x.f, .int .i64 x.t, .int .i64 x.i, .int .i64 x.b, .slice ba x.bs.length bc] 57 (0, 0))] ++ (Hn1 ++ b0O))) := S.perm (by classical rw [List.perm_iff_count]; intro x; simp only [List.count_append, List.count_cons, List.count_nil] <;> omega)
        refine L_op A rfl (by decide) rfl (y_call4 (by kernel_rfl) rfl (A.get (s := 106) rfl) (A.get (s := 108) rfl) (A.get (s := 110) rfl) (A.get (s := 112) rfl) (callW (double_ok (i := x.i) hC S.app_left.nd S.app_left.holds okf okt) fun v w Hc13 s hf ac A => ?_))
        replace S : St _ _ _ (Hc13 ++ ([(b1, .cells #[.int .i64 x.d, .int .i64 x.f, .int .i64 x.t, .int .i64 x.i, .int .i64 x.b, .slice ba x.bs.length bc] 57 (0, 0))] ++ (Hn1 ++ b0O))) := St.call (H := Hc12) (R := ([(b1, .cells #[.int .i64 x.d, .int .i64 x.f, .int .i64 x.t, .int .i64 x.i, .int .i64 x.b, .slice ba x.bs.length bc] 57 (0, 0))] ++ (Hn1 ++ b0O))) S rfl s
        obtain ⟨rfl, hC⟩ := hf
        replace S : St _ _ _ ([(b1, .cells #[.int .i64 x.d, .int .i64 x.f, .int .i64 x.t, .int .i64 x.i, .int .i64 x.b, .slice ba x.bs.length bc] 57 (0, 0))] ++ (Hc13 ++ (Hn1 ++ b0O))) := S.perm (by classical rw [List.perm_iff_count]; intro x; simp only [List.count_append, List.count_cons, List.count_nil] <;> omega)
        replace A := A.keep [(3, .slice (some ua) b.length uc), (9, .pointer (some ⟨p, 0, none⟩)), (11, .slice b0a (allF m).length b0c), (12, .pointer (some ⟨p2, 0, none⟩)), (13, .int .i64 (((i : Nat) : Int))), (14, .pointer (some ⟨b1, 0, none⟩)), (67, .bool true), (93, .int .i64 x.d), (94, .bool false), (104, .bool true)] ⟨rfl, rfl, rfl, rfl, rfl, rfl, rfl, rfl, rfl, rfl, trivial⟩
        refine hK14 _ _ ?_
        refine region_seq ?_  -- region 11
        refine L_op A rfl (by decide) rfl (y_move (A.get (s := 13) rfl) fun ac A => ?_)
        refine L_op A rfl (by decide) rfl (y_add (A.get (s := 68) rfl) rfl (c := ((i + 1 : Nat) : Int)) ((wrap64 (by omega)).trans (by omega)) fun ac A => ?_)
        refine L_op A rfl (by decide) rfl (y_assign (A.get (s := 69) rfl) fun ac A => ?_)
        replace A := A.keep [(3, .slice (some ua) b.length uc), (9, .pointer (some ⟨p, 0, none⟩)), (11, .slice b0a (allF m).length b0c), (12, .pointer (some ⟨p2, 0, none⟩)), (13, .int .i64 (((i + 1 : Nat) : Int))), (14, .pointer (some ⟨b1, 0, none⟩)), (67, .bool true), (93, .int .i64 x.d), (94, .bool false), (104, .bool true)] ⟨rfl, rfl, rfl, rfl, rfl, rfl, rfl, rfl, rfl, rfl, trivial⟩
        replace A := A.keep [(3, .slice (some ua) b.length uc), (9, .pointer (some ⟨p, 0, none⟩)), (11, .slice b0a (allF m).length b0c), (12, .pointer (some ⟨p2, 0, none⟩)), (13, .int .i64 (((i + 1 : Nat) : Int)))] ⟨rfl, rfl, rfl, rfl, rfl, trivial⟩
        replace S : St _ _ _ (Hn1 ++ (b0O ++ Hc13)) := St.app_left (K := [(b1, .cells #[.int .i64 x.d, .int .i64 x.f, .int .i64 x.t, .int .i64 x.i, .int .i64 x.b, .slice ba x.bs.length bc] 57 (0, 0))]) (S.perm (by classical rw [List.perm_iff_count]; intro x; simp only [List.count_append, List.count_cons, List.count_nil] <;> omega))
        exact ⟨kk - 1, by omega, i + 1, _, _, by omega, (((double_order _ _ _ _).trans (spoil_order _ _ _ _ _)).trans (send_order _ _ _ _)).trans (hmo), A, S, hC⟩
      by_cases e6 : x.d = 6
      · skip
        refine wp_seq_k fun K12 hK12 => ?_
        refine wp_seq_k fun K13 hK13 => ?_
        refine region_seq ?_  -- region 10
        refine L_op A rfl (by decide) rfl (y_move (A.get (s := 13) rfl) fun ac A => ?_)
        refine L_op A rfl (by decide) rfl (y_move (A.get (s := 3) rfl) fun ac A => ?_)
        refine L_op A rfl (by decide) rfl (y_lenS (e := 57) (by kernel_rfl) (A.get (s := 65) rfl) fun ac A => ?_)
        refine L_op A rfl (by decide) rfl (y_lss (A.get (s := 64) rfl) (A.get (s := 66) rfl) (c := true) (decide_eq_true (by omega)) fun ac A => ?_)
        replace A := A.keep [(3, .slice (some ua) b.length uc), (9, .pointer (some ⟨p, 0, none⟩)), (11, .slice b0a (allF m).length b0c), (12, .pointer (some ⟨p2, 0, none⟩)), (13, .int .i64 (((i : Nat) : Int))), (67, .bool true)] ⟨rfl, rfl, rfl, rfl, rfl, rfl, trivial⟩
        refine hK13 _ _ ?_
        refine wp_cond_true (A.get rfl) ?_
        refine wp_skip ?_
        refine hK12 _ _ ?_
        refine wp_seq_k fun K14 hK14 => ?_
        refine wp_block ?_
        refine wp_seq_k fun K15 hK15 => ?_
        refine region_seq ?_  -- region 12
        refine L_op A rfl (by decide) rfl (y_move (A.get (s := 3) rfl) fun ac A => ?_)
        refine L_op A rfl (by decide) rfl (y_move (A.get (s := 13) rfl) fun ac A => ?_)
        refine L_op A rfl (by decide) rfl (y_indexA (e := 57) (size := 6) (by kernel_rfl) (by kernel_rfl) (A.get (s := 70) rfl) (A.get (s := 71) rfl) (by omega) (by omega) fun ac A => ?_)
        refine L_op A rfl (by decide) rfl (y_loadAgg (acCells x (.slice ba x.bs.length bc)) (by kernel_rfl) (A.get (s := 72) rfl) (fun j hj => S.kp.to_gr.cell' (hcell j hj)) fun ac A => ?_)
        refine L_op A rfl (by decide) rfl (y_allocN (z := .agg #[.int .i64 0, .int .i64 0, .int .i64 0, .int .i64 0, .int .i64 0, .slice none 0 0]) (by kernel_rfl) fun b1 w gG nN ac A => ?_)
        replace S : St _ _ _ ([(b1, .cells #[.int .i64 0, .int .i64 0, .int .i64 0, .int .i64 0, .int .i64 0, .slice none 0 0] 57 (0, 0))] ++ (Hn1 ++ (b0O ++ Hc))) := (S.new gG nN).perm (by first | exact List.Perm.refl _ | (rw [List.append_assoc]; exact List.Perm.refl _) | (simp only [List.append_assoc, List.nil_append, List.append_nil]; exact List.Perm.refl _))
        refine L_opN A rfl rfl (y_store 6 (by kernel_rfl) (A.get (s := 14) rfl) (A.get (s := 73) rfl) (S.get 0 rfl) rfl (Nat.le_of_ble_eq_true rfl) (one_all rfl) ?_)
        replace S : St _ _ _ ([(b1, .cells #[.int .i64 x.d, .int .i64 x.f, .int .i64 x.t, .int .i64 x.i, .int .i64 x.b, .slice ba x.bs.length bc] 57 (0, 0))] ++ (Hn1 ++ (b0O ++ Hc))) := S.setAt 0 rfl _
        replace A := A.keep [(3, .slice (some ua) b.length uc), (9, .pointer (some ⟨p, 0, none⟩)), (11, .slice b0a (allF m).length b0c), (12, .pointer (some ⟨p2, 0, none⟩)), (13, .int .i64 (((i : Nat) : Int))), (14, .pointer (some ⟨b1, 0, none⟩)), (67, .bool true)] ⟨rfl, rfl, rfl, rfl, rfl, rfl, rfl, trivial⟩
        refine hK15 _ _ ?_
        refine wp_seq_k fun K16 hK16 => ?_
        refine region_seq ?_  -- region 13
        refine L_op A rfl (by decide) rfl (y_move (A.get (s := 12) rfl) fun ac A => ?_)
        refine L_op A rfl (by decide) rfl (y_fieldAddr (off := 1) (j := 1) (by kernel_rfl) (A.get (s := 14) rfl) (by first | rfl | omega) fun ac A => ?_)
        refine L_op A rfl (by decide) rfl (y_load (by kernel_rfl) (A.get (s := 75) rfl) ((cell_of (S.get 0 rfl) _).trans rfl) fun ac A => ?_)
        refine L_op A rfl (by decide) rfl (y_fieldAddr (off := 2) (j := 2) (by kernel_rfl) (A.get (s := 14) rfl) (by first | rfl | omega) fun ac A => ?_)
        replace A := A.keep [(3, .slice (some ua) b.length uc), (9, .pointer (some ⟨p, 0, none⟩)), (11, .slice b0a (allF m).length b0c), (12, .pointer (some ⟨p2, 0, none⟩)), (13, .int .i64 (((i : Nat) : Int))), (14, .pointer (some ⟨b1, 0, none⟩)), (67, .bool true), (74, .pointer (some ⟨p2, 0, none⟩)), (76, .int .i64 x.f), (77, .pointer (some ⟨b1, 2, none⟩))] ⟨rfl, rfl, rfl, rfl, rfl, rfl, rfl, rfl, rfl, rfl, trivial⟩
        refine L_op A rfl (by decide) rfl (y_load (by kernel_rfl) (A.get (s := 77) rfl) ((cell_of (S.get 0 rfl) _).trans rfl) fun ac A => ?_)
        refine L_op A rfl (by decide) rfl (y_fieldAddr (off := 5) (j := 5) (by kernel_rfl) (A.get (s := 14) rfl) (by first | rfl | omega) fun ac A => ?_)
        refine L_op A rfl (by decide) rfl (y_load (by kernel_rfl) (A.get (s := 79) rfl) ((cell_of (S.get 0 rfl) _).trans rfl) fun ac A => ?_)
        replace S : St _ _ _ (Hc ++ ([(b1, .cells #[.int .i64 x.d, .int .i64 x.f, .int .i64 x.t, .int .i64 x.i, .int .i64 x.b, .slice ba x.bs.length bc] 57 (0, 0))] ++ (Hn1 ++ b0O))) := S.perm (by classical rw [List.perm_iff_count]; intro x; simp only [List.count_append, List.count_cons, List.count_nil] <;> omega)
        refine L_op A rfl (by decide) rfl (y_call4 (by kernel_rfl) rfl (A.get (s := 74) rfl) (A.get (s := 76) rfl) (A.get (s := 78) rfl) (A.get (s := 80) rfl) (callW (send_ok hC S.app_left.nd S.app_left.holds okf okt (hbs.gr S.kp.to_gr) (off_base S hbs)) fun v w Hc11 s hf ac A => ?_))
        replace S : St _ _ _ (Hc11 ++ ([(b1, .cells #[.int .i64 x.d, .int .i64 x.f, .int .i64 x.t, .int .i64 x.i, .int .i64 x.b, .slice ba x.bs.length bc] 57 (0, 0))] ++ (Hn1 ++ b0O))) := St.call (H := Hc) (R := ([(b1, .cells #[.int .i64 x.d, .int .i64 x.f, .int .i64 x.t, .int .i64 x.i, .int .i64 x.b, .slice ba x.bs.length bc] 57 (0, 0))] ++ (Hn1 ++ b0O))) S rfl s
        obtain ⟨rfl, hC⟩ := hf
        replace S : St _ _ _ ([(b1, .cells #[.int .i64 x.d, .int .i64 x.f, .int .i64 x.t, .int .i64 x.i, .int .i64 x.b, .slice ba x.bs.length bc] 57 (0, 0))] ++ (Hc11 ++ (Hn1 ++ b0O))) := S.perm (by classical rw [List.perm_iff_count]; intro x; simp only [List.count_append, List.count_cons, List.count_nil] <;> omega)
        replace A := A.keep [(3, .slice (some ua) b.length uc), (9, .pointer (some ⟨p, 0, none⟩)), (11, .slice b0a (allF m).length b0c), (12, .pointer (some ⟨p2, 0, none⟩)), (13, .int .i64 (((i : Nat) : Int))), (14, .pointer (some ⟨b1, 0, none⟩)), (67, .bool true)] ⟨rfl, rfl, rfl, rfl, rfl, rfl, rfl, trivial⟩
        refine hK16 _ _ ?_
        refine wp_seq_k fun K17 hK17 => ?_
        refine region_seq ?_  -- region 14
        refine L_op A rfl (by decide) rfl (y_move (A.get (s := 12) rfl) fun ac A => ?_)
        refine L_op A rfl (by decide) rfl (y_fieldAddr (off := 1) (j := 1) (by kernel_rfl) (A.get (s := 14) rfl) (by first | rfl | omega) fun ac A => ?_)
        refine L_op A rfl (by decide) rfl (y_load (by kernel_rfl) (A.get (s := 83) rfl) ((cell_of (S.get 0 rfl) _).trans rfl) fun ac A => ?_)
        refine L_op A rfl (by decide) rfl (y_fieldAddr (off := 2) (j := 2) (by kernel_rfl) (A.get (s := 14) rfl) (by first | rfl | omega) fun ac A => ?_)
        replace A := A.keep [(3, .slice (some ua) b.length uc), (9, .pointer (some ⟨p, 0, none⟩)), (11, .slice b0a (allF m).length b0c), (12, .pointer (some ⟨p2, 0, none⟩)), (13, .int .i64 (((i : Nat) : Int))), (14, .pointer (some ⟨b1, 0, none⟩)), (67, .bool true), (82, .pointer (some ⟨p2, 0, none⟩)), (84, .int .i64 x.f), (85, .pointer (some ⟨b1, 2, none⟩))] ⟨rfl, rfl, rfl, rfl, rfl, rfl, rfl, rfl, rfl, rfl, trivial⟩
        refine L_op A rfl (by decide) rfl (y_load (by kernel_rfl) (A.get (s := 85) rfl) ((cell_of (S.get 0 rfl) _).trans rfl) fun ac A => ?_)
        refine L_op A rfl (by decide) rfl (y_fieldAddr (off := 3) (j := 3) (by kernel_rfl) (A.get (s := 14) rfl) (by first | rfl | omega) fun ac A => ?_)
        refine L_op A rfl (by decide) rfl (y_load (by kernel_rfl) (A.get (s := 87) rfl) ((cell_of (S.get 0 rfl) _).trans rfl) fun ac A => ?_)
        refine L_op A rfl (by decide) rfl (y_fieldAddr (off := 4) (j := 4) (by kernel_rfl) (A.get (s := 14) rfl) (by first | rfl | omega) fun ac A => ?_)
        replace A := A.keep [(3, .slice (some ua) b.length uc), (9, .pointer (some ⟨p, 0, none⟩)), (11, .slice b0a (allF m).length b0c), (12, .pointer (some ⟨p2, 0, none⟩)), (13, .int .i64 (((i : Nat) : Int))), (14, .pointer (some ⟨b1, 0, none⟩)), (67, .bool true), (82, .pointer (some ⟨p2, 0, none⟩)), (84, .int .i64 x.f), (86, .int .i64 x.t), (88, .int .i64 x.i), (89, .pointer (some ⟨b1, 4, none⟩))] ⟨rfl, rfl, rfl, rfl, rfl, rfl, rfl, rfl, rfl, rfl, rfl, rfl, trivial⟩
        refine L_op A rfl (by decide) rfl (y_load (by kernel_rfl) (A.get (s := 89) rfl) ((cell_of (S.get 0 rfl) _).trans rfl) fun ac A => ?_)
        replace S : St _ _ _ (Hc11 ++ ([(b1, .cells #[.int .i64 x.d, .int .i64 x.f, .int .i64 x.t, .int .i64 x.i, .int .i64 x.b, .slice ba x.bs.length bc] 57 (0, 0))] ++ (Hn1 ++ b0O))) := S.perm (by classical rw [List.perm_iff_count]; intro x; simp only [List.count_append, List.count_cons, List.count_nil] <;> omega)
        refine L_op A rfl (by decide) rfl (y_call5 (by kernel_rfl) rfl (A.get (s := 82) rfl) (A.get (s := 84) rfl) (A.get (s := 86) rfl) (A.get (s := 88) rfl) (A.get (s := 90) rfl) (callW (spoil_ok (i := x.i) hC S.app_left.nd S.app_left.holds okf okt okb) fun v w Hc12 s hf ac A => ?_))
        replace S : St _ _ _ (Hc12 ++ ([(b1, .cells #[.int .i64 x.d, .int .i64 x.f, .int .i64 x.t, .int .i64 x.i, .int .i64 x.b, .slice ba x.bs.length bc] 57 (0, 0))] ++ (Hn1 ++ b0O))) := St.call (H := Hc11) (R := ([(b1, .cells #[.int .i64 x.d, .int .i64 x.f, .int .i64 x.t, .int .i64 x.i, .int .i64 x.b, .slice ba x.bs.length bc] 57 (0, 0))] ++ (Hn1 ++ b0O))) S rfl s
        obtain ⟨rfl, hC⟩ := hf
        replace S : St _ _ _ ([(b1, .cells #[.int .i64 x.d, .int .i64 x.f, .int .i64 x.t, .int .i64 x.i, .int .i64 x.b, .slice ba x.bs.length bc] 57 (0, 0))] ++ (Hc12 ++ (Hn1 ++ b0O))) := S.perm (by classical rw [List.perm_iff_count]; intro x; simp only [List.count_append, List.count_cons, List.count_nil] <;> omega)
        replace A := A.keep [(3, .slice (some ua) b.length uc), (9, .pointer (some ⟨p, 0, none⟩)), (11, .slice b0a (allF m).length b0c), (12, .pointer (some ⟨p2, 0, none⟩)), (13, .int .i64 (((i : Nat) : Int))), (14, .pointer (some ⟨b1, 0, none⟩)), (67, .bool true)] ⟨rfl, rfl, rfl, rfl, rfl, rfl, rfl, trivial⟩
        refine hK17 _ _ ?_
        refine wp_seq_k fun K18 hK18 => ?_
        refine region_seq ?_  -- region 15
        refine L_op A rfl (by decide) rfl (y_fieldAddr (off := 0) (j := 0) (by kernel_rfl) (A.get (s := 14) rfl) (by first | rfl | omega) fun ac A => ?_)
        refine L_op A rfl (by decide) rfl (y_load (by kernel_rfl) (A.get (s := 92) rfl) ((cell_of (S.get 0 rfl) _).trans rfl) fun ac A => ?_)
        replace A := A.keep [(3, .slice (some ua) b.length uc), (9, .pointer (some ⟨p, 0, none⟩)), (11, .slice b0a (allF m).length b0c), (12, .pointer (some ⟨p2, 0, none⟩)), (13, .int .i64 (((i : Nat) : Int))), (14, .pointer (some ⟨b1, 0, none⟩)), (67, .bool true), (93, .int .i64 x.d)] ⟨rfl, rfl, rfl, rfl, rfl, rfl, rfl, rfl, trivial⟩
        refine hK18 _ _ ?_
        refine wp_block ?_
        refine wp_seq_k fun K19 hK19 => ?_
        refine region_seq ?_  -- region 16
        refine L_op A rfl (by decide) rfl (y_eql (A.get (s := 93) rfl) rfl (c := false) (by simpa using e3) fun ac A => ?_)
        refine L_op A rfl (by decide) rfl (y_assign (A.get (s := 95) rfl) fun ac A => ?_)
        replace A := A.keep [(3, .slice (some ua) b.length uc), (9, .pointer (some ⟨p, 0, none⟩)), (11, .slice b0a (allF m).length b0c), (12, .pointer (some ⟨p2, 0, none⟩)), (13, .int .i64 (((i : Nat) : Int))), (14, .pointer (some ⟨b1, 0, none⟩)), (67, .bool true), (93, .int .i64 x.d), (94, .bool false)] ⟨rfl, rfl, rfl, rfl, rfl, rfl, rfl, rfl, rfl, trivial⟩
        refine hK19 _ _ ?_
        refine wp_cond_false (A.get rfl) ?_
        refine wp_seq_k fun K20 hK20 => ?_
        refine region_seq ?_  -- region 18
        refine L_op A rfl (by decide) rfl (y_eql (A.get (s := 93) rfl) rfl (c := false) (by simpa using e4) fun ac A => ?_)
        refine L_op A rfl (by decide) rfl (y_assign (A.get (s := 105) rfl) fun ac A => ?_)
        replace A := A.keep [(3, .slice (some ua) b.length uc), (9, .pointer (some ⟨p, 0, none⟩)), (11, .slice b0a (allF m).length b0c), (12, .pointer (some ⟨p2, 0, none⟩)), (13, .int .i64 (((i : Nat) : Int))), (14, .pointer (some ⟨b1, 0, none⟩)), (67, .bool true), (93, .int .i64 x.d), (94, .bool false), (104, .bool false)] ⟨rfl, rfl, rfl, rfl, rfl, rfl, rfl, rfl, rfl, rfl, trivial⟩
        refine hK20 _ _ ?_
        refine wp_cond_false (A.get rfl) ?_
        refine wp_seq_k fun K21 hK21 => ?_
        refine region_seq ?_  -- region 20
        refine L_op A rfl (by decide) rfl (y_eql (A.get (s := 93) rfl) rfl (c := true) (by simp [e6]) fun ac A => ?_)
        refine L_op A rfl (by decide) rfl (y_assign (A.get (s := 115) rfl) fun ac A => ?_)
        replace A := A.keep [(3, .slice (some ua) b.length uc), (9, .pointer (some ⟨p, 0, none⟩)), (11, .slice b0a (allF m).length b0c), (12, .pointer (some ⟨p2, 0, none⟩)), (13, .int .i64 (((i : Nat) : Int))), (14, .pointer (some ⟨b1, 0, none⟩)), (67, .bool true), (93, .int .i64 x.d), (94, .bool false), (104, .bool false), (114, .bool true)] ⟨rfl, rfl, rfl, rfl, rfl, rfl, rfl, rfl, rfl, rfl, rfl, trivial⟩
        refine hK21 _ _ ?_
        refine wp_cond_true (A.get rfl) ?_
        refine region_seq ?_  -- region 21
        refine L_op A rfl (by decide) rfl (y_move (A.get (s := 12) rfl) fun ac A => ?_)
        refine L_op A rfl (by decide) rfl (y_fieldAddr (off := 1) (j := 1) (by kernel_rfl) (A.get (s := 14) rfl) (by first | rfl | omega) fun ac A => ?_)
        refine L_op A rfl (by decide) rfl (y_load (by kernel_rfl) (A.get (s := 117) rfl) ((cell_of (S.get 0 rfl) _).trans rfl) fun ac A => ?_)
        refine L_op A rfl (by decide) rfl (y_fieldAddr (off := 2) (j := 2) (by kernel_rfl) (A.get (s := 14) rfl) (by first | rfl | omega) fun ac A => ?_)
        refine L_op A rfl (by decide) rfl (y_load (by kernel_rfl) (A.get (s := 119) rfl) ((cell_of (S.get 0 rfl) _).trans rfl) fun ac A => ?_)
        replace S : St _ _ _ (Hc12 ++ ([(b1, .cells #[.int .i64 x.d, .int .i64 x.f, .int .i64 x.t, .int .i64 x.i, .int .i64 x.b, .slice ba x.bs.length bc] 57 (0, 0))] ++ (Hn1 ++ b0O))) := S.perm (by classical rw [List.perm_iff_count]; intro x; simp only [List.count_append, List.count_cons, List.count_nil] <;> omega)
        refine L_op A rfl (by decide) rfl (y_call3 (by kernel_rfl) rfl (A.get (s := 116) rfl) (A.get (s := 118) rfl) (A.get (s := 120) rfl) (callW (cut_ok hC S.app_left.nd S.app_left.holds okf okt) fun v w Hc13 s hf ac A => ?_))
        replace S : St _ _ _ (Hc13 ++ ([(b1, .cells #[.int .i64 x.d, .int .i64 x.f, .int .i64 x.t, .int .i64 x.i, .int .i64 x.b, .slice ba x.bs.length bc] 57 (0, 0))] ++ (Hn1 ++ b0O))) := St.call (H := Hc12) (R := ([(b1, .cells #[.int .i64 x.d, .int .i64 x.f, .int .i64 x.t, .int .i64 x.i, .int .i64 x.b, .slice ba x.bs.length bc] 57 (0, 0))] ++ (Hn1 ++ b0O))) S rfl s
        obtain ⟨rfl, hC⟩ := hf
        replace S : St _ _ _ ([(b1, .cells #[.int .i64 x.d, .int .i64 x.f, .int .i64 x.t, .int .i64 x.i, .int .i64 x.b, .slice ba x.bs.length bc] 57 (0, 0))] ++ (Hc13 ++ (Hn1 ++ b0O))) := S.perm (by classical rw [List.perm_iff_count]; intro x; simp only [List.count_append, List.count_cons, List.count_nil] <;> omega)
        replace A := A.keep [(3, .slice (some ua) b.length uc), (9, .pointer (some ⟨p, 0, none⟩)), (11, .slice b0a (allF m).length b0c), (12, .pointer (some ⟨p2, 0, none⟩)), (13, .int .i64 (((i : Nat) : Int))), (14, .pointer (some ⟨b1, 0, none⟩)), (67, .bool true), (93, .int .i64 x.d), (94, .bool false), (104, .bool false), (114, .bool true)] ⟨rfl, rfl, rfl, rfl, rfl, rfl, rfl, rfl, rfl, rfl, rfl, trivial⟩
        refine hK14 _ _ ?_
        refine region_seq ?_  -- region 11
        refine L_op A rfl (by decide) rfl (y_move (A.get (s := 13) rfl) fun ac A => ?_)
        refine L_op A rfl (by decide) rfl (y_add (A.get (s := 68) rfl) rfl (c := ((i + 1 : Nat) : Int)) ((wrap64 (by omega)).trans (by omega)) fun ac A => ?_)
        refine L_op A rfl (by decide) rfl (y_assign (A.get (s := 69) rfl) fun ac A => ?_)
        replace A := A.keep [(3, .slice (some ua) b.length uc), (9, .pointer (some ⟨p, 0, none⟩)), (11, .slice b0a (allF m).length b0c), (12, .pointer (some ⟨p2, 0, none⟩)), (13, .int .i64 (((i + 1 : Nat) : Int))), (14, .pointer (some ⟨b1, 0, none⟩)), (67, .bool true), (93, .int .i64 x.d), (94, .bool false), (104, .bool false), (114, .bool true)] ⟨rfl, rfl, rfl, rfl, rfl, rfl, rfl, rfl, rfl, rfl, rfl, trivial⟩
        replace A := A.keep [(3, .slice (some ua) b.length uc), (9, .pointer (some ⟨p, 0, none⟩)), (11, .slice b0a (allF m).length b0c), (12, .pointer (some ⟨p2, 0, none⟩)), (13, .int .i64 (((i + 1 : Nat) : Int)))] ⟨rfl, rfl, rfl, rfl, rfl, trivial⟩
        replace S : St _ _ _ (Hn1 ++ (b0O ++ Hc13)) := St.app_left (K := [(b1, .cells #[.int .i64 x.d, .int .i64 x.f, .int .i64 x.t, .int .i64 x.i, .int .i64 x.b, .slice ba x.bs.length bc] 57 (0, 0))]) (S.perm (by classical rw [List.perm_iff_count]; intro x; simp only [List.count_append, List.count_cons, List.count_nil] <;> omega))
        exact ⟨kk - 1, by omega, i + 1, _, _, by omega, (((cut_order _ _ _).trans (spoil_order _ _ _ _ _)).trans (send_order _ _ _ _)).trans (hmo), A, S, hC⟩
      by_cases e7 : x.d = 7
      · skip
        refine wp_seq_k fun K12 hK12 => ?_
        refine wp_seq_k fun K13 hK13 => ?_
        refine region_seq ?_  -- region 10
        refine L_op A rfl (by decide) rfl (y_move (A.get (s := 13) rfl) fun ac A => ?_)
        refine L_op A rfl (by decide) rfl (y_move (A.get (s := 3) rfl) fun ac A => ?_)
        refine L_op A rfl (by decide) rfl (y_lenS (e := 57) (by kernel_rfl) (A.get (s := 65) rfl) fun ac A => ?_)
        refine L_op A rfl (by decide) rfl (y_lss (A.get (s := 64) rfl) (A.get (s := 66) rfl) (c := true) (decide_eq_true (by omega)) fun ac A => ?_)
        replace A := A.keep [(3, .slice (some ua) b.length uc), (9, .pointer (some ⟨p, 0, none⟩)), (11, .slice b0a (allF m).length b0c), (12, .pointer (some ⟨p2, 0, none⟩)), (13, .int .i64 (((i : Nat) : Int))), (67, .bool true)] ⟨rfl, rfl, rfl, rfl, rfl, rfl, trivial⟩
        refine hK13 _ _ ?_
        refine wp_cond_true (A.get rfl) ?_
        refine wp_skip ?_
        refine hK12 _ _ ?_
        refine wp_seq_k fun K14 hK14 => ?_
        refine wp_block ?_
        refine wp_seq_k fun K15 hK15 => ?_
        refine region_seq ?_  -- region 12
        refine L_op A rfl (by decide) rfl (y_move (A.get (s := 3) rfl) fun ac A => ?_)
        refine L_op A rfl (by decide) rfl (y_move (A.get (s := 13) rfl) fun ac A => ?_)
        refine L_op A rfl (by decide) rfl (y_indexA (e := 57) (size := 6) (by kernel_rfl) (by kernel_rfl) (A.get (s := 70) rfl) (A.get (s := 71) rfl) (by omega) (by omega) fun ac A => ?_)
        refine L_op A rfl (by decide) rfl (y_loadAgg (acCells x (.slice ba x.bs.length bc)) (by kernel_rfl) (A.get (s := 72) rfl) (fun j hj => S.kp.to_gr.cell' (hcell j hj)) fun ac A => ?_)
        refine L_op A rfl (by decide) rfl (y_allocN (z := .agg #[.int .i64 0, .int .i64 0, .int .i64 0, .int .i64 0, .int .i64 0, .slice none 0 0]) (by kernel_rfl) fun b1 w gG nN ac A => ?_)
        replace S : St _ _ _ ([(b1, .cells #[.int .i64 0, .int .i64 0, .int .i64 0, .int .i64 0, .int .i64 0, .slice none 0 0] 57 (0, 0))] ++ (Hn1 ++ (b0O ++ Hc))) := (S.new gG nN).perm (by first | exact List.Perm.refl _ | (rw [List.append_assoc]; exact List.Perm.refl _) | (simp only [List.append_assoc, List.nil_append, List.append_nil]; exact List.Perm.refl _))
        refine L_opN A rfl rfl (y_store 6 (by kernel_rfl) (A.get (s := 14) rfl) (A.get (s := 73) rfl) (S.get 0 rfl) rfl (Nat.le_of_ble_eq_true rfl) (one_all rfl) ?_)
        replace S : St _ _ _ ([(b1, .cells #[.int .i64 x.d, .int .i64 x.f, .int .i64 x.t, .int .i64 x.i, .int .i64 x.b, .slice ba x.bs.length bc] 57 (0, 0))] ++ (Hn1 ++ (b0O ++ Hc))) := S.setAt 0 rfl _
        replace A := A.keep [(3, .slice (some ua) b.length uc), (9, .pointer (some ⟨p, 0, none⟩)), (11, .slice b0a (allF m).length b0c), (12, .pointer (some ⟨p2, 0, none⟩)), (13, .int .i64 (((i : Nat) : Int))), (14, .pointer (some ⟨b1, 0, none⟩)), (67, .bool true)] ⟨rfl, rfl, rfl, rfl, rfl, rfl, rfl, trivial⟩
        refine hK15 _ _ ?_
        refine wp_seq_k fun K16 hK16 => ?_
        refine region_seq ?_  -- region 13
        refine L_op A rfl (by decide) rfl (y_move (A.get (s := 12) rfl) fun ac A => ?_)
        refine L_op A rfl (by decide) rfl (y_fieldAddr (off := 1) (j := 1) (by kernel_rfl) (A.get (s := 14) rfl) (by first | rfl | omega) fun ac A => ?_)
        refine L_op A rfl (by decide) rfl (y_load (by kernel_rfl) (A.get (s := 75) rfl) ((cell_of (S.get 0 rfl) _).trans rfl) fun ac A => ?_)
        refine L_op A rfl (by decide) rfl (y_fieldAddr (off := 2) (j := 2) (by kernel_rfl) (A.get (s := 14) rfl) (by first | rfl | omega) fun ac A => ?_)
        replace A := A.keep [(3, .slice (some ua) b.length uc), (9, .pointer (some ⟨p, 0, none⟩)), (11, .slice b0a (allF m).length b0c), (12, .pointer (some ⟨p2, 0, none⟩)), (13, .int .i64 (((i : Nat) : Int))), (14, .pointer (some ⟨b1, 0, none⟩)), (67, .bool true), (74, .pointer (some ⟨p2, 0, none⟩)), (76, .int .i64 x.f), (77, .pointer (some ⟨b1, 2, none⟩))] ⟨rfl, rfl, rfl, rfl, rfl, rfl, rfl, rfl, rfl, rfl, trivial⟩
        refine L_op A rfl (by decide) rfl (y_load (by kernel_rfl) (A.get (s := 77) rfl) ((cell_of (S.get 0 rfl) _).trans rfl) fun ac A => ?_)
        refine L_op A rfl (by decide) rfl (y_fieldAddr (off := 5) (j := 5) (by kernel_rfl) (A.get (s := 14) rfl) (by first | rfl | omega) fun ac A => ?_)
        refine L_op A rfl (by decide) rfl (y_load (by kernel_rfl) (A.get (s := 79) rfl) ((cell_of (S.get 0 rfl) _).trans rfl) fun ac A => ?_)
        replace S : St _ _ _ (Hc ++ ([(b1, .cells #[.int .i64 x.d, .int .i64 x.f, .int .i64 x.t, .int .i64 x.i, .int .i64 x.b, .slice ba x.bs.length bc] 57 (0, 0))] ++ (Hn1 ++ b0O))) := S.perm (by classical rw [List.perm_iff_count]; intro x; simp only [List.count_append, List.count_cons, List.count_nil] <;> omega)
        refine L_op A rfl (by decide) rfl (y_call4 (by kernel_rfl) rfl (A.get (s := 74) rfl) (A.get (s := 76) rfl) (A.get (s := 78) rfl) (A.get (s := 80) rfl) (callW (send_ok hC S.app_left.nd S.app_left.holds okf okt (hbs.gr S.kp.to_gr) (off_base S hbs)) fun v w Hc11 s hf ac A => ?_))
        replace S : St _ _ _ (Hc11 ++ ([(b1, .cells #[.int .i64 x.d, .int .i64 x.f, .int .i64 x.t, .int .i64 x.i, .int .i64 x.b, .slice ba x.bs.length bc] 57 (0, 0))] ++ (Hn1 ++ b0O))) := St.call (H := Hc) (R := ([(b1, .cells #[.int .i64 x.d, .int .i64 x.f, .int .i64 x.t, .int .i64 x.i, .int .i64 x.b, .slice ba x.bs.length bc] 57 (0, 0))] ++ (Hn1 ++ b0O))) S rfl s
        obtain ⟨rfl, hC⟩ := hf
        replace S : St _ _ _ ([(b1, .cells #[.int .i64 x.d, .int .i64 x.f, .int .i64 x.t, .int .i64 x.i, .int .i64 x.b, .slice ba x.bs.length bc] 57 (0, 0))] ++ (Hc11 ++ (Hn1 ++ b0O))) := S.perm (by classical rw [List.perm_iff_count]; intro x; simp only [List.count_append, List.count_cons, List.count_nil] <;> omega)
        replace A := A.keep [(3, .slice (some ua) b.length uc), (9, .pointer (some ⟨p, 0, none⟩)), (11, .slice b0a (allF m).length b0c), (12, .pointer (some ⟨p2, 0, none⟩)), (13, .int .i64 (((i : Nat) : Int))), (14, .pointer (some ⟨b1, 0, none⟩)), (67, .bool true)] ⟨rfl, rfl, rfl, rfl, rfl, rfl, rfl, trivial⟩
        refine hK16 _ _ ?_
        refine wp_seq_k fun K17 hK17 => ?_
        refine region_seq ?_  -- region 14
        refine L_op A rfl (by decide) rfl (y_move (A.get (s := 12) rfl) fun ac A => ?_)
        refine L_op A rfl (by decide) rfl (y_fieldAddr (off := 1) (j := 1) (by kernel_rfl) (A.get (s := 14) rfl) (by first | rfl | omega) fun ac A => ?_)
        refine L_op A rfl (by decide) rfl (y_load (by kernel_rfl) (A.get (s := 83) rfl) ((cell_of (S.get 0 rfl) _).trans rfl) fun ac A => ?_)
        refine L_op A rfl (by decide) rfl (y_fieldAddr (off := 2) (j := 2) (by kernel_rfl) (A.get (s := 14) rfl) (by first | rfl | omega) fun ac A => ?_)
        replace A := A.keep [(3, .slice (some ua) b.length uc), (9, .pointer (some ⟨p, 0, none⟩)), (11, .slice b0a (allF m).length b0c), (12, .pointer (some ⟨p2, 0, none⟩)), (13, .int .i64 (((i : Nat) : Int))), (14, .pointer (some ⟨b1, 0, none⟩)), (67, .bool true), (82, .pointer (some ⟨p2, 0, none⟩)), (84, .int .i64 x.f), (85, .pointer (some ⟨b1, 2, none⟩))] ⟨rfl, rfl, rfl, rfl, rfl, rfl, rfl, rfl, rfl, rfl, trivial⟩
        refine L_op A rfl (by decide) rfl (y_load (by kernel_rfl) (A.get (s := 85) rfl) ((cell_of (S.get 0 rfl) _).trans rfl) fun ac A => ?_)
        refine L_op A rfl (by decide) rfl (y_fieldAddr (off := 3) (j := 3) (by kernel_rfl) (A.get (s := 14) rfl) (by first | rfl | omega) fun ac A => ?_)
        refine L_op A rfl (by decide) rfl (y_load (by kernel_rfl) (A.get (s := 87) rfl) ((cell_of (S.get 0 rfl) _).trans rfl) fun ac A => ?_)
        refine L_op A rfl (by decide) rfl (y_fieldAddr (off := 4) (j := 4) (by kernel_rfl) (A.get (s := 14) rfl) (by first | rfl | omega) fun ac A => ?_)
        replace A := A.keep [(3, .slice (some ua) b.length uc), (9, .pointer (some ⟨p, 0, none⟩)), (11, .slice b0a (allF m).length b0c), (12, .pointer (some ⟨p2, 0, none⟩)), (13, .int .i64 (((i : Nat) : Int))), (14, .pointer (some ⟨b1, 0, none⟩)), (67, .bool true), (82, .pointer (some ⟨p2, 0, none⟩)), (84, .int .i64 x.f), (86, .int .i64 x.t), (88, .int .i64 x.i), (89, .pointer (some ⟨b1, 4, none⟩))] ⟨rfl, rfl, rfl, rfl, rfl, rfl, rfl, rfl, rfl, rfl, rfl, rfl, trivial⟩
        refine L_op A rfl (by decide) rfl (y_load (by kernel_rfl) (A.get (s := 89) rfl) ((cell_of (S.get 0 rfl) _).trans rfl) fun ac A => ?_)
        replace S : St _ _ _ (Hc11 ++ ([(b1, .cells #[.int .i64 x.d, .int .i64 x.f, .int .i64 x.t, .int .i64 x.i, .int .i64 x.b, .slice ba x.bs.length bc] 57 (0, 0))] ++ (Hn1 ++ b0O))) := S.perm (by classical rw [List.perm_iff_count]; intro x; simp only [List.count_append, List.count_cons, List.count_nil] <;> omega)
        refine L_op A rfl (by decide) rfl (y_call5 (by kernel_rfl) rfl (A.get (s := 82) rfl) (A.get (s := 84) rfl) (A.get (s := 86) rfl) (A.get (s := 88) rfl) (A.get (s := 90) rfl) (callW (spoil_ok (i := x.i) hC S.app_left.nd S.app_left.holds okf okt okb) fun v w Hc12 s hf ac A => ?_))
        replace S : St _ _ _ (Hc12 ++ ([(b1, .cells #[.int .i64 x.d, .int .i64 x.f, .int .i64 x.t, .int .i64 x.i, .int .i64 x.b, .slice ba x.bs.length bc] 57 (0, 0))] ++ (Hn1 ++ b0O))) := St.call (H := Hc11) (R := ([(b1, .cells #[.int .i64 x.d, .int .i64 x.f, .int .i64 x.t, .int .i64 x.i, .int .i64 x.b, .slice ba x.bs.length bc] 57 (0, 0))] ++ (Hn1 ++ b0O))) S rfl s
        obtain ⟨rfl, hC⟩ := hf
        replace S : St _ _ _ ([(b1, .cells #[.int .i64 x.d, .int .i64 x.f, .int .i64 x.t, .int .i64 x.i, .int .i64 x.b, .slice ba x.bs.length bc] 57 (0, 0))] ++ (Hc12 ++ (Hn1 ++ b0O))) := S.perm (by classical rw [List.perm_iff_count]; intro x; simp only [List.count_append, List.count_cons, List.count_nil] <;> omega)
        replace A := A.keep [(3, .slice (some ua) b.length uc), (9, .pointer (some ⟨p, 0, none⟩)), (11, .slice b0a (allF m).length b0c), (12, .pointer (some ⟨p2, 0, none⟩)), (13, .int .i64 (((i : Nat) : Int))), (14, .pointer (some ⟨b1, 0, none⟩)), (67, .bool true)] ⟨rfl, rfl, rfl, rfl, rfl, rfl, rfl, trivial⟩
        refine hK17 _ _ ?_
        refine wp_seq_k fun K18 hK18 => ?_
        refine region_seq ?_  -- region 15
        refine L_op A rfl (by decide) rfl (y_fieldAddr (off := 0) (j := 0) (by kernel_rfl) (A.get (s := 14) rfl) (by first | rfl | omega) fun ac A => ?_)
        refine L_op A rfl (by decide) rfl (y_load (by kernel_rfl) (A.get (s := 92) rfl) ((cell_of (S.get 0 rfl) _).trans rfl) fun ac A => ?_)
        replace A := A.keep [(3, .slice (some ua) b.length uc), (9, .pointer (some ⟨p, 0, none⟩)), (11, .slice b0a (allF m).length b0c), (12, .pointer (some ⟨p2, 0, none⟩)), (13, .int .i64 (((i : Nat) : Int))), (14, .pointer (some ⟨b1, 0, none⟩)), (67, .bool true), (93, .int .i64 x.d)] ⟨rfl, rfl, rfl, rfl, rfl, rfl, rfl, rfl, trivial⟩
        refine hK18 _ _ ?_
        refine wp_block ?_
        refine wp_seq_k fun K19 hK19 => ?_
        refine region_seq ?_  -- region 16
        refine L_op A rfl (by decide) rfl (y_eql (A.get (s := 93) rfl) rfl (c := false) (by simpa using e3) fun ac A => ?_)
        refine L_op A rfl (by decide) rfl (y_assign (A.get (s := 95) rfl) fun ac A => ?_)
        replace A := A.keep [(3, .slice (some ua) b.length uc), (9, .pointer (some ⟨p, 0, none⟩)), (11, .slice b0a (allF m).length b0c), (12, .pointer (some ⟨p2, 0, none⟩)), (13, .int .i64 (((i : Nat) : Int))), (14, .pointer (some ⟨b1, 0, none⟩)), (67, .bool true), (93, .int .i64 x.d), (94, .bool false)] ⟨rfl, rfl, rfl, rfl, rfl, rfl, rfl, rfl, rfl, trivial⟩
        refine hK19 _ _ ?_
        refine wp_cond_false (A.get rfl) ?_
        refine wp_seq_k fun K20 hK20 => ?_
        refine region_seq ?_  -- region 18
        refine L_op A rfl (by decide) rfl (y_eql (A.get (s := 93) rfl) rfl (c := false) (by simpa using e4) fun ac A => ?_)
        refine L_op A rfl (by decide) rfl (y_assign (A.get (s := 105) rfl) fun ac A => ?_)
        replace A := A.keep [(3, .slice (some ua) b.length uc), (9, .pointer (some ⟨p, 0, none⟩)), (11, .slice b0a (allF m).length b0c), (12, .pointer (some ⟨p2, 0, none⟩)), (13, .int .i64 (((i : Nat) : Int))), (14, .pointer (some ⟨b1, 0, none⟩)), (67, .bool true), (93, .int .i64 x.d), (94, .bool false), (104, .bool false)] ⟨rfl, rfl, rfl, rfl, rfl, rfl, rfl, rfl, rfl, rfl, trivial⟩
        refine hK20 _ _ ?_
        refine wp_cond_false (A.get rfl) ?_
        refine wp_seq_k fun K21 hK21 => ?_
        refine region_seq ?_  -- region 20
        refine L_op A rfl (by decide) rfl (y_eql (A.get (s := 93) rfl) rfl (c := false) (by simpa using e6) fun ac A => ?_)
        refine L_op A rfl (by decide) rfl (y_assign (A.get (s := 115) rfl) fun ac A => ?_)
        replace A := A.keep [(3, .slice (some ua) b.length uc), (9, .pointer (some ⟨p, 0, none⟩)), (11, .slice b0a (allF m).length b0c), (12, .pointer (some ⟨p2, 0, none⟩)), (13, .int .i64 (((i : Nat) : Int))), (14, .pointer (some ⟨b1, 0, none⟩)), (67, .bool true), (93, .int .i64 x.d), (94, .bool false), (104, .bool false), (114, .bool false)] ⟨rfl, rfl, rfl, rfl, rfl, rfl, rfl, rfl, rfl, rfl, rfl, trivial⟩
        refine hK21 _ _ ?_
        refine wp_cond_false (A.get rfl) ?_
        refine wp_seq_k fun K22 hK22 => ?_
        refine region_seq ?_  -- region 22
        refine L_op A rfl (by decide) rfl (y_eql (A.get (s := 93) rfl) rfl (c := true) (by simp [e7]) fun ac A => ?_)
        refine L_op A rfl (by decide) rfl (y_assign (A.get (s := 123) rfl) fun ac A => ?_)
        replace A := A.keep [(3, .slice (some ua) b.length uc), (9, .pointer (some ⟨p, 0, none⟩)), (11, .slice b0a (allF m).length b0c), (12, .pointer (some ⟨p2, 0, none⟩)), (13, .int .i64 (((i : Nat) : Int))), (14, .pointer (some ⟨b1, 0, none⟩)), (67, .bool true), (93, .int .i64 x.d), (94, .bool false), (104, .bool false), (114, .bool false), (122, .bool true)] ⟨rfl, rfl, rfl, rfl, rfl, rfl, rfl, rfl, rfl, rfl, rfl, rfl, trivial⟩
        refine hK22 _ _ ?_
        refine wp_cond_true (A.get rfl) ?_
        refine region_seq ?_  -- region 23
        refine L_op A rfl (by decide) rfl (y_move (A.get (s := 12) rfl) fun ac A => ?_)
        refine L_op A rfl (by decide) rfl (y_fieldAddr (off := 1) (j := 1) (by kernel_rfl) (A.get (s := 14) rfl) (by first | rfl | omega) fun ac A => ?_)
        refine L_op A rfl (by decide) rfl (y_load (by kernel_rfl) (A.get (s := 125) rfl) ((cell_of (S.get 0 rfl) _).trans rfl) fun ac A => ?_)
        refine L_op A rfl (by decide) rfl (y_fieldAddr (off := 2) (j := 2) (by kernel_rfl) (A.get (s := 14) rfl) (by first | rfl | omega) fun ac A => ?_)
        refine L_op A rfl (by decide) rfl (y_load (by kernel_rfl) (A.get (s := 127) rfl) ((cell_of (S.get 0 rfl) _).trans rfl) fun ac A => ?_)
        replace S : St _ _ _ (Hc12 ++ ([(b1, .cells #[.int .i64 x.d, .int .i64 x.f, .int .i64 x.t, .int .i64 x.i, .int .i64 x.b, .slice ba x.bs.length bc] 57 (0, 0))] ++ (Hn1 ++ b0O))) := S.perm (by classical rw [List.perm_iff_count]; intro x; simp only [List.count_append, List.count_cons, List.count_nil] <;> omega)
        refine L_op A rfl (by decide) rfl (y_call3 (by kernel_rfl) rfl (A.get (s := 124) rfl) (A.get (s := 126) rfl) (A.get (s := 128) rfl) (callW (heal_ok hC S.app_left.nd S.app_left.holds okf okt) fun v w Hc13 s hf ac A => ?_))
        replace S : St _ _ _ (Hc13 ++ ([(b1, .cells #[.int .i64 x.d, .int .i64 x.f, .int .i64 x.t, .int .i64 x.i, .int .i64 x.b, .slice ba x.bs.length bc] 57 (0, 0))] ++ (Hn1 ++ b0O))) := St.call (H := Hc12) (R := ([(b1, .cells #[.int .i64 x.d, .int .i64 x.f, .int .i64 x.t, .int .i64 x.i, .int .i64 x.b, .slice ba x.bs.length bc] 57 (0, 0))] ++ (Hn1 ++ b0O))) S rfl s
        obtain ⟨rfl, hC⟩ := hf
        replace S : St _ _ _ ([(b1, .cells #[.int .i64 x.d, .int .i64 x.f, .int .i64 x.t, .int .i64 x.i, .int .i64 x.b, .slice ba x.bs.length bc] 57 (0, 0))] ++ (Hc13 ++ (Hn1 ++ b0O))) := S.perm (by classical rw [List.perm_iff_count]; intro x; simp only [List.count_append, List.count_cons, List.count_nil] <;> omega)
        replace A := A.keep [(3, .slice (some ua) b.length uc), (9, .pointer (some ⟨p, 0, none⟩)), (11, .slice b0a (allF m).length b0c), (12, .pointer (some ⟨p2, 0, none⟩)), (13, .int .i64 (((i : Nat) : Int))), (14, .pointer (some ⟨b1, 0, none⟩)), (67, .bool true), (93, .int .i64 x.d), (94, .bool false), (104, .bool false), (114, .bool false), (122, .bool true)] ⟨rfl, rfl, rfl, rfl, rfl, rfl, rfl, rfl, rfl, rfl, rfl, rfl, trivial⟩
        refine hK14 _ _ ?_
        refine region_seq ?_  -- region 11
        refine L_op A rfl (by decide) rfl (y_move (A.get (s := 13) rfl) fun ac A => ?_)
        refine L_op A rfl (by decide) rfl (y_add (A.get (s := 68) rfl) rfl (c := ((i + 1 : Nat) : Int)) ((wrap64 (by omega)).trans (by omega)) fun ac A => ?_)
        refine L_op A rfl (by decide) rfl (y_assign (A.get (s := 69) rfl) fun ac A => ?_)
        replace A := A.keep [(3, .slice (some ua) b.length uc), (9, .pointer (some ⟨p, 0, none⟩)), (11, .slice b0a (allF m).length b0c), (12, .pointer (some ⟨p2, 0, none⟩)), (13, .int .i64 (((i + 1 : Nat) : Int))), (14, .pointer (some ⟨b1, 0, none⟩)), (67, .bool true), (93, .int .i64 x.d), (94, .bool false), (104, .bool false), (114, .bool false), (122, .bool true)] ⟨rfl, rfl, rfl, rfl, rfl, rfl, rfl, rfl, rfl, rfl, rfl, rfl, trivial⟩
        replace A := A.keep [(3, .slice (some ua) b.length uc), (9, .pointer (some ⟨p, 0, none⟩)), (11, .slice b0a (allF m).length b0c), (12, .pointer (some ⟨p2, 0, none⟩)), (13, .int .i64 (((i + 1 : Nat) : Int)))] ⟨rfl, rfl, rfl, rfl, rfl, trivial⟩
        replace S : St _ _ _ (Hn1 ++ (b0O ++ Hc13)) := St.app_left (K := [(b1, .cells #[.int .i64 x.d, .int .i64 x.f, .int .i64 x.t, .int .i64 x.i, .int .i64 x.b, .slice ba x.bs.length bc] 57 (0, 0))]) (S.perm (by classical rw [List.perm_iff_count]; intro x; simp only [List.count_append, List.count_cons, List.count_nil] <;> omega))
        exact ⟨kk - 1, by omega, i + 1, _, _, by omega, (((heal_order _ _ _).trans (spoil_order _ _ _ _ _)).trans (send_order _ _ _ _)).trans (hmo), A, S, hC⟩
      refine wp_seq_k fun K12 hK12 => ?_
      refine wp_seq_k fun K13 hK13 => ?_
      refine region_seq ?_  -- region 10
      refine L_op A rfl (by decide) rfl (y_move (A.get (s := 13) rfl) fun ac A => ?_)
      refine L_op A rfl (by decide) rfl (y_move (A.get (s := 3) rfl) fun ac A => ?_)
      refine L_op A rfl (by decide) rfl (y_lenS (e := 57) (by kernel_rfl) (A.get (s := 65) rfl) fun ac A => ?_)
      refine L_op A rfl (by decide) rfl (y_lss (A.get (s := 64) rfl) (A.get (s := 66) rfl) (c := true) (decide_eq_true (by omega)) fun ac A => ?_)
      replace A := A.keep [(3, .slice (some ua) b.length uc), (9, .pointer (some ⟨p, 0, none⟩)), (11, .slice b0a (allF m).length b0c), (12, .pointer (some ⟨p2, 0, none⟩)), (13, .int .i64 (((i : Nat) : Int))), (67, .bool true)] ⟨rfl, rfl, rfl, rfl, rfl, rfl, trivial⟩
      refine hK13 _ _ ?_
      refine wp_cond_true (A.get rfl) ?_
      refine wp_skip ?_
      refine hK12 _ _ ?_
      refine wp_seq_k fun K14 hK14 => ?_
      refine wp_block ?_
      refine wp_seq_k fun K15 hK15 => ?_
      refine region_seq ?_  -- region 12
      refine L_op A rfl (by decide) rfl (y_move (A.get (s := 3) rfl) fun ac A => ?_)
      refine L_op A rfl (by decide) rfl (y_move (A.get (s := 13) rfl) fun ac A => ?_)
      refine L_op A rfl (by decide) rfl (y_indexA (e := 57) (size := 6) (by kernel_rfl) (by kernel_rfl) (A.get (s := 70) rfl) (A.get (s := 71) rfl) (by omega) (by omega) fun ac A => ?_)
      refine L_op A rfl (by decide) rfl (y_loadAgg (acCells x (.slice ba x.bs.length bc)) (by kernel_rfl) (A.get (s := 72) rfl) (fun j hj => S.kp.to_gr.cell' (hcell j hj)) fun ac A => ?_)
      refine L_op A rfl (by decide) rfl (y_allocN (z := .agg #[.int .i64 0, .int .i64 0, .int .i64 0, .int .i64 0, .int .i64 0, .slice none 0 0]) (by kernel_rfl) fun b1 w gG nN ac A => ?_)
      replace S : St _ _ _ ([(b1, .cells #[.int .i64 0, .int .i64 0, .int .i64 0, .int .i64 0, .int .i64 0, .slice none 0 0] 57 (0, 0))] ++ (Hn1 ++ (b0O ++ Hc))) := (S.new gG nN).perm (by first | exact List.Perm.refl _ | (rw [List.append_assoc]; exact List.Perm.refl _) | (simp only [List.append_assoc, List.nil_append, List.append_nil]; exact List.Perm.refl _))
      refine L_opN A rfl rfl (y_store 6 (by kernel_rfl) (A.get (s := 14) rfl) (A.get (s := 73) rfl) (S.get 0 rfl) rfl (Nat.le_of_ble_eq_true rfl) (one_all rfl) ?_)
      replace S : St _ _ _ ([(b1, .cells #[.int .i64 x.d, .int .i64 x.f, .int .i64 x.t, .int .i64 x.i, .int .i64 x.b, .slice ba x.bs.length bc] 57 (0, 0))] ++ (Hn1 ++ (b0O ++ Hc))) := S.setAt 0 rfl _
      replace A := A.keep [(3, .slice (some ua) b.length uc), (9, .pointer (some ⟨p, 0, none⟩)), (11, .slice b0a (allF m).length b0c), (12, .pointer (some ⟨p2, 0, none⟩)), (13, .int .i64 (((i : Nat) : Int))), (14, .pointer (some ⟨b1, 0, none⟩)), (67, .bool true)] ⟨rfl, rfl, rfl, rfl, rfl, rfl, rfl, trivial⟩
      refine hK15 _ _ ?_
      refine wp_seq_k fun K16 hK16 => ?_
      refine region_seq ?_  -- region 13
      refine L_op A rfl (by decide) rfl (y_move (A.get (s := 12) rfl) fun ac A => ?_)
      refine L_op A rfl (by decide) rfl (y_fieldAddr (off := 1) (j := 1) (by kernel_rfl) (A.get (s := 14) rfl) (by first | rfl | omega) fun ac A => ?_)
      refine L_op A rfl (by decide) rfl (y_load (by kernel_rfl) (A.get (s := 75) rfl) ((cell_of (S.get 0 rfl) _).trans rfl) fun ac A => ?_)
      refine L_op A rfl (by decide) rfl (y_fieldAddr (off := 2) (j := 2) (by kernel_rfl) (A.get (s := 14) rfl) (by first | rfl | omega) fun ac A => ?_)
      replace A := A.keep [(3, .slice (some ua) b.length uc), (9, .pointer (some ⟨p, 0, none⟩)), (11, .slice b0a (allF m).length b0c), (12, .pointer (some ⟨p2, 0, none⟩)), (13, .int .i64 (((i : Nat) : Int))), (14, .pointer (some ⟨b1, 0, none⟩)), (67, .bool true), (74, .pointer (some ⟨p2, 0, none⟩)), (76, .int .i64 x.f), (77, .pointer (some ⟨b1, 2, none⟩))] ⟨rfl, rfl, rfl, rfl, rfl, rfl, rfl, rfl, rfl, rfl, trivial⟩
      refine L_op A rfl (by decide) rfl (y_load (by kernel_rfl) (A.get (s := 77) rfl) ((cell_of (S.get 0 rfl) _).trans rfl) fun ac A => ?_)
      refine L_op A rfl (by decide) rfl (y_fieldAddr (off := 5) (j := 5) (by kernel_rfl) (A.get (s := 14) rfl) (by first | rfl | omega) fun ac A => ?_)
      refine L_op A rfl (by decide) rfl (y_load (by kernel_rfl) (A.get (s := 79) rfl) ((cell_of (S.get 0 rfl) _).trans rfl) fun ac A => ?_)
      replace S : St _ _ _ (Hc ++ ([(b1, .cells #[.int .i64 x.d, .int .i64 x.f, .int .i64 x.t, .int .i64 x.i, .int .i64 x.b, .slice ba x.bs.length bc] 57 (0, 0))] ++ (Hn1 ++ b0O))) := S.perm (by classical rw [List.perm_iff_count]; intro x; simp only [List.count_append, List.count_cons, List.count_nil] <;> omega)
      refine L_op A rfl (by decide) rfl (y_call4 (by kernel_rfl) rfl (A.get (s := 74) rfl) (A.get (s := 76) rfl) (A.get (s := 78) rfl) (A.get (s := 80) rfl) (callW (send_ok hC S.app_left.nd S.app_left.holds okf okt (hbs.gr S.kp.to_gr) (off_base S hbs)) fun v w Hc11 s hf ac A => ?_))
      replace S : St _ _ _ (Hc11 ++ ([(b1, .cells #[.int .i64 x.d, .int .i64 x.f, .int .i64 x.t, .int .i64 x.i, .int .i64 x.b, .slice ba x.bs.length bc] 57 (0, 0))] ++ (Hn1 ++ b0O))) := St.call (H := Hc) (R := ([(b1, .cells #[.int .i64 x.d, .int .i64 x.f, .int .i64 x.t, .int .i64 x.i, .int .i64 x.b, .slice ba x.bs.length bc] 57 (0, 0))] ++ (Hn1 ++ b0O))) S rfl s
      obtain ⟨rfl, hC⟩ := hf
      replace S : St _ _ _ ([(b1, .cells #[.int .i64 x.d, .int .i64 x.f, .int .i64 x.t, .int .i64 x.i, .int .i64 x.b, .slice ba x.bs.length bc] 57 (0, 0))] ++ (Hc11 ++ (Hn1 ++ b0O))) := S.perm (by classical rw [List.perm_iff_count]; intro x; simp only [List.count_append, List.count_cons, List.count_nil] <;> omega)
      replace A := A.keep [(3, .slice (some ua) b.length uc), (9, .pointer (some ⟨p, 0, none⟩)), (11, .slice b0a (allF m).length b0c), (12, .pointer (some ⟨p2, 0, none⟩)), (13, .int .i64 (((i : Nat) : Int))), (14, .pointer (some ⟨b1, 0, none⟩)), (67, .bool true)] ⟨rfl, rfl, rfl, rfl, rfl, rfl, rfl, trivial⟩
      refine hK16 _ _ ?_
      refine wp_seq_k fun K17 hK17 => ?_
      refine region_seq ?_  -- region 14
      refine L_op A rfl (by decide) rfl (y_move (A.get (s := 12) rfl) fun ac A => ?_)
      refine L_op A rfl (by decide) rfl (y_fieldAddr (off := 1) (j := 1) (by kernel_rfl) (A.get (s := 14) rfl) (by first | rfl | omega) fun ac A => ?_)
      refine L_op A rfl (by decide) rfl (y_load (by kernel_rfl) (A.get (s := 83) rfl) ((cell_of (S.get 0 rfl) _).trans rfl) fun ac A => ?_)
      refine L_op A rfl (by decide) rfl (y_fieldAddr (off := 2) (j := 2) (by kernel_rfl) (A.get (s := 14) rfl) (by first | rfl | omega) fun ac A => ?_)
      replace A := A.keep [(3, .slice (some ua) b.length uc), (9, .pointer (some ⟨p, 0, none⟩)), (11, .slice b0a (allF m).length b0c), (12, .pointer (some ⟨p2, 0, none⟩)), (13, .int .i64 (((i : Nat) : Int))), (14, .pointer (some ⟨b1, 0, none⟩)), (67, .bool true), (82, .pointer (some ⟨p2, 0, none⟩)), (84, .int .i64 x.f), (85, .pointer (some ⟨b1, 2, none⟩))] ⟨rfl, rfl, rfl, rfl, rfl, rfl, rfl, rfl, rfl, rfl, trivial⟩
      refine L_op A rfl (by decide) rfl (y_load (by kernel_rfl) (A.get (s := 85) rfl) ((cell_of (S.get 0 rfl) _).trans rfl) fun ac A => ?_)
      refine L_op A rfl (by decide) rfl (y_fieldAddr (off := 3) (j := 3) (by kernel_rfl) (A.get (s := 14) rfl) (by first | rfl | omega) fun ac A => ?_)
      refine L_op A rfl (by decide) rfl (y_load (by kernel_rfl) (A.get (s := 87) rfl) ((cell_of (S.get 0 rfl) _).trans rfl) fun ac A => ?_)
      refine L_op A rfl (by decide) rfl (y_fieldAddr (off := 4) (j := 4) (by kernel_rfl) (A.get (s := 14) rfl) (by first | rfl | omega) fun ac A => ?_)
      replace A := A.keep [(3, .slice (some ua) b.length uc), (9, .pointer (some ⟨p, 0, none⟩)), (11, .slice b0a (allF m).length b0c), (12, .pointer (some ⟨p2, 0, none⟩)), (13, .int .i64 (((i : Nat) : Int))), (14, .pointer (some ⟨b1, 0, none⟩)), (67, .bool true), (82, .pointer (some ⟨p2, 0, none⟩)), (84, .int .i64 x.f), (86, .int .i64 x.t), (88, .int .i64 x.i), (89, .pointer (some ⟨b1, 4, none⟩))] ⟨rfl, rfl, rfl, rfl, rfl, rfl, rfl, rfl, rfl, rfl, rfl, rfl, trivial⟩
      refine L_op A rfl (by decide) rfl (y_load (by kernel_rfl) (A.get (s := 89) rfl) ((cell_of (S.get 0 rfl) _).trans rfl) fun ac A => ?_)
      replace S : St _ _ _ (Hc11 ++ ([(b1, .cells #[.int .i64 x.d, .int .i64 x.f, .int .i64 x.t, .int .i64 x.i, .int .i64 x.b, .slice ba x.bs.length bc] 57 (0, 0))] ++ (Hn1 ++ b0O))) := S.perm (by classical rw [List.perm_iff_count]; intro x; simp only [List.count_append, List.count_cons, List.count_nil] <;> omega)
      refine L_op A rfl (by decide) rfl (y_call5 (by kernel_rfl) rfl (A.get (s := 82) rfl) (A.get (s := 84) rfl) (A.get (s := 86) rfl) (A.get (s := 88) rfl) (A.get (s := 90) rfl) (callW (spoil_ok (i := x.i) hC S.app_left.nd S.app_left.holds okf okt okb) fun v w Hc12 s hf ac A => ?_))
      replace S : St _ _ _ (Hc12 ++ ([(b1, .cells #[.int .i64 x.d, .int .i64 x.f, .int .i64 x.t, .int .i64 x.i, .int .i64 x.b, .slice ba x.bs.length bc] 57 (0, 0))] ++ (Hn1 ++ b0O))) := St.call (H := Hc11) (R := ([(b1, .cells #[.int .i64 x.d, .int .i64 x.f, .int .i64 x.t, .int .i64 x.i, .int .i64 x.b, .slice ba x.bs.length bc] 57 (0, 0))] ++ (Hn1 ++ b0O))) S rfl s
      obtain ⟨rfl, hC⟩ := hf
      replace S : St _ _ _ ([(b1, .cells #[.int .i64 x.d, .int .i64 x.f, .int .i64 x.t, .int .i64 x.i, .int .i64 x.b, .slice ba x.bs.length bc] 57 (0, 0))] ++ (Hc12 ++ (Hn1 ++ b0O))) := S.perm (by classical rw [List.perm_iff_count]; intro x; simp only [List.count_append, List.count_cons, List.count_nil] <;> omega)
      replace A := A.keep [(3, .slice (some ua) b.length uc), (9, .pointer (some ⟨p, 0, none⟩)), (11, .slice b0a (allF m).length b0c), (12, .pointer (some ⟨p2, 0, none⟩)), (13, .int .i64 (((i : Nat) : Int))), (14, .pointer (some ⟨b1, 0, none⟩)), (67, .bool true)] ⟨rfl, rfl, rfl, rfl, rfl, rfl, rfl, trivial⟩
      refine hK17 _ _ ?_
      refine wp_seq_k fun K18 hK18 => ?_
      refine region_seq ?_  -- region 15
      refine L_op A rfl (by decide) rfl (y_fieldAddr (off := 0) (j := 0) (by kernel_rfl) (A.get (s := 14) rfl) (by first | rfl | omega) fun ac A => ?_)
      refine L_op A rfl (by decide) rfl (y_load (by kernel_rfl) (A.get (s := 92) rfl) ((cell_of (S.get 0 rfl) _).trans rfl) fun ac A => ?_)
      replace A := A.keep [(3, .slice (some ua) b.length uc), (9, .pointer (some ⟨p, 0, none⟩)), (11, .slice b0a (allF m).length b0c), (12, .pointer (some ⟨p2, 0, none⟩)), (13, .int .i64 (((i : Nat) : Int))), (14, .pointer (some ⟨b1, 0, none⟩)), (67, .bool true), (93, .int .i64 x.d)] ⟨rfl, rfl, rfl, rfl, rfl, rfl, rfl, rfl, trivial⟩
      refine hK18 _ _ ?_
      refine wp_block ?_
      refine wp_seq_k fun K19 hK19 => ?_
      refine region_seq ?_  -- region 16
      refine L_op A rfl (by decide) rfl (y_eql (A.get (s := 93) rfl) rfl (c := false) (by simpa using e3) fun ac A => ?_)
      refine L_op A rfl (by decide) rfl (y_assign (A.get (s := 95) rfl) fun ac A => ?_)
      replace A := A.keep [(3, .slice (some ua) b.length uc), (9, .pointer (some ⟨p, 0, none⟩)), (11, .slice b0a (allF m).length b0c), (12, .pointer (some ⟨p2, 0, none⟩)), (13, .int .i64 (((i : Nat) : Int))), (14, .pointer (some ⟨b1, 0, none⟩)), (67, .bool true), (93, .int .i64 x.d), (94, .bool false)] ⟨rfl, rfl, rfl, rfl, rfl, rfl, rfl, rfl, rfl, trivial⟩
      refine hK19 _ _ ?_
      refine wp_cond_false (A.get rfl) ?_
      refine wp_seq_k fun K20 hK20 => ?_
      refine region_seq ?_  -- region 18
      refine L_op A rfl (by decide) rfl (y_eql (A.get (s := 93) rfl) rfl (c := false) (by simpa using e4) fun ac A => ?_)
      refine L_op A rfl (by decide) rfl (y_assign (A.get (s := 105) rfl) fun ac A => ?_)
      replace A := A.keep [(3, .slice (some ua) b.length uc), (9, .pointer (some ⟨p, 0, none⟩)), (11, .slice b0a (allF m).length b0c), (12, .pointer (some ⟨p2, 0, none⟩)), (13, .int .i64 (((i : Nat) : Int))), (14, .pointer (some ⟨b1, 0, none⟩)), (67, .bool true), (93, .int .i64 x.d), (94, .bool false), (104, .bool false)] ⟨rfl, rfl, rfl, rfl, rfl, rfl, rfl, rfl, rfl, rfl, trivial⟩
      refine hK20 _ _ ?_
      refine wp_cond_false (A.get rfl) ?_
      refine wp_seq_k fun K21 hK21 => ?_
      refine region_seq ?_  -- region 20
      refine L_op A rfl (by decide) rfl (y_eql (A.get (s := 93) rfl) rfl (c := false) (by simpa using e6) fun ac A => ?_)
      refine L_op A rfl (by decide) rfl (y_assign (A.get (s := 115) rfl) fun ac A => ?_)
      replace A := A.keep [(3, .slice (some ua) b.length uc), (9, .pointer (some ⟨p, 0, none⟩)), (11, .slice b0a (allF m).length b0c), (12, .pointer (some ⟨p2, 0, none⟩)), (13, .int .i64 (((i : Nat) : Int))), (14, .pointer (some ⟨b1, 0, none⟩)), (67, .bool true), (93, .int .i64 x.d), (94, .bool false), (104, .bool false), (114, .bool false)] ⟨rfl, rfl, rfl, rfl, rfl, rfl, rfl, rfl, rfl, rfl, rfl, trivial⟩
      refine hK21 _ _ ?_
      refine wp_cond_false (A.get rfl) ?_
      refine wp_seq_k fun K22 hK22 => ?_
      refine region_seq ?_  -- region 22
      refine L_op A rfl (by decide) rfl (y_eql (A.get (s := 93) rfl) rfl (c := false) (by simpa using e7) fun ac A => ?_)
      refine L_op A rfl (by decide) rfl (y_assign (A.get (s := 123) rfl) fun ac A => ?_)
      replace A := A.keep [(3, .slice (some ua) b.length uc), (9, .pointer (some ⟨p, 0, none⟩)), (11, .slice b0a (allF m).length b0c), (12, .pointer (some ⟨p2, 0, none⟩)), (13, .int .i64 (((i : Nat) : Int))), (14, .pointer (some ⟨b1, 0, none⟩)), (67, .bool true), (93, .int .i64 x.d), (94, .bool false), (104, .bool false), (114, .bool false), (122, .bool false)] ⟨rfl, rfl, rfl, rfl, rfl, rfl, rfl, rfl, rfl, rfl, rfl, rfl, trivial⟩
      refine hK22 _ _ ?_
      refine wp_cond_false (A.get rfl) ?_
      refine wp_skip ?_
      refine hK14 _ _ ?_
      refine region_seq ?_  -- region 11
      refine L_op A rfl (by decide) rfl (y_move (A.get (s := 13) rfl) fun ac A => ?_)
      refine L_op A rfl (by decide) rfl (y_add (A.get (s := 68) rfl) rfl (c := ((i + 1 : Nat) : Int)) ((wrap64 (by omega)).trans (by omega)) fun ac A => ?_)
      refine L_op A rfl (by decide) rfl (y_assign (A.get (s := 69) rfl) fun ac A => ?_)
      replace A := A.keep [(3, .slice (some ua) b.length uc), (9, .pointer (some ⟨p, 0, none⟩)), (11, .slice b0a (allF m).length b0c), (12, .pointer (some ⟨p2, 0, none⟩)), (13, .int .i64 (((i + 1 : Nat) : Int))), (14, .pointer (some ⟨b1, 0, none⟩)), (67, .bool true), (93, .int .i64 x.d), (94, .bool false), (104, .bool false), (114, .bool false), (122, .bool false)] ⟨rfl, rfl, rfl, rfl, rfl, rfl, rfl, rfl, rfl, rfl, rfl, rfl, trivial⟩
      replace A := A.keep [(3, .slice (some ua) b.length uc), (9, .pointer (some ⟨p, 0, none⟩)), (11, .slice b0a (allF m).length b0c), (12, .pointer (some ⟨p2, 0, none⟩)), (13, .int .i64 (((i + 1 : Nat) : Int)))] ⟨rfl, rfl, rfl, rfl, rfl, trivial⟩
      replace S : St _ _ _ (Hn1 ++ (b0O ++ Hc12)) := St.app_left (K := [(b1, .cells #[.int .i64 x.d, .int .i64 x.f, .int .i64 x.t, .int .i64 x.i, .int .i64 x.b, .slice ba x.bs.length bc] 57 (0, 0))]) (S.perm (by classical rw [List.perm_iff_count]; intro x; simp only [List.count_append, List.count_cons, List.count_nil] <;> omega))
      exact ⟨kk - 1, by omega, i + 1, _, _, by omega, ((spoil_order _ _ _ _ _).trans (send_order _ _ _ _)).trans (hmo), A, S, hC⟩
    · obtain rfl : i = b.length := by omega
      have hordc : ∀ k ∈ mc.order, i64 k.1 ∧ i64 k.2 := hmo ▸ hord
      have holc : mc.order.length ≤ 300 := hmo ▸ hol
      refine wp_seq_k fun K12 hK12 => ?_
      refine wp_seq_k fun K13 hK13 => ?_
      refine region_seq ?_  -- region 10
      refine L_op A rfl (by decide) rfl (y_move (A.get (s := 13) rfl) fun ac A => ?_)
      refine L_op A rfl (by decide) rfl (y_move (A.get (s := 3) rfl) fun ac A => ?_)
      refine L_op A rfl (by decide) rfl (y_lenS (e := 57) (by kernel_rfl) (A.get (s := 65) rfl) fun ac A => ?_)
      refine L_op A rfl (by decide) rfl (y_lss (A.get (s := 64) rfl) (A.get (s := 66) rfl) (c := false) (decide_eq_false (by omega)) fun ac A => ?_)
      replace A := A.keep [(3, .slice ua b.length uc), (9, .pointer (some ⟨p, 0, none⟩)), (11, .slice b0a (allF m).length b0c), (12, .pointer (some ⟨p2, 0, none⟩)), (13, .int .i64 (((b.length : Nat) : Int))), (67, .bool false)] ⟨rfl, rfl, rfl, rfl, rfl, rfl, trivial⟩
      refine hK13 _ _ ?_
      refine wp_cond_false (A.get rfl) ?_
      refine wp_exit ?_
      refine hK10 _ _ ?_
      refine wp_seq_k fun K14 hK14 => ?_
      refine wp_seq_k fun K15 hK15 => ?_
      refine region_seq ?_  -- region 24
      refine L_op A rfl (by decide) rfl (y_move (A.get (s := 9) rfl) fun ac A => ?_)
      replace S : St _ _ _ (Hn1 ++ (b0O ++ Hc)) := S.perm (by classical rw [List.perm_iff_count]; intro x; simp only [List.count_append] <;> omega)
      refine L_op A rfl (by decide) rfl (y_call1 (by kernel_rfl) rfl (A.get (s := 130) rfl) (callW (all_ok hN S.app_left.nd S.app_left.holds hord hol) fun n1v w Hx s hf ac A => ?_))
      replace S : St _ _ _ (Hx ++ (b0O ++ Hc)) := St.call (H := Hn1) (R := (b0O ++ Hc)) S rfl s
      obtain ⟨Hn31, n1O, hN, n1R, n1L, rfl⟩ := hf
      replace S : St _ _ _ ((Hn31 ++ n1O) ++ (b0O ++ Hc)) := S
      replace S : St _ _ _ (Hn31 ++ (n1O ++ (b0O ++ Hc))) := S.perm (by classical rw [List.perm_iff_count]; intro x; simp only [List.count_append] <;> omega)
      replace S : St _ _ _ (Hn31 ++ (n1O ++ (b0O ++ Hc))) := S.perm (by classical rw [List.perm_iff_count]; intro x; simp only [List.count_append] <;> omega)
      obtain ⟨n1a, n1c, rfl⟩ := n1R.len
      refine L_op A rfl (by decide) rfl (y_move (A.get (s := 11) rfl) fun ac A => ?_)
      refine L_op A rfl (by decide) rfl (y_call2 (by kernel_rfl) rfl (A.get (s := 131) rfl) (A.get (s := 132) rfl) (callN (same_self n1R b0R (St.app_left (H := n1O) (K := (Hn31 ++ (b0O ++ Hc))) (S.perm (by classical rw [List.perm_iff_count]; intro x; simp only [List.count_append] <;> omega))).holds (St.app_left (H := b0O) (K := (Hn31 ++ (n1O ++ Hc))) (S.perm (by classical rw [List.perm_iff_count]; intro x; simp only [List.count_append] <;> omega))).holds n1L) fun v w H gG nN hf ac A => ?_))
      obtain ⟨rfl, rfl⟩ := hf
      replace S : St _ _ _ (Hn31 ++ (n1O ++ (b0O ++ Hc))) := (S.new gG nN).perm (by first | exact List.Perm.refl _ | (rw [List.append_assoc]; exact List.Perm.refl _) | (simp only [List.append_assoc, List.nil_append, List.append_nil]; exact List.Perm.refl _))
      refine L_op A rfl (by decide) rfl (y_not (A.get (s := 133) rfl) rfl fun ac A => ?_)
      replace A := A.keep [(3, .slice ua b.length uc), (9, .pointer (some ⟨p, 0, none⟩)), (11, .slice b0a (allF m).length b0c), (12, .pointer (some ⟨p2, 0, none⟩)), (13, .int .i64 (((b.length : Nat) : Int))), (67, .bool false), (134, .bool false)] ⟨rfl, rfl, rfl, rfl, rfl, rfl, rfl, trivial⟩
      refine hK15 _ _ ?_
      refine wp_cond_false (A.get rfl) ?_
      refine wp_skip ?_
      refine hK14 _ _ ?_
      refine wp_seq_k fun K16 hK16 => ?_
      refine region_seq ?_  -- region 26
      refine L_op A rfl (by decide) rfl (y_move (A.get (s := 12) rfl) fun ac A => ?_)
      replace S : St _ _ _ (Hc ++ (Hn31 ++ (n1O ++ b0O))) := S.perm (by classical rw [List.perm_iff_count]; intro x; simp only [List.count_append] <;> omega)
      refine L_op A rfl (by decide) rfl (y_call1 (by kernel_rfl) rfl (A.get (s := 135) rfl) (callW (all_ok hC S.app_left.nd S.app_left.holds hordc holc) fun aftv w Hx s hf ac A => ?_))
      replace S : St _ _ _ (Hx ++ (Hn31 ++ (n1O ++ b0O))) := St.call (H := Hc) (R := (Hn31 ++ (n1O ++ b0O))) S rfl s
      obtain ⟨Hc32, aftO, hC, aftR, aftL, rfl⟩ := hf
      replace S : St _ _ _ ((Hc32 ++ aftO) ++ (Hn31 ++ (n1O ++ b0O))) := S
      replace S : St _ _ _ (Hc32 ++ (aftO ++ (Hn31 ++ (n1O ++ b0O)))) := S.perm (by classical rw [List.perm_iff_count]; intro x; simp only [List.count_append] <;> omega)
      replace S : St _ _ _ (Hc32 ++ (aftO ++ (Hn31 ++ (n1O ++ b0O)))) := S.perm (by classical rw [List.perm_iff_count]; intro x; simp only [List.count_append] <;> omega)
      obtain ⟨afta, aftc, rfl⟩ := aftR.len
      refine L_op A rfl (by decide) rfl (y_assign (A.get (s := 136) rfl) fun ac A => ?_)
      replace A := A.keep [(3, .slice ua b.length uc), (9, .pointer (some ⟨p, 0, none⟩)), (11, .slice b0a (allF m).length b0c), (12, .pointer (some ⟨p2, 0, none⟩)), (13, .int .i64 (((b.length : Nat) : Int))), (15, .slice afta (allF mc).length aftc), (67, .bool false), (134, .bool false)] ⟨rfl, rfl, rfl, rfl, rfl, rfl, rfl, rfl, trivial⟩
      refine hK16 _ _ ?_
      refine wp_seq_k fun K17 hK17 => ?_
      refine wp_seq_k fun K18 hK18 => ?_
      refine region_seq ?_  -- region 27
      refine L_op A rfl (by decide) rfl (y_assign rfl fun ac A => ?_)
      replace A := A.keep [(3, .slice ua b.length uc), (9, .pointer (some ⟨p, 0, none⟩)), (11, .slice b0a (allF m).length b0c), (12, .pointer (some ⟨p2, 0, none⟩)), (13, .int .i64 (((b.length : Nat) : Int))), (15, .slice afta (allF mc).length aftc), (16, .int .i64 1), (67, .bool false), (134, .bool false)] ⟨rfl, rfl, rfl, rfl, rfl, rfl, rfl, rfl, rfl, trivial⟩
      refine hK18 _ _ ?_
      refine wp_block ?_
      replace A := A.keep [(9, .pointer (some ⟨p, 0, none⟩)), (12, .pointer (some ⟨p2, 0, none⟩)), (15, .slice afta (allF mc).length aftc), (16, .int .i64 1)] ⟨rfl, rfl, rfl, rfl, trivial⟩
      replace S : St _ _ _ (Hn31 ++ (aftO ++ Hc32)) := St.app_left (K := (n1O ++ b0O)) (S.perm (by classical rw [List.perm_iff_count]; intro x; simp only [List.count_append] <;> omega))
      refine wp_loop_ghost (fun kk ac w' => ∃ (z : Int) (mn : M) (Hn : Frag), mn.nodes + 1 ≤ z + kk ∧ 1 ≤ z ∧ z ≤ 11 ∧ mn.nodes ≤ 10 ∧ mn.order = m.order ∧ Sl 153 ac [(9, .pointer (some ⟨p, 0, none⟩)), (12, .pointer (some ⟨p2, 0, none⟩)), (15, .slice afta (allF mc).length aftc), (16, .int .i64 (z))] ∧ St [] w0 w' (Hn ++ (aftO ++ Hc32)) ∧ NetRep p mn Hn) 10 ⟨1, m, Hn31, by omega, by omega, by omega, by omega, rfl, A, S, hN⟩ ?_
      clear A S hN
      rintro kk ac w2 ⟨z, mn, Hn, hkk, hz1, hz2, hnd, hmn, A, S, hN⟩
      rcases (show mn.nodes < z ∨ z ≤ mn.nodes by omega) with hi | hi
      · skip
        refine wp_seq_k fun K19 hK19 => ?_
        refine wp_seq_k fun K20 hK20 => ?_
        refine region_seq ?_  -- region 28
        refine L_op A rfl (by decide) rfl (y_move (A.get (s := 16) rfl) fun ac A => ?_)
        refine L_op A rfl (by decide) rfl (y_move (A.get (s := 9) rfl) fun ac A => ?_)
        refine L_op A rfl (by decide) rfl (y_call1 (by kernel_rfl) rfl (A.get (s := 138) rfl) (callN (nodes_ok hN (St.app_left (H := Hn) (K := (aftO ++ Hc32)) (S.perm (by classical rw [List.perm_iff_count]; intro x; simp only [List.count_append] <;> omega))).holds) fun v w H gG nN hf ac A => ?_))
        obtain ⟨rfl, rfl⟩ := hf
        replace S : St _ _ _ (Hn ++ (aftO ++ Hc32)) := (S.new gG nN).perm (by first | exact List.Perm.refl _ | (rw [List.append_assoc]; exact List.Perm.refl _) | (simp only [List.append_assoc, List.nil_append, List.append_nil]; exact List.Perm.refl _))
        refine L_op A rfl (by decide) rfl (y_leq (A.get (s := 137) rfl) (A.get (s := 139) rfl) (c := false) (decide_eq_false (by omega)) fun ac A => ?_)
        replace A := A.keep [(9, .pointer (some ⟨p, 0, none⟩)), (12, .pointer (some ⟨p2, 0, none⟩)), (15, .slice afta (allF mc).length aftc), (16, .int .i64 z), (140, .bool false)] ⟨rfl, rfl, rfl, rfl, rfl, trivial⟩
        refine hK20 _ _ ?_
        refine wp_cond_false (A.get rfl) ?_
        refine wp_exit ?_
        refine hK17 _ _ ?_
        refine wp_seq_k fun K21 hK21 => ?_
        refine region_seq ?_  -- region 31
        refine L_op A rfl (by decide) rfl (y_move (A.get (s := 12) rfl) fun ac A => ?_)
        replace S : St _ _ _ (Hc32 ++ (Hn ++ aftO)) := S.perm (by classical rw [List.perm_iff_count]; intro x; simp only [List.count_append] <;> omega)
        refine L_op A rfl (by decide) rfl (y_call1 (by kernel_rfl) rfl (A.get (s := 146) rfl) (callW (all_ok hC S.app_left.nd S.app_left.holds hordc holc) fun finv w Hx s hf ac A => ?_))
        replace S : St _ _ _ (Hx ++ (Hn ++ aftO)) := St.call (H := Hc32) (R := (Hn ++ aftO)) S rfl s
        obtain ⟨Hc61, finO, hC, finR, finL, rfl⟩ := hf
        replace S : St _ _ _ ((Hc61 ++ finO) ++ (Hn ++ aftO)) := S
        replace S : St _ _ _ (Hc61 ++ (finO ++ (Hn ++ aftO))) := S.perm (by classical rw [List.perm_iff_count]; intro x; simp only [List.count_append] <;> omega)
        replace S : St _ _ _ (Hc61 ++ (finO ++ (Hn ++ aftO))) := S.perm (by classical rw [List.perm_iff_count]; intro x; simp only [List.count_append] <;> omega)
        obtain ⟨fina, finc, rfl⟩ := finR.len
        refine L_op A rfl (by decide) rfl (y_move (A.get (s := 15) rfl) fun ac A => ?_)
        refine L_op A rfl (by decide) rfl (y_call2 (by kernel_rfl) rfl (A.get (s := 147) rfl) (A.get (s := 148) rfl) (callN (same_self finR aftR (St.app_left (H := finO) (K := (Hc61 ++ (Hn ++ aftO))) (S.perm (by classical rw [List.perm_iff_count]; intro x; simp only [List.count_append] <;> omega))).holds (St.app_left (H := aftO) (K := (Hc61 ++ (finO ++ Hn))) (S.perm (by classical rw [List.perm_iff_count]; intro x; simp only [List.count_append] <;> omega))).holds finL) fun v w H gG nN hf ac A => ?_))
        obtain ⟨rfl, rfl⟩ := hf
        replace S : St _ _ _ (Hc61 ++ (finO ++ (Hn ++ aftO))) := (S.new gG nN).perm (by first | exact List.Perm.refl _ | (rw [List.append_assoc]; exact List.Perm.refl _) | (simp only [List.append_assoc, List.nil_append, List.append_nil]; exact List.Perm.refl _))
        replace A := A.keep [(9, .pointer (some ⟨p, 0, none⟩)), (12, .pointer (some ⟨p2, 0, none⟩)), (15, .slice afta (allF mc).length aftc), (16, .int .i64 z), (140, .bool false), (149, .bool true)] ⟨rfl, rfl, rfl, rfl, rfl, rfl, trivial⟩
        refine L_op A rfl (by decide) rfl (y_move (A.get (s := 149) rfl) fun ac A => ?_)
        refine L_yes A rfl (by decide) rfl rfl (by decide) (A.get rfl) (y_call0 (by kernel_rfl) rfl  (callN (awake_ok) fun v w Ha gG nN hf ac A => ?_))
        obtain rfl := hf
        replace S : St _ _ _ (Ha ++ (Hc61 ++ (finO ++ (Hn ++ aftO)))) := (S.new gG nN).perm (by first | exact List.Perm.refl _ | (rw [List.append_assoc]; exact List.Perm.refl _) | (simp only [List.append_assoc, List.nil_append, List.append_nil]; exact List.Perm.refl _))
        refine L_op A rfl (by decide) rfl (y_pickT (A.get (s := 150) rfl) (A.get (s := 151) rfl) fun ac A => ?_)
        refine L_op A rfl (by decide) rfl (y_assign (A.get (s := 152) rfl) fun ac A => ?_)
        replace A := A.keep [(8, .bool true), (9, .pointer (some ⟨p, 0, none⟩)), (12, .pointer (some ⟨p2, 0, none⟩)), (15, .slice afta (allF mc).length aftc), (16, .int .i64 z), (140, .bool false)] ⟨rfl, rfl, rfl, rfl, rfl, rfl, trivial⟩
        refine hK21 _ _ ?_
        exact wp_ret ⟨A.defers, _, res_run (rs := [.tmp 8]) (vs := [.bool true]) rfl ⟨A.get rfl, trivial⟩, ⟨_, rfl, S.kp.to_gr, _, rfl, S.newF⟩⟩
      · have hordn : ∀ k ∈ mn.order, i64 k.1 ∧ i64 k.2 := hmn ▸ hord
        refine wp_seq_k fun K19 hK19 => ?_
        refine wp_seq_k fun K20 hK20 => ?_
        refine region_seq ?_  -- region 28
        refine L_op A rfl (by decide) rfl (y_move (A.get (s := 16) rfl) fun ac A => ?_)
        refine L_op A rfl (by decide) rfl (y_move (A.get (s := 9) rfl) fun ac A => ?_)
        refine L_op A rfl (by decide) rfl (y_call1 (by kernel_rfl) rfl (A.get (s := 138) rfl) (callN (nodes_ok hN (St.app_left (H := Hn) (K := (aftO ++ Hc32)) (S.perm (by classical rw [List.perm_iff_count]; intro x; simp only [List.count_append] <;> omega))).holds) fun v w H gG nN hf ac A => ?_))
        obtain ⟨rfl, rfl⟩ := hf
        replace S : St _ _ _ (Hn ++ (aftO ++ Hc32)) := (S.new gG nN).perm (by first | exact List.Perm.refl _ | (rw [List.append_assoc]; exact List.Perm.refl _) | (simp only [List.append_assoc, List.nil_append, List.append_nil]; exact List.Perm.refl _))
        refine L_op A rfl (by decide) rfl (y_leq (A.get (s := 137) rfl) (A.get (s := 139) rfl) (c := true) (decide_eq_true (by omega)) fun ac A => ?_)
        replace A := A.keep [(9, .pointer (some ⟨p, 0, none⟩)), (12, .pointer (some ⟨p2, 0, none⟩)), (15, .slice afta (allF mc).length aftc), (16, .int .i64 z), (140, .bool true)] ⟨rfl, rfl, rfl, rfl, rfl, trivial⟩
        refine hK20 _ _ ?_
        refine wp_cond_true (A.get rfl) ?_
        refine wp_skip ?_
        refine hK19 _ _ ?_
        refine wp_seq_k fun K21 hK21 => ?_
        refine wp_block ?_
        refine region_seq ?_  -- region 30
        refine L_op A rfl (by decide) rfl (y_move (A.get (s := 9) rfl) fun ac A => ?_)
        refine L_op A rfl (by decide) rfl (y_move (A.get (s := 16) rfl) fun ac A => ?_)
        replace S : St _ _ _ (Hn ++ (aftO ++ Hc32)) := S.perm (by classical rw [List.perm_iff_count]; intro x; simp only [List.count_append] <;> omega)
        refine L_op A rfl (by decide) rfl (y_call2 (by kernel_rfl) rfl (A.get (s := 143) rfl) (A.get (s := 144) rfl) (callW (empty_ok hN S.app_left.nd S.app_left.holds hordn) fun v w Hn81 s hf ac A => ?_))
        replace S : St _ _ _ (Hn81 ++ (aftO ++ Hc32)) := St.call (H := Hn) (R := (aftO ++ Hc32)) S rfl s
        obtain ⟨rfl, hN⟩ := hf
        replace S : St _ _ _ (Hn81 ++ (aftO ++ Hc32)) := S.perm (by classical rw [List.perm_iff_count]; intro x; simp only [List.count_append] <;> omega)
        replace A := A.keep [(9, .pointer (some ⟨p, 0, none⟩)), (12, .pointer (some ⟨p2, 0, none⟩)), (15, .slice afta (allF mc).length aftc), (16, .int .i64 z), (140, .bool true)] ⟨rfl, rfl, rfl, rfl, rfl, trivial⟩
        refine hK21 _ _ ?_
        refine region_seq ?_  -- region 29
        refine L_op A rfl (by decide) rfl (y_move (A.get (s := 16) rfl) fun ac A => ?_)
        refine L_op A rfl (by decide) rfl (y_add (A.get (s := 141) rfl) rfl (c := z + 1) ((wrap64 (by omega))) fun ac A => ?_)
        refine L_op A rfl (by decide) rfl (y_assign (A.get (s := 142) rfl) fun ac A => ?_)
        replace A := A.keep [(9, .pointer (some ⟨p, 0, none⟩)), (12, .pointer (some ⟨p2, 0, none⟩)), (15, .slice afta (allF mc).length aftc), (16, .int .i64 (z + 1)), (140, .bool true)] ⟨rfl, rfl, rfl, rfl, rfl, trivial⟩
        replace A := A.keep [(9, .pointer (some ⟨p, 0, none⟩)), (12, .pointer (some ⟨p2, 0, none⟩)), (15, .slice afta (allF mc).length aftc), (16, .int .i64 (z + 1))] ⟨rfl, rfl, rfl, rfl, trivial⟩
        replace S : St _ _ _ (Hn81 ++ (aftO ++ Hc32)) := S.perm (by classical rw [List.perm_iff_count]; intro x; simp only [List.count_append] <;> omega)
        have hsm := empty_same mn z
        exact ⟨kk - 1, by omega, z + 1, _, _, by rw [hsm.1]; omega, by omega, by omega, by rw [hsm.1]; omega, hsm.2.1.trans hmn, A, S, hN⟩
end Go.Proofs.Ytaeidblipdjgnaa
