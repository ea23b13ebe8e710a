import Derived.Test.YtaeidblipdjgnaaNobodyC
import Derived.Test.YtaeidblipdjgnaaActs
namespace Go.Proofs.Ytaeidblipdjgnaa
open Go.RowKit Go.Deep

theorem act_of {w : World} {cs : List Value} (h : TR Try.prog w 57 cs) : ∃ x ba bc, cs = acCells x (.slice ba x.bs.length bc) ∧ BSrc w (.slice ba x.bs.length bc) x.bs ∧ AcOk x := by
  have hc : Try.prog.cellsOf 57 = 6 := by kernel_rfl
  have hlen := (TR.struct Try.underlying57 h).1
  rw [hc] at hlen
  match cs, hlen, h with
  | [c0, c1, c2, c3, c4, c5], _, hTR =>
    obtain ⟨n0, e0, w0⟩ := TR.int (k := .i64) (cs := [c0]) (by kernel_rfl) (TR.field Try.underlying57 hTR (k := 0) (o := 0) (n := 1) rfl rfl (by kernel_rfl) rfl)
    obtain ⟨n1, e1, w1⟩ := TR.int (k := .i64) (cs := [c1]) (by kernel_rfl) (TR.field Try.underlying57 hTR (k := 1) (o := 1) (n := 1) rfl rfl (by kernel_rfl) rfl)
    obtain ⟨n2, e2, w2⟩ := TR.int (k := .i64) (cs := [c2]) (by kernel_rfl) (TR.field Try.underlying57 hTR (k := 2) (o := 2) (n := 1) rfl rfl (by kernel_rfl) rfl)
    obtain ⟨n3, e3, w3⟩ := TR.int (k := .i64) (cs := [c3]) (by kernel_rfl) (TR.field Try.underlying57 hTR (k := 3) (o := 3) (n := 1) rfl rfl (by kernel_rfl) rfl)
    obtain ⟨n4, e4, w4⟩ := TR.int (k := .i64) (cs := [c4]) (by kernel_rfl) (TR.field Try.underlying57 hTR (k := 4) (o := 4) (n := 1) rfl rfl (by kernel_rfl) rfl)
    obtain ⟨u, bs, e5, hb, hbl⟩ := bytes_of (cs := [c5]) (TR.field Try.underlying57 hTR (k := 5) (o := 5) (n := 1) rfl rfl (by kernel_rfl) rfl)
    simp only [List.cons.injEq, and_true] at e0 e1 e2 e3 e4 e5
    subst e0 e1 e2 e3 e4 e5
    obtain ⟨ba, bc, rfl⟩ := hb.slice
    exact ⟨⟨n0, n1, n2, n3, n4, bs⟩, ba, bc, rfl, hb, i64_wf w0, i64_wf w1, i64_wf w2, i64_wf w3, i64_wf w4, hbl⟩
theorem AcSrc.one {w : World} {b : Nat} {x : Ac} {ba : Option Addr} {bc : Nat} (hb : w.heap[b]? = some (.cells #[.int .i64 x.d, .int .i64 x.f, .int .i64 x.t, .int .i64 x.i, .int .i64 x.b, .slice ba x.bs.length bc] 57 (0, 0))) (hs : BSrc w (.slice ba x.bs.length bc) x.bs) (hok : AcOk x) : AcSrc w (.slice (some ⟨b, 0, none⟩) 1 1) [x] := by
  refine ⟨fun _ => acCells x (.slice ba x.bs.length bc), by simp [maxLen_eq], fun i _ => rfl, ⟨rfl, Or.inr ⟨_, _, rfl, cells_at hb rfl⟩⟩, fun i y hy => ?_⟩
  have hi := lt_of_get hy
  obtain rfl : i = 0 := by simpa using hi
  obtain rfl : x = y := by simpa using hy
  exact ⟨_, rfl, hs, hok⟩

set_option maxRecDepth 20000 in
set_option maxHeartbeats 8000000 in
theorem netNobody_ok {w0 : World} {x : Ac} {ba : Option Addr} {bc : Nat} (hs : BSrc w0 (.slice ba x.bs.length bc) x.bs) (hok : AcOk x) : Calls Try.prog 7 #[.agg #[.int .i64 x.d, .int .i64 x.f, .int .i64 x.t, .int .i64 x.i, .int .i64 x.b, .slice ba x.bs.length bc]] w0 (RetN w0 fun r _ => r = .bool true) := by
  have ha := hok.2.1
  have hb := hok.2.2.1
  refine enter Try.func7 rfl (n := 162) rfl (Nat.le_of_ble_eq_true rfl) fun ac A => ?_
  have S : St _ _ _ [] := St.none w0
  refine wp_seq_k fun K1 hK1 => ?_
  refine region_seq ?_  -- region 0
  refine L_op A rfl (by decide) rfl (y_boxN (A.get (s := 0) rfl) fun b1 w gG nN ac A => ?_)
  replace S : St _ _ _ [(b1, .cells #[.int .i64 x.d, .int .i64 x.f, .int .i64 x.t, .int .i64 x.i, .int .i64 x.b, .slice ba x.bs.length bc] 57 (0, 0))] := S.new gG nN
  refine L_op A rfl (by decide) rfl (y_assign rfl fun ac A => ?_)
  replace A := A.keep [(0, .agg #[.int .i64 x.d, .int .i64 x.f, .int .i64 x.t, .int .i64 x.i, .int .i64 x.b, .slice ba x.bs.length bc]), (1, .pointer (some ⟨b1, 0, none⟩)), (2, .bool false)] ⟨rfl, rfl, rfl, trivial⟩
  refine hK1 _ _ ?_
  refine wp_seq_k fun K2 hK2 => ?_
  refine wp_seq_k fun K3 hK3 => ?_
  refine region_seq ?_  -- region 1
  refine L_op A rfl (by decide) rfl (y_loadAgg [.int .i64 x.d, .int .i64 x.f, .int .i64 x.t, .int .i64 x.i, .int .i64 x.b, .slice ba x.bs.length bc] (by kernel_rfl) (A.get (s := 1) rfl) (cells_at (S.get 0 rfl) rfl) fun ac A => ?_)
  refine L_op A rfl (by decide) rfl (y_buildSlice1 (c := #[.int .i64 x.d, .int .i64 x.f, .int .i64 x.t, .int .i64 x.i, .int .i64 x.b, .slice ba x.bs.length bc]) (e := 57) (A.get (s := 11) rfl) (fun w => by kernel_rfl) fun b2 w gG nN ac A => ?_)
  replace S : St _ _ _ [(b2, .cells #[.int .i64 x.d, .int .i64 x.f, .int .i64 x.t, .int .i64 x.i, .int .i64 x.b, .slice ba x.bs.length bc] 57 (0, 0)), (b1, .cells #[.int .i64 x.d, .int .i64 x.f, .int .i64 x.t, .int .i64 x.i, .int .i64 x.b, .slice ba x.bs.length bc] 57 (0, 0))] := S.new gG nN
  refine L_op A rfl (by decide) rfl (y_call1 (by kernel_rfl) rfl (A.get (s := 12) rfl) (callN (few_ok (AcSrc.one (S.get 0 rfl) (hs.gr S.kp.to_gr) hok)) fun v w H gG nN hf ac A => ?_))
  obtain ⟨rfl, rfl⟩ := hf
  replace S : St _ _ _ [(b2, .cells #[.int .i64 x.d, .int .i64 x.f, .int .i64 x.t, .int .i64 x.i, .int .i64 x.b, .slice ba x.bs.length bc] 57 (0, 0)), (b1, .cells #[.int .i64 x.d, .int .i64 x.f, .int .i64 x.t, .int .i64 x.i, .int .i64 x.b, .slice ba x.bs.length bc] 57 (0, 0))] := S.new gG nN
  refine L_op A rfl (by decide) rfl (y_not (A.get (s := 13) rfl) rfl fun ac A => ?_)
  replace A := A.keep [(0, .agg #[.int .i64 x.d, .int .i64 x.f, .int .i64 x.t, .int .i64 x.i, .int .i64 x.b, .slice ba x.bs.length bc]), (1, .pointer (some ⟨b1, 0, none⟩)), (2, .bool false), (14, .bool (!(fewN 0 [x])))] ⟨rfl, rfl, rfl, rfl, trivial⟩
  refine hK3 _ _ ?_
  refine wp_cond_split (A.get rfl) (fun hc14 => ?_) (fun hc14 => ?_)
  · -- .bool (!(fewN 0 [x])) is true
    refine wp_seq_k fun K4 hK4 => ?_
    refine region_seq ?_  -- region 2
    refine L_op A rfl (by decide) rfl (y_call0 (by kernel_rfl) rfl  (callN (awake_ok) fun v w Hz gG nN hf ac A => ?_))
    obtain rfl := hf
    replace S : St _ _ _ (Hz ++ [(b2, .cells #[.int .i64 x.d, .int .i64 x.f, .int .i64 x.t, .int .i64 x.i, .int .i64 x.b, .slice ba x.bs.length bc] 57 (0, 0)), (b1, .cells #[.int .i64 x.d, .int .i64 x.f, .int .i64 x.t, .int .i64 x.i, .int .i64 x.b, .slice ba x.bs.length bc] 57 (0, 0))]) := (S.new gG nN).perm (by first | exact List.Perm.refl _ | (rw [List.append_assoc]; exact List.Perm.refl _) | (simp only [List.append_assoc, List.nil_append, List.append_nil]; exact List.Perm.refl _))
    replace S : St _ _ _ ([(b2, .cells #[.int .i64 x.d, .int .i64 x.f, .int .i64 x.t, .int .i64 x.i, .int .i64 x.b, .slice ba x.bs.length bc] 57 (0, 0)), (b1, .cells #[.int .i64 x.d, .int .i64 x.f, .int .i64 x.t, .int .i64 x.i, .int .i64 x.b, .slice ba x.bs.length bc] 57 (0, 0))] ++ Hz) := S.perm (by classical rw [List.perm_iff_count]; intro x; simp only [List.count_append, List.count_cons, List.count_nil] <;> omega)
    refine L_op A rfl (by decide) rfl (y_assign (A.get (s := 15) rfl) fun ac A => ?_)
    replace A := A.keep [(0, .agg #[.int .i64 x.d, .int .i64 x.f, .int .i64 x.t, .int .i64 x.i, .int .i64 x.b, .slice ba x.bs.length bc]), (1, .pointer (some ⟨b1, 0, none⟩)), (2, .bool true), (14, .bool (!(fewN 0 [x])))] ⟨rfl, rfl, rfl, rfl, trivial⟩
    refine hK4 _ _ ?_
    exact wp_ret ⟨A.defers, _, res_run (rs := [.tmp 2]) (vs := [.bool true]) rfl ⟨A.get rfl, trivial⟩, ⟨_, rfl, S.kp.to_gr, _, rfl, S.newF⟩⟩
  · -- .bool (!(fewN 0 [x])) is false
    refine wp_skip ?_
    refine hK2 _ _ ?_
    refine wp_seq_k fun K5 hK5 => ?_
    refine region_seq ?_  -- region 3
    refine L_op A rfl (by decide) rfl (y_assign rfl fun ac A => ?_)
    replace A := A.keep [(0, .agg #[.int .i64 x.d, .int .i64 x.f, .int .i64 x.t, .int .i64 x.i, .int .i64 x.b, .slice ba x.bs.length bc]), (1, .pointer (some ⟨b1, 0, none⟩)), (2, .bool false), (3, .pointer none), (14, .bool (!(fewN 0 [x])))] ⟨rfl, rfl, rfl, rfl, rfl, trivial⟩
    refine hK5 _ _ ?_
    refine wp_seq_k fun K6 hK6 => ?_
    refine region_seq ?_  -- region 4
    refine L_op A rfl (by decide) rfl (y_move (A.get (s := 3) rfl) fun ac A => ?_)
    refine L_op A rfl (by decide) rfl (y_build0  (v := .agg #[.int .i64 0, .slice none 0 0, .map none, .map none]) (by kernel_rfl) fun ac A => ?_)
    refine L_op A rfl (by decide) rfl (y_boxN (A.get (s := 17) rfl) fun b3 w gG nN ac A => ?_)
    replace S : St _ _ _ [(b3, .cells #[.int .i64 0, .slice none 0 0, .map none, .map none] 69 (0, 0)), (b2, .cells #[.int .i64 x.d, .int .i64 x.f, .int .i64 x.t, .int .i64 x.i, .int .i64 x.b, .slice ba x.bs.length bc] 57 (0, 0)), (b1, .cells #[.int .i64 x.d, .int .i64 x.f, .int .i64 x.t, .int .i64 x.i, .int .i64 x.b, .slice ba x.bs.length bc] 57 (0, 0))] := S.new gG nN
    refine L_op A rfl (by decide) rfl (y_buildSlice2 (c := #[.pointer none, .pointer (some ⟨b3, 0, none⟩)]) (e := 24) (A.get (s := 16) rfl) (A.get (s := 18) rfl) (fun w => by kernel_rfl) fun b4 w gG nN ac A => ?_)
    replace S : St _ _ _ [(b4, .cells #[.pointer none, .pointer (some ⟨b3, 0, none⟩)] 24 (0, 0)), (b3, .cells #[.int .i64 0, .slice none 0 0, .map none, .map none] 69 (0, 0)), (b2, .cells #[.int .i64 x.d, .int .i64 x.f, .int .i64 x.t, .int .i64 x.i, .int .i64 x.b, .slice ba x.bs.length bc] 57 (0, 0)), (b1, .cells #[.int .i64 x.d, .int .i64 x.f, .int .i64 x.t, .int .i64 x.i, .int .i64 x.b, .slice ba x.bs.length bc] 57 (0, 0))] := S.new gG nN
    refine L_op A rfl (by decide) rfl (y_assign (A.get (s := 19) rfl) fun ac A => ?_)
    replace A := A.keep [(0, .agg #[.int .i64 x.d, .int .i64 x.f, .int .i64 x.t, .int .i64 x.i, .int .i64 x.b, .slice ba x.bs.length bc]), (1, .pointer (some ⟨b1, 0, none⟩)), (2, .bool false), (3, .pointer none), (4, .slice (some ⟨b4, 0, none⟩) 2 2), (14, .bool (!(fewN 0 [x])))] ⟨rfl, rfl, rfl, rfl, rfl, rfl, trivial⟩
    refine hK6 _ _ ?_
    refine wp_seq_k fun K7 hK7 => ?_
    refine wp_seq_k fun K8 hK8 => ?_
    refine region_seq ?_  -- region 5
    refine L_op A rfl (by decide) rfl (y_assign rfl fun ac A => ?_)
    replace A := A.keep [(0, .agg #[.int .i64 x.d, .int .i64 x.f, .int .i64 x.t, .int .i64 x.i, .int .i64 x.b, .slice ba x.bs.length bc]), (1, .pointer (some ⟨b1, 0, none⟩)), (2, .bool false), (3, .pointer none), (4, .slice (some ⟨b4, 0, none⟩) 2 2), (5, .int .i64 0), (14, .bool (!(fewN 0 [x])))] ⟨rfl, rfl, rfl, rfl, rfl, rfl, rfl, trivial⟩
    refine hK8 _ _ ?_
    refine wp_block ?_
    replace A := A.keep [(1, .pointer (some ⟨b1, 0, none⟩)), (4, .slice (some ⟨b4, 0, none⟩) 2 2), (5, .int .i64 0)] ⟨rfl, rfl, rfl, trivial⟩
    refine wp_loop_ghost (fun kk ac w' => ∃ (i : Nat) (G : Frag), kk + i = 2 ∧ Sl 162 ac [(1, .pointer (some ⟨b1, 0, none⟩)), (4, .slice (some ⟨b4, 0, none⟩) 2 2), (5, .int .i64 ((i : Nat) : Int))] ∧ St [] w0 w' ([(b4, .cells #[.pointer none, .pointer (some ⟨b3, 0, none⟩)] 24 (0, 0)), (b3, .cells #[.int .i64 0, .slice none 0 0, .map none, .map none] 69 (0, 0)), (b2, .cells #[.int .i64 x.d, .int .i64 x.f, .int .i64 x.t, .int .i64 x.i, .int .i64 x.b, .slice ba x.bs.length bc] 57 (0, 0)), (b1, .cells #[.int .i64 x.d, .int .i64 x.f, .int .i64 x.t, .int .i64 x.i, .int .i64 x.b, .slice ba x.bs.length bc] 57 (0, 0))] ++ G)) 2 ⟨0, [], rfl, A, S.perm (by rw [List.append_nil])⟩ ?_
    clear A S
    rintro kk ac w2 ⟨i, G, hkk, A, S⟩
    rcases Nat.lt_or_ge i 2 with hi | hi
    · skip
      obtain ⟨r, hr, hno⟩ : ∃ r, (#[.pointer none, .pointer (some ⟨b3, 0, none⟩)] : Array Value)[i]? = some r ∧ NoNet w2 r := by
        have hz := S.get 1 rfl
        match i, hi with
        | 0, _ => exact ⟨_, rfl, Or.inl rfl⟩
        | 1, _ => exact ⟨_, rfl, Or.inr ⟨_, rfl, hz⟩⟩
      have G0 : Gr w2 w2 := Gr.refl w2
      refine wp_seq_k fun K9 hK9 => ?_
      refine wp_seq_k fun K10 hK10 => ?_
      refine region_seq ?_  -- region 6
      refine L_op A rfl (by decide) rfl (y_move (A.get (s := 5) rfl) fun ac A => ?_)
      refine L_op A rfl (by decide) rfl (y_move (A.get (s := 4) rfl) fun ac A => ?_)
      refine L_op A rfl (by decide) rfl (y_lenS (e := 24) (by kernel_rfl) (A.get (s := 21) rfl) fun ac A => ?_)
      refine L_op A rfl (by decide) rfl (y_lss (A.get (s := 20) rfl) (A.get (s := 22) rfl) (c := true) (decide_eq_true (by omega)) fun ac A => ?_)
      replace A := A.keep [(1, .pointer (some ⟨b1, 0, none⟩)), (4, .slice (some ⟨b4, 0, none⟩) 2 2), (5, .int .i64 (((i : Nat) : Int))), (23, .bool true)] ⟨rfl, rfl, rfl, rfl, trivial⟩
      refine hK10 _ _ ?_
      refine wp_cond_true (A.get rfl) ?_
      refine wp_skip ?_
      refine hK9 _ _ ?_
      refine wp_seq_k fun K11 hK11 => ?_
      refine wp_block ?_
      refine wp_seq_k fun K12 hK12 => ?_
      refine region_seq ?_  -- region 8
      refine L_op A rfl (by decide) rfl (y_move (A.get (s := 4) rfl) fun ac A => ?_)
      refine L_op A rfl (by decide) rfl (y_move (A.get (s := 5) rfl) fun ac A => ?_)
      refine L_op A rfl (by decide) rfl (y_indexA (e := 24) (size := 1) (by kernel_rfl) (by kernel_rfl) (A.get (s := 26) rfl) (A.get (s := 27) rfl) (by omega) (by omega) fun ac A => ?_)
      refine L_op A rfl (by decide) rfl (y_load (by kernel_rfl) (A.get (s := 28) rfl) ((congrArg _ (add_eq _ _ _)).trans ((cell_of (S.get 0 rfl) _).trans (by simpa using hr))) fun ac A => ?_)
      refine L_op A rfl (by decide) rfl (y_assign (A.get (s := 29) rfl) fun ac A => ?_)
      replace A := A.keep [(1, .pointer (some ⟨b1, 0, none⟩)), (4, .slice (some ⟨b4, 0, none⟩) 2 2), (5, .int .i64 (((i : Nat) : Int))), (6, r), (23, .bool true)] ⟨rfl, rfl, rfl, rfl, rfl, trivial⟩
      refine hK12 _ _ ?_
      refine wp_seq_k fun K13 hK13 => ?_
      refine region_seq ?_  -- region 9
      refine L_op A rfl (by decide) rfl (y_move (A.get (s := 6) rfl) fun ac A => ?_)
      refine L_op A rfl (by decide) rfl (y_fieldAddr (off := 1) (j := 1) (by kernel_rfl) (A.get (s := 1) rfl) (by first | rfl | omega) fun ac A => ?_)
      refine L_op A rfl (by decide) rfl (y_load (by kernel_rfl) (A.get (s := 32) rfl) ((cell_of (S.get 3 rfl) _).trans rfl) fun ac A => ?_)
      refine L_op A rfl (by decide) rfl (y_fieldAddr (off := 2) (j := 2) (by kernel_rfl) (A.get (s := 1) rfl) (by first | rfl | omega) fun ac A => ?_)
      replace A := A.keep [(1, .pointer (some ⟨b1, 0, none⟩)), (4, .slice (some ⟨b4, 0, none⟩) 2 2), (5, .int .i64 (((i : Nat) : Int))), (6, r), (23, .bool true), (31, r), (33, .int .i64 x.f), (34, .pointer (some ⟨b1, 2, none⟩))] ⟨rfl, rfl, rfl, rfl, rfl, rfl, rfl, rfl, trivial⟩
      refine L_op A rfl (by decide) rfl (y_load (by kernel_rfl) (A.get (s := 34) rfl) ((cell_of (S.get 3 rfl) _).trans rfl) fun ac A => ?_)
      refine L_op A rfl (by decide) rfl (y_fieldAddr (off := 3) (j := 3) (by kernel_rfl) (A.get (s := 1) rfl) (by first | rfl | omega) fun ac A => ?_)
      refine L_op A rfl (by decide) rfl (y_load (by kernel_rfl) (A.get (s := 36) rfl) ((cell_of (S.get 3 rfl) _).trans rfl) fun ac A => ?_)
      refine L_op A rfl (by decide) rfl (y_call4 (by kernel_rfl) rfl (A.get (s := 31) rfl) (A.get (s := 33) rfl) (A.get (s := 35) rfl) (A.get (s := 37) rfl) (callN (peek_no (hno.gr G0) ha hb) fun v w H gG nN hf ac A => ?_))
      obtain ⟨rfl, rfl⟩ := hf
      replace S : St _ _ _ ([(b4, .cells #[.pointer none, .pointer (some ⟨b3, 0, none⟩)] 24 (0, 0)), (b3, .cells #[.int .i64 0, .slice none 0 0, .map none, .map none] 69 (0, 0)), (b2, .cells #[.int .i64 x.d, .int .i64 x.f, .int .i64 x.t, .int .i64 x.i, .int .i64 x.b, .slice ba x.bs.length bc] 57 (0, 0)), (b1, .cells #[.int .i64 x.d, .int .i64 x.f, .int .i64 x.t, .int .i64 x.i, .int .i64 x.b, .slice ba x.bs.length bc] 57 (0, 0))] ++ G) := (S.new gG nN).perm (by first | exact List.Perm.refl _ | (rw [List.append_assoc]; exact List.Perm.refl _) | (simp only [List.append_assoc, List.nil_append, List.append_nil]; exact List.Perm.refl _))
      replace G0 := G0.trans gG
      replace A := A.keep [(1, .pointer (some ⟨b1, 0, none⟩)), (4, .slice (some ⟨b4, 0, none⟩) 2 2), (5, .int .i64 (((i : Nat) : Int))), (6, r), (23, .bool true), (38, .tuple #[.slice none 0 0, .int .i64 1])] ⟨rfl, rfl, rfl, rfl, rfl, rfl, trivial⟩
      refine L_op A rfl (by decide) rfl (y_move (A.get (s := 38) rfl) fun ac A => ?_)
      refine L_op A rfl (by decide) rfl (y_extract (A.get (s := 30) rfl) rfl fun ac A => ?_)
      refine L_op A rfl (by decide) rfl (y_extract (A.get (s := 30) rfl) rfl fun ac A => ?_)
      refine L_op A rfl (by decide) rfl (y_assign (A.get (s := 39) rfl) fun ac A => ?_)
      replace A := A.keep [(1, .pointer (some ⟨b1, 0, none⟩)), (4, .slice (some ⟨b4, 0, none⟩) 2 2), (5, .int .i64 (((i : Nat) : Int))), (6, r), (23, .bool true), (40, .int .i64 1)] ⟨rfl, rfl, rfl, rfl, rfl, rfl, trivial⟩
      refine L_op A rfl (by decide) rfl (y_assign (A.get (s := 40) rfl) fun ac A => ?_)
      replace A := A.keep [(1, .pointer (some ⟨b1, 0, none⟩)), (4, .slice (some ⟨b4, 0, none⟩) 2 2), (5, .int .i64 (((i : Nat) : Int))), (6, r), (8, .int .i64 1), (23, .bool true)] ⟨rfl, rfl, rfl, rfl, rfl, rfl, trivial⟩
      refine hK13 _ _ ?_
      refine wp_seq_k fun K14 hK14 => ?_
      refine region_seq ?_  -- region 10
      refine L_op A rfl (by decide) rfl (y_move (A.get (s := 6) rfl) fun ac A => ?_)
      refine L_op A rfl (by decide) rfl (y_fieldAddr (off := 1) (j := 1) (by kernel_rfl) (A.get (s := 1) rfl) (by first | rfl | omega) fun ac A => ?_)
      refine L_op A rfl (by decide) rfl (y_load (by kernel_rfl) (A.get (s := 43) rfl) ((cell_of (S.get 3 rfl) _).trans rfl) fun ac A => ?_)
      refine L_op A rfl (by decide) rfl (y_fieldAddr (off := 2) (j := 2) (by kernel_rfl) (A.get (s := 1) rfl) (by first | rfl | omega) fun ac A => ?_)
      replace A := A.keep [(1, .pointer (some ⟨b1, 0, none⟩)), (4, .slice (some ⟨b4, 0, none⟩) 2 2), (5, .int .i64 (((i : Nat) : Int))), (6, r), (8, .int .i64 1), (23, .bool true), (42, r), (44, .int .i64 x.f), (45, .pointer (some ⟨b1, 2, none⟩))] ⟨rfl, rfl, rfl, rfl, rfl, rfl, rfl, rfl, rfl, trivial⟩
      refine L_op A rfl (by decide) rfl (y_load (by kernel_rfl) (A.get (s := 45) rfl) ((cell_of (S.get 3 rfl) _).trans rfl) fun ac A => ?_)
      refine L_op A rfl (by decide) rfl (y_fieldAddr (off := 3) (j := 3) (by kernel_rfl) (A.get (s := 1) rfl) (by first | rfl | omega) fun ac A => ?_)
      refine L_op A rfl (by decide) rfl (y_load (by kernel_rfl) (A.get (s := 47) rfl) ((cell_of (S.get 3 rfl) _).trans rfl) fun ac A => ?_)
      refine L_op A rfl (by decide) rfl (y_call4 (by kernel_rfl) rfl (A.get (s := 42) rfl) (A.get (s := 44) rfl) (A.get (s := 46) rfl) (A.get (s := 48) rfl) (callN (take_no (hno.gr G0) ha hb) fun v w H gG nN hf ac A => ?_))
      obtain ⟨rfl, rfl⟩ := hf
      replace S : St _ _ _ ([(b4, .cells #[.pointer none, .pointer (some ⟨b3, 0, none⟩)] 24 (0, 0)), (b3, .cells #[.int .i64 0, .slice none 0 0, .map none, .map none] 69 (0, 0)), (b2, .cells #[.int .i64 x.d, .int .i64 x.f, .int .i64 x.t, .int .i64 x.i, .int .i64 x.b, .slice ba x.bs.length bc] 57 (0, 0)), (b1, .cells #[.int .i64 x.d, .int .i64 x.f, .int .i64 x.t, .int .i64 x.i, .int .i64 x.b, .slice ba x.bs.length bc] 57 (0, 0))] ++ G) := (S.new gG nN).perm (by first | exact List.Perm.refl _ | (rw [List.append_assoc]; exact List.Perm.refl _) | (simp only [List.append_assoc, List.nil_append, List.append_nil]; exact List.Perm.refl _))
      replace G0 := G0.trans gG
      replace A := A.keep [(1, .pointer (some ⟨b1, 0, none⟩)), (4, .slice (some ⟨b4, 0, none⟩) 2 2), (5, .int .i64 (((i : Nat) : Int))), (6, r), (8, .int .i64 1), (23, .bool true), (49, .tuple #[.slice none 0 0, .int .i64 1])] ⟨rfl, rfl, rfl, rfl, rfl, rfl, rfl, trivial⟩
      refine L_op A rfl (by decide) rfl (y_move (A.get (s := 49) rfl) fun ac A => ?_)
      refine L_op A rfl (by decide) rfl (y_extract (A.get (s := 41) rfl) rfl fun ac A => ?_)
      refine L_op A rfl (by decide) rfl (y_extract (A.get (s := 41) rfl) rfl fun ac A => ?_)
      refine L_op A rfl (by decide) rfl (y_assign (A.get (s := 50) rfl) fun ac A => ?_)
      replace A := A.keep [(1, .pointer (some ⟨b1, 0, none⟩)), (4, .slice (some ⟨b4, 0, none⟩) 2 2), (5, .int .i64 (((i : Nat) : Int))), (6, r), (8, .int .i64 1), (23, .bool true), (51, .int .i64 1)] ⟨rfl, rfl, rfl, rfl, rfl, rfl, rfl, trivial⟩
      refine L_op A rfl (by decide) rfl (y_assign (A.get (s := 51) rfl) fun ac A => ?_)
      replace A := A.keep [(1, .pointer (some ⟨b1, 0, none⟩)), (4, .slice (some ⟨b4, 0, none⟩) 2 2), (5, .int .i64 (((i : Nat) : Int))), (6, r), (8, .int .i64 1), (10, .int .i64 1), (23, .bool true)] ⟨rfl, rfl, rfl, rfl, rfl, rfl, rfl, trivial⟩
      refine hK14 _ _ ?_
      refine wp_seq_k fun K15 hK15 => ?_
      refine wp_seq_k fun K16 hK16 => ?_
      refine region_seq ?_  -- region 11
      refine L_op A rfl (by decide) rfl (y_move (A.get (s := 8) rfl) fun ac A => ?_)
      refine L_op A rfl (by decide) rfl (y_neq (A.get (s := 52) rfl) rfl (c := false) (by decide) fun ac A => ?_)
      refine L_op A rfl (by decide) rfl (y_move (A.get (s := 53) rfl) fun ac A => ?_)
      refine L_yes A rfl (by decide) rfl rfl (by decide) (A.get rfl) (y_move (A.get (s := 10) rfl) fun ac A => ?_)
      replace A := A.keep [(1, .pointer (some ⟨b1, 0, none⟩)), (4, .slice (some ⟨b4, 0, none⟩) 2 2), (5, .int .i64 (((i : Nat) : Int))), (6, r), (8, .int .i64 1), (10, .int .i64 1), (23, .bool true), (54, .bool false), (55, .int .i64 1)] ⟨rfl, rfl, rfl, rfl, rfl, rfl, rfl, rfl, rfl, trivial⟩
      refine L_yes A rfl (by decide) rfl rfl (by decide) (A.get rfl) (y_neq (A.get (s := 55) rfl) rfl (c := false) (by decide) fun ac A => ?_)
      refine L_op A rfl (by decide) rfl (y_pickF (A.get (s := 54) rfl) (A.get (s := 56) rfl) fun ac A => ?_)
      refine L_op A rfl (by decide) rfl (y_move (A.get (s := 57) rfl) fun ac A => ?_)
      refine L_yes A rfl (by decide) rfl rfl (by decide) (A.get rfl) (y_move (A.get (s := 6) rfl) fun ac A => ?_)
      replace A := A.keep [(1, .pointer (some ⟨b1, 0, none⟩)), (4, .slice (some ⟨b4, 0, none⟩) 2 2), (5, .int .i64 (((i : Nat) : Int))), (6, r), (8, .int .i64 1), (10, .int .i64 1), (23, .bool true), (58, .bool false), (59, r)] ⟨rfl, rfl, rfl, rfl, rfl, rfl, rfl, rfl, rfl, trivial⟩
      refine L_yes A rfl (by decide) rfl rfl (by decide) (A.get rfl) (y_fieldAddr (off := 1) (j := 1) (by kernel_rfl) (A.get (s := 1) rfl) (by first | rfl | omega) fun ac A => ?_)
      refine L_yes A rfl (by decide) rfl rfl (by decide) (A.get rfl) (y_load (by kernel_rfl) (A.get (s := 60) rfl) ((cell_of (S.get 3 rfl) _).trans rfl) fun ac A => ?_)
      refine L_yes A rfl (by decide) rfl rfl (by decide) (A.get rfl) (y_fieldAddr (off := 2) (j := 2) (by kernel_rfl) (A.get (s := 1) rfl) (by first | rfl | omega) fun ac A => ?_)
      refine L_yes A rfl (by decide) rfl rfl (by decide) (A.get rfl) (y_load (by kernel_rfl) (A.get (s := 62) rfl) ((cell_of (S.get 3 rfl) _).trans rfl) fun ac A => ?_)
      replace A := A.keep [(1, .pointer (some ⟨b1, 0, none⟩)), (4, .slice (some ⟨b4, 0, none⟩) 2 2), (5, .int .i64 (((i : Nat) : Int))), (6, r), (8, .int .i64 1), (10, .int .i64 1), (23, .bool true), (58, .bool false), (59, r), (61, .int .i64 x.f), (63, .int .i64 x.t)] ⟨rfl, rfl, rfl, rfl, rfl, rfl, rfl, rfl, rfl, rfl, rfl, trivial⟩
      refine L_yes A rfl (by decide) rfl rfl (by decide) (A.get rfl) (y_fieldAddr (off := 3) (j := 3) (by kernel_rfl) (A.get (s := 1) rfl) (by first | rfl | omega) fun ac A => ?_)
      refine L_yes A rfl (by decide) rfl rfl (by decide) (A.get rfl) (y_load (by kernel_rfl) (A.get (s := 64) rfl) ((cell_of (S.get 3 rfl) _).trans rfl) fun ac A => ?_)
      refine L_yes A rfl (by decide) rfl rfl (by decide) (A.get rfl) (y_call4 (by kernel_rfl) rfl (A.get (s := 59) rfl) (A.get (s := 61) rfl) (A.get (s := 63) rfl) (A.get (s := 65) rfl) (callN (drop_no (hno.gr G0) ha hb) fun v w H gG nN hf ac A => ?_))
      obtain ⟨rfl, rfl⟩ := hf
      replace S : St _ _ _ ([(b4, .cells #[.pointer none, .pointer (some ⟨b3, 0, none⟩)] 24 (0, 0)), (b3, .cells #[.int .i64 0, .slice none 0 0, .map none, .map none] 69 (0, 0)), (b2, .cells #[.int .i64 x.d, .int .i64 x.f, .int .i64 x.t, .int .i64 x.i, .int .i64 x.b, .slice ba x.bs.length bc] 57 (0, 0)), (b1, .cells #[.int .i64 x.d, .int .i64 x.f, .int .i64 x.t, .int .i64 x.i, .int .i64 x.b, .slice ba x.bs.length bc] 57 (0, 0))] ++ G) := (S.new gG nN).perm (by first | exact List.Perm.refl _ | (rw [List.append_assoc]; exact List.Perm.refl _) | (simp only [List.append_assoc, List.nil_append, List.append_nil]; exact List.Perm.refl _))
      replace G0 := G0.trans gG
      refine L_yes A rfl (by decide) rfl rfl (by decide) (A.get rfl) (y_neq (A.get (s := 66) rfl) rfl (c := false) (by decide) fun ac A => ?_)
      replace A := A.keep [(1, .pointer (some ⟨b1, 0, none⟩)), (4, .slice (some ⟨b4, 0, none⟩) 2 2), (5, .int .i64 (((i : Nat) : Int))), (6, r), (8, .int .i64 1), (10, .int .i64 1), (23, .bool true), (58, .bool false), (67, .bool false)] ⟨rfl, rfl, rfl, rfl, rfl, rfl, rfl, rfl, rfl, trivial⟩
      refine L_op A rfl (by decide) rfl (y_pickF (A.get (s := 58) rfl) (A.get (s := 67) rfl) fun ac A => ?_)
      refine L_op A rfl (by decide) rfl (y_move (A.get (s := 68) rfl) fun ac A => ?_)
      refine L_yes A rfl (by decide) rfl rfl (by decide) (A.get rfl) (y_move (A.get (s := 6) rfl) fun ac A => ?_)
      refine L_yes A rfl (by decide) rfl rfl (by decide) (A.get rfl) (y_fieldAddr (off := 1) (j := 1) (by kernel_rfl) (A.get (s := 1) rfl) (by first | rfl | omega) fun ac A => ?_)
      replace A := A.keep [(1, .pointer (some ⟨b1, 0, none⟩)), (4, .slice (some ⟨b4, 0, none⟩) 2 2), (5, .int .i64 (((i : Nat) : Int))), (6, r), (8, .int .i64 1), (10, .int .i64 1), (23, .bool true), (69, .bool false), (70, r), (71, .pointer (some ⟨b1, 1, none⟩))] ⟨rfl, rfl, rfl, rfl, rfl, rfl, rfl, rfl, rfl, rfl, trivial⟩
      refine L_yes A rfl (by decide) rfl rfl (by decide) (A.get rfl) (y_load (by kernel_rfl) (A.get (s := 71) rfl) ((cell_of (S.get 3 rfl) _).trans rfl) fun ac A => ?_)
      refine L_yes A rfl (by decide) rfl rfl (by decide) (A.get rfl) (y_fieldAddr (off := 2) (j := 2) (by kernel_rfl) (A.get (s := 1) rfl) (by first | rfl | omega) fun ac A => ?_)
      refine L_yes A rfl (by decide) rfl rfl (by decide) (A.get rfl) (y_load (by kernel_rfl) (A.get (s := 73) rfl) ((cell_of (S.get 3 rfl) _).trans rfl) fun ac A => ?_)
      refine L_yes A rfl (by decide) rfl rfl (by decide) (A.get rfl) (y_fieldAddr (off := 3) (j := 3) (by kernel_rfl) (A.get (s := 1) rfl) (by first | rfl | omega) fun ac A => ?_)
      replace A := A.keep [(1, .pointer (some ⟨b1, 0, none⟩)), (4, .slice (some ⟨b4, 0, none⟩) 2 2), (5, .int .i64 (((i : Nat) : Int))), (6, r), (8, .int .i64 1), (10, .int .i64 1), (23, .bool true), (69, .bool false), (70, r), (72, .int .i64 x.f), (74, .int .i64 x.t), (75, .pointer (some ⟨b1, 3, none⟩))] ⟨rfl, rfl, rfl, rfl, rfl, rfl, rfl, rfl, rfl, rfl, rfl, rfl, trivial⟩
      refine L_yes A rfl (by decide) rfl rfl (by decide) (A.get rfl) (y_load (by kernel_rfl) (A.get (s := 75) rfl) ((cell_of (S.get 3 rfl) _).trans rfl) fun ac A => ?_)
      refine L_yes A rfl (by decide) rfl rfl (by decide) (A.get rfl) (y_call4 (by kernel_rfl) rfl (A.get (s := 70) rfl) (A.get (s := 72) rfl) (A.get (s := 74) rfl) (A.get (s := 76) rfl) (callN (double_no (hno.gr G0) ha hb) fun v w H gG nN hf ac A => ?_))
      obtain ⟨rfl, rfl⟩ := hf
      replace S : St _ _ _ ([(b4, .cells #[.pointer none, .pointer (some ⟨b3, 0, none⟩)] 24 (0, 0)), (b3, .cells #[.int .i64 0, .slice none 0 0, .map none, .map none] 69 (0, 0)), (b2, .cells #[.int .i64 x.d, .int .i64 x.f, .int .i64 x.t, .int .i64 x.i, .int .i64 x.b, .slice ba x.bs.length bc] 57 (0, 0)), (b1, .cells #[.int .i64 x.d, .int .i64 x.f, .int .i64 x.t, .int .i64 x.i, .int .i64 x.b, .slice ba x.bs.length bc] 57 (0, 0))] ++ G) := (S.new gG nN).perm (by first | exact List.Perm.refl _ | (rw [List.append_assoc]; exact List.Perm.refl _) | (simp only [List.append_assoc, List.nil_append, List.append_nil]; exact List.Perm.refl _))
      replace G0 := G0.trans gG
      refine L_yes A rfl (by decide) rfl rfl (by decide) (A.get rfl) (y_neq (A.get (s := 77) rfl) rfl (c := false) (by decide) fun ac A => ?_)
      refine L_op A rfl (by decide) rfl (y_pickF (A.get (s := 69) rfl) (A.get (s := 78) rfl) fun ac A => ?_)
      replace A := A.keep [(1, .pointer (some ⟨b1, 0, none⟩)), (4, .slice (some ⟨b4, 0, none⟩) 2 2), (5, .int .i64 (((i : Nat) : Int))), (6, r), (8, .int .i64 1), (10, .int .i64 1), (23, .bool true), (79, .bool false)] ⟨rfl, rfl, rfl, rfl, rfl, rfl, rfl, rfl, trivial⟩
      refine L_op A rfl (by decide) rfl (y_move (A.get (s := 79) rfl) fun ac A => ?_)
      refine L_yes A rfl (by decide) rfl rfl (by decide) (A.get rfl) (y_move (A.get (s := 6) rfl) fun ac A => ?_)
      refine L_yes A rfl (by decide) rfl rfl (by decide) (A.get rfl) (y_fieldAddr (off := 1) (j := 1) (by kernel_rfl) (A.get (s := 1) rfl) (by first | rfl | omega) fun ac A => ?_)
      refine L_yes A rfl (by decide) rfl rfl (by decide) (A.get rfl) (y_load (by kernel_rfl) (A.get (s := 82) rfl) ((cell_of (S.get 3 rfl) _).trans rfl) fun ac A => ?_)
      replace A := A.keep [(1, .pointer (some ⟨b1, 0, none⟩)), (4, .slice (some ⟨b4, 0, none⟩) 2 2), (5, .int .i64 (((i : Nat) : Int))), (6, r), (8, .int .i64 1), (10, .int .i64 1), (23, .bool true), (80, .bool false), (81, r), (83, .int .i64 x.f)] ⟨rfl, rfl, rfl, rfl, rfl, rfl, rfl, rfl, rfl, rfl, trivial⟩
      refine L_yes A rfl (by decide) rfl rfl (by decide) (A.get rfl) (y_fieldAddr (off := 2) (j := 2) (by kernel_rfl) (A.get (s := 1) rfl) (by first | rfl | omega) fun ac A => ?_)
      refine L_yes A rfl (by decide) rfl rfl (by decide) (A.get rfl) (y_load (by kernel_rfl) (A.get (s := 84) rfl) ((cell_of (S.get 3 rfl) _).trans rfl) fun ac A => ?_)
      refine L_yes A rfl (by decide) rfl rfl (by decide) (A.get rfl) (y_fieldAddr (off := 3) (j := 3) (by kernel_rfl) (A.get (s := 1) rfl) (by first | rfl | omega) fun ac A => ?_)
      refine L_yes A rfl (by decide) rfl rfl (by decide) (A.get rfl) (y_load (by kernel_rfl) (A.get (s := 86) rfl) ((cell_of (S.get 3 rfl) _).trans rfl) fun ac A => ?_)
      replace A := A.keep [(1, .pointer (some ⟨b1, 0, none⟩)), (4, .slice (some ⟨b4, 0, none⟩) 2 2), (5, .int .i64 (((i : Nat) : Int))), (6, r), (8, .int .i64 1), (10, .int .i64 1), (23, .bool true), (80, .bool false), (81, r), (83, .int .i64 x.f), (85, .int .i64 x.t), (87, .int .i64 x.i)] ⟨rfl, rfl, rfl, rfl, rfl, rfl, rfl, rfl, rfl, rfl, rfl, rfl, trivial⟩
      refine L_yes A rfl (by decide) rfl rfl (by decide) (A.get rfl) (y_fieldAddr (off := 4) (j := 4) (by kernel_rfl) (A.get (s := 1) rfl) (by first | rfl | omega) fun ac A => ?_)
      refine L_yes A rfl (by decide) rfl rfl (by decide) (A.get rfl) (y_load (by kernel_rfl) (A.get (s := 88) rfl) ((cell_of (S.get 3 rfl) _).trans rfl) fun ac A => ?_)
      refine L_yes A rfl (by decide) rfl rfl (by decide) (A.get rfl) (y_call5 (by kernel_rfl) rfl (A.get (s := 81) rfl) (A.get (s := 83) rfl) (A.get (s := 85) rfl) (A.get (s := 87) rfl) (A.get (s := 89) rfl) (callN (spoil_no (hno.gr G0) ha hb) fun v w H gG nN hf ac A => ?_))
      obtain ⟨rfl, rfl⟩ := hf
      replace S : St _ _ _ ([(b4, .cells #[.pointer none, .pointer (some ⟨b3, 0, none⟩)] 24 (0, 0)), (b3, .cells #[.int .i64 0, .slice none 0 0, .map none, .map none] 69 (0, 0)), (b2, .cells #[.int .i64 x.d, .int .i64 x.f, .int .i64 x.t, .int .i64 x.i, .int .i64 x.b, .slice ba x.bs.length bc] 57 (0, 0)), (b1, .cells #[.int .i64 x.d, .int .i64 x.f, .int .i64 x.t, .int .i64 x.i, .int .i64 x.b, .slice ba x.bs.length bc] 57 (0, 0))] ++ G) := (S.new gG nN).perm (by first | exact List.Perm.refl _ | (rw [List.append_assoc]; exact List.Perm.refl _) | (simp only [List.append_assoc, List.nil_append, List.append_nil]; exact List.Perm.refl _))
      replace G0 := G0.trans gG
      refine L_yes A rfl (by decide) rfl rfl (by decide) (A.get rfl) (y_neq (A.get (s := 90) rfl) rfl (c := false) (by decide) fun ac A => ?_)
      replace A := A.keep [(1, .pointer (some ⟨b1, 0, none⟩)), (4, .slice (some ⟨b4, 0, none⟩) 2 2), (5, .int .i64 (((i : Nat) : Int))), (6, r), (8, .int .i64 1), (10, .int .i64 1), (23, .bool true), (80, .bool false), (91, .bool false)] ⟨rfl, rfl, rfl, rfl, rfl, rfl, rfl, rfl, rfl, trivial⟩
      refine L_op A rfl (by decide) rfl (y_pickF (A.get (s := 80) rfl) (A.get (s := 91) rfl) fun ac A => ?_)
      replace A := A.keep [(1, .pointer (some ⟨b1, 0, none⟩)), (4, .slice (some ⟨b4, 0, none⟩) 2 2), (5, .int .i64 (((i : Nat) : Int))), (6, r), (8, .int .i64 1), (10, .int .i64 1), (23, .bool true), (92, .bool false)] ⟨rfl, rfl, rfl, rfl, rfl, rfl, rfl, rfl, trivial⟩
      refine hK16 _ _ ?_
      refine wp_cond_false (A.get rfl) ?_
      refine wp_skip ?_
      refine hK15 _ _ ?_
      refine wp_seq_k fun K17 hK17 => ?_
      refine region_seq ?_  -- region 13
      refine L_op A rfl (by decide) rfl (y_move (A.get (s := 6) rfl) fun ac A => ?_)
      refine L_op A rfl (by decide) rfl (y_fieldAddr (off := 1) (j := 1) (by kernel_rfl) (A.get (s := 1) rfl) (by first | rfl | omega) fun ac A => ?_)
      refine L_op A rfl (by decide) rfl (y_load (by kernel_rfl) (A.get (s := 94) rfl) ((cell_of (S.get 3 rfl) _).trans rfl) fun ac A => ?_)
      refine L_op A rfl (by decide) rfl (y_fieldAddr (off := 2) (j := 2) (by kernel_rfl) (A.get (s := 1) rfl) (by first | rfl | omega) fun ac A => ?_)
      replace A := A.keep [(1, .pointer (some ⟨b1, 0, none⟩)), (4, .slice (some ⟨b4, 0, none⟩) 2 2), (5, .int .i64 (((i : Nat) : Int))), (6, r), (8, .int .i64 1), (10, .int .i64 1), (23, .bool true), (92, .bool false), (93, r), (95, .int .i64 x.f), (96, .pointer (some ⟨b1, 2, none⟩))] ⟨rfl, rfl, rfl, rfl, rfl, rfl, rfl, rfl, rfl, rfl, rfl, trivial⟩
      refine L_op A rfl (by decide) rfl (y_load (by kernel_rfl) (A.get (s := 96) rfl) ((cell_of (S.get 3 rfl) _).trans rfl) fun ac A => ?_)
      refine L_op A rfl (by decide) rfl (y_fieldAddr (off := 5) (j := 5) (by kernel_rfl) (A.get (s := 1) rfl) (by first | rfl | omega) fun ac A => ?_)
      refine L_op A rfl (by decide) rfl (y_load (by kernel_rfl) (A.get (s := 98) rfl) ((cell_of (S.get 3 rfl) _).trans rfl) fun ac A => ?_)
      refine L_op A rfl (by decide) rfl (y_call4 (by kernel_rfl) rfl (A.get (s := 93) rfl) (A.get (s := 95) rfl) (A.get (s := 97) rfl) (A.get (s := 99) rfl) (callN (send_no (hno.gr G0) ha hb) fun v w H gG nN hf ac A => ?_))
      obtain ⟨rfl, rfl⟩ := hf
      replace S : St _ _ _ ([(b4, .cells #[.pointer none, .pointer (some ⟨b3, 0, none⟩)] 24 (0, 0)), (b3, .cells #[.int .i64 0, .slice none 0 0, .map none, .map none] 69 (0, 0)), (b2, .cells #[.int .i64 x.d, .int .i64 x.f, .int .i64 x.t, .int .i64 x.i, .int .i64 x.b, .slice ba x.bs.length bc] 57 (0, 0)), (b1, .cells #[.int .i64 x.d, .int .i64 x.f, .int .i64 x.t, .int .i64 x.i, .int .i64 x.b, .slice ba x.bs.length bc] 57 (0, 0))] ++ G) := (S.new gG nN).perm (by first | exact List.Perm.refl _ | (rw [List.append_assoc]; exact List.Perm.refl _) | (simp only [List.append_assoc, List.nil_append, List.append_nil]; exact List.Perm.refl _))
      replace G0 := G0.trans gG
      replace A := A.keep [(1, .pointer (some ⟨b1, 0, none⟩)), (4, .slice (some ⟨b4, 0, none⟩) 2 2), (5, .int .i64 (((i : Nat) : Int))), (6, r), (8, .int .i64 1), (10, .int .i64 1), (23, .bool true), (92, .bool false), (100, .int .i64 1)] ⟨rfl, rfl, rfl, rfl, rfl, rfl, rfl, rfl, rfl, trivial⟩
      refine L_op A rfl (by decide) rfl (y_neq (A.get (s := 100) rfl) rfl (c := false) (by decide) fun ac A => ?_)
      refine L_op A rfl (by decide) rfl (y_move (A.get (s := 101) rfl) fun ac A => ?_)
      refine L_yes A rfl (by decide) rfl rfl (by decide) (A.get rfl) (y_move (A.get (s := 6) rfl) fun ac A => ?_)
      refine L_yes A rfl (by decide) rfl rfl (by decide) (A.get rfl) (y_fieldAddr (off := 1) (j := 1) (by kernel_rfl) (A.get (s := 1) rfl) (by first | rfl | omega) fun ac A => ?_)
      replace A := A.keep [(1, .pointer (some ⟨b1, 0, none⟩)), (4, .slice (some ⟨b4, 0, none⟩) 2 2), (5, .int .i64 (((i : Nat) : Int))), (6, r), (8, .int .i64 1), (10, .int .i64 1), (23, .bool true), (92, .bool false), (102, .bool false), (103, r), (104, .pointer (some ⟨b1, 1, none⟩))] ⟨rfl, rfl, rfl, rfl, rfl, rfl, rfl, rfl, rfl, rfl, rfl, trivial⟩
      refine L_yes A rfl (by decide) rfl rfl (by decide) (A.get rfl) (y_load (by kernel_rfl) (A.get (s := 104) rfl) ((cell_of (S.get 3 rfl) _).trans rfl) fun ac A => ?_)
      refine L_yes A rfl (by decide) rfl rfl (by decide) (A.get rfl) (y_fieldAddr (off := 2) (j := 2) (by kernel_rfl) (A.get (s := 1) rfl) (by first | rfl | omega) fun ac A => ?_)
      refine L_yes A rfl (by decide) rfl rfl (by decide) (A.get rfl) (y_load (by kernel_rfl) (A.get (s := 106) rfl) ((cell_of (S.get 3 rfl) _).trans rfl) fun ac A => ?_)
      refine L_yes A rfl (by decide) rfl rfl (by decide) (A.get rfl) (y_call3 (by kernel_rfl) rfl (A.get (s := 103) rfl) (A.get (s := 105) rfl) (A.get (s := 107) rfl) (callN (cut_no (hno.gr G0) ha hb) fun v w H gG nN hf ac A => ?_))
      obtain ⟨rfl, rfl⟩ := hf
      replace S : St _ _ _ ([(b4, .cells #[.pointer none, .pointer (some ⟨b3, 0, none⟩)] 24 (0, 0)), (b3, .cells #[.int .i64 0, .slice none 0 0, .map none, .map none] 69 (0, 0)), (b2, .cells #[.int .i64 x.d, .int .i64 x.f, .int .i64 x.t, .int .i64 x.i, .int .i64 x.b, .slice ba x.bs.length bc] 57 (0, 0)), (b1, .cells #[.int .i64 x.d, .int .i64 x.f, .int .i64 x.t, .int .i64 x.i, .int .i64 x.b, .slice ba x.bs.length bc] 57 (0, 0))] ++ G) := (S.new gG nN).perm (by first | exact List.Perm.refl _ | (rw [List.append_assoc]; exact List.Perm.refl _) | (simp only [List.append_assoc, List.nil_append, List.append_nil]; exact List.Perm.refl _))
      replace G0 := G0.trans gG
      replace A := A.keep [(1, .pointer (some ⟨b1, 0, none⟩)), (4, .slice (some ⟨b4, 0, none⟩) 2 2), (5, .int .i64 (((i : Nat) : Int))), (6, r), (8, .int .i64 1), (10, .int .i64 1), (23, .bool true), (92, .bool false), (102, .bool false), (108, .int .i64 1)] ⟨rfl, rfl, rfl, rfl, rfl, rfl, rfl, rfl, rfl, rfl, trivial⟩
      refine L_yes A rfl (by decide) rfl rfl (by decide) (A.get rfl) (y_neq (A.get (s := 108) rfl) rfl (c := false) (by decide) fun ac A => ?_)
      refine L_op A rfl (by decide) rfl (y_pickF (A.get (s := 102) rfl) (A.get (s := 109) rfl) fun ac A => ?_)
      refine L_op A rfl (by decide) rfl (y_move (A.get (s := 110) rfl) fun ac A => ?_)
      refine L_yes A rfl (by decide) rfl rfl (by decide) (A.get rfl) (y_move (A.get (s := 6) rfl) fun ac A => ?_)
      replace A := A.keep [(1, .pointer (some ⟨b1, 0, none⟩)), (4, .slice (some ⟨b4, 0, none⟩) 2 2), (5, .int .i64 (((i : Nat) : Int))), (6, r), (8, .int .i64 1), (10, .int .i64 1), (23, .bool true), (92, .bool false), (111, .bool false), (112, r)] ⟨rfl, rfl, rfl, rfl, rfl, rfl, rfl, rfl, rfl, rfl, trivial⟩
      refine L_yes A rfl (by decide) rfl rfl (by decide) (A.get rfl) (y_fieldAddr (off := 1) (j := 1) (by kernel_rfl) (A.get (s := 1) rfl) (by first | rfl | omega) fun ac A => ?_)
      refine L_yes A rfl (by decide) rfl rfl (by decide) (A.get rfl) (y_load (by kernel_rfl) (A.get (s := 113) rfl) ((cell_of (S.get 3 rfl) _).trans rfl) fun ac A => ?_)
      refine L_yes A rfl (by decide) rfl rfl (by decide) (A.get rfl) (y_fieldAddr (off := 2) (j := 2) (by kernel_rfl) (A.get (s := 1) rfl) (by first | rfl | omega) fun ac A => ?_)
      refine L_yes A rfl (by decide) rfl rfl (by decide) (A.get rfl) (y_load (by kernel_rfl) (A.get (s := 115) rfl) ((cell_of (S.get 3 rfl) _).trans rfl) fun ac A => ?_)
      replace A := A.keep [(1, .pointer (some ⟨b1, 0, none⟩)), (4, .slice (some ⟨b4, 0, none⟩) 2 2), (5, .int .i64 (((i : Nat) : Int))), (6, r), (8, .int .i64 1), (10, .int .i64 1), (23, .bool true), (92, .bool false), (111, .bool false), (112, r), (114, .int .i64 x.f), (116, .int .i64 x.t)] ⟨rfl, rfl, rfl, rfl, rfl, rfl, rfl, rfl, rfl, rfl, rfl, rfl, trivial⟩
      refine L_yes A rfl (by decide) rfl rfl (by decide) (A.get rfl) (y_call3 (by kernel_rfl) rfl (A.get (s := 112) rfl) (A.get (s := 114) rfl) (A.get (s := 116) rfl) (callN (heal_no (hno.gr G0) ha hb) fun v w H gG nN hf ac A => ?_))
      obtain ⟨rfl, rfl⟩ := hf
      replace S : St _ _ _ ([(b4, .cells #[.pointer none, .pointer (some ⟨b3, 0, none⟩)] 24 (0, 0)), (b3, .cells #[.int .i64 0, .slice none 0 0, .map none, .map none] 69 (0, 0)), (b2, .cells #[.int .i64 x.d, .int .i64 x.f, .int .i64 x.t, .int .i64 x.i, .int .i64 x.b, .slice ba x.bs.length bc] 57 (0, 0)), (b1, .cells #[.int .i64 x.d, .int .i64 x.f, .int .i64 x.t, .int .i64 x.i, .int .i64 x.b, .slice ba x.bs.length bc] 57 (0, 0))] ++ G) := (S.new gG nN).perm (by first | exact List.Perm.refl _ | (rw [List.append_assoc]; exact List.Perm.refl _) | (simp only [List.append_assoc, List.nil_append, List.append_nil]; exact List.Perm.refl _))
      replace G0 := G0.trans gG
      refine L_yes A rfl (by decide) rfl rfl (by decide) (A.get rfl) (y_neq (A.get (s := 117) rfl) rfl (c := false) (by decide) fun ac A => ?_)
      refine L_op A rfl (by decide) rfl (y_pickF (A.get (s := 111) rfl) (A.get (s := 118) rfl) fun ac A => ?_)
      refine L_op A rfl (by decide) rfl (y_move (A.get (s := 119) rfl) fun ac A => ?_)
      replace A := A.keep [(1, .pointer (some ⟨b1, 0, none⟩)), (4, .slice (some ⟨b4, 0, none⟩) 2 2), (5, .int .i64 (((i : Nat) : Int))), (6, r), (8, .int .i64 1), (10, .int .i64 1), (23, .bool true), (92, .bool false), (120, .bool false)] ⟨rfl, rfl, rfl, rfl, rfl, rfl, rfl, rfl, rfl, trivial⟩
      refine L_yes A rfl (by decide) rfl rfl (by decide) (A.get rfl) (y_move (A.get (s := 6) rfl) fun ac A => ?_)
      refine L_yes A rfl (by decide) rfl rfl (by decide) (A.get rfl) (y_fieldAddr (off := 1) (j := 1) (by kernel_rfl) (A.get (s := 1) rfl) (by first | rfl | omega) fun ac A => ?_)
      refine L_yes A rfl (by decide) rfl rfl (by decide) (A.get rfl) (y_load (by kernel_rfl) (A.get (s := 122) rfl) ((cell_of (S.get 3 rfl) _).trans rfl) fun ac A => ?_)
      refine L_yes A rfl (by decide) rfl rfl (by decide) (A.get rfl) (y_fieldAddr (off := 2) (j := 2) (by kernel_rfl) (A.get (s := 1) rfl) (by first | rfl | omega) fun ac A => ?_)
      replace A := A.keep [(1, .pointer (some ⟨b1, 0, none⟩)), (4, .slice (some ⟨b4, 0, none⟩) 2 2), (5, .int .i64 (((i : Nat) : Int))), (6, r), (8, .int .i64 1), (10, .int .i64 1), (23, .bool true), (92, .bool false), (120, .bool false), (121, r), (123, .int .i64 x.f), (124, .pointer (some ⟨b1, 2, none⟩))] ⟨rfl, rfl, rfl, rfl, rfl, rfl, rfl, rfl, rfl, rfl, rfl, rfl, trivial⟩
      refine L_yes A rfl (by decide) rfl rfl (by decide) (A.get rfl) (y_load (by kernel_rfl) (A.get (s := 124) rfl) ((cell_of (S.get 3 rfl) _).trans rfl) fun ac A => ?_)
      refine L_yes A rfl (by decide) rfl rfl (by decide) (A.get rfl) (y_call3 (by kernel_rfl) rfl (A.get (s := 121) rfl) (A.get (s := 123) rfl) (A.get (s := 125) rfl) (callN (open_no (hno.gr G0) ha hb) fun v w H gG nN hf ac A => ?_))
      obtain ⟨rfl, rfl⟩ := hf
      replace S : St _ _ _ ([(b4, .cells #[.pointer none, .pointer (some ⟨b3, 0, none⟩)] 24 (0, 0)), (b3, .cells #[.int .i64 0, .slice none 0 0, .map none, .map none] 69 (0, 0)), (b2, .cells #[.int .i64 x.d, .int .i64 x.f, .int .i64 x.t, .int .i64 x.i, .int .i64 x.b, .slice ba x.bs.length bc] 57 (0, 0)), (b1, .cells #[.int .i64 x.d, .int .i64 x.f, .int .i64 x.t, .int .i64 x.i, .int .i64 x.b, .slice ba x.bs.length bc] 57 (0, 0))] ++ G) := (S.new gG nN).perm (by first | exact List.Perm.refl _ | (rw [List.append_assoc]; exact List.Perm.refl _) | (simp only [List.append_assoc, List.nil_append, List.append_nil]; exact List.Perm.refl _))
      replace G0 := G0.trans gG
      refine L_op A rfl (by decide) rfl (y_pickF (A.get (s := 120) rfl) (A.get (s := 126) rfl) fun ac A => ?_)
      refine L_op A rfl (by decide) rfl (y_move (A.get (s := 127) rfl) fun ac A => ?_)
      replace A := A.keep [(1, .pointer (some ⟨b1, 0, none⟩)), (4, .slice (some ⟨b4, 0, none⟩) 2 2), (5, .int .i64 (((i : Nat) : Int))), (6, r), (8, .int .i64 1), (10, .int .i64 1), (23, .bool true), (92, .bool false), (128, .bool false)] ⟨rfl, rfl, rfl, rfl, rfl, rfl, rfl, rfl, rfl, trivial⟩
      refine L_yes A rfl (by decide) rfl rfl (by decide) (A.get rfl) (y_move (A.get (s := 6) rfl) fun ac A => ?_)
      refine L_yes A rfl (by decide) rfl rfl (by decide) (A.get rfl) (y_fieldAddr (off := 1) (j := 1) (by kernel_rfl) (A.get (s := 1) rfl) (by first | rfl | omega) fun ac A => ?_)
      refine L_yes A rfl (by decide) rfl rfl (by decide) (A.get rfl) (y_load (by kernel_rfl) (A.get (s := 130) rfl) ((cell_of (S.get 3 rfl) _).trans rfl) fun ac A => ?_)
      refine L_yes A rfl (by decide) rfl rfl (by decide) (A.get rfl) (y_fieldAddr (off := 2) (j := 2) (by kernel_rfl) (A.get (s := 1) rfl) (by first | rfl | omega) fun ac A => ?_)
      replace A := A.keep [(1, .pointer (some ⟨b1, 0, none⟩)), (4, .slice (some ⟨b4, 0, none⟩) 2 2), (5, .int .i64 (((i : Nat) : Int))), (6, r), (8, .int .i64 1), (10, .int .i64 1), (23, .bool true), (92, .bool false), (128, .bool false), (129, r), (131, .int .i64 x.f), (132, .pointer (some ⟨b1, 2, none⟩))] ⟨rfl, rfl, rfl, rfl, rfl, rfl, rfl, rfl, rfl, rfl, rfl, rfl, trivial⟩
      refine L_yes A rfl (by decide) rfl rfl (by decide) (A.get rfl) (y_load (by kernel_rfl) (A.get (s := 132) rfl) ((cell_of (S.get 3 rfl) _).trans rfl) fun ac A => ?_)
      refine L_yes A rfl (by decide) rfl rfl (by decide) (A.get rfl) (y_call3 (by kernel_rfl) rfl (A.get (s := 129) rfl) (A.get (s := 131) rfl) (A.get (s := 133) rfl) (callN (len_no (hno.gr G0) ha hb) fun v w H gG nN hf ac A => ?_))
      obtain ⟨rfl, rfl⟩ := hf
      replace S : St _ _ _ ([(b4, .cells #[.pointer none, .pointer (some ⟨b3, 0, none⟩)] 24 (0, 0)), (b3, .cells #[.int .i64 0, .slice none 0 0, .map none, .map none] 69 (0, 0)), (b2, .cells #[.int .i64 x.d, .int .i64 x.f, .int .i64 x.t, .int .i64 x.i, .int .i64 x.b, .slice ba x.bs.length bc] 57 (0, 0)), (b1, .cells #[.int .i64 x.d, .int .i64 x.f, .int .i64 x.t, .int .i64 x.i, .int .i64 x.b, .slice ba x.bs.length bc] 57 (0, 0))] ++ G) := (S.new gG nN).perm (by first | exact List.Perm.refl _ | (rw [List.append_assoc]; exact List.Perm.refl _) | (simp only [List.append_assoc, List.nil_append, List.append_nil]; exact List.Perm.refl _))
      replace G0 := G0.trans gG
      refine L_yes A rfl (by decide) rfl rfl (by decide) (A.get rfl) (y_neq (A.get (s := 134) rfl) rfl (c := false) (by decide) fun ac A => ?_)
      refine L_op A rfl (by decide) rfl (y_pickF (A.get (s := 128) rfl) (A.get (s := 135) rfl) fun ac A => ?_)
      replace A := A.keep [(1, .pointer (some ⟨b1, 0, none⟩)), (4, .slice (some ⟨b4, 0, none⟩) 2 2), (5, .int .i64 (((i : Nat) : Int))), (6, r), (8, .int .i64 1), (10, .int .i64 1), (23, .bool true), (92, .bool false), (136, .bool false)] ⟨rfl, rfl, rfl, rfl, rfl, rfl, rfl, rfl, rfl, trivial⟩
      refine L_op A rfl (by decide) rfl (y_move (A.get (s := 136) rfl) fun ac A => ?_)
      refine L_yes A rfl (by decide) rfl rfl (by decide) (A.get rfl) (y_move (A.get (s := 6) rfl) fun ac A => ?_)
      refine L_yes A rfl (by decide) rfl rfl (by decide) (A.get rfl) (y_fieldAddr (off := 2) (j := 2) (by kernel_rfl) (A.get (s := 1) rfl) (by first | rfl | omega) fun ac A => ?_)
      refine L_yes A rfl (by decide) rfl rfl (by decide) (A.get rfl) (y_load (by kernel_rfl) (A.get (s := 139) rfl) ((cell_of (S.get 3 rfl) _).trans rfl) fun ac A => ?_)
      replace A := A.keep [(1, .pointer (some ⟨b1, 0, none⟩)), (4, .slice (some ⟨b4, 0, none⟩) 2 2), (5, .int .i64 (((i : Nat) : Int))), (6, r), (8, .int .i64 1), (10, .int .i64 1), (23, .bool true), (92, .bool false), (137, .bool false), (138, r), (140, .int .i64 x.t)] ⟨rfl, rfl, rfl, rfl, rfl, rfl, rfl, rfl, rfl, rfl, rfl, trivial⟩
      refine L_yes A rfl (by decide) rfl rfl (by decide) (A.get rfl) (y_call2 (by kernel_rfl) rfl (A.get (s := 138) rfl) (A.get (s := 140) rfl) (callN (empty_no (hno.gr G0)) fun v w H gG nN hf ac A => ?_))
      obtain ⟨rfl, rfl⟩ := hf
      replace S : St _ _ _ ([(b4, .cells #[.pointer none, .pointer (some ⟨b3, 0, none⟩)] 24 (0, 0)), (b3, .cells #[.int .i64 0, .slice none 0 0, .map none, .map none] 69 (0, 0)), (b2, .cells #[.int .i64 x.d, .int .i64 x.f, .int .i64 x.t, .int .i64 x.i, .int .i64 x.b, .slice ba x.bs.length bc] 57 (0, 0)), (b1, .cells #[.int .i64 x.d, .int .i64 x.f, .int .i64 x.t, .int .i64 x.i, .int .i64 x.b, .slice ba x.bs.length bc] 57 (0, 0))] ++ G) := (S.new gG nN).perm (by first | exact List.Perm.refl _ | (rw [List.append_assoc]; exact List.Perm.refl _) | (simp only [List.append_assoc, List.nil_append, List.append_nil]; exact List.Perm.refl _))
      replace G0 := G0.trans gG
      refine L_yes A rfl (by decide) rfl rfl (by decide) (A.get rfl) (y_neq (A.get (s := 141) rfl) rfl (c := false) (by decide) fun ac A => ?_)
      refine L_op A rfl (by decide) rfl (y_pickF (A.get (s := 137) rfl) (A.get (s := 142) rfl) fun ac A => ?_)
      refine L_op A rfl (by decide) rfl (y_move (A.get (s := 143) rfl) fun ac A => ?_)
      replace A := A.keep [(1, .pointer (some ⟨b1, 0, none⟩)), (4, .slice (some ⟨b4, 0, none⟩) 2 2), (5, .int .i64 (((i : Nat) : Int))), (6, r), (8, .int .i64 1), (10, .int .i64 1), (23, .bool true), (92, .bool false), (144, .bool false)] ⟨rfl, rfl, rfl, rfl, rfl, rfl, rfl, rfl, rfl, trivial⟩
      refine L_yes A rfl (by decide) rfl rfl (by decide) (A.get rfl) (y_move (A.get (s := 6) rfl) fun ac A => ?_)
      refine L_yes A rfl (by decide) rfl rfl (by decide) (A.get rfl) (y_call1 (by kernel_rfl) rfl (A.get (s := 145) rfl) (callN (nodes_no (hno.gr G0)) fun v w H gG nN hf ac A => ?_))
      obtain ⟨rfl, rfl⟩ := hf
      replace S : St _ _ _ ([(b4, .cells #[.pointer none, .pointer (some ⟨b3, 0, none⟩)] 24 (0, 0)), (b3, .cells #[.int .i64 0, .slice none 0 0, .map none, .map none] 69 (0, 0)), (b2, .cells #[.int .i64 x.d, .int .i64 x.f, .int .i64 x.t, .int .i64 x.i, .int .i64 x.b, .slice ba x.bs.length bc] 57 (0, 0)), (b1, .cells #[.int .i64 x.d, .int .i64 x.f, .int .i64 x.t, .int .i64 x.i, .int .i64 x.b, .slice ba x.bs.length bc] 57 (0, 0))] ++ G) := (S.new gG nN).perm (by first | exact List.Perm.refl _ | (rw [List.append_assoc]; exact List.Perm.refl _) | (simp only [List.append_assoc, List.nil_append, List.append_nil]; exact List.Perm.refl _))
      replace G0 := G0.trans gG
      refine L_yes A rfl (by decide) rfl rfl (by decide) (A.get rfl) (y_neq (A.get (s := 146) rfl) rfl (c := false) (by decide) fun ac A => ?_)
      refine L_op A rfl (by decide) rfl (y_pickF (A.get (s := 144) rfl) (A.get (s := 147) rfl) fun ac A => ?_)
      replace A := A.keep [(1, .pointer (some ⟨b1, 0, none⟩)), (4, .slice (some ⟨b4, 0, none⟩) 2 2), (5, .int .i64 (((i : Nat) : Int))), (6, r), (8, .int .i64 1), (10, .int .i64 1), (23, .bool true), (92, .bool false), (148, .bool false)] ⟨rfl, rfl, rfl, rfl, rfl, rfl, rfl, rfl, rfl, trivial⟩
      refine L_op A rfl (by decide) rfl (y_move (A.get (s := 148) rfl) fun ac A => ?_)
      refine L_yes A rfl (by decide) rfl rfl (by decide) (A.get rfl) (y_move (A.get (s := 6) rfl) fun ac A => ?_)
      refine L_yes A rfl (by decide) rfl rfl (by decide) (A.get rfl) (y_call1 (by kernel_rfl) rfl (A.get (s := 150) rfl) (callN (links_no (hno.gr G0)) fun vl w Hl gG nN hf ac A => ?_))
      obtain ⟨la, lc, rfl⟩ := SlRep.len hf
      replace S : St _ _ _ (Hl ++ ([(b4, .cells #[.pointer none, .pointer (some ⟨b3, 0, none⟩)] 24 (0, 0)), (b3, .cells #[.int .i64 0, .slice none 0 0, .map none, .map none] 69 (0, 0)), (b2, .cells #[.int .i64 x.d, .int .i64 x.f, .int .i64 x.t, .int .i64 x.i, .int .i64 x.b, .slice ba x.bs.length bc] 57 (0, 0)), (b1, .cells #[.int .i64 x.d, .int .i64 x.f, .int .i64 x.t, .int .i64 x.i, .int .i64 x.b, .slice ba x.bs.length bc] 57 (0, 0))] ++ G)) := (S.new gG nN).perm (by first | exact List.Perm.refl _ | (rw [List.append_assoc]; exact List.Perm.refl _) | (simp only [List.append_assoc, List.nil_append, List.append_nil]; exact List.Perm.refl _))
      replace S : St _ _ _ ([(b4, .cells #[.pointer none, .pointer (some ⟨b3, 0, none⟩)] 24 (0, 0)), (b3, .cells #[.int .i64 0, .slice none 0 0, .map none, .map none] 69 (0, 0)), (b2, .cells #[.int .i64 x.d, .int .i64 x.f, .int .i64 x.t, .int .i64 x.i, .int .i64 x.b, .slice ba x.bs.length bc] 57 (0, 0)), (b1, .cells #[.int .i64 x.d, .int .i64 x.f, .int .i64 x.t, .int .i64 x.i, .int .i64 x.b, .slice ba x.bs.length bc] 57 (0, 0))] ++ (Hl ++ G)) := S.swap1 (L := []) (A := Hl) (B := [(b4, .cells #[.pointer none, .pointer (some ⟨b3, 0, none⟩)] 24 (0, 0)), (b3, .cells #[.int .i64 0, .slice none 0 0, .map none, .map none] 69 (0, 0)), (b2, .cells #[.int .i64 x.d, .int .i64 x.f, .int .i64 x.t, .int .i64 x.i, .int .i64 x.b, .slice ba x.bs.length bc] 57 (0, 0)), (b1, .cells #[.int .i64 x.d, .int .i64 x.f, .int .i64 x.t, .int .i64 x.i, .int .i64 x.b, .slice ba x.bs.length bc] 57 (0, 0))])
      replace G0 := G0.trans gG
      refine L_yes A rfl (by decide) rfl rfl (by decide) (A.get rfl) (y_lenS (e := 28) (by kernel_rfl) (A.get (s := 151) rfl) fun ac A => ?_)
      replace A := A.keep [(1, .pointer (some ⟨b1, 0, none⟩)), (4, .slice (some ⟨b4, 0, none⟩) 2 2), (5, .int .i64 (((i : Nat) : Int))), (6, r), (8, .int .i64 1), (10, .int .i64 1), (23, .bool true), (92, .bool false), (149, .bool false), (152, .int .i64 0)] ⟨rfl, rfl, rfl, rfl, rfl, rfl, rfl, rfl, rfl, rfl, trivial⟩
      refine L_yes A rfl (by decide) rfl rfl (by decide) (A.get rfl) (y_neq (A.get (s := 152) rfl) rfl (c := false) (by decide) fun ac A => ?_)
      refine L_op A rfl (by decide) rfl (y_pickF (A.get (s := 149) rfl) (A.get (s := 153) rfl) fun ac A => ?_)
      refine L_op A rfl (by decide) rfl (y_move (A.get (s := 154) rfl) fun ac A => ?_)
      refine L_yes A rfl (by decide) rfl rfl (by decide) (A.get rfl) (y_move (A.get (s := 6) rfl) fun ac A => ?_)
      replace A := A.keep [(1, .pointer (some ⟨b1, 0, none⟩)), (4, .slice (some ⟨b4, 0, none⟩) 2 2), (5, .int .i64 (((i : Nat) : Int))), (6, r), (8, .int .i64 1), (10, .int .i64 1), (23, .bool true), (92, .bool false), (155, .bool false), (156, r)] ⟨rfl, rfl, rfl, rfl, rfl, rfl, rfl, rfl, rfl, rfl, trivial⟩
      refine L_yes A rfl (by decide) rfl rfl (by decide) (A.get rfl) (y_call1 (by kernel_rfl) rfl (A.get (s := 156) rfl) (callN (copy_no (hno.gr G0)) fun vz w Hc gG nN hf ac A => ?_))
      obtain _ := hf
      replace S : St _ _ _ (Hc ++ ([(b4, .cells #[.pointer none, .pointer (some ⟨b3, 0, none⟩)] 24 (0, 0)), (b3, .cells #[.int .i64 0, .slice none 0 0, .map none, .map none] 69 (0, 0)), (b2, .cells #[.int .i64 x.d, .int .i64 x.f, .int .i64 x.t, .int .i64 x.i, .int .i64 x.b, .slice ba x.bs.length bc] 57 (0, 0)), (b1, .cells #[.int .i64 x.d, .int .i64 x.f, .int .i64 x.t, .int .i64 x.i, .int .i64 x.b, .slice ba x.bs.length bc] 57 (0, 0))] ++ (Hl ++ G))) := (S.new gG nN).perm (by first | exact List.Perm.refl _ | (rw [List.append_assoc]; exact List.Perm.refl _) | (simp only [List.append_assoc, List.nil_append, List.append_nil]; exact List.Perm.refl _))
      replace S : St _ _ _ ([(b4, .cells #[.pointer none, .pointer (some ⟨b3, 0, none⟩)] 24 (0, 0)), (b3, .cells #[.int .i64 0, .slice none 0 0, .map none, .map none] 69 (0, 0)), (b2, .cells #[.int .i64 x.d, .int .i64 x.f, .int .i64 x.t, .int .i64 x.i, .int .i64 x.b, .slice ba x.bs.length bc] 57 (0, 0)), (b1, .cells #[.int .i64 x.d, .int .i64 x.f, .int .i64 x.t, .int .i64 x.i, .int .i64 x.b, .slice ba x.bs.length bc] 57 (0, 0))] ++ (Hc ++ (Hl ++ G))) := S.swap1 (L := []) (A := Hc) (B := [(b4, .cells #[.pointer none, .pointer (some ⟨b3, 0, none⟩)] 24 (0, 0)), (b3, .cells #[.int .i64 0, .slice none 0 0, .map none, .map none] 69 (0, 0)), (b2, .cells #[.int .i64 x.d, .int .i64 x.f, .int .i64 x.t, .int .i64 x.i, .int .i64 x.b, .slice ba x.bs.length bc] 57 (0, 0)), (b1, .cells #[.int .i64 x.d, .int .i64 x.f, .int .i64 x.t, .int .i64 x.i, .int .i64 x.b, .slice ba x.bs.length bc] 57 (0, 0))])
      replace G0 := G0.trans gG
      refine L_yes A rfl (by decide) rfl rfl (by decide) (A.get rfl) (y_call1 (by kernel_rfl) rfl (A.get (s := 157) rfl) (callN (zero_nodes hf (St.app_left (H := Hc) (K := ([(b4, .cells #[.pointer none, .pointer (some ⟨b3, 0, none⟩)] 24 (0, 0)), (b3, .cells #[.int .i64 0, .slice none 0 0, .map none, .map none] 69 (0, 0)), (b2, .cells #[.int .i64 x.d, .int .i64 x.f, .int .i64 x.t, .int .i64 x.i, .int .i64 x.b, .slice ba x.bs.length bc] 57 (0, 0)), (b1, .cells #[.int .i64 x.d, .int .i64 x.f, .int .i64 x.t, .int .i64 x.i, .int .i64 x.b, .slice ba x.bs.length bc] 57 (0, 0))] ++ (Hl ++ G))) (S.perm (by classical rw [List.perm_iff_count]; intro x; simp only [List.count_append, List.count_cons, List.count_nil] <;> omega))).holds) fun v w H gG nN hf ac A => ?_))
      obtain ⟨rfl, rfl⟩ := hf
      replace S : St _ _ _ ([(b4, .cells #[.pointer none, .pointer (some ⟨b3, 0, none⟩)] 24 (0, 0)), (b3, .cells #[.int .i64 0, .slice none 0 0, .map none, .map none] 69 (0, 0)), (b2, .cells #[.int .i64 x.d, .int .i64 x.f, .int .i64 x.t, .int .i64 x.i, .int .i64 x.b, .slice ba x.bs.length bc] 57 (0, 0)), (b1, .cells #[.int .i64 x.d, .int .i64 x.f, .int .i64 x.t, .int .i64 x.i, .int .i64 x.b, .slice ba x.bs.length bc] 57 (0, 0))] ++ (Hc ++ (Hl ++ G))) := (S.new gG nN).perm (by first | exact List.Perm.refl _ | (rw [List.append_assoc]; exact List.Perm.refl _) | (simp only [List.append_assoc, List.nil_append, List.append_nil]; exact List.Perm.refl _))
      replace G0 := G0.trans gG
      refine L_yes A rfl (by decide) rfl rfl (by decide) (A.get rfl) (y_neq (A.get (s := 158) rfl) rfl (c := false) (by decide) fun ac A => ?_)
      refine L_op A rfl (by decide) rfl (y_pickF (A.get (s := 155) rfl) (A.get (s := 159) rfl) fun ac A => ?_)
      replace A := A.keep [(1, .pointer (some ⟨b1, 0, none⟩)), (4, .slice (some ⟨b4, 0, none⟩) 2 2), (5, .int .i64 (((i : Nat) : Int))), (6, r), (8, .int .i64 1), (10, .int .i64 1), (23, .bool true), (92, .bool false), (160, .bool false)] ⟨rfl, rfl, rfl, rfl, rfl, rfl, rfl, rfl, rfl, trivial⟩
      refine hK17 _ _ ?_
      refine wp_cond_false (A.get rfl) ?_
      refine wp_skip ?_
      refine hK11 _ _ ?_
      refine region_seq ?_  -- region 7
      refine L_op A rfl (by decide) rfl (y_move (A.get (s := 5) rfl) fun ac A => ?_)
      refine L_op A rfl (by decide) rfl (y_add (A.get (s := 24) rfl) rfl (c := ((i + 1 : Nat) : Int)) ((wrap64 (by omega)).trans (by omega)) fun ac A => ?_)
      refine L_op A rfl (by decide) rfl (y_assign (A.get (s := 25) rfl) fun ac A => ?_)
      replace A := A.keep [(1, .pointer (some ⟨b1, 0, none⟩)), (4, .slice (some ⟨b4, 0, none⟩) 2 2), (5, .int .i64 (((i + 1 : Nat) : Int))), (6, r), (8, .int .i64 1), (10, .int .i64 1), (23, .bool true), (92, .bool false), (160, .bool false)] ⟨rfl, rfl, rfl, rfl, rfl, rfl, rfl, rfl, rfl, trivial⟩
      replace A := A.keep [(1, .pointer (some ⟨b1, 0, none⟩)), (4, .slice (some ⟨b4, 0, none⟩) 2 2), (5, .int .i64 (((i + 1 : Nat) : Int)))] ⟨rfl, rfl, rfl, trivial⟩
      exact ⟨kk - 1, by omega, i + 1, _, by omega, A, S⟩
    · obtain rfl : i = 2 := by omega
      refine wp_seq_k fun K18 hK18 => ?_
      refine wp_seq_k fun K19 hK19 => ?_
      refine region_seq ?_  -- region 6
      refine L_op A rfl (by decide) rfl (y_move (A.get (s := 5) rfl) fun ac A => ?_)
      refine L_op A rfl (by decide) rfl (y_move (A.get (s := 4) rfl) fun ac A => ?_)
      refine L_op A rfl (by decide) rfl (y_lenS (e := 24) (by kernel_rfl) (A.get (s := 21) rfl) fun ac A => ?_)
      refine L_op A rfl (by decide) rfl (y_lss (A.get (s := 20) rfl) (A.get (s := 22) rfl) (c := false) (rfl) fun ac A => ?_)
      replace A := A.keep [(1, .pointer (some ⟨b1, 0, none⟩)), (4, .slice (some ⟨b4, 0, none⟩) 2 2), (5, .int .i64 (((2 : Nat) : Int))), (23, .bool false)] ⟨rfl, rfl, rfl, rfl, trivial⟩
      refine hK19 _ _ ?_
      refine wp_cond_false (A.get rfl) ?_
      refine wp_exit ?_
      refine hK7 _ _ ?_
      refine wp_seq_k fun K20 hK20 => ?_
      refine region_seq ?_  -- region 15
      refine L_op A rfl (by decide) rfl (y_call0 (by kernel_rfl) rfl  (callN (awake_ok) fun v w Hz gG nN hf ac A => ?_))
      obtain rfl := hf
      replace S : St _ _ _ (Hz ++ ([(b4, .cells #[.pointer none, .pointer (some ⟨b3, 0, none⟩)] 24 (0, 0)), (b3, .cells #[.int .i64 0, .slice none 0 0, .map none, .map none] 69 (0, 0)), (b2, .cells #[.int .i64 x.d, .int .i64 x.f, .int .i64 x.t, .int .i64 x.i, .int .i64 x.b, .slice ba x.bs.length bc] 57 (0, 0)), (b1, .cells #[.int .i64 x.d, .int .i64 x.f, .int .i64 x.t, .int .i64 x.i, .int .i64 x.b, .slice ba x.bs.length bc] 57 (0, 0))] ++ G)) := (S.new gG nN).perm (by first | exact List.Perm.refl _ | (rw [List.append_assoc]; exact List.Perm.refl _) | (simp only [List.append_assoc, List.nil_append, List.append_nil]; exact List.Perm.refl _))
      replace S : St _ _ _ ([(b4, .cells #[.pointer none, .pointer (some ⟨b3, 0, none⟩)] 24 (0, 0)), (b3, .cells #[.int .i64 0, .slice none 0 0, .map none, .map none] 69 (0, 0)), (b2, .cells #[.int .i64 x.d, .int .i64 x.f, .int .i64 x.t, .int .i64 x.i, .int .i64 x.b, .slice ba x.bs.length bc] 57 (0, 0)), (b1, .cells #[.int .i64 x.d, .int .i64 x.f, .int .i64 x.t, .int .i64 x.i, .int .i64 x.b, .slice ba x.bs.length bc] 57 (0, 0))] ++ (Hz ++ G)) := S.swap1 (L := []) (A := Hz) (B := [(b4, .cells #[.pointer none, .pointer (some ⟨b3, 0, none⟩)] 24 (0, 0)), (b3, .cells #[.int .i64 0, .slice none 0 0, .map none, .map none] 69 (0, 0)), (b2, .cells #[.int .i64 x.d, .int .i64 x.f, .int .i64 x.t, .int .i64 x.i, .int .i64 x.b, .slice ba x.bs.length bc] 57 (0, 0)), (b1, .cells #[.int .i64 x.d, .int .i64 x.f, .int .i64 x.t, .int .i64 x.i, .int .i64 x.b, .slice ba x.bs.length bc] 57 (0, 0))])
      refine L_op A rfl (by decide) rfl (y_assign (A.get (s := 161) rfl) fun ac A => ?_)
      replace A := A.keep [(1, .pointer (some ⟨b1, 0, none⟩)), (2, .bool true), (4, .slice (some ⟨b4, 0, none⟩) 2 2), (5, .int .i64 (((2 : Nat) : Int))), (23, .bool false)] ⟨rfl, rfl, rfl, rfl, rfl, trivial⟩
      refine hK20 _ _ ?_
      exact wp_ret ⟨A.defers, _, res_run (rs := [.tmp 2]) (vs := [.bool true]) rfl ⟨A.get rfl, trivial⟩, ⟨_, rfl, S.kp.to_gr, _, rfl, S.newF⟩⟩
end Go.Proofs.Ytaeidblipdjgnaa
