import Derived.Test.YtaeidblipdjgnaaNobody
import Derived.Test.YtaeidblipdjgnaaRange
namespace Go.Proofs.Ytaeidblipdjgnaa
open Go.RowKit Go.Maps Go.WideMaps

section
variable {r : Value} {w : World}
theorem mclone_no : Calls Try.prog 48 #[.map none] w (RetN w (eqv (.map none))) := by
  refine enter Try.func48 rfl (n := 9) rfl (Nat.le_of_ble_eq_true rfl) fun ac A => ?_
  have S : St _ _ _ [] := St.none w
  refine wp_seq_k fun K1 hK1 => ?_
  refine region_seq ?_  -- region 0
  refine L_op A rfl (by decide) rfl (y_assign rfl fun ac A => ?_)
  replace A := A.keep [(0, .map none), (2, .map none)] ⟨rfl, rfl, trivial⟩
  refine hK1 _ _ ?_
  refine wp_seq_k fun K2 hK2 => ?_
  refine wp_seq_k fun K3 hK3 => ?_
  refine region_seq ?_  -- region 1
  refine L_op A rfl (by decide) rfl (y_move (A.get (s := 0) rfl) fun ac A => ?_)
  refine L_op A rfl (by decide) rfl (y_mapNil (c := true) Try.underlying66 (A.get (s := 3) rfl) rfl rfl fun ac A => ?_)
  replace A := A.keep [(0, .map none), (2, .map none), (4, .bool true)] ⟨rfl, rfl, rfl, trivial⟩
  refine hK3 _ _ ?_
  refine wp_cond_true (A.get rfl) ?_
  refine wp_seq_k fun K4 hK4 => ?_
  refine region_seq ?_  -- region 2
  refine L_op A rfl (by decide) rfl (y_assign rfl fun ac A => ?_)
  replace A := A.keep [(0, .map none), (2, .map none), (4, .bool true)] ⟨rfl, rfl, rfl, trivial⟩
  refine hK4 _ _ ?_
  exact wp_ret ⟨A.defers, _, res_run (rs := [.tmp 2]) (vs := [.map none]) rfl ⟨A.get rfl, trivial⟩, ⟨_, rfl, S.kp.to_gr, [], ⟨rfl, rfl⟩, NewF.nil _ _⟩⟩

theorem clone0 : Calls Try.prog 45 #[.slice none 0 0] w (RetN w fun v _ => ∃ a c, v = .slice a 0 c) :=
  (cloneP_ok (l := []) ((SlRep.nil 0 2 none).src (Holds.nil _)) (by simp)).mono (by rintro e w' ⟨v, rfl, g, H, hf, n⟩; obtain ⟨a, c, rfl⟩ := hf.len; exact ⟨_, rfl, g, H, ⟨a, c, rfl⟩, n⟩)
/-- a net of no nodes, whatever else it holds -/
def Zero (r : Value) (H : Frag) : Prop := r = .pointer none ∨ ∃ (b : Nat) (x y z : Value), r = .pointer (some ⟨b, 0, none⟩) ∧ (b, Obj.cells #[.int .i64 0, x, y, z] 69 (0, 0)) ∈ H
set_option maxRecDepth 20000 in
theorem copy_no {w0 : World} (h : NoNet w0 r) : Calls Try.prog 29 #[r] w0 (RetN w0 Zero) := by
  rcases h with rfl | ⟨p, rfl, hp⟩
  · skip
    refine enter Try.func29 rfl (n := 61) rfl (Nat.le_of_ble_eq_true rfl) fun ac A => ?_
    have S : St _ _ _ [] := St.none w0
    refine wp_seq_k fun K1 hK1 => ?_
    refine region_seq ?_  -- region 0
    refine L_op A rfl (by decide) rfl (y_assign rfl fun ac A => ?_)
    replace A := A.keep [(0, .pointer none), (2, .pointer none)] ⟨rfl, rfl, trivial⟩
    refine hK1 _ _ ?_
    refine wp_seq_k fun K2 hK2 => ?_
    refine wp_seq_k fun K3 hK3 => ?_
    refine region_seq ?_  -- region 1
    refine L_op A rfl (by decide) rfl (y_move (A.get (s := 0) rfl) fun ac A => ?_)
    refine L_op A rfl (by decide) rfl (y_ptrNil (c := true) (by kernel_rfl) (A.get (s := 9) rfl) rfl rfl fun ac A => ?_)
    replace A := A.keep [(0, .pointer none), (2, .pointer none), (10, .bool true)] ⟨rfl, rfl, rfl, trivial⟩
    refine hK3 _ _ ?_
    refine wp_cond_true (A.get rfl) ?_
    refine wp_seq_k fun K4 hK4 => ?_
    refine region_seq ?_  -- region 2
    refine L_op A rfl (by decide) rfl (y_assign rfl fun ac A => ?_)
    replace A := A.keep [(0, .pointer none), (2, .pointer none), (10, .bool true)] ⟨rfl, rfl, rfl, trivial⟩
    refine hK4 _ _ ?_
    exact wp_ret ⟨A.defers, _, res_run (rs := [.tmp 2]) (vs := [.pointer none]) rfl ⟨A.get rfl, trivial⟩, ⟨_, rfl, S.kp.to_gr, [], Or.inl (Eq.refl (Value.pointer none)), NewF.nil _ _⟩⟩
  · have hp : w0.heap[p]? = some (.cells #[.int .i64 0, .slice none 0 0, .map none, .map none] 69 (0, 0)) := hp
    refine enter Try.func29 rfl (n := 61) rfl (Nat.le_of_ble_eq_true rfl) fun ac A => ?_
    have S : St _ _ _ [] := St.none w0
    refine wp_seq_k fun K1 hK1 => ?_
    refine region_seq ?_  -- region 0
    refine L_op A rfl (by decide) rfl (y_assign rfl fun ac A => ?_)
    replace A := A.keep [(0, .pointer (some ⟨p, 0, none⟩)), (2, .pointer none)] ⟨rfl, rfl, trivial⟩
    refine hK1 _ _ ?_
    refine wp_seq_k fun K2 hK2 => ?_
    refine wp_seq_k fun K3 hK3 => ?_
    refine region_seq ?_  -- region 1
    refine L_op A rfl (by decide) rfl (y_move (A.get (s := 0) rfl) fun ac A => ?_)
    refine L_op A rfl (by decide) rfl (y_ptrNil (c := false) (by kernel_rfl) (A.get (s := 9) rfl) rfl rfl fun ac A => ?_)
    replace A := A.keep [(0, .pointer (some ⟨p, 0, none⟩)), (2, .pointer none), (10, .bool false)] ⟨rfl, rfl, rfl, trivial⟩
    refine hK3 _ _ ?_
    refine wp_cond_false (A.get rfl) ?_
    refine wp_skip ?_
    refine hK2 _ _ ?_
    refine wp_seq_k fun K4 hK4 => ?_
    refine region_draw A [⟨11, pl (eqv (.pointer (some ⟨p, 0, none⟩))), [], [0], none, false⟩, ⟨12, pl (eqv (.pointer (some ⟨p, 0, none⟩))), [0], [], none, false⟩, ⟨13, pl (eqv (.pointer (some ⟨p, 0, none⟩))), [1], [], none, false⟩, ⟨14, pl (eqv (.int .i64 0)), [2], [], none, false⟩, ⟨15, pl (eqv (.pointer (some ⟨p, 0, none⟩))), [], [0], none, false⟩, ⟨16, pl (eqv (.pointer (some ⟨p, 0, none⟩))), [4], [], none, false⟩, ⟨17, pl (eqv (.pointer (some ⟨p, 1, none⟩))), [5], [], none, false⟩, ⟨18, pl (eqv (.slice none 0 0)), [6], [], none, false⟩, ⟨19, pl (fun v _ => ∃ a c, v = .slice a 0 c), [7], [], none, false⟩, ⟨20, pl (eqv (.pointer (some ⟨p, 0, none⟩))), [], [0], none, false⟩, ⟨21, pl (eqv (.pointer (some ⟨p, 0, none⟩))), [9], [], none, false⟩, ⟨22, pl (eqv (.pointer (some ⟨p, 2, none⟩))), [10], [], none, false⟩, ⟨23, pl (eqv (.map none)), [11], [], none, false⟩, ⟨24, pl (eqv (.map none)), [12], [], none, false⟩, ⟨25, pl (mblk (.map #[] 0)), [], [], none, false⟩] [(15, false), (16, false), (17, false)] (by kernel_rfl) (by kernel_rfl) (fun d _ _ _ _ h => by cases d <;> exact h) ⟨?_, ?_, ?_, ?_, ?_, ?_, ?_, ?_, ?_, ?_, ?_, ?_, ?_, ?_, ?_, trivial⟩ ?_  -- region 3
    · refine due_plain fun ρ w1 G hsrc hold => ?_; obtain ⟨o0, -⟩ := hold; exact y_move (o0.trans (A.get (s := 0) rfl)) y_eq
    · refine due_plain fun ρ w1 G hsrc hold => ?_; obtain ⟨⟨_, _, ⟨h11, -⟩, -⟩, -⟩ := hsrc; exact y_nilCheck h11 y_eq
    · refine due_plain fun ρ w1 G hsrc hold => ?_; obtain ⟨⟨_, _, ⟨h12, -⟩, -⟩, -⟩ := hsrc; exact y_fieldAddr (off := 0) (j := 0) (by kernel_rfl) h12 (by first | rfl | omega) y_eq
    · refine due_plain fun ρ w1 G hsrc hold => ?_; obtain ⟨⟨_, _, ⟨h13, -⟩, -⟩, -⟩ := hsrc; exact y_load (by kernel_rfl) h13 ((cell_of (G.gr.heap' (S.kp.heap' hp (by simp))) _).trans rfl) y_eq
    · refine due_plain fun ρ w1 G hsrc hold => ?_; obtain ⟨o0, -⟩ := hold; exact y_move (o0.trans (A.get (s := 0) rfl)) y_eq
    · refine due_plain fun ρ w1 G hsrc hold => ?_; obtain ⟨⟨_, _, ⟨h15, -⟩, -⟩, -⟩ := hsrc; exact y_nilCheck h15 y_eq
    · refine due_plain fun ρ w1 G hsrc hold => ?_; obtain ⟨⟨_, _, ⟨h16, -⟩, -⟩, -⟩ := hsrc; exact y_fieldAddr (off := 1) (j := 1) (by kernel_rfl) h16 (by first | rfl | omega) y_eq
    · refine due_plain fun ρ w1 G hsrc hold => ?_; obtain ⟨⟨_, _, ⟨h17, -⟩, -⟩, -⟩ := hsrc; exact y_load (by kernel_rfl) h17 ((cell_of (G.gr.heap' (S.kp.heap' hp (by simp))) _).trans rfl) y_eq
    · refine due_plain fun ρ w1 G hsrc hold => ?_; obtain ⟨⟨_, _, ⟨h18, -⟩, -⟩, -⟩ := hsrc; exact y_call1 (by kernel_rfl) (G.func _) h18 (clone0)
    · refine due_plain fun ρ w1 G hsrc hold => ?_; obtain ⟨o0, -⟩ := hold; exact y_move (o0.trans (A.get (s := 0) rfl)) y_eq
    · refine due_plain fun ρ w1 G hsrc hold => ?_; obtain ⟨⟨_, _, ⟨h20, -⟩, -⟩, -⟩ := hsrc; exact y_nilCheck h20 y_eq
    · refine due_plain fun ρ w1 G hsrc hold => ?_; obtain ⟨⟨_, _, ⟨h21, -⟩, -⟩, -⟩ := hsrc; exact y_fieldAddr (off := 2) (j := 2) (by kernel_rfl) h21 (by first | rfl | omega) y_eq
    · refine due_plain fun ρ w1 G hsrc hold => ?_; obtain ⟨⟨_, _, ⟨h22, -⟩, -⟩, -⟩ := hsrc; exact y_load (by kernel_rfl) h22 ((cell_of (G.gr.heap' (S.kp.heap' hp (by simp))) _).trans rfl) y_eq
    · refine due_plain fun ρ w1 G hsrc hold => ?_; obtain ⟨⟨_, _, ⟨h23, -⟩, -⟩, -⟩ := hsrc; exact y_call1 (by kernel_rfl) (G.func _) h23 (mclone_no)
    · refine due_plain fun ρ w1 G hsrc hold => ?_; exact y_makeMapN (fun b w' g n => ⟨g, _, ⟨b, rfl, rfl⟩, n⟩)
    rintro _ _ ⟨rfl, rfl⟩ _ _ ⟨rfl, rfl⟩ _ _ ⟨rfl, rfl⟩ _ _ ⟨rfl, rfl⟩ _ _ ⟨rfl, rfl⟩ _ _ ⟨rfl, rfl⟩ _ _ ⟨rfl, rfl⟩ _ _ ⟨rfl, rfl⟩ _ Ho ⟨oa, oc, rfl⟩ _ _ ⟨rfl, rfl⟩ _ _ ⟨rfl, rfl⟩ _ _ ⟨rfl, rfl⟩ _ _ ⟨rfl, rfl⟩ _ _ ⟨rfl, rfl⟩ _ _ ⟨b1, rfl, rfl⟩
    intro ac w A gG nN
    replace S : St _ _ _ ([(b1, .map #[] 0)] ++ Ho) := (S.new gG nN).perm (by first | exact List.Perm.refl _ | (rw [List.append_assoc]; exact List.Perm.refl _) | (simp only [List.append_assoc, List.nil_append, List.append_nil]; exact List.Perm.refl _))
    refine L_op A rfl (by decide) rfl (y_build4 (A.get (s := 14) rfl) (A.get (s := 19) rfl) (A.get (s := 24) rfl) (A.get (s := 25) rfl) (v := .agg #[.int .i64 0, .slice oa 0 oc, .map none, .map (some b1)]) (by kernel_rfl) fun ac A => ?_)
    refine L_op A rfl (by decide) rfl (y_boxN (A.get (s := 26) rfl) fun b2 w gG nN ac A => ?_)
    replace S : St _ _ _ ([(b2, .cells #[.int .i64 0, .slice oa 0 oc, .map none, .map (some b1)] 69 (0, 0)), (b1, .map #[] 0)] ++ Ho) := (S.new gG nN).perm (by first | exact List.Perm.refl _ | (rw [List.append_assoc]; exact List.Perm.refl _) | (simp only [List.append_assoc, List.nil_append, List.append_nil]; exact List.Perm.refl _))
    refine L_op A rfl (by decide) rfl (y_assign (A.get (s := 27) rfl) fun ac A => ?_)
    replace A := A.keep [(0, .pointer (some ⟨p, 0, none⟩)), (2, .pointer none), (3, .pointer (some ⟨b2, 0, none⟩)), (10, .bool false)] ⟨rfl, rfl, rfl, rfl, trivial⟩
    refine hK4 _ _ ?_
    refine wp_seq_k fun K5 hK5 => ?_
    refine wp_seq_k fun K6 hK6 => ?_
    refine region_seq ?_  -- region 4
    refine L_op A rfl (by decide) rfl (y_move (A.get (s := 0) rfl) fun ac A => ?_)
    refine L_op A rfl (by decide) rfl (y_nilCheck (A.get (s := 28) rfl) fun ac A => ?_)
    refine L_op A rfl (by decide) rfl (y_fieldAddr (off := 3) (j := 3) (by kernel_rfl) (A.get (s := 29) rfl) (by first | rfl | omega) fun ac A => ?_)
    refine L_op A rfl (by decide) rfl (y_load (by kernel_rfl) (A.get (s := 30) rfl) ((cell_of (S.kp.heap' hp (by simp)) _).trans rfl) fun ac A => ?_)
    refine L_op A rfl (by decide) rfl (y_rangeN Try.underlying67 (A.get (s := 31) rfl) fun bi w gG nN ac A => ?_)
    replace S : St _ _ _ ([(bi, .mapIter none 0 #[] 0), (b2, .cells #[.int .i64 0, .slice oa 0 oc, .map none, .map (some b1)] 69 (0, 0)), (b1, .map #[] 0)] ++ Ho) := (S.new gG nN).perm (by first | exact List.Perm.refl _ | (rw [List.append_assoc]; exact List.Perm.refl _) | (simp only [List.append_assoc, List.nil_append, List.append_nil]; exact List.Perm.refl _))
    replace A := A.keep [(0, .pointer (some ⟨p, 0, none⟩)), (2, .pointer none), (3, .pointer (some ⟨b2, 0, none⟩)), (10, .bool false), (32, .pointer (some ⟨bi, 0, none⟩))] ⟨rfl, rfl, rfl, rfl, rfl, trivial⟩
    refine hK6 _ _ ?_
    refine wp_block ?_
    replace A := A.keep [(3, .pointer (some ⟨b2, 0, none⟩)), (32, .pointer (some ⟨bi, 0, none⟩))] ⟨rfl, rfl, trivial⟩
    refine wp_loop_ghost (fun kk ac w' => kk = 0 ∧ Sl 61 ac [(3, .pointer (some ⟨b2, 0, none⟩)), (32, .pointer (some ⟨bi, 0, none⟩))] ∧ St [] w0 w' ([(bi, .mapIter none 0 #[] 0), (b2, .cells #[.int .i64 0, .slice oa 0 oc, .map none, .map (some b1)] 69 (0, 0)), (b1, .map #[] 0)] ++ Ho)) 0 ⟨rfl, A, S⟩ ?_
    clear A S
    rintro kk ac w2 ⟨-, A, S⟩
    refine wp_seq_k fun K7 hK7 => ?_
    refine region_seq ?_  -- region 5
    refine L_op A rfl (by decide) rfl (y_nextN (A.get (s := 32) rfl) (S.get 0 rfl) fun ac A => ?_)
    refine L_op A rfl (by decide) rfl (y_extract (A.get (s := 33) rfl) rfl fun ac A => ?_)
    replace A := A.keep [(3, .pointer (some ⟨b2, 0, none⟩)), (32, .pointer (some ⟨bi, 0, none⟩)), (34, .bool false)] ⟨rfl, rfl, rfl, trivial⟩
    refine hK7 _ _ ?_
    refine wp_seq_k fun K8 hK8 => ?_
    refine wp_cond_false (A.get rfl) ?_
    refine wp_exit ?_
    refine hK5 _ _ ?_
    refine wp_seq_k fun K9 hK9 => ?_
    refine region_seq ?_  -- region 14
    refine L_op A rfl (by decide) rfl (y_move (A.get (s := 3) rfl) fun ac A => ?_)
    refine L_op A rfl (by decide) rfl (y_assign (A.get (s := 60) rfl) fun ac A => ?_)
    replace A := A.keep [(2, .pointer (some ⟨b2, 0, none⟩)), (3, .pointer (some ⟨b2, 0, none⟩)), (32, .pointer (some ⟨bi, 0, none⟩)), (34, .bool false)] ⟨rfl, rfl, rfl, rfl, trivial⟩
    refine hK9 _ _ ?_
    exact wp_ret ⟨A.defers, _, res_run (rs := [.tmp 2]) (vs := [.pointer (some ⟨b2, 0, none⟩)]) rfl ⟨A.get rfl, trivial⟩, ⟨_, rfl, S.kp.to_gr, _, Or.inr ⟨_, .slice oa 0 oc, .map none, .map (some b1), rfl, by exact List.mem_append_left _ (List.mem_cons_of_mem _ List.mem_cons_self)⟩, S.newF⟩⟩

theorem zero_nodes {H : Frag} (h : Zero r H) (hH : Holds w H) : Calls Try.prog 16 #[r] w (RetN w (eqv (.int .i64 0))) := by
  rcases h with rfl | ⟨p, x, y, z, rfl, hm⟩
  · skip
    refine enter Try.func16 rfl (n := 9) rfl (Nat.le_of_ble_eq_true rfl) fun ac A => ?_
    have S : St _ _ _ [] := St.none w
    refine wp_seq_k fun K1 hK1 => ?_
    refine region_seq ?_  -- region 0
    refine L_op A rfl (by decide) rfl (y_assign rfl fun ac A => ?_)
    replace A := A.keep [(0, .pointer none), (2, .int .i64 0)] ⟨rfl, rfl, trivial⟩
    refine hK1 _ _ ?_
    refine wp_seq_k fun K2 hK2 => ?_
    refine wp_seq_k fun K3 hK3 => ?_
    refine region_seq ?_  -- region 1
    refine L_op A rfl (by decide) rfl (y_move (A.get (s := 0) rfl) fun ac A => ?_)
    refine L_op A rfl (by decide) rfl (y_ptrNil (c := true) (by kernel_rfl) (A.get (s := 3) rfl) rfl rfl fun ac A => ?_)
    replace A := A.keep [(0, .pointer none), (2, .int .i64 0), (4, .bool true)] ⟨rfl, rfl, rfl, trivial⟩
    refine hK3 _ _ ?_
    refine wp_cond_true (A.get rfl) ?_
    refine wp_seq_k fun K4 hK4 => ?_
    refine region_seq ?_  -- region 2
    refine L_op A rfl (by decide) rfl (y_assign rfl fun ac A => ?_)
    replace A := A.keep [(0, .pointer none), (2, .int .i64 0), (4, .bool true)] ⟨rfl, rfl, rfl, trivial⟩
    refine hK4 _ _ ?_
    exact wp_ret ⟨A.defers, _, res_run (rs := [.tmp 2]) (vs := [.int .i64 0]) rfl ⟨A.get rfl, trivial⟩, ⟨_, rfl, S.kp.to_gr, [], ⟨rfl, rfl⟩, NewF.nil _ _⟩⟩
  · have hp : w.heap[p]? = some (.cells #[.int .i64 0, x, y, z] 69 (0, 0)) := hH _ hm
    refine enter Try.func16 rfl (n := 9) rfl (Nat.le_of_ble_eq_true rfl) fun ac A => ?_
    have S : St _ _ _ [] := St.none w
    refine wp_seq_k fun K1 hK1 => ?_
    refine region_seq ?_  -- region 0
    refine L_op A rfl (by decide) rfl (y_assign rfl fun ac A => ?_)
    replace A := A.keep [(0, .pointer (some ⟨p, 0, none⟩)), (2, .int .i64 0)] ⟨rfl, rfl, trivial⟩
    refine hK1 _ _ ?_
    refine wp_seq_k fun K2 hK2 => ?_
    refine wp_seq_k fun K3 hK3 => ?_
    refine region_seq ?_  -- region 1
    refine L_op A rfl (by decide) rfl (y_move (A.get (s := 0) rfl) fun ac A => ?_)
    refine L_op A rfl (by decide) rfl (y_ptrNil (c := false) (by kernel_rfl) (A.get (s := 3) rfl) rfl rfl fun ac A => ?_)
    replace A := A.keep [(0, .pointer (some ⟨p, 0, none⟩)), (2, .int .i64 0), (4, .bool false)] ⟨rfl, rfl, rfl, trivial⟩
    refine hK3 _ _ ?_
    refine wp_cond_false (A.get rfl) ?_
    refine wp_skip ?_
    refine hK2 _ _ ?_
    refine wp_seq_k fun K4 hK4 => ?_
    refine region_seq ?_  -- region 3
    refine L_op A rfl (by decide) rfl (y_move (A.get (s := 0) rfl) fun ac A => ?_)
    refine L_op A rfl (by decide) rfl (y_nilCheck (A.get (s := 5) rfl) fun ac A => ?_)
    refine L_op A rfl (by decide) rfl (y_fieldAddr (off := 0) (j := 0) (by kernel_rfl) (A.get (s := 6) rfl) (by first | rfl | omega) fun ac A => ?_)
    refine L_op A rfl (by decide) rfl (y_load (by kernel_rfl) (A.get (s := 7) rfl) ((cell_of (S.kp.heap' hp (by simp)) _).trans rfl) fun ac A => ?_)
    refine L_op A rfl (by decide) rfl (y_assign (A.get (s := 8) rfl) fun ac A => ?_)
    replace A := A.keep [(0, .pointer (some ⟨p, 0, none⟩)), (2, .int .i64 0), (4, .bool false)] ⟨rfl, rfl, rfl, trivial⟩
    refine hK4 _ _ ?_
    exact wp_ret ⟨A.defers, _, res_run (rs := [.tmp 2]) (vs := [.int .i64 0]) rfl ⟨A.get rfl, trivial⟩, ⟨_, rfl, S.kp.to_gr, [], ⟨rfl, rfl⟩, NewF.nil _ _⟩⟩
end
end Go.Proofs.Ytaeidblipdjgnaa
