import Derived.Test.YtaeidblipdjgnaaAwake
namespace Go.Proofs.Ytaeidblipdjgnaa
open Go.RowKit Go.Maps Go.WideMaps

def strv (l : List UInt8) : Value := .string ⟨l.toArray⟩
/-- a handed row of rows of bytes -/
def BBSrc (w : World) (v : Value) (ls : List (List UInt8)) : Prop := ∃ vs : List Value, Src w 1 v ls.length vs ∧ ∀ (i : Nat) (u : Value) (l : List UInt8), vs[i]? = some u → ls[i]? = some l → BSrc w u l
theorem BBSrc.at {w : World} {v : Value} {ls : List (List UInt8)} (h : BBSrc w v ls) {i : Nat} {l : List UInt8} (hl : ls[i]? = some l) : ∃ va vc ba bc, v = .slice (some va) ls.length vc ∧ w.cell? (va.add (((i : Nat) : Int).toNat * 1)) = some (.slice ba l.length bc) ∧ BSrc w (.slice ba l.length bc) l := by
  obtain ⟨vs, h1, h2⟩ := h
  have hi := lt_of_get hl
  have hlen : vs.length = ls.length := by have := h1.1; omega
  obtain ⟨va, vc, hv, hc⟩ := h1.row hi
  have h3 := hc 0 (by omega) (by omega)
  have hu : vs[i]? = some vs[i] := List.getElem?_eq_getElem (by omega)
  have hb := h2 i _ l hu hl
  obtain ⟨ba, bc, hba⟩ := hb.slice
  refine ⟨va, vc, ba, bc, hv, ?_, hba ▸ hb⟩
  have e0 : (va.add (i * 1)).add 0 = va.add (((i : Nat) : Int).toNat * 1) := by rw [Addr.add_add']; simp
  rw [e0] at h3
  rw [h3, ← hba]
  simp
theorem off_base {w0 w : World} {H R : Frag} {v : Value} {bs : List UInt8} (s : St [] w0 w (H ++ R)) (h : BSrc w0 v bs) : Off v (keys H) := by
  intro a n c e hn hb
  rcases s.own a.block (by rw [keys_app]; exact List.mem_append.2 (Or.inl hb)) with h1 | h1
  · rcases h.2 with ⟨h0, a', c', e'⟩ | ⟨a', c', e', h3⟩
    · rw [e] at e'; simp only [Value.slice.injEq] at e'; omega
    · rw [e] at e'; simp only [Value.slice.injEq, Option.some.injEq] at e'
      obtain ⟨rfl, rfl, -⟩ := e'
      have := cell_lt (h3 0 (by simp; omega))
      simp [Addr.add] at this; omega
  · simp at h1
theorem okSS : AppOk Try.prog 29 9 1 16 (.string ⟨#[]⟩) := ⟨by kernel_rfl, by kernel_rfl, by kernel_rfl, by kernel_rfl, rfl⟩
theorem str_one (l : List (List UInt8)) : ∀ q ∈ l.map strv, oneC q = true := by
  intro q hq; obtain ⟨b, _, rfl⟩ := List.mem_map.1 hq; rfl
def rw0 : M := M.fresh 2 [(1, 2)]
def rm (row : List (List UInt8)) : M := rw0.setq (1, 2) (row.map fun b => (b, false))
theorem rm_q (row : List (List UInt8)) : (rm row).q (1, 2) = row.map fun b => (b, false) := by simp [rm, M.setq]
theorem rm_link (row : List (List UInt8)) : (rm row).link (ends 1 2) = some false := rfl
theorem M.setq_setq (m : M) (k : Int × Int) (q q' : List (List UInt8 × Bool)) : (m.setq k q).setq k q' = m.setq k q' := by
  unfold M.setq; congr 1; funext k'; by_cases h : k' = k <;> simp [h]
theorem rm_nil : rm [] = rw0 := by
  unfold rm M.setq rw0 M.fresh; congr 1; funext k; by_cases h : k = (1, 2) <;> simp [h]
theorem rm_long {row : List (List UInt8)} {bs : List UInt8} (h : 512 < bs.length) : (rm row).send 1 2 bs = (2, rm row) := by
  unfold M.send; rw [rm_link]; simp [h]
theorem rm_full {row : List (List UInt8)} {bs : List UInt8} (h : ¬ 512 < bs.length) (h2 : row.length = 24) : (rm row).send 1 2 bs = (4, rm row) := by
  unfold M.send; rw [rm_link]; simp [h, rm_q, h2]
theorem rm_yes {row : List (List UInt8)} {bs : List UInt8} (h : ¬ 512 < bs.length) (h2 : row.length < 24) : (rm row).send 1 2 bs = (0, rm (row ++ [bs])) := by
  unfold M.send; rw [rm_link]; simp only [h, if_false, rm_q, List.length_map]
  rw [if_neg (by omega)]; simp [rm, M.setq_setq]
theorem rm_take {bs : List UInt8} {row : List (List UInt8)} : (rm (bs :: row)).take 1 2 0 = (bs, 0, rm row) := by
  unfold M.take M.pick; rw [rm_link]; simp [rm_q]; simp [rm, M.setq_setq]
theorem rm_none : (rm []).take 1 2 0 = ([], 5, rm []) := by
  unfold M.take M.pick; rw [rm_link]; simp [rm_q]
theorem rm_len : ((rm []).q (2, 1)).length = 0 := by rw [rm_nil]; rfl
theorem wrap64' {i n : Nat} (h : i < n) (hn : n ≤ 1000) : IntKind.wrap .i64 (((i : Nat) : Int) + 1) = ((i + 1 : Nat) : Int) := (wrap64 (by omega)).trans (by omega)

set_option maxRecDepth 20000 in
set_option maxHeartbeats 16000000 in
theorem netRow_ok {w0 : World} {v : Value} {ls : List (List UInt8)} (hs : BBSrc w0 v ls) : Calls Try.prog 3 #[v] w0 (RetN w0 fun r _ => r = .bool true) := by
  obtain ⟨va, vc, rfl⟩ : ∃ a c, v = .slice a ls.length c := by obtain ⟨vs, h, _⟩ := hs; exact h.len'
  by_cases hl : 1000 < ls.length
  · skip
    refine enter Try.func3 rfl (n := 101) rfl (Nat.le_of_ble_eq_true rfl) fun ac A => ?_
    have S : St _ _ _ [] := St.none w0
    refine wp_seq_k fun K1 hK1 => ?_
    refine region_seq ?_  -- region 0
    refine L_op A rfl (by decide) rfl (y_assign rfl fun ac A => ?_)
    replace A := A.keep [(0, .slice va ls.length vc), (2, .bool false)] ⟨rfl, rfl, trivial⟩
    refine hK1 _ _ ?_
    refine wp_seq_k fun K2 hK2 => ?_
    refine wp_seq_k fun K3 hK3 => ?_
    refine region_seq ?_  -- region 1
    refine L_op A rfl (by decide) rfl (y_move (A.get (s := 0) rfl) fun ac A => ?_)
    refine L_op A rfl (by decide) rfl (y_lenS (e := 31) (by kernel_rfl) (A.get (s := 14) rfl) fun ac A => ?_)
    refine L_op A rfl (by decide) rfl (y_gtr (A.get (s := 15) rfl) rfl (c := true) (decide_eq_true (by omega)) fun ac A => ?_)
    replace A := A.keep [(0, .slice va ls.length vc), (2, .bool false), (16, .bool true)] ⟨rfl, rfl, rfl, trivial⟩
    refine hK3 _ _ ?_
    refine wp_cond_true (A.get rfl) ?_
    refine wp_seq_k fun K4 hK4 => ?_
    refine region_seq ?_  -- region 2
    refine L_op A rfl (by decide) rfl (y_call0 (by kernel_rfl) rfl  (callN (awake_ok) fun v w Ha gG nN hf ac A => ?_))
    obtain rfl := hf
    replace S : St _ _ _ Ha := (S.new gG nN).perm (by first | exact List.Perm.refl _ | (rw [List.append_assoc]; exact List.Perm.refl _) | (simp only [List.append_assoc, List.nil_append, List.append_nil]; exact List.Perm.refl _))
    refine L_op A rfl (by decide) rfl (y_assign (A.get (s := 17) rfl) fun ac A => ?_)
    replace A := A.keep [(0, .slice va ls.length vc), (2, .bool true), (16, .bool true)] ⟨rfl, rfl, rfl, trivial⟩
    refine hK4 _ _ ?_
    exact wp_ret ⟨A.defers, _, res_run (rs := [.tmp 2]) (vs := [.bool true]) rfl ⟨A.get rfl, trivial⟩, ⟨_, rfl, S.kp.to_gr, _, rfl, S.newF⟩⟩
  · skip
    refine enter Try.func3 rfl (n := 101) rfl (Nat.le_of_ble_eq_true rfl) fun ac A => ?_
    have S : St _ _ _ [] := St.none w0
    refine wp_seq_k fun K1 hK1 => ?_
    refine region_seq ?_  -- region 0
    refine L_op A rfl (by decide) rfl (y_assign rfl fun ac A => ?_)
    replace A := A.keep [(0, .slice va ls.length vc), (2, .bool false)] ⟨rfl, rfl, trivial⟩
    refine hK1 _ _ ?_
    refine wp_seq_k fun K2 hK2 => ?_
    refine wp_seq_k fun K3 hK3 => ?_
    refine region_seq ?_  -- region 1
    refine L_op A rfl (by decide) rfl (y_move (A.get (s := 0) rfl) fun ac A => ?_)
    refine L_op A rfl (by decide) rfl (y_lenS (e := 31) (by kernel_rfl) (A.get (s := 14) rfl) fun ac A => ?_)
    refine L_op A rfl (by decide) rfl (y_gtr (A.get (s := 15) rfl) rfl (c := false) (decide_eq_false (by omega)) fun ac A => ?_)
    replace A := A.keep [(0, .slice va ls.length vc), (2, .bool false), (16, .bool false)] ⟨rfl, rfl, rfl, trivial⟩
    refine hK3 _ _ ?_
    refine wp_cond_false (A.get rfl) ?_
    refine wp_skip ?_
    refine hK2 _ _ ?_
    refine wp_seq_k fun K4 hK4 => ?_
    refine region_seq ?_  -- region 3
    refine L_op A rfl (by decide) rfl (y_build2 rfl rfl (v := .agg #[.int .i64 2, .int .i64 1]) (by kernel_rfl) fun ac A => ?_)
    refine L_op A rfl (by decide) rfl (y_buildSlice1 (c := #[.int .i64 2, .int .i64 1]) (e := 28) (A.get (s := 19) rfl) (fun w => by kernel_rfl) fun b1 w gG nN ac A => ?_)
    replace S : St _ _ _ [(b1, .cells #[.int .i64 2, .int .i64 1] 28 (0, 0))] := S.new gG nN
    refine L_op A rfl (by decide) rfl (y_call2 (by kernel_rfl) rfl rfl (A.get (s := 20) rfl) (callN (new_is (ls := [(2, 1)]) (m := rw0) rfl ⟨rfl, Or.inr ⟨_, _, rfl, cells_at (S.get 0 rfl) rfl⟩⟩ (by decide) (by intro l hl; simp only [List.mem_cons, List.not_mem_nil, or_false] at hl; subst hl; exact ⟨i64_lit rfl, i64_lit rfl⟩)) fun v w Hn gG nN hf ac A => ?_))
    obtain ⟨p, rfl, hN⟩ := hf
    replace S : St _ _ _ (Hn ++ [(b1, .cells #[.int .i64 2, .int .i64 1] 28 (0, 0))]) := (S.new gG nN).perm (by first | exact List.Perm.refl _ | (rw [List.append_assoc]; exact List.Perm.refl _) | (simp only [List.append_assoc, List.nil_append, List.append_nil]; exact List.Perm.refl _))
    replace S : St _ _ _ ([(b1, .cells #[.int .i64 2, .int .i64 1] 28 (0, 0))] ++ Hn) := S.perm (by classical rw [List.perm_iff_count]; intro x; simp only [List.count_append, List.count_cons, List.count_nil] <;> omega)
    refine L_op A rfl (by decide) rfl (y_move (A.get (s := 21) rfl) fun ac A => ?_)
    replace A := A.keep [(0, .slice va ls.length vc), (2, .bool false), (16, .bool false), (18, .tuple #[.pointer (some ⟨p, 0, none⟩), .int .i64 0])] ⟨rfl, rfl, rfl, rfl, trivial⟩
    refine L_op A rfl (by decide) rfl (y_extract (A.get (s := 18) rfl) rfl fun ac A => ?_)
    refine L_op A rfl (by decide) rfl (y_extract (A.get (s := 18) rfl) rfl fun ac A => ?_)
    refine L_op A rfl (by decide) rfl (y_assign (A.get (s := 22) rfl) fun ac A => ?_)
    refine L_op A rfl (by decide) rfl (y_assign (A.get (s := 23) rfl) fun ac A => ?_)
    replace A := A.keep [(0, .slice va ls.length vc), (2, .bool false), (3, .pointer (some ⟨p, 0, none⟩)), (4, .int .i64 0), (16, .bool false)] ⟨rfl, rfl, rfl, rfl, rfl, trivial⟩
    refine hK4 _ _ ?_
    refine wp_seq_k fun K5 hK5 => ?_
    refine wp_seq_k fun K6 hK6 => ?_
    refine region_seq ?_  -- region 4
    refine L_op A rfl (by decide) rfl (y_move (A.get (s := 4) rfl) fun ac A => ?_)
    refine L_op A rfl (by decide) rfl (y_neq (A.get (s := 24) rfl) rfl (c := false) (by decide) fun ac A => ?_)
    refine L_op A rfl (by decide) rfl (y_move (A.get (s := 25) rfl) fun ac A => ?_)
    refine L_yes A rfl (by decide) rfl rfl (by decide) (A.get rfl) (y_move (A.get (s := 3) rfl) fun ac A => ?_)
    refine L_yes A rfl (by decide) rfl rfl (by decide) (A.get rfl) (y_ptrNil (c := false) (by kernel_rfl) (A.get (s := 27) rfl) rfl rfl fun ac A => ?_)
    refine L_op A rfl (by decide) rfl (y_pickF (A.get (s := 26) rfl) (A.get (s := 28) rfl) fun ac A => ?_)
    replace A := A.keep [(0, .slice va ls.length vc), (2, .bool false), (3, .pointer (some ⟨p, 0, none⟩)), (4, .int .i64 0), (16, .bool false), (29, .bool false)] ⟨rfl, rfl, rfl, rfl, rfl, rfl, trivial⟩
    refine hK6 _ _ ?_
    refine wp_cond_false (A.get rfl) ?_
    refine wp_skip ?_
    refine hK5 _ _ ?_
    refine wp_seq_k fun K7 hK7 => ?_
    refine region_seq ?_  -- region 6
    refine L_op A rfl (by decide) rfl (y_assign rfl fun ac A => ?_)
    replace A := A.keep [(0, .slice va ls.length vc), (2, .bool false), (3, .pointer (some ⟨p, 0, none⟩)), (4, .int .i64 0), (5, .slice none 0 0), (16, .bool false), (29, .bool false)] ⟨rfl, rfl, rfl, rfl, rfl, rfl, rfl, trivial⟩
    refine hK7 _ _ ?_
    refine wp_seq_k fun K8 hK8 => ?_
    refine wp_seq_k fun K9 hK9 => ?_
    refine region_seq ?_  -- region 7
    refine L_op A rfl (by decide) rfl (y_assign rfl fun ac A => ?_)
    replace A := A.keep [(0, .slice va ls.length vc), (2, .bool false), (3, .pointer (some ⟨p, 0, none⟩)), (4, .int .i64 0), (5, .slice none 0 0), (6, .int .i64 0), (16, .bool false), (29, .bool false)] ⟨rfl, rfl, rfl, rfl, rfl, rfl, rfl, rfl, trivial⟩
    refine hK9 _ _ ?_
    refine wp_block ?_
    replace A := A.keep [(0, .slice va ls.length vc), (3, .pointer (some ⟨p, 0, none⟩)), (5, .slice none 0 0), (6, .int .i64 0)] ⟨rfl, rfl, rfl, rfl, trivial⟩
    replace S : St _ _ _ (Hn ++ []) := (St.app_right (H := [(b1, .cells #[.int .i64 2, .int .i64 1] 28 (0, 0))]) S).perm (by simp)
    refine wp_loop_ghost (fun kk ac w' => ∃ (i : Nat) (row : List (List UInt8)) (ra : Option Addr) (rc : Nat) (Hn Hr : Frag), kk + i = ls.length ∧ row.length ≤ 24 ∧ Sl 101 ac [(0, .slice va ls.length vc), (3, .pointer (some ⟨p, 0, none⟩)), (5, .slice ra row.length rc), (6, .int .i64 ((i : Nat) : Int))] ∧ St [] w0 w' (Hn ++ Hr) ∧ SlRep 9 1 (.slice ra row.length rc) row.length (row.map strv) Hr ∧ NetRep p (rm row) Hn) ls.length ⟨0, [], none, 0, _, [], by simp, by simp, A, S, SlRep.nil _ _ _, rm_nil ▸ hN⟩ ?_
    clear A S hN
    rintro kk ac w2 ⟨i, row, ra, rc, Hn, Hr, hkk, hrow, A, S, hR, hN⟩
    rcases Nat.lt_or_ge i ls.length with hi | hi
    · obtain ⟨bs, hli⟩ : ∃ l, ls[i]? = some l := ⟨_, List.getElem?_eq_getElem hi⟩
      obtain ⟨va, vc, ba, bc, hva, hcell, hbs⟩ := hs.at hli
      simp only [Value.slice.injEq] at hva; obtain ⟨rfl, -, rfl⟩ := hva
      by_cases c1 : 512 < bs.length
      · have hsend := rm_long (row := row) c1
        refine wp_seq_k fun K10 hK10 => ?_
        refine wp_seq_k fun K11 hK11 => ?_
        refine region_seq ?_  -- region 8
        refine L_op A rfl (by decide) rfl (y_move (A.get (s := 6) rfl) fun ac A => ?_)
        refine L_op A rfl (by decide) rfl (y_move (A.get (s := 0) rfl) fun ac A => ?_)
        refine L_op A rfl (by decide) rfl (y_lenS (e := 31) (by kernel_rfl) (A.get (s := 31) rfl) fun ac A => ?_)
        refine L_op A rfl (by decide) rfl (y_lss (A.get (s := 30) rfl) (A.get (s := 32) rfl) (c := true) (decide_eq_true (by omega)) fun ac A => ?_)
        replace A := A.keep [(0, .slice (some va) ls.length vc), (3, .pointer (some ⟨p, 0, none⟩)), (5, .slice ra row.length rc), (6, .int .i64 (((i : Nat) : Int))), (33, .bool true)] ⟨rfl, rfl, rfl, rfl, rfl, trivial⟩
        refine hK11 _ _ ?_
        refine wp_cond_true (A.get rfl) ?_
        refine wp_skip ?_
        refine hK10 _ _ ?_
        refine wp_seq_k fun K12 hK12 => ?_
        refine wp_block ?_
        refine wp_seq_k fun K13 hK13 => ?_
        refine region_seq ?_  -- region 10
        refine L_op A rfl (by decide) rfl (y_move (A.get (s := 3) rfl) fun ac A => ?_)
        refine L_op A rfl (by decide) rfl (y_move (A.get (s := 0) rfl) fun ac A => ?_)
        refine L_op A rfl (by decide) rfl (y_move (A.get (s := 6) rfl) fun ac A => ?_)
        refine L_op A rfl (by decide) rfl (y_indexA (e := 31) (size := 1) (by kernel_rfl) (by kernel_rfl) (A.get (s := 37) rfl) (A.get (s := 38) rfl) (by omega) (by omega) fun ac A => ?_)
        replace A := A.keep [(0, .slice (some va) ls.length vc), (3, .pointer (some ⟨p, 0, none⟩)), (5, .slice ra row.length rc), (6, .int .i64 (((i : Nat) : Int))), (33, .bool true), (36, .pointer (some ⟨p, 0, none⟩)), (39, .pointer (some (va.add (((i : Nat) : Int).toNat * 1))))] ⟨rfl, rfl, rfl, rfl, rfl, rfl, rfl, trivial⟩
        refine L_op A rfl (by decide) rfl (y_load (by kernel_rfl) (A.get (s := 39) rfl) (S.kp.to_gr.cell' hcell) fun ac A => ?_)
        replace S : St _ _ _ (Hn ++ Hr) := S.perm (by classical rw [List.perm_iff_count]; intro x; simp only [List.count_append] <;> omega)
        refine L_op A rfl (by decide) rfl (y_call4 (by kernel_rfl) rfl (A.get (s := 36) rfl) rfl rfl (A.get (s := 40) rfl) (callW (send_is (bs := bs) hsend hN S.app_left.nd S.app_left.holds (i64_lit rfl) (i64_lit rfl) (hbs.gr S.kp.to_gr) (off_base S hbs)) fun v w Hn1 s hf ac A => ?_))
        replace S : St _ _ _ (Hn1 ++ Hr) := St.call (H := Hn) (R := Hr) S rfl s
        obtain ⟨rfl, hN⟩ := hf
        replace S : St _ _ _ (Hn1 ++ Hr) := S.perm (by classical rw [List.perm_iff_count]; intro x; simp only [List.count_append] <;> omega)
        refine L_op A rfl (by decide) rfl (y_assign (A.get (s := 41) rfl) fun ac A => ?_)
        replace A := A.keep [(0, .slice (some va) ls.length vc), (3, .pointer (some ⟨p, 0, none⟩)), (5, .slice ra row.length rc), (6, .int .i64 (((i : Nat) : Int))), (7, .int .i64 2), (33, .bool true)] ⟨rfl, rfl, rfl, rfl, rfl, rfl, trivial⟩
        refine hK13 _ _ ?_
        refine wp_seq_k fun K14 hK14 => ?_
        refine region_seq ?_  -- region 11
        refine L_op A rfl (by decide) rfl (y_assign rfl fun ac A => ?_)
        replace A := A.keep [(0, .slice (some va) ls.length vc), (3, .pointer (some ⟨p, 0, none⟩)), (5, .slice ra row.length rc), (6, .int .i64 (((i : Nat) : Int))), (7, .int .i64 2), (8, .int .i64 0), (33, .bool true)] ⟨rfl, rfl, rfl, rfl, rfl, rfl, rfl, trivial⟩
        refine hK14 _ _ ?_
        refine wp_seq_k fun K15 hK15 => ?_
        refine wp_seq_k fun K16 hK16 => ?_
        refine region_seq ?_  -- region 12
        refine L_op A rfl (by decide) rfl (y_move (A.get (s := 0) rfl) fun ac A => ?_)
        refine L_op A rfl (by decide) rfl (y_move (A.get (s := 6) rfl) fun ac A => ?_)
        refine L_op A rfl (by decide) rfl (y_indexA (e := 31) (size := 1) (by kernel_rfl) (by kernel_rfl) (A.get (s := 42) rfl) (A.get (s := 43) rfl) (by omega) (by omega) fun ac A => ?_)
        refine L_op A rfl (by decide) rfl (y_load (by kernel_rfl) (A.get (s := 44) rfl) (S.kp.to_gr.cell' hcell) fun ac A => ?_)
        refine L_op A rfl (by decide) rfl (y_lenS (e := 5) (by kernel_rfl) (A.get (s := 45) rfl) fun ac A => ?_)
        refine L_op A rfl (by decide) rfl (y_gtr (A.get (s := 46) rfl) rfl (c := true) (decide_eq_true (by omega)) fun ac A => ?_)
        replace A := A.keep [(0, .slice (some va) ls.length vc), (3, .pointer (some ⟨p, 0, none⟩)), (5, .slice ra row.length rc), (6, .int .i64 (((i : Nat) : Int))), (7, .int .i64 2), (8, .int .i64 0), (33, .bool true), (47, .bool true)] ⟨rfl, rfl, rfl, rfl, rfl, rfl, rfl, rfl, trivial⟩
        refine hK16 _ _ ?_
        refine wp_cond_true (A.get rfl) ?_
        refine region_seq ?_  -- region 13
        refine L_op A rfl (by decide) rfl (y_assign rfl fun ac A => ?_)
        replace A := A.keep [(0, .slice (some va) ls.length vc), (3, .pointer (some ⟨p, 0, none⟩)), (5, .slice ra row.length rc), (6, .int .i64 (((i : Nat) : Int))), (7, .int .i64 2), (8, .int .i64 2), (33, .bool true), (47, .bool true)] ⟨rfl, rfl, rfl, rfl, rfl, rfl, rfl, rfl, trivial⟩
        refine hK15 _ _ ?_
        refine wp_seq_k fun K17 hK17 => ?_
        refine wp_seq_k fun K18 hK18 => ?_
        refine region_seq ?_  -- region 16
        refine L_op A rfl (by decide) rfl (y_move (A.get (s := 7) rfl) fun ac A => ?_)
        refine L_op A rfl (by decide) rfl (y_move (A.get (s := 8) rfl) fun ac A => ?_)
        refine L_op A rfl (by decide) rfl (y_neq (A.get (s := 51) rfl) (A.get (s := 52) rfl) (c := false) (by decide) fun ac A => ?_)
        replace A := A.keep [(0, .slice (some va) ls.length vc), (3, .pointer (some ⟨p, 0, none⟩)), (5, .slice ra row.length rc), (6, .int .i64 (((i : Nat) : Int))), (7, .int .i64 2), (8, .int .i64 2), (33, .bool true), (47, .bool true), (53, .bool false)] ⟨rfl, rfl, rfl, rfl, rfl, rfl, rfl, rfl, rfl, trivial⟩
        refine hK18 _ _ ?_
        refine wp_cond_false (A.get rfl) ?_
        refine wp_skip ?_
        refine hK17 _ _ ?_
        refine wp_seq_k fun K19 hK19 => ?_
        refine region_seq ?_  -- region 18
        refine L_op A rfl (by decide) rfl (y_move (A.get (s := 7) rfl) fun ac A => ?_)
        refine L_op A rfl (by decide) rfl (y_eql (A.get (s := 54) rfl) rfl (c := false) (by decide) fun ac A => ?_)
        replace A := A.keep [(0, .slice (some va) ls.length vc), (3, .pointer (some ⟨p, 0, none⟩)), (5, .slice ra row.length rc), (6, .int .i64 (((i : Nat) : Int))), (7, .int .i64 2), (8, .int .i64 2), (33, .bool true), (47, .bool true), (53, .bool false), (55, .bool false)] ⟨rfl, rfl, rfl, rfl, rfl, rfl, rfl, rfl, rfl, rfl, trivial⟩
        refine hK19 _ _ ?_
        refine wp_cond_false (A.get rfl) ?_
        refine wp_skip ?_
        refine hK12 _ _ ?_
        refine region_seq ?_  -- region 9
        refine L_op A rfl (by decide) rfl (y_move (A.get (s := 6) rfl) fun ac A => ?_)
        refine L_op A rfl (by decide) rfl (y_add (A.get (s := 34) rfl) rfl (c := ((i + 1 : Nat) : Int)) (wrap64' hi (by omega)) fun ac A => ?_)
        refine L_op A rfl (by decide) rfl (y_assign (A.get (s := 35) rfl) fun ac A => ?_)
        replace A := A.keep [(0, .slice (some va) ls.length vc), (3, .pointer (some ⟨p, 0, none⟩)), (5, .slice ra row.length rc), (6, .int .i64 (((i + 1 : Nat) : Int))), (7, .int .i64 2), (8, .int .i64 2), (33, .bool true), (47, .bool true), (53, .bool false), (55, .bool false)] ⟨rfl, rfl, rfl, rfl, rfl, rfl, rfl, rfl, rfl, rfl, trivial⟩
        replace A := A.keep [(0, .slice (some va) ls.length vc), (3, .pointer (some ⟨p, 0, none⟩)), (5, .slice ra row.length rc), (6, .int .i64 (((i + 1 : Nat) : Int)))] ⟨rfl, rfl, rfl, rfl, trivial⟩
        replace S : St _ _ _ (Hn1 ++ Hr) := St.app_left (K := []) (S.perm (by classical rw [List.perm_iff_count]; intro x; simp only [List.count_append, List.count_cons, List.count_nil] <;> omega))
        exact ⟨kk - 1, by omega, i + 1, row, ra, rc, _, _, by omega, hrow, A, S, hR, hN⟩
      by_cases c2 : row.length = 24
      · have hsend := rm_full c1 c2
        refine wp_seq_k fun K10 hK10 => ?_
        refine wp_seq_k fun K11 hK11 => ?_
        refine region_seq ?_  -- region 8
        refine L_op A rfl (by decide) rfl (y_move (A.get (s := 6) rfl) fun ac A => ?_)
        refine L_op A rfl (by decide) rfl (y_move (A.get (s := 0) rfl) fun ac A => ?_)
        refine L_op A rfl (by decide) rfl (y_lenS (e := 31) (by kernel_rfl) (A.get (s := 31) rfl) fun ac A => ?_)
        refine L_op A rfl (by decide) rfl (y_lss (A.get (s := 30) rfl) (A.get (s := 32) rfl) (c := true) (decide_eq_true (by omega)) fun ac A => ?_)
        replace A := A.keep [(0, .slice (some va) ls.length vc), (3, .pointer (some ⟨p, 0, none⟩)), (5, .slice ra row.length rc), (6, .int .i64 (((i : Nat) : Int))), (33, .bool true)] ⟨rfl, rfl, rfl, rfl, rfl, trivial⟩
        refine hK11 _ _ ?_
        refine wp_cond_true (A.get rfl) ?_
        refine wp_skip ?_
        refine hK10 _ _ ?_
        refine wp_seq_k fun K12 hK12 => ?_
        refine wp_block ?_
        refine wp_seq_k fun K13 hK13 => ?_
        refine region_seq ?_  -- region 10
        refine L_op A rfl (by decide) rfl (y_move (A.get (s := 3) rfl) fun ac A => ?_)
        refine L_op A rfl (by decide) rfl (y_move (A.get (s := 0) rfl) fun ac A => ?_)
        refine L_op A rfl (by decide) rfl (y_move (A.get (s := 6) rfl) fun ac A => ?_)
        refine L_op A rfl (by decide) rfl (y_indexA (e := 31) (size := 1) (by kernel_rfl) (by kernel_rfl) (A.get (s := 37) rfl) (A.get (s := 38) rfl) (by omega) (by omega) fun ac A => ?_)
        replace A := A.keep [(0, .slice (some va) ls.length vc), (3, .pointer (some ⟨p, 0, none⟩)), (5, .slice ra row.length rc), (6, .int .i64 (((i : Nat) : Int))), (33, .bool true), (36, .pointer (some ⟨p, 0, none⟩)), (39, .pointer (some (va.add (((i : Nat) : Int).toNat * 1))))] ⟨rfl, rfl, rfl, rfl, rfl, rfl, rfl, trivial⟩
        refine L_op A rfl (by decide) rfl (y_load (by kernel_rfl) (A.get (s := 39) rfl) (S.kp.to_gr.cell' hcell) fun ac A => ?_)
        replace S : St _ _ _ (Hn ++ Hr) := S.perm (by classical rw [List.perm_iff_count]; intro x; simp only [List.count_append] <;> omega)
        refine L_op A rfl (by decide) rfl (y_call4 (by kernel_rfl) rfl (A.get (s := 36) rfl) rfl rfl (A.get (s := 40) rfl) (callW (send_is (bs := bs) hsend hN S.app_left.nd S.app_left.holds (i64_lit rfl) (i64_lit rfl) (hbs.gr S.kp.to_gr) (off_base S hbs)) fun v w Hn1 s hf ac A => ?_))
        replace S : St _ _ _ (Hn1 ++ Hr) := St.call (H := Hn) (R := Hr) S rfl s
        obtain ⟨rfl, hN⟩ := hf
        replace S : St _ _ _ (Hn1 ++ Hr) := S.perm (by classical rw [List.perm_iff_count]; intro x; simp only [List.count_append] <;> omega)
        refine L_op A rfl (by decide) rfl (y_assign (A.get (s := 41) rfl) fun ac A => ?_)
        replace A := A.keep [(0, .slice (some va) ls.length vc), (3, .pointer (some ⟨p, 0, none⟩)), (5, .slice ra row.length rc), (6, .int .i64 (((i : Nat) : Int))), (7, .int .i64 4), (33, .bool true)] ⟨rfl, rfl, rfl, rfl, rfl, rfl, trivial⟩
        refine hK13 _ _ ?_
        refine wp_seq_k fun K14 hK14 => ?_
        refine region_seq ?_  -- region 11
        refine L_op A rfl (by decide) rfl (y_assign rfl fun ac A => ?_)
        replace A := A.keep [(0, .slice (some va) ls.length vc), (3, .pointer (some ⟨p, 0, none⟩)), (5, .slice ra row.length rc), (6, .int .i64 (((i : Nat) : Int))), (7, .int .i64 4), (8, .int .i64 0), (33, .bool true)] ⟨rfl, rfl, rfl, rfl, rfl, rfl, rfl, trivial⟩
        refine hK14 _ _ ?_
        refine wp_seq_k fun K15 hK15 => ?_
        refine wp_seq_k fun K16 hK16 => ?_
        refine region_seq ?_  -- region 12
        refine L_op A rfl (by decide) rfl (y_move (A.get (s := 0) rfl) fun ac A => ?_)
        refine L_op A rfl (by decide) rfl (y_move (A.get (s := 6) rfl) fun ac A => ?_)
        refine L_op A rfl (by decide) rfl (y_indexA (e := 31) (size := 1) (by kernel_rfl) (by kernel_rfl) (A.get (s := 42) rfl) (A.get (s := 43) rfl) (by omega) (by omega) fun ac A => ?_)
        refine L_op A rfl (by decide) rfl (y_load (by kernel_rfl) (A.get (s := 44) rfl) (S.kp.to_gr.cell' hcell) fun ac A => ?_)
        refine L_op A rfl (by decide) rfl (y_lenS (e := 5) (by kernel_rfl) (A.get (s := 45) rfl) fun ac A => ?_)
        refine L_op A rfl (by decide) rfl (y_gtr (A.get (s := 46) rfl) rfl (c := false) (decide_eq_false (by omega)) fun ac A => ?_)
        replace A := A.keep [(0, .slice (some va) ls.length vc), (3, .pointer (some ⟨p, 0, none⟩)), (5, .slice ra row.length rc), (6, .int .i64 (((i : Nat) : Int))), (7, .int .i64 4), (8, .int .i64 0), (33, .bool true), (47, .bool false)] ⟨rfl, rfl, rfl, rfl, rfl, rfl, rfl, rfl, trivial⟩
        refine hK16 _ _ ?_
        refine wp_cond_false (A.get rfl) ?_
        refine wp_seq_k fun K17 hK17 => ?_
        refine region_seq ?_  -- region 14
        refine L_op A rfl (by decide) rfl (y_move (A.get (s := 5) rfl) fun ac A => ?_)
        refine L_op A rfl (by decide) rfl (y_lenS (e := 9) (by kernel_rfl) (A.get (s := 48) rfl) fun ac A => ?_)
        refine L_op A rfl (by decide) rfl (y_eql (A.get (s := 49) rfl) rfl (c := true) (by simp [c2]) fun ac A => ?_)
        replace A := A.keep [(0, .slice (some va) ls.length vc), (3, .pointer (some ⟨p, 0, none⟩)), (5, .slice ra row.length rc), (6, .int .i64 (((i : Nat) : Int))), (7, .int .i64 4), (8, .int .i64 0), (33, .bool true), (47, .bool false), (50, .bool true)] ⟨rfl, rfl, rfl, rfl, rfl, rfl, rfl, rfl, rfl, trivial⟩
        refine hK17 _ _ ?_
        refine wp_cond_true (A.get rfl) ?_
        refine region_seq ?_  -- region 15
        refine L_op A rfl (by decide) rfl (y_assign rfl fun ac A => ?_)
        replace A := A.keep [(0, .slice (some va) ls.length vc), (3, .pointer (some ⟨p, 0, none⟩)), (5, .slice ra row.length rc), (6, .int .i64 (((i : Nat) : Int))), (7, .int .i64 4), (8, .int .i64 4), (33, .bool true), (47, .bool false), (50, .bool true)] ⟨rfl, rfl, rfl, rfl, rfl, rfl, rfl, rfl, rfl, trivial⟩
        refine hK15 _ _ ?_
        refine wp_seq_k fun K18 hK18 => ?_
        refine wp_seq_k fun K19 hK19 => ?_
        refine region_seq ?_  -- region 16
        refine L_op A rfl (by decide) rfl (y_move (A.get (s := 7) rfl) fun ac A => ?_)
        refine L_op A rfl (by decide) rfl (y_move (A.get (s := 8) rfl) fun ac A => ?_)
        refine L_op A rfl (by decide) rfl (y_neq (A.get (s := 51) rfl) (A.get (s := 52) rfl) (c := false) (by decide) fun ac A => ?_)
        replace A := A.keep [(0, .slice (some va) ls.length vc), (3, .pointer (some ⟨p, 0, none⟩)), (5, .slice ra row.length rc), (6, .int .i64 (((i : Nat) : Int))), (7, .int .i64 4), (8, .int .i64 4), (33, .bool true), (47, .bool false), (50, .bool true), (53, .bool false)] ⟨rfl, rfl, rfl, rfl, rfl, rfl, rfl, rfl, rfl, rfl, trivial⟩
        refine hK19 _ _ ?_
        refine wp_cond_false (A.get rfl) ?_
        refine wp_skip ?_
        refine hK18 _ _ ?_
        refine wp_seq_k fun K20 hK20 => ?_
        refine region_seq ?_  -- region 18
        refine L_op A rfl (by decide) rfl (y_move (A.get (s := 7) rfl) fun ac A => ?_)
        refine L_op A rfl (by decide) rfl (y_eql (A.get (s := 54) rfl) rfl (c := false) (by decide) fun ac A => ?_)
        replace A := A.keep [(0, .slice (some va) ls.length vc), (3, .pointer (some ⟨p, 0, none⟩)), (5, .slice ra row.length rc), (6, .int .i64 (((i : Nat) : Int))), (7, .int .i64 4), (8, .int .i64 4), (33, .bool true), (47, .bool false), (50, .bool true), (53, .bool false), (55, .bool false)] ⟨rfl, rfl, rfl, rfl, rfl, rfl, rfl, rfl, rfl, rfl, rfl, trivial⟩
        refine hK20 _ _ ?_
        refine wp_cond_false (A.get rfl) ?_
        refine wp_skip ?_
        refine hK12 _ _ ?_
        refine region_seq ?_  -- region 9
        refine L_op A rfl (by decide) rfl (y_move (A.get (s := 6) rfl) fun ac A => ?_)
        refine L_op A rfl (by decide) rfl (y_add (A.get (s := 34) rfl) rfl (c := ((i + 1 : Nat) : Int)) (wrap64' hi (by omega)) fun ac A => ?_)
        refine L_op A rfl (by decide) rfl (y_assign (A.get (s := 35) rfl) fun ac A => ?_)
        replace A := A.keep [(0, .slice (some va) ls.length vc), (3, .pointer (some ⟨p, 0, none⟩)), (5, .slice ra row.length rc), (6, .int .i64 (((i + 1 : Nat) : Int))), (7, .int .i64 4), (8, .int .i64 4), (33, .bool true), (47, .bool false), (50, .bool true), (53, .bool false), (55, .bool false)] ⟨rfl, rfl, rfl, rfl, rfl, rfl, rfl, rfl, rfl, rfl, rfl, trivial⟩
        replace A := A.keep [(0, .slice (some va) ls.length vc), (3, .pointer (some ⟨p, 0, none⟩)), (5, .slice ra row.length rc), (6, .int .i64 (((i + 1 : Nat) : Int)))] ⟨rfl, rfl, rfl, rfl, trivial⟩
        replace S : St _ _ _ (Hn1 ++ Hr) := St.app_left (K := []) (S.perm (by classical rw [List.perm_iff_count]; intro x; simp only [List.count_append, List.count_cons, List.count_nil] <;> omega))
        exact ⟨kk - 1, by omega, i + 1, row, ra, rc, _, _, by omega, hrow, A, S, hR, hN⟩
      · have hsend := rm_yes (row := row) c1 (by omega)
        refine wp_seq_k fun K10 hK10 => ?_
        refine wp_seq_k fun K11 hK11 => ?_
        refine region_seq ?_  -- region 8
        refine L_op A rfl (by decide) rfl (y_move (A.get (s := 6) rfl) fun ac A => ?_)
        refine L_op A rfl (by decide) rfl (y_move (A.get (s := 0) rfl) fun ac A => ?_)
        refine L_op A rfl (by decide) rfl (y_lenS (e := 31) (by kernel_rfl) (A.get (s := 31) rfl) fun ac A => ?_)
        refine L_op A rfl (by decide) rfl (y_lss (A.get (s := 30) rfl) (A.get (s := 32) rfl) (c := true) (decide_eq_true (by omega)) fun ac A => ?_)
        replace A := A.keep [(0, .slice (some va) ls.length vc), (3, .pointer (some ⟨p, 0, none⟩)), (5, .slice ra row.length rc), (6, .int .i64 (((i : Nat) : Int))), (33, .bool true)] ⟨rfl, rfl, rfl, rfl, rfl, trivial⟩
        refine hK11 _ _ ?_
        refine wp_cond_true (A.get rfl) ?_
        refine wp_skip ?_
        refine hK10 _ _ ?_
        refine wp_seq_k fun K12 hK12 => ?_
        refine wp_block ?_
        refine wp_seq_k fun K13 hK13 => ?_
        refine region_seq ?_  -- region 10
        refine L_op A rfl (by decide) rfl (y_move (A.get (s := 3) rfl) fun ac A => ?_)
        refine L_op A rfl (by decide) rfl (y_move (A.get (s := 0) rfl) fun ac A => ?_)
        refine L_op A rfl (by decide) rfl (y_move (A.get (s := 6) rfl) fun ac A => ?_)
        refine L_op A rfl (by decide) rfl (y_indexA (e := 31) (size := 1) (by kernel_rfl) (by kernel_rfl) (A.get (s := 37) rfl) (A.get (s := 38) rfl) (by omega) (by omega) fun ac A => ?_)
        replace A := A.keep [(0, .slice (some va) ls.length vc), (3, .pointer (some ⟨p, 0, none⟩)), (5, .slice ra row.length rc), (6, .int .i64 (((i : Nat) : Int))), (33, .bool true), (36, .pointer (some ⟨p, 0, none⟩)), (39, .pointer (some (va.add (((i : Nat) : Int).toNat * 1))))] ⟨rfl, rfl, rfl, rfl, rfl, rfl, rfl, trivial⟩
        refine L_op A rfl (by decide) rfl (y_load (by kernel_rfl) (A.get (s := 39) rfl) (S.kp.to_gr.cell' hcell) fun ac A => ?_)
        replace S : St _ _ _ (Hn ++ Hr) := S.perm (by classical rw [List.perm_iff_count]; intro x; simp only [List.count_append] <;> omega)
        refine L_op A rfl (by decide) rfl (y_call4 (by kernel_rfl) rfl (A.get (s := 36) rfl) rfl rfl (A.get (s := 40) rfl) (callW (send_is (bs := bs) hsend hN S.app_left.nd S.app_left.holds (i64_lit rfl) (i64_lit rfl) (hbs.gr S.kp.to_gr) (off_base S hbs)) fun v w Hn1 s hf ac A => ?_))
        replace S : St _ _ _ (Hn1 ++ Hr) := St.call (H := Hn) (R := Hr) S rfl s
        obtain ⟨rfl, hN⟩ := hf
        replace S : St _ _ _ (Hn1 ++ Hr) := S.perm (by classical rw [List.perm_iff_count]; intro x; simp only [List.count_append] <;> omega)
        refine L_op A rfl (by decide) rfl (y_assign (A.get (s := 41) rfl) fun ac A => ?_)
        replace A := A.keep [(0, .slice (some va) ls.length vc), (3, .pointer (some ⟨p, 0, none⟩)), (5, .slice ra row.length rc), (6, .int .i64 (((i : Nat) : Int))), (7, .int .i64 0), (33, .bool true)] ⟨rfl, rfl, rfl, rfl, rfl, rfl, trivial⟩
        refine hK13 _ _ ?_
        refine wp_seq_k fun K14 hK14 => ?_
        refine region_seq ?_  -- region 11
        refine L_op A rfl (by decide) rfl (y_assign rfl fun ac A => ?_)
        replace A := A.keep [(0, .slice (some va) ls.length vc), (3, .pointer (some ⟨p, 0, none⟩)), (5, .slice ra row.length rc), (6, .int .i64 (((i : Nat) : Int))), (7, .int .i64 0), (8, .int .i64 0), (33, .bool true)] ⟨rfl, rfl, rfl, rfl, rfl, rfl, rfl, trivial⟩
        refine hK14 _ _ ?_
        refine wp_seq_k fun K15 hK15 => ?_
        refine wp_seq_k fun K16 hK16 => ?_
        refine region_seq ?_  -- region 12
        refine L_op A rfl (by decide) rfl (y_move (A.get (s := 0) rfl) fun ac A => ?_)
        refine L_op A rfl (by decide) rfl (y_move (A.get (s := 6) rfl) fun ac A => ?_)
        refine L_op A rfl (by decide) rfl (y_indexA (e := 31) (size := 1) (by kernel_rfl) (by kernel_rfl) (A.get (s := 42) rfl) (A.get (s := 43) rfl) (by omega) (by omega) fun ac A => ?_)
        refine L_op A rfl (by decide) rfl (y_load (by kernel_rfl) (A.get (s := 44) rfl) (S.kp.to_gr.cell' hcell) fun ac A => ?_)
        refine L_op A rfl (by decide) rfl (y_lenS (e := 5) (by kernel_rfl) (A.get (s := 45) rfl) fun ac A => ?_)
        refine L_op A rfl (by decide) rfl (y_gtr (A.get (s := 46) rfl) rfl (c := false) (decide_eq_false (by omega)) fun ac A => ?_)
        replace A := A.keep [(0, .slice (some va) ls.length vc), (3, .pointer (some ⟨p, 0, none⟩)), (5, .slice ra row.length rc), (6, .int .i64 (((i : Nat) : Int))), (7, .int .i64 0), (8, .int .i64 0), (33, .bool true), (47, .bool false)] ⟨rfl, rfl, rfl, rfl, rfl, rfl, rfl, rfl, trivial⟩
        refine hK16 _ _ ?_
        refine wp_cond_false (A.get rfl) ?_
        refine wp_seq_k fun K17 hK17 => ?_
        refine region_seq ?_  -- region 14
        refine L_op A rfl (by decide) rfl (y_move (A.get (s := 5) rfl) fun ac A => ?_)
        refine L_op A rfl (by decide) rfl (y_lenS (e := 9) (by kernel_rfl) (A.get (s := 48) rfl) fun ac A => ?_)
        refine L_op A rfl (by decide) rfl (y_eql (A.get (s := 49) rfl) rfl (c := false) (by simpa using (by omega : ¬ (row.length : Int) = 24)) fun ac A => ?_)
        replace A := A.keep [(0, .slice (some va) ls.length vc), (3, .pointer (some ⟨p, 0, none⟩)), (5, .slice ra row.length rc), (6, .int .i64 (((i : Nat) : Int))), (7, .int .i64 0), (8, .int .i64 0), (33, .bool true), (47, .bool false), (50, .bool false)] ⟨rfl, rfl, rfl, rfl, rfl, rfl, rfl, rfl, rfl, trivial⟩
        refine hK17 _ _ ?_
        refine wp_cond_false (A.get rfl) ?_
        refine wp_skip ?_
        refine hK15 _ _ ?_
        refine wp_seq_k fun K18 hK18 => ?_
        refine wp_seq_k fun K19 hK19 => ?_
        refine region_seq ?_  -- region 16
        refine L_op A rfl (by decide) rfl (y_move (A.get (s := 7) rfl) fun ac A => ?_)
        refine L_op A rfl (by decide) rfl (y_move (A.get (s := 8) rfl) fun ac A => ?_)
        refine L_op A rfl (by decide) rfl (y_neq (A.get (s := 51) rfl) (A.get (s := 52) rfl) (c := false) (by decide) fun ac A => ?_)
        replace A := A.keep [(0, .slice (some va) ls.length vc), (3, .pointer (some ⟨p, 0, none⟩)), (5, .slice ra row.length rc), (6, .int .i64 (((i : Nat) : Int))), (7, .int .i64 0), (8, .int .i64 0), (33, .bool true), (47, .bool false), (50, .bool false), (53, .bool false)] ⟨rfl, rfl, rfl, rfl, rfl, rfl, rfl, rfl, rfl, rfl, trivial⟩
        refine hK19 _ _ ?_
        refine wp_cond_false (A.get rfl) ?_
        refine wp_skip ?_
        refine hK18 _ _ ?_
        refine wp_seq_k fun K20 hK20 => ?_
        refine region_seq ?_  -- region 18
        refine L_op A rfl (by decide) rfl (y_move (A.get (s := 7) rfl) fun ac A => ?_)
        refine L_op A rfl (by decide) rfl (y_eql (A.get (s := 54) rfl) rfl (c := true) (by decide) fun ac A => ?_)
        replace A := A.keep [(0, .slice (some va) ls.length vc), (3, .pointer (some ⟨p, 0, none⟩)), (5, .slice ra row.length rc), (6, .int .i64 (((i : Nat) : Int))), (7, .int .i64 0), (8, .int .i64 0), (33, .bool true), (47, .bool false), (50, .bool false), (53, .bool false), (55, .bool true)] ⟨rfl, rfl, rfl, rfl, rfl, rfl, rfl, rfl, rfl, rfl, rfl, trivial⟩
        refine hK20 _ _ ?_
        refine wp_cond_true (A.get rfl) ?_
        refine region_seq ?_  -- region 19
        refine L_op A rfl (by decide) rfl (y_move (A.get (s := 5) rfl) fun ac A => ?_)
        refine L_op A rfl (by decide) rfl (y_move (A.get (s := 0) rfl) fun ac A => ?_)
        refine L_op A rfl (by decide) rfl (y_move (A.get (s := 6) rfl) fun ac A => ?_)
        refine L_op A rfl (by decide) rfl (y_indexA (e := 31) (size := 1) (by kernel_rfl) (by kernel_rfl) (A.get (s := 57) rfl) (A.get (s := 58) rfl) (by omega) (by omega) fun ac A => ?_)
        replace A := A.keep [(0, .slice (some va) ls.length vc), (3, .pointer (some ⟨p, 0, none⟩)), (5, .slice ra row.length rc), (6, .int .i64 (((i : Nat) : Int))), (7, .int .i64 0), (8, .int .i64 0), (33, .bool true), (47, .bool false), (50, .bool false), (53, .bool false), (55, .bool true), (56, .slice ra row.length rc), (59, .pointer (some (va.add (((i : Nat) : Int).toNat * 1))))] ⟨rfl, rfl, rfl, rfl, rfl, rfl, rfl, rfl, rfl, rfl, rfl, rfl, rfl, trivial⟩
        refine L_op A rfl (by decide) rfl (y_load (by kernel_rfl) (A.get (s := 59) rfl) (S.kp.to_gr.cell' hcell) fun ac A => ?_)
        refine L_op A rfl (by decide) rfl (y_bytesStr (e := 5) (l := bs) (by kernel_rfl) (by kernel_rfl) (by kernel_rfl) (A.get (s := 60) rfl) (hbs.gr S.kp.to_gr) fun ac A => ?_)
        refine L_op A rfl (by decide) rfl (y_buildSlice1 (c := #[.string ⟨bs.toArray⟩]) (e := 9) (A.get (s := 61) rfl) (fun w => by kernel_rfl) fun b2 w gG nN ac A => ?_)
        replace S : St _ _ _ ([(b2, .cells #[.string ⟨bs.toArray⟩] 9 (0, 0))] ++ (Hn1 ++ Hr)) := (S.new gG nN).perm (by first | exact List.Perm.refl _ | (rw [List.append_assoc]; exact List.Perm.refl _) | (simp only [List.append_assoc, List.nil_append, List.append_nil]; exact List.Perm.refl _))
        have hsrc : Src w 1 (.slice (some ⟨b2, 0, none⟩) 1 1) 1 ([bs].map strv) := ⟨rfl, Or.inr ⟨_, _, rfl, cells_at (S.get 0 rfl) rfl⟩⟩
        replace S : St _ _ _ (Hr ++ ([(b2, .cells #[.string ⟨bs.toArray⟩] 9 (0, 0))] ++ Hn1)) := S.perm (by classical rw [List.perm_iff_count]; intro x; simp only [List.count_append, List.count_cons, List.count_nil] <;> omega)
        refine L_op A rfl (by decide) rfl (y_append okSS (by kernel_rfl) (A.get (s := 56) rfl) (A.get (s := 62) rfl) S hR hsrc (str_one _) (by omega) (by omega) fun v' w Hr2 hR2 S ac A => ?_)
        obtain ⟨ra2, rc2, rfl⟩ := hR2.len
        replace S : St _ _ _ ([(b2, .cells #[.string ⟨bs.toArray⟩] 9 (0, 0))] ++ (Hn1 ++ Hr2)) := S.perm (by classical rw [List.perm_iff_count]; intro x; simp only [List.count_append, List.count_cons, List.count_nil] <;> omega)
        replace A := A.keep [(0, .slice (some va) ls.length vc), (3, .pointer (some ⟨p, 0, none⟩)), (5, .slice ra row.length rc), (6, .int .i64 (((i : Nat) : Int))), (7, .int .i64 0), (8, .int .i64 0), (33, .bool true), (47, .bool false), (50, .bool false), (53, .bool false), (55, .bool true), (63, .slice ra2 (row.length + 1) rc2)] ⟨rfl, rfl, rfl, rfl, rfl, rfl, rfl, rfl, rfl, rfl, rfl, rfl, trivial⟩
        refine L_op A rfl (by decide) rfl (y_assign (A.get (s := 63) rfl) fun ac A => ?_)
        replace A := A.keep [(0, .slice (some va) ls.length vc), (3, .pointer (some ⟨p, 0, none⟩)), (5, .slice ra2 (row.length + 1) rc2), (6, .int .i64 (((i : Nat) : Int))), (7, .int .i64 0), (8, .int .i64 0), (33, .bool true), (47, .bool false), (50, .bool false), (53, .bool false), (55, .bool true)] ⟨rfl, rfl, rfl, rfl, rfl, rfl, rfl, rfl, rfl, rfl, rfl, trivial⟩
        refine hK12 _ _ ?_
        refine region_seq ?_  -- region 9
        refine L_op A rfl (by decide) rfl (y_move (A.get (s := 6) rfl) fun ac A => ?_)
        refine L_op A rfl (by decide) rfl (y_add (A.get (s := 34) rfl) rfl (c := ((i + 1 : Nat) : Int)) (wrap64' hi (by omega)) fun ac A => ?_)
        refine L_op A rfl (by decide) rfl (y_assign (A.get (s := 35) rfl) fun ac A => ?_)
        replace A := A.keep [(0, .slice (some va) ls.length vc), (3, .pointer (some ⟨p, 0, none⟩)), (5, .slice ra2 (row.length + 1) rc2), (6, .int .i64 (((i + 1 : Nat) : Int))), (7, .int .i64 0), (8, .int .i64 0), (33, .bool true), (47, .bool false), (50, .bool false), (53, .bool false), (55, .bool true)] ⟨rfl, rfl, rfl, rfl, rfl, rfl, rfl, rfl, rfl, rfl, rfl, trivial⟩
        replace A := A.keep [(0, .slice (some va) ls.length vc), (3, .pointer (some ⟨p, 0, none⟩)), (5, .slice ra2 (row.length + 1) rc2), (6, .int .i64 (((i + 1 : Nat) : Int)))] ⟨rfl, rfl, rfl, rfl, trivial⟩
        replace S : St _ _ _ (Hn1 ++ Hr2) := St.app_left (K := [(b2, .cells #[.string ⟨bs.toArray⟩] 9 (0, 0))]) (S.perm (by classical rw [List.perm_iff_count]; intro x; simp only [List.count_append, List.count_cons, List.count_nil] <;> omega))
        exact ⟨kk - 1, by omega, i + 1, row ++ [bs], ra2, rc2, _, _, by omega, by simp; omega, (by simpa using A), S, (by simpa using hR2), hN⟩
    · obtain rfl : i = ls.length := by omega
      refine wp_seq_k fun K10 hK10 => ?_
      refine wp_seq_k fun K11 hK11 => ?_
      refine region_seq ?_  -- region 8
      refine L_op A rfl (by decide) rfl (y_move (A.get (s := 6) rfl) fun ac A => ?_)
      refine L_op A rfl (by decide) rfl (y_move (A.get (s := 0) rfl) fun ac A => ?_)
      refine L_op A rfl (by decide) rfl (y_lenS (e := 31) (by kernel_rfl) (A.get (s := 31) rfl) fun ac A => ?_)
      refine L_op A rfl (by decide) rfl (y_lss (A.get (s := 30) rfl) (A.get (s := 32) rfl) (c := false) (decide_eq_false (by omega)) fun ac A => ?_)
      replace A := A.keep [(0, .slice va ls.length vc), (3, .pointer (some ⟨p, 0, none⟩)), (5, .slice ra row.length rc), (6, .int .i64 (((ls.length : Nat) : Int))), (33, .bool false)] ⟨rfl, rfl, rfl, rfl, rfl, trivial⟩
      refine hK11 _ _ ?_
      refine wp_cond_false (A.get rfl) ?_
      refine wp_exit ?_
      refine hK8 _ _ ?_
      refine wp_seq_k fun K12 hK12 => ?_
      refine wp_seq_k fun K13 hK13 => ?_
      refine region_seq ?_  -- region 20
      refine L_op A rfl (by decide) rfl (y_assign rfl fun ac A => ?_)
      replace A := A.keep [(0, .slice va ls.length vc), (3, .pointer (some ⟨p, 0, none⟩)), (5, .slice ra row.length rc), (6, .int .i64 (((ls.length : Nat) : Int))), (9, .int .i64 0), (33, .bool false)] ⟨rfl, rfl, rfl, rfl, rfl, rfl, trivial⟩
      refine hK13 _ _ ?_
      refine wp_block ?_
      replace A := A.keep [(0, .slice va ls.length vc), (3, .pointer (some ⟨p, 0, none⟩)), (5, .slice ra row.length rc), (9, .int .i64 (((0 : Nat) : Int)))] ⟨rfl, rfl, rfl, rfl, trivial⟩
      refine wp_loop_ghost (fun kk ac w' => ∃ (i : Nat) (Hn : Frag), kk + i = row.length ∧ Sl 101 ac [(0, .slice va ls.length vc), (3, .pointer (some ⟨p, 0, none⟩)), (5, .slice ra row.length rc), (9, .int .i64 ((i : Nat) : Int))] ∧ St [] w0 w' (Hn ++ Hr) ∧ NetRep p (rm (row.drop i)) Hn) row.length ⟨0, _, by simp, A, S, hN⟩ ?_
      clear A S hN
      rintro kk ac w3 ⟨i, Hn, hkk, A, S, hN⟩
      rcases Nat.lt_or_ge i row.length with hi | hi
      · obtain ⟨bs, hli⟩ : ∃ l, row[i]? = some l := ⟨_, List.getElem?_eq_getElem hi⟩
        have hdrop : row.drop i = bs :: row.drop (i + 1) := by rw [List.drop_eq_getElem_cons hi]; congr 1; rw [List.getElem?_eq_getElem hi] at hli; exact Option.some.inj hli
        rw [hdrop] at hN
        obtain ⟨rb, rcap, rcs, hra, rfl, hcs, hcap, htake⟩ := hR.block (by omega)
        simp only [Value.slice.injEq] at hra; obtain ⟨rfl, -, rfl⟩ := hra
        replace S : St _ _ _ ([(rb, .cells rcs 9 (0, 0))] ++ Hn) := S.perm (by classical rw [List.perm_iff_count]; intro x; simp only [List.count_append, List.count_cons, List.count_nil] <;> omega)
        refine wp_seq_k fun K14 hK14 => ?_
        refine wp_seq_k fun K15 hK15 => ?_
        refine region_seq ?_  -- region 21
        refine L_op A rfl (by decide) rfl (y_move (A.get (s := 9) rfl) fun ac A => ?_)
        refine L_op A rfl (by decide) rfl (y_move (A.get (s := 5) rfl) fun ac A => ?_)
        refine L_op A rfl (by decide) rfl (y_lenS (e := 9) (by kernel_rfl) (A.get (s := 65) rfl) fun ac A => ?_)
        refine L_op A rfl (by decide) rfl (y_lss (A.get (s := 64) rfl) (A.get (s := 66) rfl) (c := true) (decide_eq_true (by omega)) fun ac A => ?_)
        replace A := A.keep [(0, .slice va ls.length vc), (3, .pointer (some ⟨p, 0, none⟩)), (5, .slice (some ⟨rb, 0, none⟩) row.length rc), (9, .int .i64 (((i : Nat) : Int))), (67, .bool true)] ⟨rfl, rfl, rfl, rfl, rfl, trivial⟩
        refine hK15 _ _ ?_
        refine wp_cond_true (A.get rfl) ?_
        refine wp_skip ?_
        refine hK14 _ _ ?_
        refine wp_seq_k fun K16 hK16 => ?_
        refine wp_block ?_
        refine wp_seq_k fun K17 hK17 => ?_
        refine region_seq ?_  -- region 23
        refine L_op A rfl (by decide) rfl (y_move (A.get (s := 3) rfl) fun ac A => ?_)
        replace S : St _ _ _ (Hn ++ [(rb, .cells rcs 9 (0, 0))]) := S.perm (by classical rw [List.perm_iff_count]; intro x; simp only [List.count_append, List.count_cons, List.count_nil] <;> omega)
        refine L_op A rfl (by decide) rfl (y_call4 (by kernel_rfl) rfl (A.get (s := 71) rfl) rfl rfl rfl (callW (take_is rm_take hN S.app_left.nd S.app_left.holds (i64_lit rfl) (i64_lit rfl)) fun v w Hx s hf ac A => ?_))
        replace S : St _ _ _ (Hx ++ [(rb, .cells rcs 9 (0, 0))]) := St.call (H := Hn) (R := [(rb, .cells rcs 9 (0, 0))]) S rfl s
        obtain ⟨vb, Hb, Hn1, rfl, hB, rfl, hN⟩ := hf
        replace S : St _ _ _ ((Hn1 ++ Hb) ++ [(rb, .cells rcs 9 (0, 0))]) := S
        replace S : St _ _ _ (Hn1 ++ (Hb ++ [(rb, .cells rcs 9 (0, 0))])) := S.perm (by classical rw [List.perm_iff_count]; intro x; simp only [List.count_append, List.count_cons, List.count_nil] <;> omega)
        replace S : St _ _ _ ([(rb, .cells rcs 9 (0, 0))] ++ (Hn1 ++ Hb)) := S.perm (by classical rw [List.perm_iff_count]; intro x; simp only [List.count_append, List.count_cons, List.count_nil] <;> omega)
        obtain ⟨ta, tc, rfl⟩ := SlRep.len hB
        refine L_op A rfl (by decide) rfl (y_move (A.get (s := 72) rfl) fun ac A => ?_)
        refine L_op A rfl (by decide) rfl (y_extract (A.get (s := 70) rfl) rfl fun ac A => ?_)
        replace A := A.keep [(0, .slice va ls.length vc), (3, .pointer (some ⟨p, 0, none⟩)), (5, .slice (some ⟨rb, 0, none⟩) row.length rc), (9, .int .i64 (((i : Nat) : Int))), (67, .bool true), (70, .tuple #[.slice ta bs.length tc, .int .i64 0]), (73, .slice ta bs.length tc)] ⟨rfl, rfl, rfl, rfl, rfl, rfl, rfl, trivial⟩
        refine L_op A rfl (by decide) rfl (y_extract (A.get (s := 70) rfl) rfl fun ac A => ?_)
        refine L_op A rfl (by decide) rfl (y_assign (A.get (s := 73) rfl) fun ac A => ?_)
        refine L_op A rfl (by decide) rfl (y_assign (A.get (s := 74) rfl) fun ac A => ?_)
        replace A := A.keep [(0, .slice va ls.length vc), (3, .pointer (some ⟨p, 0, none⟩)), (5, .slice (some ⟨rb, 0, none⟩) row.length rc), (9, .int .i64 (((i : Nat) : Int))), (10, .slice ta bs.length tc), (11, .int .i64 0), (67, .bool true)] ⟨rfl, rfl, rfl, rfl, rfl, rfl, rfl, trivial⟩
        refine hK17 _ _ ?_
        refine wp_seq_k fun K18 hK18 => ?_
        refine region_draw A [⟨75, pl (eqv (.int .i64 0)), [], [11], none, false⟩, ⟨76, pl (eqv (.bool false)), [0], [], none, false⟩, ⟨77, pl (eqv (.bool false)), [1], [], none, false⟩, ⟨78, pl (eqv (.slice ta bs.length tc)), [2], [10], some (77, false), false⟩, ⟨79, pl (eqv (.string ⟨bs.toArray⟩)), [3, 2], [], some (77, false), false⟩, ⟨80, pl (eqv (.slice (some ⟨rb, 0, none⟩) row.length rc)), [2], [5], some (77, false), false⟩, ⟨81, pl (eqv (.int .i64 (((i : Nat) : Int)))), [2], [9], some (77, false), false⟩, ⟨82, pl (eqv (.pointer (some ⟨rb, i, none⟩))), [5, 6, 2], [], some (77, false), false⟩, ⟨83, pl (eqv (.string ⟨bs.toArray⟩)), [7, 2], [], some (77, false), false⟩, ⟨84, pl (eqv (.bool false)), [4, 8, 2], [], some (77, false), false⟩, ⟨85, pl (eqv (.bool false)), [2, 9], [], none, false⟩] [] (by kernel_rfl) (by kernel_rfl) (fun d _ _ _ _ h => by cases d <;> exact h) ⟨?_, ?_, ?_, ?_, ?_, ?_, ?_, ?_, ?_, ?_, ?_, trivial⟩ ?_  -- region 24
        · refine due_plain fun ρ w1 G hsrc hold => ?_; obtain ⟨o11, -⟩ := hold; exact y_move (o11.trans (A.get (s := 11) rfl)) y_eq
        · refine due_plain fun ρ w1 G hsrc hold => ?_; obtain ⟨⟨_, _, ⟨h75, -⟩, -⟩, -⟩ := hsrc; exact y_neq h75 (G.const _) (c := false) (by decide) y_eq
        · refine due_plain fun ρ w1 G hsrc hold => ?_; obtain ⟨⟨_, _, ⟨h76, -⟩, -⟩, -⟩ := hsrc; exact y_move h76 y_eq
        · refine due_guard fun ρ w1 G hsrc hold => ?_; obtain ⟨⟨_, _, ⟨h77, -⟩, -⟩, -⟩ := hsrc; obtain ⟨o10, -⟩ := hold; exact ⟨_, h77, (fun _ => y_move (o10.trans (A.get (s := 10) rfl)) y_eq), fun h => absurd rfl h⟩
        · refine due_guard fun ρ w1 G hsrc hold => ?_; obtain ⟨⟨_, _, ⟨h78, -⟩, -⟩, ⟨_, _, ⟨h77, -⟩, -⟩, -⟩ := hsrc; exact ⟨_, h77, (fun _ => y_bytesStr (e := 5) (l := bs) (by kernel_rfl) (by kernel_rfl) (by kernel_rfl) h78 (hB.src (Holds.gr (St.app_left (H := Hb) (K := ([(rb, .cells rcs 9 (0, 0))] ++ Hn1)) (S.perm (by classical rw [List.perm_iff_count]; intro x; simp only [List.count_append, List.count_cons, List.count_nil] <;> omega))).holds G.gr)) y_eq), fun h => absurd rfl h⟩
        · refine due_guard fun ρ w1 G hsrc hold => ?_; obtain ⟨⟨_, _, ⟨h77, -⟩, -⟩, -⟩ := hsrc; obtain ⟨o5, -⟩ := hold; exact ⟨_, h77, (fun _ => y_move (o5.trans (A.get (s := 5) rfl)) y_eq), fun h => absurd rfl h⟩
        · refine due_guard fun ρ w1 G hsrc hold => ?_; obtain ⟨⟨_, _, ⟨h77, -⟩, -⟩, -⟩ := hsrc; obtain ⟨o9, -⟩ := hold; exact ⟨_, h77, (fun _ => y_move (o9.trans (A.get (s := 9) rfl)) y_eq), fun h => absurd rfl h⟩
        · refine due_guard fun ρ w1 G hsrc hold => ?_; obtain ⟨⟨_, _, ⟨h80, -⟩, -⟩, ⟨_, _, ⟨h81, -⟩, -⟩, ⟨_, _, ⟨h77, -⟩, -⟩, -⟩ := hsrc; exact ⟨_, h77, (fun _ => y_indexS (e := 9) (size := 1) (by kernel_rfl) (by kernel_rfl) h80 h81 (by omega) (by omega) (j := i) (by omega) y_eq), fun h => absurd rfl h⟩
        · refine due_guard fun ρ w1 G hsrc hold => ?_; obtain ⟨⟨_, _, ⟨h82, -⟩, -⟩, ⟨_, _, ⟨h77, -⟩, -⟩, -⟩ := hsrc; exact ⟨_, h77, (fun _ => y_load (by kernel_rfl) h82 ((cell_of (G.gr.heap' (S.get 0 rfl)) _).trans ((SlRep.cell htake (by omega)).trans (by rw [List.getElem?_map, hli]; rfl))) y_eq), fun h => absurd rfl h⟩
        · refine due_guard fun ρ w1 G hsrc hold => ?_; obtain ⟨⟨_, _, ⟨h79, -⟩, -⟩, ⟨_, _, ⟨h83, -⟩, -⟩, ⟨_, _, ⟨h77, -⟩, -⟩, -⟩ := hsrc; exact ⟨_, h77, (fun _ => y_neqStr (a := bs) (b := bs) h79 h83 (c := false) (by simp) y_eq), fun h => absurd rfl h⟩
        · refine due_plain fun ρ w1 G hsrc hold => ?_; obtain ⟨⟨_, _, ⟨h77, -⟩, -⟩, ⟨_, _, ⟨h84, -⟩, -⟩, -⟩ := hsrc; exact y_pickF h77 h84 y_eq
        rintro _ _ ⟨rfl, rfl⟩ _ _ ⟨rfl, rfl⟩ _ _ ⟨rfl, rfl⟩ _ _ ⟨rfl, rfl⟩ _ _ ⟨rfl, rfl⟩ _ _ ⟨rfl, rfl⟩ _ _ ⟨rfl, rfl⟩ _ _ ⟨rfl, rfl⟩ _ _ ⟨rfl, rfl⟩ _ _ ⟨rfl, rfl⟩ _ _ ⟨rfl, rfl⟩
        intro ac w A gG nN
        replace S : St _ _ _ ([(rb, .cells rcs 9 (0, 0))] ++ (Hn1 ++ Hb)) := (S.new gG nN).perm (by first | exact List.Perm.refl _ | (rw [List.append_assoc]; exact List.Perm.refl _) | (simp only [List.append_assoc, List.nil_append, List.append_nil]; exact List.Perm.refl _))
        replace A := A.keep [(0, .slice va ls.length vc), (3, .pointer (some ⟨p, 0, none⟩)), (5, .slice (some ⟨rb, 0, none⟩) row.length rc), (9, .int .i64 (((i : Nat) : Int))), (10, .slice ta bs.length tc), (11, .int .i64 0), (67, .bool true), (85, .bool false)] ⟨rfl, rfl, rfl, rfl, rfl, rfl, rfl, rfl, trivial⟩
        refine hK18 _ _ ?_
        refine wp_cond_false (A.get rfl) ?_
        refine wp_skip ?_
        refine hK16 _ _ ?_
        refine region_seq ?_  -- region 22
        refine L_op A rfl (by decide) rfl (y_move (A.get (s := 9) rfl) fun ac A => ?_)
        refine L_op A rfl (by decide) rfl (y_add (A.get (s := 68) rfl) rfl (c := ((i + 1 : Nat) : Int)) (wrap64' hi (by omega)) fun ac A => ?_)
        refine L_op A rfl (by decide) rfl (y_assign (A.get (s := 69) rfl) fun ac A => ?_)
        replace A := A.keep [(0, .slice va ls.length vc), (3, .pointer (some ⟨p, 0, none⟩)), (5, .slice (some ⟨rb, 0, none⟩) row.length rc), (9, .int .i64 (((i + 1 : Nat) : Int))), (10, .slice ta bs.length tc), (11, .int .i64 0), (67, .bool true), (85, .bool false)] ⟨rfl, rfl, rfl, rfl, rfl, rfl, rfl, rfl, trivial⟩
        replace A := A.keep [(0, .slice va ls.length vc), (3, .pointer (some ⟨p, 0, none⟩)), (5, .slice (some ⟨rb, 0, none⟩) row.length rc), (9, .int .i64 (((i + 1 : Nat) : Int)))] ⟨rfl, rfl, rfl, rfl, trivial⟩
        replace S : St _ _ _ (Hn1 ++ [(rb, .cells rcs 9 (0, 0))]) := St.app_left (K := Hb) (S.perm (by classical rw [List.perm_iff_count]; intro x; simp only [List.count_append, List.count_cons, List.count_nil] <;> omega))
        exact ⟨kk - 1, by omega, i + 1, _, by omega, A, S, hN⟩
      · obtain rfl : i = row.length := by omega
        rw [List.drop_length] at hN
        refine wp_seq_k fun K14 hK14 => ?_
        refine wp_seq_k fun K15 hK15 => ?_
        refine region_seq ?_  -- region 21
        refine L_op A rfl (by decide) rfl (y_move (A.get (s := 9) rfl) fun ac A => ?_)
        refine L_op A rfl (by decide) rfl (y_move (A.get (s := 5) rfl) fun ac A => ?_)
        refine L_op A rfl (by decide) rfl (y_lenS (e := 9) (by kernel_rfl) (A.get (s := 65) rfl) fun ac A => ?_)
        refine L_op A rfl (by decide) rfl (y_lss (A.get (s := 64) rfl) (A.get (s := 66) rfl) (c := false) (decide_eq_false (by omega)) fun ac A => ?_)
        replace A := A.keep [(0, .slice va ls.length vc), (3, .pointer (some ⟨p, 0, none⟩)), (5, .slice ra row.length rc), (9, .int .i64 (((row.length : Nat) : Int))), (67, .bool false)] ⟨rfl, rfl, rfl, rfl, rfl, trivial⟩
        refine hK15 _ _ ?_
        refine wp_cond_false (A.get rfl) ?_
        refine wp_exit ?_
        refine hK12 _ _ ?_
        refine wp_seq_k fun K16 hK16 => ?_
        refine region_seq ?_  -- region 26
        refine L_op A rfl (by decide) rfl (y_move (A.get (s := 3) rfl) fun ac A => ?_)
        replace S : St _ _ _ (Hn ++ Hr) := S.perm (by classical rw [List.perm_iff_count]; intro x; simp only [List.count_append] <;> omega)
        refine L_op A rfl (by decide) rfl (y_call4 (by kernel_rfl) rfl (A.get (s := 87) rfl) rfl rfl rfl (callW (take_is rm_none hN S.app_left.nd S.app_left.holds (i64_lit rfl) (i64_lit rfl)) fun v w Hx s hf ac A => ?_))
        replace S : St _ _ _ (Hx ++ Hr) := St.call (H := Hn) (R := Hr) S rfl s
        obtain ⟨vb, Hb, Hn1, rfl, hB, rfl, hN⟩ := hf
        replace S : St _ _ _ ((Hn1 ++ Hb) ++ Hr) := S
        replace S : St _ _ _ (Hn1 ++ (Hb ++ Hr)) := S.perm (by classical rw [List.perm_iff_count]; intro x; simp only [List.count_append] <;> omega)
        replace S : St _ _ _ (Hn1 ++ (Hb ++ Hr)) := S.perm (by classical rw [List.perm_iff_count]; intro x; simp only [List.count_append] <;> omega)
        obtain ⟨ta, tc, rfl⟩ := SlRep.len hB
        refine L_op A rfl (by decide) rfl (y_move (A.get (s := 88) rfl) fun ac A => ?_)
        refine L_op A rfl (by decide) rfl (y_extract (A.get (s := 86) rfl) rfl fun ac A => ?_)
        replace A := A.keep [(0, .slice va ls.length vc), (3, .pointer (some ⟨p, 0, none⟩)), (5, .slice ra row.length rc), (9, .int .i64 (((row.length : Nat) : Int))), (67, .bool false), (86, .tuple #[.slice ta 0 tc, .int .i64 5]), (89, .slice ta 0 tc)] ⟨rfl, rfl, rfl, rfl, rfl, rfl, rfl, trivial⟩
        refine L_op A rfl (by decide) rfl (y_extract (A.get (s := 86) rfl) rfl fun ac A => ?_)
        refine L_op A rfl (by decide) rfl (y_assign (A.get (s := 89) rfl) fun ac A => ?_)
        refine L_op A rfl (by decide) rfl (y_assign (A.get (s := 90) rfl) fun ac A => ?_)
        replace A := A.keep [(0, .slice va ls.length vc), (3, .pointer (some ⟨p, 0, none⟩)), (5, .slice ra row.length rc), (9, .int .i64 (((row.length : Nat) : Int))), (13, .int .i64 5), (67, .bool false)] ⟨rfl, rfl, rfl, rfl, rfl, rfl, trivial⟩
        refine hK16 _ _ ?_
        refine wp_seq_k fun K17 hK17 => ?_
        refine region_seq ?_  -- region 27
        refine L_op A rfl (by decide) rfl (y_move (A.get (s := 13) rfl) fun ac A => ?_)
        refine L_op A rfl (by decide) rfl (y_eql (A.get (s := 91) rfl) rfl (c := true) (by decide) fun ac A => ?_)
        refine L_op A rfl (by decide) rfl (y_move (A.get (s := 92) rfl) fun ac A => ?_)
        refine L_yes A rfl (by decide) rfl rfl (by decide) (A.get rfl) (y_move (A.get (s := 3) rfl) fun ac A => ?_)
        replace A := A.keep [(0, .slice va ls.length vc), (3, .pointer (some ⟨p, 0, none⟩)), (5, .slice ra row.length rc), (9, .int .i64 (((row.length : Nat) : Int))), (13, .int .i64 5), (67, .bool false), (93, .bool true), (94, .pointer (some ⟨p, 0, none⟩))] ⟨rfl, rfl, rfl, rfl, rfl, rfl, rfl, rfl, trivial⟩
        refine L_yes A rfl (by decide) rfl rfl (by decide) (A.get rfl) (y_call3 (by kernel_rfl) rfl (A.get (s := 94) rfl) rfl rfl (callN (len_is (n := 0) rm_len hN (St.app_left (H := Hn1) (K := (Hb ++ Hr)) (S.perm (by classical rw [List.perm_iff_count]; intro x; simp only [List.count_append] <;> omega))).holds (i64_lit rfl) (i64_lit rfl)) fun v w H gG nN hf ac A => ?_))
        obtain ⟨rfl, rfl⟩ := hf
        replace S : St _ _ _ (Hn1 ++ (Hb ++ Hr)) := (S.new gG nN).perm (by first | exact List.Perm.refl _ | (rw [List.append_assoc]; exact List.Perm.refl _) | (simp only [List.append_assoc, List.nil_append, List.append_nil]; exact List.Perm.refl _))
        refine L_yes A rfl (by decide) rfl rfl (by decide) (A.get rfl) (y_eql (A.get (s := 95) rfl) rfl (c := true) (by decide) fun ac A => ?_)
        refine L_op A rfl (by decide) rfl (y_pickT (A.get (s := 93) rfl) (A.get (s := 96) rfl) fun ac A => ?_)
        refine L_op A rfl (by decide) rfl (y_move (A.get (s := 97) rfl) fun ac A => ?_)
        replace A := A.keep [(0, .slice va ls.length vc), (3, .pointer (some ⟨p, 0, none⟩)), (5, .slice ra row.length rc), (9, .int .i64 (((row.length : Nat) : Int))), (13, .int .i64 5), (67, .bool false), (98, .bool true)] ⟨rfl, rfl, rfl, rfl, rfl, rfl, rfl, trivial⟩
        refine L_yes A rfl (by decide) rfl rfl (by decide) (A.get rfl) (y_call0 (by kernel_rfl) rfl  (callN (awake_ok) fun v w Ha gG nN hf ac A => ?_))
        obtain rfl := hf
        replace S : St _ _ _ (Ha ++ (Hn1 ++ (Hb ++ Hr))) := (S.new gG nN).perm (by first | exact List.Perm.refl _ | (rw [List.append_assoc]; exact List.Perm.refl _) | (simp only [List.append_assoc, List.nil_append, List.append_nil]; exact List.Perm.refl _))
        refine L_op A rfl (by decide) rfl (y_pickT (A.get (s := 98) rfl) (A.get (s := 99) rfl) fun ac A => ?_)
        refine L_op A rfl (by decide) rfl (y_assign (A.get (s := 100) rfl) fun ac A => ?_)
        replace A := A.keep [(0, .slice va ls.length vc), (2, .bool true), (3, .pointer (some ⟨p, 0, none⟩)), (5, .slice ra row.length rc), (9, .int .i64 (((row.length : Nat) : Int))), (13, .int .i64 5), (67, .bool false)] ⟨rfl, rfl, rfl, rfl, rfl, rfl, rfl, trivial⟩
        refine hK17 _ _ ?_
        exact wp_ret ⟨A.defers, _, res_run (rs := [.tmp 2]) (vs := [.bool true]) rfl ⟨A.get rfl, trivial⟩, ⟨_, rfl, S.kp.to_gr, _, rfl, S.newF⟩⟩
end Go.Proofs.Ytaeidblipdjgnaa
