import Derived.Test.YtaeidblipdjgnaaRefM
namespace Go.Proofs.Ytaeidblipdjgnaa
open Go.RowKit Go.Maps Go.WideMaps

def nw (a b : Int) (g : Dm) : Bool := !isw a b g.d
def kept (a b : Int) (l : List Dm) : List Dm := l.filter (nw a b)
def RM.lose (R : RM) (a b : Int) : RM := { R with way := R.way.filter fun g => !isw a b g }
theorem kept_next {a b : Int} {l : List Dm} {i : Nat} {g : Dm} (h : l[i]? = some g) : kept a b (l.take (i + 1)) = kept a b (l.take i) ++ if isw a b g.d then [] else [g] := by
  unfold kept; rw [List.take_add_one, h, List.filter_append]; cases hg : isw a b g.d <;> simp [nw, hg]
theorem kept_gd {a b : Int} {l : List Dm} : gmD (kept a b l) = (gmD l).filter fun g => !isw a b g := by
  induction l with
  | nil => rfl
  | cons g r ih => simp only [kept, gmD, List.filter_cons, List.map_cons, nw] at ih ⊢; split <;> simp_all
theorem gmH_part (f : Dm → Bool) (l : List Dm) : (gmH l).Perm (gmH (l.filter f) ++ gmH (l.filter fun g => !f g)) := by
  induction l with
  | nil => exact List.Perm.refl _
  | cons g r ih =>
    cases hg : f g
    · simp only [gmH, List.flatMap_cons, List.filter_cons, hg, Bool.not_false, if_true, Bool.false_eq_true, if_false] at ih ⊢
      exact (List.Perm.append_left g.H ih).trans (List.perm_append_comm_assoc _ _ _)
    · simp only [gmH, List.flatMap_cons, List.filter_cons, hg, Bool.not_true, if_true, Bool.false_eq_true, if_false, List.append_assoc] at ih ⊢
      exact List.Perm.append_left g.H ih
theorem kept_count {a b : Int} {R : RM} {gs : List Dm} (h : gmD gs = R.way) : R.len a b + (kept a b gs).length = gs.length := by
  unfold RM.len; rw [← h]; clear h
  induction gs with
  | nil => rfl
  | cons g r ih =>
    simp only [kept, gmD, List.map_cons, List.filter_cons] at ih ⊢
    cases hg : isw a b g.d <;> simp [nw, hg] <;> omega
theorem RefP.lose {R : RM} {vl : Value} {Hl : Frag} {vc : Value} {Hc : Frag} {vw : Value} {Hw : Frag} {gs : List Dm} (h : RefP R vl Hl vc Hc vw Hw gs) {a b : Int} {v' : Value} {Hx : Frag} (hr : SlRep 93 4 v' (kept a b gs).length (gmCells (kept a b gs)) Hx) : RefP (R.lose a b) vl Hl vc Hc v' Hx (kept a b gs) :=
  ⟨h.links, h.cuts, hr, by rw [kept_gd, h.gd]; rfl, fun g hg => h.ok g (List.mem_filter.1 hg).1, h.few, h.same⟩
theorem lose_len (R : RM) (a b : Int) : (R.lose a b).way.length ≤ R.way.length := List.length_filter_le _ _
theorem len_le (R : RM) (a b : Int) : R.len a b ≤ R.way.length := List.length_filter_le _ _
section
variable {p : Nat} {R : RM} {w0 : World} {a b i : Int} {H : Frag}
set_option maxRecDepth 20000 in
set_option maxHeartbeats 8000000 in
theorem rlose_ok (hrep : RefRep p R H) (nd : (keys H).Nodup) (hH : Holds w0 H) (hw : R.way.length ≤ 1000000) : Calls Try.prog 60 #[.pointer (some ⟨p, 0, none⟩), .int .i64 a, .int .i64 b] w0 (RetW (keys H) w0 fun r H' => r = .int .i64 ((R.len a b : Nat) : Int) ∧ RefRep p (R.lose a b) H') := by
  have hrep0 := hrep
  obtain ⟨vl, Hl, vc, Hc, vw, Hw, gs, h, rfl⟩ := hrep
  have hgl : gs.length = R.way.length := by rw [← h.gd]; simp [gmD]
  have S0 := St.start nd hH
  generalize hD : keys _ = DD at S0 ⊢
  obtain ⟨l1, l2, rfl⟩ := h.links.len
  obtain ⟨c1, c2, rfl⟩ := h.cuts.len
  obtain ⟨w1, w2, rfl⟩ := h.way.len
  have hcnt := kept_count (a := a) (b := b) h.gd
  refine enter Try.func60 rfl (n := 64) rfl (Nat.le_of_ble_eq_true rfl) fun _ A => ?_
  have S : St _ _ _ ([(p, .cells #[.int .i64 R.n, .slice l1 R.links.length l2, .slice c1 R.cuts.length c2, .slice w1 gs.length w2] 64 (0, 0))] ++ (Hl ++ (Hc ++ (Hw ++ (gmH gs))))) := S0
  clear S0
  have G0 : Gr w0 w0 := Gr.refl w0
  refine wp_seq_k fun K1 hK1 => ?_
  refine region_seq ?_  -- region 0
  refine La A rfl (evc _ _) fun _ A => ?_
  replace A := A.only [6, 2, 1, 0] rfl
  refine hK1 _ _ ?_
  refine wp_seq_k fun K2 hK2 => ?_
  refine region_seq ?_  -- region 1
  refine La A rfl (evc _ _) fun _ A => ?_
  replace A := A.only [7, 6, 2, 1, 0] rfl
  refine hK2 _ _ ?_
  refine wp_seq_k fun K3 hK3 => ?_
  refine wp_seq_k fun K4 hK4 => ?_
  refine region_seq ?_  -- region 2
  refine La A rfl (evc _ _) fun _ A => ?_
  replace A := A.only [8, 7, 6, 2, 1, 0] rfl
  refine hK4 _ _ ?_
  refine wp_block ?_
  replace A := A.only [8, 7, 2, 1, 0] rfl
  refine wp_loop_ghost (fun kk ac w' => ∃ (i : Nat) (vx : Value) (Hx : Frag), kk + i = gs.length ∧ SlRep 93 4 vx (kept a b (gs.take i)).length (gmCells (kept a b (gs.take i))) Hx ∧ Sl 64 ac [(0, .pointer (some ⟨p, 0, none⟩)), (1, .int .i64 a), (2, .int .i64 b), (7, vx), (8, .int .i64 ((i : Nat) : Int))] ∧ St DD w0 w' ([(p, .cells #[.int .i64 R.n, .slice l1 R.links.length l2, .slice c1 R.cuts.length c2, .slice w1 gs.length w2] 64 (0, 0))] ++ (Hl ++ (Hc ++ (Hw ++ ((gmH gs) ++ Hx)))))) gs.length ⟨0, _, [], by simp, SlRep.nil _ _ none, A, S.perm (by classical rw [List.perm_iff_count]; intro x; simp only [List.count_append, List.count_cons, List.count_nil] <;> omega)⟩ ?_
  clear A S G0
  rintro kk ac w ⟨i, vx, Hx, hkk, hx, A, S⟩
  obtain ⟨x1, x2, rfl⟩ := hx.len
  rcases Nat.lt_or_ge i gs.length with hi | hi
  · obtain ⟨g, hli⟩ : ∃ g, gs[i]? = some g := ⟨_, List.getElem?_eq_getElem hi⟩
    obtain ⟨va, vc, hva, hrow⟩ := gm_row (h.way.src (St.app_left (H := Hw) (K := ([(p, .cells #[.int .i64 R.n, .slice l1 R.links.length l2, .slice c1 R.cuts.length c2, .slice w1 gs.length w2] 64 (0, 0))] ++ (Hl ++ (Hc ++ ((gmH gs) ++ Hx))))) (S.perm (by classical rw [List.perm_iff_count]; intro x; simp only [List.count_append, List.count_cons, List.count_nil] <;> omega))).holds) hli
    simp only [Value.slice.injEq] at hva; obtain ⟨rfl, -, rfl⟩ := hva
    obtain ⟨ga, gc, hgv⟩ := SlRep.len (h.ok g (List.mem_of_getElem? hli)).1
    have hkl : (kept a b (gs.take i)).length ≤ i := Nat.le_trans (List.length_filter_le _ _) (by simp; omega)
    have hnx := kept_next (a := a) (b := b) hli
    cases d1 : (g.d.f == a) with
    | false =>
      refine wp_seq_k fun K5 hK5 => ?_
      refine wp_seq_k fun K6 hK6 => ?_
      refine region_seq ?_  -- region 3
      refine Lm A rfl (A.g 8 rfl) fun _ A => Lm A rfl (A.g 0 rfl) fun _ A => Lo A rfl (y_nilCheck (A.g 11 rfl) fun _ A => ?_)
      refine Lo A rfl (y_fieldAddr (off := 3) (j := 3) (by kernel_rfl) (A.g 12 rfl) (by first | rfl | omega) fun _ A => ?_)
      replace A := A.only [13, 10, 8, 7, 2, 1, 0] rfl
      refine Lo A rfl (y_load (by kernel_rfl) (A.g 13 rfl) ((cell_of (S.get 0 rfl) _).trans rfl) fun _ A => ?_)
      refine Lo A rfl (y_lenS (e := 93) (by kernel_rfl) (A.g 14 rfl) fun _ A => ?_)
      refine Lo A rfl (y_lss (A.g 10 rfl) (A.g 15 rfl) (c := true) (decide_eq_true (by omega)) fun _ A => ?_)
      replace A := A.only [16, 8, 7, 2, 1, 0] rfl
      refine hK6 _ _ ?_
      refine wp_cond_true (A.get rfl) ?_
      refine wp_skip ?_
      refine hK5 _ _ ?_
      refine wp_seq_k fun K7 hK7 => ?_
      refine wp_block ?_
      refine wp_seq_k fun K8 hK8 => ?_
      refine region_seq ?_  -- region 5
      refine Lm A rfl (A.g 0 rfl) fun _ A => Lo A rfl (y_nilCheck (A.g 19 rfl) fun _ A => ?_)
      refine Lo A rfl (y_fieldAddr (off := 3) (j := 3) (by kernel_rfl) (A.g 20 rfl) (by first | rfl | omega) fun _ A => ?_)
      refine Lo A rfl (y_load (by kernel_rfl) (A.g 21 rfl) ((cell_of (S.get 0 rfl) _).trans rfl) fun _ A => ?_)
      replace A := A.only [22, 16, 8, 7, 2, 1, 0] rfl
      refine Lm A rfl (A.g 8 rfl) fun _ A => Lo A rfl (y_indexA (e := 93) (size := 4) (by kernel_rfl) (by kernel_rfl) (A.g 22 rfl) (A.g 23 rfl) (by omega) (by omega) fun _ A => ?_)
      refine Lo A rfl (y_fieldA (off := 0) (by kernel_rfl) (A.g 24 rfl) fun _ A => ?_)
      refine Lo A rfl (y_load (by kernel_rfl) (A.g 25 rfl) (hrow 0 (Nat.le_of_ble_eq_true rfl)) fun _ A => ?_)
      replace A := A.only [26, 16, 8, 7, 2, 1, 0] rfl
      refine Lm A rfl (A.g 1 rfl) fun _ A => Lo A rfl (y_neq (A.g 26 rfl) (A.g 27 rfl) (c := true) (by simp_all [bne]) fun _ A => ?_)
      refine Lm A rfl (A.g 28 rfl) fun _ A => L_no A rfl (by decide) rfl rfl (by decide) (A.get rfl) (by decide) fun _ A => ?_
      replace A := A.only [30, 29, 16, 8, 7, 2, 1, 0] rfl
      refine L_no A rfl (by decide) rfl rfl (by decide) (A.get rfl) (by decide) fun _ A => ?_
      refine L_no A rfl (by decide) rfl rfl (by decide) (A.get rfl) (by decide) fun _ A => ?_
      refine L_no A rfl (by decide) rfl rfl (by decide) (A.get rfl) (by decide) fun _ A => ?_
      refine L_no A rfl (by decide) rfl rfl (by decide) (A.get rfl) (by decide) fun _ A => ?_
      replace A := A.only [34, 33, 29, 16, 8, 7, 2, 1, 0] rfl
      refine L_no A rfl (by decide) rfl rfl (by decide) (A.get rfl) (by decide) fun _ A => ?_
      refine L_no A rfl (by decide) rfl rfl (by decide) (A.get rfl) (by decide) fun _ A => ?_
      refine L_no A rfl (by decide) rfl rfl (by decide) (A.get rfl) (by decide) fun _ A => ?_
      refine L_no A rfl (by decide) rfl rfl (by decide) (A.get rfl) (by decide) fun _ A => ?_
      replace A := A.only [38, 37, 29, 16, 8, 7, 2, 1, 0] rfl
      refine L_no A rfl (by decide) rfl rfl (by decide) (A.get rfl) (by decide) fun _ A => ?_
      refine Lo A rfl (y_pickT (A.g 29 rfl) (evc _ _) fun _ A => ?_)
      replace A := A.only [40, 16, 8, 7, 2, 1, 0] rfl
      refine hK8 _ _ ?_
      refine wp_cond_true (A.get rfl) ?_
      refine region_seq ?_  -- region 6
      refine Lm A rfl (A.g 7 rfl) fun _ A => Lm A rfl (A.g 0 rfl) fun _ A => Lo A rfl (y_nilCheck (A.g 42 rfl) fun _ A => ?_)
      refine Lo A rfl (y_fieldAddr (off := 3) (j := 3) (by kernel_rfl) (A.g 43 rfl) (by first | rfl | omega) fun _ A => ?_)
      replace A := A.only [44, 41, 40, 16, 8, 7, 2, 1, 0] rfl
      refine Lo A rfl (y_load (by kernel_rfl) (A.g 44 rfl) ((cell_of (S.get 0 rfl) _).trans rfl) fun _ A => ?_)
      refine Lm A rfl (A.g 8 rfl) fun _ A => Lo A rfl (y_indexA (e := 93) (size := 4) (by kernel_rfl) (by kernel_rfl) (A.g 45 rfl) (A.g 46 rfl) (by omega) (by omega) fun _ A => ?_)
      refine Lo A rfl (y_loadAgg [.int .i64 g.d.f, .int .i64 g.d.t, g.v, .bool g.d.sp] (by kernel_rfl) (A.g 47 rfl) hrow fun _ A => ?_)
      replace A := A.only [48, 41, 40, 16, 8, 7, 2, 1, 0] rfl
      refine Lo A rfl (y_buildSlice1 (c := #[.int .i64 g.d.f, .int .i64 g.d.t, g.v, .bool g.d.sp]) (e := 93) (A.g 48 rfl) (fun w => by kernel_rfl) fun b1 w gG nN ac A => ?_)
      replace S : St _ _ _ ([(b1, .cells #[.int .i64 g.d.f, .int .i64 g.d.t, g.v, .bool g.d.sp] 93 (0, 0)), (p, .cells #[.int .i64 R.n, .slice l1 R.links.length l2, .slice c1 R.cuts.length c2, .slice (some va) gs.length w2] 64 (0, 0))] ++ (Hl ++ (Hc ++ (Hw ++ ((gmH gs) ++ Hx))))) := (S.new gG nN).perm (by first | exact .refl _ | (rw [List.append_assoc]; exact .refl _) | (simp only [List.append_assoc, List.nil_append, List.append_nil]; exact .refl _))
      have hsrc : Src w 4 (.slice (some ⟨b1, 0, none⟩) 1 1) 1 [.int .i64 g.d.f, .int .i64 g.d.t, g.v, .bool g.d.sp] := ⟨rfl, Or.inr ⟨_, _, rfl, cells_at (S.get 0 rfl) rfl⟩⟩
      replace S : St _ _ _ (Hx ++ ([(b1, .cells #[.int .i64 g.d.f, .int .i64 g.d.t, g.v, .bool g.d.sp] 93 (0, 0)), (p, .cells #[.int .i64 R.n, .slice l1 R.links.length l2, .slice c1 R.cuts.length c2, .slice (some va) gs.length w2] 64 (0, 0))] ++ (Hl ++ (Hc ++ (Hw ++ (gmH gs)))))) := S.perm (by classical rw [List.perm_iff_count]; intro x; simp only [List.count_append, List.count_cons, List.count_nil] <;> omega)
      refine Lo A rfl (y_append okGR (by kernel_rfl) (A.g 41 rfl) (A.g 49 rfl) (H := Hx) S hx hsrc (one_all (by rw [hgv]; rfl)) (by omega) (by omega) fun v2 w Hx2 hr2 S ac A => ?_)
      obtain ⟨y1, y2, rfl⟩ := hr2.len
      replace S : St _ _ _ ([(b1, .cells #[.int .i64 g.d.f, .int .i64 g.d.t, g.v, .bool g.d.sp] 93 (0, 0)), (p, .cells #[.int .i64 R.n, .slice l1 R.links.length l2, .slice c1 R.cuts.length c2, .slice (some va) gs.length w2] 64 (0, 0))] ++ (Hl ++ (Hc ++ (Hw ++ ((gmH gs) ++ Hx2))))) := S.perm (by classical rw [List.perm_iff_count]; intro x; simp only [List.count_append, List.count_cons, List.count_nil] <;> omega)
      refine La A rfl (A.g 50 rfl) fun _ A => ?_
      replace A := A.only [40, 16, 8, 7, 2, 1, 0] rfl
      refine hK7 _ _ ?_
      refine region_seq ?_  -- region 4
      refine Lm A rfl (A.g 8 rfl) fun _ A => Lo A rfl (y_add (A.g 17 rfl) (evc _ _) (c := ((i + 1 : Nat) : Int)) ((wrap64 (by omega)).trans (by omega)) fun _ A => ?_)
      refine La A rfl (A.g 18 rfl) fun _ A => ?_
      replace A := A.only [40, 16, 8, 7, 2, 1, 0] rfl
      replace A := A.only [8, 7, 2, 1, 0] rfl
      rw [if_neg (by simp [isw, d1])] at hnx
      replace S : St _ _ _ ([(p, .cells #[.int .i64 R.n, .slice l1 R.links.length l2, .slice c1 R.cuts.length c2, .slice (some va) gs.length w2] 64 (0, 0))] ++ (Hl ++ (Hc ++ (Hw ++ ((gmH gs) ++ Hx2))))) := St.app_left (K := [(b1, .cells #[.int .i64 g.d.f, .int .i64 g.d.t, g.v, .bool g.d.sp] 93 (0, 0))]) (S.perm (by classical rw [List.perm_iff_count]; intro x; simp only [List.count_append, List.count_cons, List.count_nil] <;> omega))
      exact ⟨kk - 1, by omega, i + 1, _, _, by omega, by rw [hnx, List.length_append, gmCells_snoc]; exact hr2, A, S⟩
    | true =>
      cases d2 : (g.d.t == b) with
      | false =>
        refine wp_seq_k fun K5 hK5 => ?_
        refine wp_seq_k fun K6 hK6 => ?_
        refine region_seq ?_  -- region 3
        refine Lm A rfl (A.g 8 rfl) fun _ A => Lm A rfl (A.g 0 rfl) fun _ A => Lo A rfl (y_nilCheck (A.g 11 rfl) fun _ A => ?_)
        refine Lo A rfl (y_fieldAddr (off := 3) (j := 3) (by kernel_rfl) (A.g 12 rfl) (by first | rfl | omega) fun _ A => ?_)
        replace A := A.only [13, 10, 8, 7, 2, 1, 0] rfl
        refine Lo A rfl (y_load (by kernel_rfl) (A.g 13 rfl) ((cell_of (S.get 0 rfl) _).trans rfl) fun _ A => ?_)
        refine Lo A rfl (y_lenS (e := 93) (by kernel_rfl) (A.g 14 rfl) fun _ A => ?_)
        refine Lo A rfl (y_lss (A.g 10 rfl) (A.g 15 rfl) (c := true) (decide_eq_true (by omega)) fun _ A => ?_)
        replace A := A.only [16, 8, 7, 2, 1, 0] rfl
        refine hK6 _ _ ?_
        refine wp_cond_true (A.get rfl) ?_
        refine wp_skip ?_
        refine hK5 _ _ ?_
        refine wp_seq_k fun K7 hK7 => ?_
        refine wp_block ?_
        refine wp_seq_k fun K8 hK8 => ?_
        refine region_seq ?_  -- region 5
        refine Lm A rfl (A.g 0 rfl) fun _ A => Lo A rfl (y_nilCheck (A.g 19 rfl) fun _ A => ?_)
        refine Lo A rfl (y_fieldAddr (off := 3) (j := 3) (by kernel_rfl) (A.g 20 rfl) (by first | rfl | omega) fun _ A => ?_)
        refine Lo A rfl (y_load (by kernel_rfl) (A.g 21 rfl) ((cell_of (S.get 0 rfl) _).trans rfl) fun _ A => ?_)
        replace A := A.only [22, 16, 8, 7, 2, 1, 0] rfl
        refine Lm A rfl (A.g 8 rfl) fun _ A => Lo A rfl (y_indexA (e := 93) (size := 4) (by kernel_rfl) (by kernel_rfl) (A.g 22 rfl) (A.g 23 rfl) (by omega) (by omega) fun _ A => ?_)
        refine Lo A rfl (y_fieldA (off := 0) (by kernel_rfl) (A.g 24 rfl) fun _ A => ?_)
        refine Lo A rfl (y_load (by kernel_rfl) (A.g 25 rfl) (hrow 0 (Nat.le_of_ble_eq_true rfl)) fun _ A => ?_)
        replace A := A.only [26, 16, 8, 7, 2, 1, 0] rfl
        refine Lm A rfl (A.g 1 rfl) fun _ A => Lo A rfl (y_neq (A.g 26 rfl) (A.g 27 rfl) (c := false) (by simp_all [bne]) fun _ A => ?_)
        refine Lm A rfl (A.g 28 rfl) fun _ A => L_yes A rfl (by decide) rfl rfl (by decide) (A.get rfl) (y_move (A.g 0 rfl) fun _ A => ?_)
        replace A := A.only [30, 29, 16, 8, 7, 2, 1, 0] rfl
        refine L_yes A rfl (by decide) rfl rfl (by decide) (A.get rfl) (y_nilCheck (A.g 30 rfl) fun _ A => ?_)
        refine L_yes A rfl (by decide) rfl rfl (by decide) (A.get rfl) (y_fieldAddr (off := 3) (j := 3) (by kernel_rfl) (A.g 31 rfl) (by first | rfl | omega) fun _ A => ?_)
        refine L_yes A rfl (by decide) rfl rfl (by decide) (A.get rfl) (y_load (by kernel_rfl) (A.g 32 rfl) ((cell_of (S.get 0 rfl) _).trans rfl) fun _ A => ?_)
        refine L_yes A rfl (by decide) rfl rfl (by decide) (A.get rfl) (y_move (A.g 8 rfl) fun _ A => ?_)
        replace A := A.only [34, 33, 29, 16, 8, 7, 2, 1, 0] rfl
        refine L_yes A rfl (by decide) rfl rfl (by decide) (A.get rfl) (y_indexA (e := 93) (size := 4) (by kernel_rfl) (by kernel_rfl) (A.g 33 rfl) (A.g 34 rfl) (by omega) (by omega) fun _ A => ?_)
        refine L_yes A rfl (by decide) rfl rfl (by decide) (A.get rfl) (y_fieldA (off := 1) (by kernel_rfl) (A.g 35 rfl) fun _ A => ?_)
        refine L_yes A rfl (by decide) rfl rfl (by decide) (A.get rfl) (y_load (by kernel_rfl) (A.g 36 rfl) (hrow 1 (Nat.le_of_ble_eq_true rfl)) fun _ A => ?_)
        refine L_yes A rfl (by decide) rfl rfl (by decide) (A.get rfl) (y_move (A.g 2 rfl) fun _ A => ?_)
        replace A := A.only [38, 37, 29, 16, 8, 7, 2, 1, 0] rfl
        refine L_yes A rfl (by decide) rfl rfl (by decide) (A.get rfl) (y_neq (A.g 37 rfl) (A.g 38 rfl) (c := true) (by simp_all [bne]) fun _ A => ?_)
        refine Lo A rfl (y_pickF (A.g 29 rfl) (A.g 39 rfl) fun _ A => ?_)
        replace A := A.only [40, 16, 8, 7, 2, 1, 0] rfl
        refine hK8 _ _ ?_
        refine wp_cond_true (A.get rfl) ?_
        refine region_seq ?_  -- region 6
        refine Lm A rfl (A.g 7 rfl) fun _ A => Lm A rfl (A.g 0 rfl) fun _ A => Lo A rfl (y_nilCheck (A.g 42 rfl) fun _ A => ?_)
        refine Lo A rfl (y_fieldAddr (off := 3) (j := 3) (by kernel_rfl) (A.g 43 rfl) (by first | rfl | omega) fun _ A => ?_)
        replace A := A.only [44, 41, 40, 16, 8, 7, 2, 1, 0] rfl
        refine Lo A rfl (y_load (by kernel_rfl) (A.g 44 rfl) ((cell_of (S.get 0 rfl) _).trans rfl) fun _ A => ?_)
        refine Lm A rfl (A.g 8 rfl) fun _ A => Lo A rfl (y_indexA (e := 93) (size := 4) (by kernel_rfl) (by kernel_rfl) (A.g 45 rfl) (A.g 46 rfl) (by omega) (by omega) fun _ A => ?_)
        refine Lo A rfl (y_loadAgg [.int .i64 g.d.f, .int .i64 g.d.t, g.v, .bool g.d.sp] (by kernel_rfl) (A.g 47 rfl) hrow fun _ A => ?_)
        replace A := A.only [48, 41, 40, 16, 8, 7, 2, 1, 0] rfl
        refine Lo A rfl (y_buildSlice1 (c := #[.int .i64 g.d.f, .int .i64 g.d.t, g.v, .bool g.d.sp]) (e := 93) (A.g 48 rfl) (fun w => by kernel_rfl) fun b1 w gG nN ac A => ?_)
        replace S : St _ _ _ ([(b1, .cells #[.int .i64 g.d.f, .int .i64 g.d.t, g.v, .bool g.d.sp] 93 (0, 0)), (p, .cells #[.int .i64 R.n, .slice l1 R.links.length l2, .slice c1 R.cuts.length c2, .slice (some va) gs.length w2] 64 (0, 0))] ++ (Hl ++ (Hc ++ (Hw ++ ((gmH gs) ++ Hx))))) := (S.new gG nN).perm (by first | exact .refl _ | (rw [List.append_assoc]; exact .refl _) | (simp only [List.append_assoc, List.nil_append, List.append_nil]; exact .refl _))
        have hsrc : Src w 4 (.slice (some ⟨b1, 0, none⟩) 1 1) 1 [.int .i64 g.d.f, .int .i64 g.d.t, g.v, .bool g.d.sp] := ⟨rfl, Or.inr ⟨_, _, rfl, cells_at (S.get 0 rfl) rfl⟩⟩
        replace S : St _ _ _ (Hx ++ ([(b1, .cells #[.int .i64 g.d.f, .int .i64 g.d.t, g.v, .bool g.d.sp] 93 (0, 0)), (p, .cells #[.int .i64 R.n, .slice l1 R.links.length l2, .slice c1 R.cuts.length c2, .slice (some va) gs.length w2] 64 (0, 0))] ++ (Hl ++ (Hc ++ (Hw ++ (gmH gs)))))) := S.perm (by classical rw [List.perm_iff_count]; intro x; simp only [List.count_append, List.count_cons, List.count_nil] <;> omega)
        refine Lo A rfl (y_append okGR (by kernel_rfl) (A.g 41 rfl) (A.g 49 rfl) (H := Hx) S hx hsrc (one_all (by rw [hgv]; rfl)) (by omega) (by omega) fun v2 w Hx2 hr2 S ac A => ?_)
        obtain ⟨y1, y2, rfl⟩ := hr2.len
        replace S : St _ _ _ ([(b1, .cells #[.int .i64 g.d.f, .int .i64 g.d.t, g.v, .bool g.d.sp] 93 (0, 0)), (p, .cells #[.int .i64 R.n, .slice l1 R.links.length l2, .slice c1 R.cuts.length c2, .slice (some va) gs.length w2] 64 (0, 0))] ++ (Hl ++ (Hc ++ (Hw ++ ((gmH gs) ++ Hx2))))) := S.perm (by classical rw [List.perm_iff_count]; intro x; simp only [List.count_append, List.count_cons, List.count_nil] <;> omega)
        refine La A rfl (A.g 50 rfl) fun _ A => ?_
        replace A := A.only [40, 16, 8, 7, 2, 1, 0] rfl
        refine hK7 _ _ ?_
        refine region_seq ?_  -- region 4
        refine Lm A rfl (A.g 8 rfl) fun _ A => Lo A rfl (y_add (A.g 17 rfl) (evc _ _) (c := ((i + 1 : Nat) : Int)) ((wrap64 (by omega)).trans (by omega)) fun _ A => ?_)
        refine La A rfl (A.g 18 rfl) fun _ A => ?_
        replace A := A.only [40, 16, 8, 7, 2, 1, 0] rfl
        replace A := A.only [8, 7, 2, 1, 0] rfl
        rw [if_neg (by simp [isw, d1, d2])] at hnx
        replace S : St _ _ _ ([(p, .cells #[.int .i64 R.n, .slice l1 R.links.length l2, .slice c1 R.cuts.length c2, .slice (some va) gs.length w2] 64 (0, 0))] ++ (Hl ++ (Hc ++ (Hw ++ ((gmH gs) ++ Hx2))))) := St.app_left (K := [(b1, .cells #[.int .i64 g.d.f, .int .i64 g.d.t, g.v, .bool g.d.sp] 93 (0, 0))]) (S.perm (by classical rw [List.perm_iff_count]; intro x; simp only [List.count_append, List.count_cons, List.count_nil] <;> omega))
        exact ⟨kk - 1, by omega, i + 1, _, _, by omega, by rw [hnx, List.length_append, gmCells_snoc]; exact hr2, A, S⟩
      | true =>
        refine wp_seq_k fun K5 hK5 => ?_
        refine wp_seq_k fun K6 hK6 => ?_
        refine region_seq ?_  -- region 3
        refine Lm A rfl (A.g 8 rfl) fun _ A => Lm A rfl (A.g 0 rfl) fun _ A => Lo A rfl (y_nilCheck (A.g 11 rfl) fun _ A => ?_)
        refine Lo A rfl (y_fieldAddr (off := 3) (j := 3) (by kernel_rfl) (A.g 12 rfl) (by first | rfl | omega) fun _ A => ?_)
        replace A := A.only [13, 10, 8, 7, 2, 1, 0] rfl
        refine Lo A rfl (y_load (by kernel_rfl) (A.g 13 rfl) ((cell_of (S.get 0 rfl) _).trans rfl) fun _ A => ?_)
        refine Lo A rfl (y_lenS (e := 93) (by kernel_rfl) (A.g 14 rfl) fun _ A => ?_)
        refine Lo A rfl (y_lss (A.g 10 rfl) (A.g 15 rfl) (c := true) (decide_eq_true (by omega)) fun _ A => ?_)
        replace A := A.only [16, 8, 7, 2, 1, 0] rfl
        refine hK6 _ _ ?_
        refine wp_cond_true (A.get rfl) ?_
        refine wp_skip ?_
        refine hK5 _ _ ?_
        refine wp_seq_k fun K7 hK7 => ?_
        refine wp_block ?_
        refine wp_seq_k fun K8 hK8 => ?_
        refine region_seq ?_  -- region 5
        refine Lm A rfl (A.g 0 rfl) fun _ A => Lo A rfl (y_nilCheck (A.g 19 rfl) fun _ A => ?_)
        refine Lo A rfl (y_fieldAddr (off := 3) (j := 3) (by kernel_rfl) (A.g 20 rfl) (by first | rfl | omega) fun _ A => ?_)
        refine Lo A rfl (y_load (by kernel_rfl) (A.g 21 rfl) ((cell_of (S.get 0 rfl) _).trans rfl) fun _ A => ?_)
        replace A := A.only [22, 16, 8, 7, 2, 1, 0] rfl
        refine Lm A rfl (A.g 8 rfl) fun _ A => Lo A rfl (y_indexA (e := 93) (size := 4) (by kernel_rfl) (by kernel_rfl) (A.g 22 rfl) (A.g 23 rfl) (by omega) (by omega) fun _ A => ?_)
        refine Lo A rfl (y_fieldA (off := 0) (by kernel_rfl) (A.g 24 rfl) fun _ A => ?_)
        refine Lo A rfl (y_load (by kernel_rfl) (A.g 25 rfl) (hrow 0 (Nat.le_of_ble_eq_true rfl)) fun _ A => ?_)
        replace A := A.only [26, 16, 8, 7, 2, 1, 0] rfl
        refine Lm A rfl (A.g 1 rfl) fun _ A => Lo A rfl (y_neq (A.g 26 rfl) (A.g 27 rfl) (c := false) (by simp_all [bne]) fun _ A => ?_)
        refine Lm A rfl (A.g 28 rfl) fun _ A => L_yes A rfl (by decide) rfl rfl (by decide) (A.get rfl) (y_move (A.g 0 rfl) fun _ A => ?_)
        replace A := A.only [30, 29, 16, 8, 7, 2, 1, 0] rfl
        refine L_yes A rfl (by decide) rfl rfl (by decide) (A.get rfl) (y_nilCheck (A.g 30 rfl) fun _ A => ?_)
        refine L_yes A rfl (by decide) rfl rfl (by decide) (A.get rfl) (y_fieldAddr (off := 3) (j := 3) (by kernel_rfl) (A.g 31 rfl) (by first | rfl | omega) fun _ A => ?_)
        refine L_yes A rfl (by decide) rfl rfl (by decide) (A.get rfl) (y_load (by kernel_rfl) (A.g 32 rfl) ((cell_of (S.get 0 rfl) _).trans rfl) fun _ A => ?_)
        refine L_yes A rfl (by decide) rfl rfl (by decide) (A.get rfl) (y_move (A.g 8 rfl) fun _ A => ?_)
        replace A := A.only [34, 33, 29, 16, 8, 7, 2, 1, 0] rfl
        refine L_yes A rfl (by decide) rfl rfl (by decide) (A.get rfl) (y_indexA (e := 93) (size := 4) (by kernel_rfl) (by kernel_rfl) (A.g 33 rfl) (A.g 34 rfl) (by omega) (by omega) fun _ A => ?_)
        refine L_yes A rfl (by decide) rfl rfl (by decide) (A.get rfl) (y_fieldA (off := 1) (by kernel_rfl) (A.g 35 rfl) fun _ A => ?_)
        refine L_yes A rfl (by decide) rfl rfl (by decide) (A.get rfl) (y_load (by kernel_rfl) (A.g 36 rfl) (hrow 1 (Nat.le_of_ble_eq_true rfl)) fun _ A => ?_)
        refine L_yes A rfl (by decide) rfl rfl (by decide) (A.get rfl) (y_move (A.g 2 rfl) fun _ A => ?_)
        replace A := A.only [38, 37, 29, 16, 8, 7, 2, 1, 0] rfl
        refine L_yes A rfl (by decide) rfl rfl (by decide) (A.get rfl) (y_neq (A.g 37 rfl) (A.g 38 rfl) (c := false) (by simp_all [bne]) fun _ A => ?_)
        refine Lo A rfl (y_pickF (A.g 29 rfl) (A.g 39 rfl) fun _ A => ?_)
        replace A := A.only [40, 16, 8, 7, 2, 1, 0] rfl
        refine hK8 _ _ ?_
        refine wp_cond_false (A.get rfl) ?_
        refine wp_skip ?_
        refine hK7 _ _ ?_
        refine region_seq ?_  -- region 4
        refine Lm A rfl (A.g 8 rfl) fun _ A => Lo A rfl (y_add (A.g 17 rfl) (evc _ _) (c := ((i + 1 : Nat) : Int)) ((wrap64 (by omega)).trans (by omega)) fun _ A => ?_)
        refine La A rfl (A.g 18 rfl) fun _ A => ?_
        replace A := A.only [40, 16, 8, 7, 2, 1, 0] rfl
        replace A := A.only [8, 7, 2, 1, 0] rfl
        rw [if_pos (by simp [isw, d1, d2]), List.append_nil] at hnx
        exact ⟨kk - 1, by omega, i + 1, _, _, by omega, by rw [hnx]; exact hx, A, S⟩
  · obtain rfl : i = gs.length := by omega
    rw [List.take_length] at A hx
    refine wp_seq_k fun K5 hK5 => ?_
    refine wp_seq_k fun K6 hK6 => ?_
    refine region_seq ?_  -- region 3
    refine Lm A rfl (A.g 8 rfl) fun _ A => Lm A rfl (A.g 0 rfl) fun _ A => Lo A rfl (y_nilCheck (A.g 11 rfl) fun _ A => ?_)
    refine Lo A rfl (y_fieldAddr (off := 3) (j := 3) (by kernel_rfl) (A.g 12 rfl) (by first | rfl | omega) fun _ A => ?_)
    replace A := A.only [13, 10, 8, 7, 2, 1, 0] rfl
    refine Lo A rfl (y_load (by kernel_rfl) (A.g 13 rfl) ((cell_of (S.get 0 rfl) _).trans rfl) fun _ A => ?_)
    refine Lo A rfl (y_lenS (e := 93) (by kernel_rfl) (A.g 14 rfl) fun _ A => ?_)
    refine Lo A rfl (y_lss (A.g 10 rfl) (A.g 15 rfl) (c := false) (decide_eq_false (by omega)) fun _ A => ?_)
    replace A := A.only [16, 8, 7, 2, 1, 0] rfl
    refine hK6 _ _ ?_
    refine wp_cond_false (A.get rfl) ?_
    refine wp_exit ?_
    refine hK3 _ _ ?_
    refine wp_seq_k fun K7 hK7 => ?_
    refine region_seq ?_  -- region 7
    refine Lm A rfl (A.g 0 rfl) fun _ A => Lo A rfl (y_nilCheck (A.g 51 rfl) fun _ A => ?_)
    refine Lo A rfl (y_fieldAddr (off := 3) (j := 3) (by kernel_rfl) (A.g 52 rfl) (by first | rfl | omega) fun _ A => ?_)
    refine Lo A rfl (y_load (by kernel_rfl) (A.g 53 rfl) ((cell_of (S.get 0 rfl) _).trans rfl) fun _ A => ?_)
    replace A := A.only [54, 16, 8, 7, 2, 1, 0] rfl
    refine Lo A rfl (y_lenS (e := 93) (by kernel_rfl) (A.g 54 rfl) fun _ A => ?_)
    refine Lm A rfl (A.g 7 rfl) fun _ A => Lo A rfl (y_lenS (e := 93) (by kernel_rfl) (A.g 56 rfl) fun _ A => ?_)
    refine Lo A rfl (y_sub (A.g 55 rfl) (A.g 57 rfl) (c := ((R.len a b : Nat) : Int)) ((wrap64 (by omega)).trans (by omega)) fun _ A => ?_)
    replace A := A.only [58, 16, 8, 7, 2, 1, 0] rfl
    refine La A rfl (A.g 58 rfl) fun _ A => ?_
    replace A := A.only [16, 9, 8, 7, 2, 1, 0] rfl
    refine hK7 _ _ ?_
    refine wp_seq_k fun K8 hK8 => ?_
    refine region_seq ?_  -- region 8
    refine Lm A rfl (A.g 0 rfl) fun _ A => Lm A rfl (A.g 7 rfl) fun _ A => Lo A rfl (y_nilCheck (A.g 59 rfl) fun _ A => ?_)
    refine Lo A rfl (y_fieldAddr (off := 3) (j := 3) (by kernel_rfl) (A.g 61 rfl) (by first | rfl | omega) fun _ A => ?_)
    refine L_opN A rfl rfl (y_store 1 (by kernel_rfl) (A.g 62 rfl) (A.g 60 rfl) (S.get 0 rfl) rfl (Nat.le_of_ble_eq_true rfl) (one_all rfl) ?_)
    replace S : St _ _ _ ([(p, .cells #[.int .i64 R.n, .slice l1 R.links.length l2, .slice c1 R.cuts.length c2, .slice x1 (kept a b gs).length x2] 64 (0, 0))] ++ (Hl ++ (Hc ++ (Hw ++ ((gmH gs) ++ Hx))))) := S.setAt 0 rfl _
    replace A := A.only [16, 9, 8, 7, 2, 1, 0] rfl
    refine hK8 _ _ ?_
    refine wp_seq_k fun K9 hK9 => ?_
    refine region_seq ?_  -- region 9
    refine Lm A rfl (A.g 9 rfl) fun _ A => La A rfl (A.g 63 rfl) fun _ A => ?_
    replace A := A.only [16, 9, 8, 7, 6, 2, 1, 0] rfl
    refine hK9 _ _ ?_
    replace S : St _ _ _ ([(p, .cells #[.int .i64 R.n, .slice l1 R.links.length l2, .slice c1 R.cuts.length c2, .slice x1 (kept a b gs).length x2] 64 (0, 0))] ++ (Hl ++ (Hc ++ (Hx ++ (gmH (kept a b gs)))))) := St.app_left (K := (Hw ++ (gmH (gs.filter fun g => !nw a b g)))) (S.perm (by classical rw [List.perm_iff_count]; intro x; have hpt := (gmH_part (nw a b) gs).count_eq x; simp only [List.count_append, List.count_cons, List.count_nil, kept] at hpt ⊢; omega))
    exact wp_ret ⟨A.defers, _, res_run (rs := [.tmp 6]) (vs := [.int .i64 (((R.len a b : Nat) : Int))]) rfl ⟨A.get rfl, trivial⟩, ⟨_, _, rfl, ⟨rfl, ⟨_, _, _, _, _, _, _, h.lose hx, rfl⟩⟩, S⟩⟩

def inb (b : Int) (k : Nat) (g : Dg) : Bool := g.t == b && decide (1 ≤ g.f) && decide (g.f ≤ k)
def RM.emp (R : RM) (b : Int) (k : Nat) : RM := { R with way := R.way.filter fun g => !inb b k g }
def RM.empn (R : RM) (b : Int) (k : Nat) : Nat := (R.way.filter (inb b k)).length
theorem emp_zero (R : RM) (b : Int) : R.emp b 0 = R := by
  have : R.way.filter (fun g => !inb b 0 g) = R.way := List.filter_eq_self.2 (fun g _ => by simp only [inb]; cases g.t == b <;> simp; omega)
  unfold RM.emp; rw [this]
theorem empn_zero (R : RM) (b : Int) : R.empn b 0 = 0 := by
  unfold RM.empn; rw [List.length_eq_zero_iff, List.filter_eq_nil_iff]; intro g _; simp only [inb]; cases g.t == b <;> simp; omega
theorem emp_next (R : RM) (b : Int) (k : Nat) : (R.emp b k).lose ((k + 1 : Nat) : Int) b = R.emp b (k + 1) := by
  unfold RM.emp RM.lose; congr 1
  rw [List.filter_filter]
  apply List.filter_congr; intro g _
  rw [Bool.eq_iff_iff]; simp only [inb, isw, Bool.and_eq_true, Bool.not_eq_true', Bool.and_eq_false_iff, decide_eq_false_iff_not, beq_eq_false_iff_ne, ne_eq]; omega
theorem empn_next (R : RM) (b : Int) (k : Nat) : R.empn b k + (R.emp b k).len ((k + 1 : Nat) : Int) b = R.empn b (k + 1) := by
  show (R.way.filter (inb b k)).length + ((R.way.filter fun g => !inb b k g).filter (isw ((k + 1 : Nat) : Int) b)).length = (R.way.filter (inb b (k + 1))).length
  induction R.way with
  | nil => rfl
  | cons g r ih =>
    simp only [List.filter_cons]
    have e : inb b (k + 1) g = (inb b k g || (!inb b k g && isw ((k + 1 : Nat) : Int) b g)) := by
      rw [Bool.eq_iff_iff]; simp only [inb, isw, Bool.or_eq_true, Bool.and_eq_true, Bool.not_eq_true', Bool.and_eq_false_iff, decide_eq_false_iff_not, decide_eq_true_eq, beq_iff_eq, beq_eq_false_iff_ne, ne_eq]; omega
    rw [e]
    cases h1 : inb b k g
    · cases h2 : isw ((k + 1 : Nat) : Int) b g
      · simp only [Bool.not_false, Bool.true_and, Bool.false_or, Bool.false_eq_true, if_false, if_true, List.filter_cons, h2]; exact ih
      · simp only [Bool.not_false, Bool.true_and, Bool.false_or, Bool.false_eq_true, if_false, if_true, List.filter_cons, h2, List.length_cons]; omega
    · simp only [Bool.not_true, Bool.false_and, Bool.true_or, Bool.false_eq_true, if_false, if_true, List.length_cons]; omega
theorem empn_le (R : RM) (b : Int) (k : Nat) : R.empn b k ≤ R.way.length := List.length_filter_le _ _
set_option maxRecDepth 20000 in
set_option maxHeartbeats 8000000 in
theorem rempty_ok (hrep : RefRep p R H) (nd : (keys H).Nodup) (hH : Holds w0 H) (hw : R.way.length ≤ 1000000) (N : Nat) (hN : R.n = N) (hn : N ≤ 10) : Calls Try.prog 55 #[.pointer (some ⟨p, 0, none⟩), .int .i64 b] w0 (RetW (keys H) w0 fun r H' => r = .int .i64 ((R.empn b N : Nat) : Int) ∧ RefRep p (R.emp b N) H') := by
  have S0 := St.start nd hH
  generalize hD : keys _ = DD at S0 ⊢
  refine enter Try.func55 rfl (n := 22) rfl (Nat.le_of_ble_eq_true rfl) fun _ A => ?_
  have S : St _ _ _ H := S0
  clear S0
  have G0 : Gr w0 w0 := Gr.refl w0
  refine wp_seq_k fun K1 hK1 => ?_
  refine region_seq ?_  -- region 0
  refine La A rfl (evc _ _) fun _ A => ?_
  replace A := A.only [4, 1, 0] rfl
  refine hK1 _ _ ?_
  refine wp_seq_k fun K2 hK2 => ?_
  refine region_seq ?_  -- region 1
  refine La A rfl (evc _ _) fun _ A => ?_
  replace A := A.only [5, 4, 1, 0] rfl
  refine hK2 _ _ ?_
  refine wp_seq_k fun K3 hK3 => ?_
  refine wp_seq_k fun K4 hK4 => ?_
  refine region_seq ?_  -- region 2
  refine La A rfl (evc _ _) fun _ A => ?_
  replace A := A.only [6, 5, 4, 1, 0] rfl
  refine hK4 _ _ ?_
  refine wp_block ?_
  replace A := A.only [6, 5, 1, 0] rfl
  refine wp_loop_ghost (fun kk ac w' => ∃ (k : Nat) (Hn : Frag), kk + k = N ∧ RefRep p (R.emp b k) Hn ∧ Sl 22 ac [(0, .pointer (some ⟨p, 0, none⟩)), (1, .int .i64 b), (5, .int .i64 ((R.empn b k : Nat) : Int)), (6, .int .i64 ((k + 1 : Nat) : Int))] ∧ St DD w0 w' Hn) N ⟨0, _, by omega, (by rw [emp_zero]; exact hrep), (by rw [empn_zero]; exact A), S⟩ ?_
  clear A S G0
  rintro kk ac w ⟨k, Hn, hkk, hr, A, S⟩
  have hwk : (R.emp b k).way.length ≤ 1000000 := Nat.le_trans (List.length_filter_le _ _) hw
  have hek := empn_le R b k; have hek1 := empn_le R b (k + 1); have hnx := empn_next R b k
  obtain ⟨la, lc, ca, cc, wa, wc, gs0, hs0⟩ := hr.src S.holds
  have hp := hs0.hp
  rw [show (R.emp b k).n = (N : Int) from hN] at hp
  rcases Nat.lt_or_ge k N with hi | hi
  ·
    refine wp_seq_k fun K5 hK5 => ?_
    refine wp_seq_k fun K6 hK6 => ?_
    refine region_seq ?_  -- region 3
    refine Lm A rfl (A.g 6 rfl) fun _ A => Lm A rfl (A.g 0 rfl) fun _ A => Lo A rfl (y_nilCheck (A.g 8 rfl) fun _ A => ?_)
    refine Lo A rfl (y_fieldAddr (off := 0) (j := 0) (by kernel_rfl) (A.g 9 rfl) (by first | rfl | omega) fun _ A => ?_)
    refine Lo A rfl (y_load (by kernel_rfl) (A.g 10 rfl) ((cell_of hp _).trans rfl) fun _ A => ?_)
    refine Lo A rfl (y_leq (A.g 7 rfl) (A.g 11 rfl) (c := true) (decide_eq_true (by omega)) fun _ A => ?_)
    replace A := A.only [12, 6, 5, 1, 0] rfl
    refine hK6 _ _ ?_
    refine wp_cond_true (A.get rfl) ?_
    refine wp_skip ?_
    refine hK5 _ _ ?_
    refine wp_seq_k fun K7 hK7 => ?_
    refine wp_block ?_
    refine region_seq ?_  -- region 5
    refine Lm A rfl (A.g 5 rfl) fun _ A => Lm A rfl (A.g 0 rfl) fun _ A => Lm A rfl (A.g 6 rfl) fun _ A => Lm A rfl (A.g 1 rfl) fun _ A => ?_
    replace A := A.only [18, 17, 16, 15, 12, 6, 5, 1, 0] rfl
    replace S : St _ _ _ Hn := S.perm (List.Perm.refl _)
    replace S : St _ _ _ (Hn ++ []) := S.perm (by rw [List.append_nil])
    refine Lo A rfl (y_call3 (by kernel_rfl) rfl (A.g 16 rfl) (A.g 17 rfl) (A.g 18 rfl) (callW (rlose_ok hr (St.app_left S).nd (St.app_left S).holds hwk) fun v w Hn' s hf ac A => ?_))
    replace S : St _ _ _ (Hn' ++ []) := St.call (H := Hn) (R := []) S rfl s
    obtain ⟨rfl, hr'⟩ := hf
    rw [List.append_nil] at S
    replace S : St _ _ _ Hn' := S.perm (List.Perm.refl _)
    refine Lo A rfl (y_add (A.g 15 rfl) (A.g 19 rfl) (c := ((R.empn b (k + 1) : Nat) : Int)) ((wrap64 (by omega)).trans (by omega)) fun _ A => ?_)
    refine La A rfl (A.g 20 rfl) fun _ A => ?_
    replace A := A.only [12, 6, 5, 1, 0] rfl
    refine hK7 _ _ ?_
    refine region_seq ?_  -- region 4
    refine Lm A rfl (A.g 6 rfl) fun _ A => Lo A rfl (y_add (A.g 13 rfl) (evc _ _) (c := ((k + 1 + 1 : Nat) : Int)) ((wrap64 (by omega)).trans (by omega)) fun _ A => ?_)
    refine La A rfl (A.g 14 rfl) fun _ A => ?_
    replace A := A.only [12, 6, 5, 1, 0] rfl
    replace A := A.only [6, 5, 1, 0] rfl
    exact ⟨kk - 1, by omega, k + 1, _, by omega, by rw [← emp_next]; exact hr', A, S⟩
  · obtain rfl : k = N := by omega
    refine wp_seq_k fun K5 hK5 => ?_
    refine wp_seq_k fun K6 hK6 => ?_
    refine region_seq ?_  -- region 3
    refine Lm A rfl (A.g 6 rfl) fun _ A => Lm A rfl (A.g 0 rfl) fun _ A => Lo A rfl (y_nilCheck (A.g 8 rfl) fun _ A => ?_)
    refine Lo A rfl (y_fieldAddr (off := 0) (j := 0) (by kernel_rfl) (A.g 9 rfl) (by first | rfl | omega) fun _ A => ?_)
    refine Lo A rfl (y_load (by kernel_rfl) (A.g 10 rfl) ((cell_of hp _).trans rfl) fun _ A => ?_)
    refine Lo A rfl (y_leq (A.g 7 rfl) (A.g 11 rfl) (c := false) (decide_eq_false (by omega)) fun _ A => ?_)
    replace A := A.only [12, 6, 5, 1, 0] rfl
    refine hK6 _ _ ?_
    refine wp_cond_false (A.get rfl) ?_
    refine wp_exit ?_
    refine hK3 _ _ ?_
    refine wp_seq_k fun K7 hK7 => ?_
    refine region_seq ?_  -- region 6
    refine Lm A rfl (A.g 5 rfl) fun _ A => La A rfl (A.g 21 rfl) fun _ A => ?_
    replace A := A.only [12, 6, 5, 4, 1, 0] rfl
    refine hK7 _ _ ?_
    exact wp_ret ⟨A.defers, _, res_run (rs := [.tmp 4]) (vs := [.int .i64 (((R.empn b k : Nat) : Int))]) rfl ⟨A.get rfl, trivial⟩, ⟨_, _, rfl, ⟨rfl, hr⟩, S⟩⟩
end
end Go.Proofs.Ytaeidblipdjgnaa
