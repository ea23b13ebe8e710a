import Derived.Test.YtaeidblipdjgnaaRefL
namespace Go.Proofs.Ytaeidblipdjgnaa
open Go.RowKit Go.Maps Go.WideMaps

def RM.double (R : RM) (a b i : Int) : Int × RM :=
  if (R.at a b i).2 ≠ 0 then ((R.at a b i).2, R) else if 24 ≤ R.len a b then (4, R) else (0, { R with way := R.way ++ R.way[(R.at a b i).1.toNat]?.toList })
def RM.drop (R : RM) (a b i : Int) : Int × RM :=
  if (R.at a b i).2 ≠ 0 then ((R.at a b i).2, R) else (0, { R with way := R.way.eraseIdx (R.at a b i).1.toNat })
section
variable {p : Nat} {R : RM} {w0 : World} {a b i : Int} {H : Frag}
set_option maxRecDepth 20000 in
set_option maxHeartbeats 8000000 in
theorem rdouble_ok (hrep : RefRep p R H) (nd : (keys H).Nodup) (hH : Holds w0 H) (hw : R.way.length ≤ 1000000) : Calls Try.prog 52 #[.pointer (some ⟨p, 0, none⟩), .int .i64 a, .int .i64 b, .int .i64 i] w0 (RetW (keys H) w0 fun r H' => r = .int .i64 (R.double a b i).1 ∧ RefRep p (R.double a b i).2 H') := by
  obtain ⟨la, lc, ca, cc, wa, wc, gs0, hsrc0⟩ := hrep.src hH
  have hgr : ∀ w, Gr w0 w → RefS w p R la lc ca cc wa wc gs0 := fun w g => hsrc0.gr g
  clear hsrc0
  have hat : ∀ w, Gr w0 w → Calls Try.prog 59 #[.pointer (some ⟨p, 0, none⟩), .int .i64 a, .int .i64 b, .int .i64 i] w (RetN w (eqv (.tuple #[.int .i64 (R.at a b i).1, .int .i64 (R.at a b i).2]))) := fun w g => rat_ok (hgr w g) hw
  have hln : ∀ w, Gr w0 w → Calls Try.prog 47 #[.pointer (some ⟨p, 0, none⟩), .int .i64 a, .int .i64 b] w (RetN w (eqv (.int .i64 ((R.len a b : Nat) : Int)))) := fun w g => rlen_ok (hgr w g) hw
  have hrep0 := hrep
  obtain ⟨vl, Hl, vc, Hc, vw, Hw, gs, h, rfl⟩ := hrep
  have hgl : gs.length = R.way.length := by rw [← h.gd]; simp [gmD]
  have S0 := St.start nd hH
  generalize hD : keys _ = DD at S0 ⊢
  obtain ⟨l1, l2, rfl⟩ := h.links.len
  obtain ⟨c1, c2, rfl⟩ := h.cuts.len
  obtain ⟨w1, w2, rfl⟩ := h.way.len
  rcases rat_cases R a b i with ⟨e, he, hne⟩ | ⟨j, d, he, hd⟩
  · have hR : R.double a b i = (e, R) := by unfold RM.double; rw [he]; simp [hne]
    simp only [he] at hat
    refine enter Try.func52 rfl (n := 50) rfl (Nat.le_of_ble_eq_true rfl) fun _ A => ?_
    have S : St _ _ _ ([(p, .cells #[.int .i64 R.n, .slice l1 R.links.length l2, .slice c1 R.cuts.length c2, .slice w1 gs.length w2] 64 (0, 0))] ++ (Hl ++ (Hc ++ (Hw ++ (gmH gs))))) := S0
    clear S0
    have G0 : Gr w0 w0 := Gr.refl w0
    refine wp_seq_k fun K1 hK1 => ?_
    refine region_seq ?_  -- region 0
    refine La A rfl (evc _ _) fun _ A => ?_
    replace A := A.only [8, 3, 2, 1, 0] rfl
    refine hK1 _ _ ?_
    refine wp_seq_k fun K2 hK2 => ?_
    refine region_seq ?_  -- region 1
    refine Lm A rfl (A.g 0 rfl) fun _ A => Lm A rfl (A.g 1 rfl) fun _ A => Lm A rfl (A.g 2 rfl) fun _ A => Lm A rfl (A.g 3 rfl) fun _ A => ?_
    replace A := A.only [16, 15, 14, 13, 8, 3, 2, 1, 0] rfl
    refine Lo A rfl (y_call4 (by kernel_rfl) rfl (A.g 13 rfl) (A.g 14 rfl) (A.g 15 rfl) (A.g 16 rfl) (callN (hat _ G0) fun v w H gG nN hf ac A => ?_))
    obtain ⟨rfl, rfl⟩ := hf
    replace S : St _ _ _ ([(p, .cells #[.int .i64 R.n, .slice l1 R.links.length l2, .slice c1 R.cuts.length c2, .slice w1 gs.length w2] 64 (0, 0))] ++ (Hl ++ (Hc ++ (Hw ++ (gmH gs))))) := (S.new gG nN).perm (by first | exact .refl _ | (rw [List.append_assoc]; exact .refl _) | (simp only [List.append_assoc, List.nil_append, List.append_nil]; exact .refl _))
    replace G0 := G0.trans gG
    refine Lm A rfl (A.g 17 rfl) fun _ A => Lo A rfl (y_extract (A.g 12 rfl) rfl fun _ A => ?_)
    refine Lo A rfl (y_extract (A.g 12 rfl) rfl fun _ A => ?_)
    replace A := A.only [19, 18, 8, 3, 2, 1, 0] rfl
    refine La A rfl (A.g 18 rfl) fun _ A => La A rfl (A.g 19 rfl) fun _ A => ?_
    replace A := A.only [10, 9, 8, 3, 2, 1, 0] rfl
    refine hK2 _ _ ?_
    refine wp_seq_k fun K3 hK3 => ?_
    refine wp_seq_k fun K4 hK4 => ?_
    refine region_seq ?_  -- region 2
    refine Lm A rfl (A.g 10 rfl) fun _ A => Lo A rfl (y_neq (A.g 20 rfl) (evc _ _) (c := true) (by simpa using hne) fun _ A => ?_)
    replace A := A.only [21, 10, 9, 8, 3, 2, 1, 0] rfl
    refine hK4 _ _ ?_
    refine wp_cond_true (A.get rfl) ?_
    refine wp_seq_k fun K5 hK5 => ?_
    refine region_seq ?_  -- region 3
    refine Lm A rfl (A.g 10 rfl) fun _ A => La A rfl (A.g 22 rfl) fun _ A => ?_
    replace A := A.only [21, 10, 9, 8, 3, 2, 1, 0] rfl
    refine hK5 _ _ ?_
    exact wp_ret ⟨A.defers, _, res_run (rs := [.tmp 8]) (vs := [.int .i64 e]) rfl ⟨A.get rfl, trivial⟩, ⟨_, _, rfl, ⟨by rw [hR], by rw [hR]; exact hrep0⟩, S⟩⟩
  · have hR0 : R.double a b i = if 24 ≤ R.len a b then (4, R) else (0, R.push d) := by unfold RM.double RM.push; rw [he]; simp [hd]
    simp only [he] at hat
    obtain ⟨g, hgj, rfl⟩ := gm_of h.gd hd
    have hjl := lt_of_get hgj
    have hgm := List.mem_of_getElem? hgj
    obtain ⟨va, vc, hva, hrow⟩ := gm_row (h.way.src (Holds.app.1 (Holds.app.1 (Holds.app.1 hH.tail).2).2).1) hgj
    obtain ⟨hgB, hg512⟩ := h.ok g hgm
    obtain ⟨ga, gc, hgv⟩ := SlRep.len hgB
    rw [hgv] at hrow hgB
    simp only [Value.slice.injEq] at hva; obtain ⟨rfl, -, rfl⟩ := hva
    refine enter Try.func52 rfl (n := 50) rfl (Nat.le_of_ble_eq_true rfl) fun _ A => ?_
    have S : St _ _ _ ([(p, .cells #[.int .i64 R.n, .slice l1 R.links.length l2, .slice c1 R.cuts.length c2, .slice (some va) gs.length w2] 64 (0, 0))] ++ (Hl ++ (Hc ++ (Hw ++ (gmH gs))))) := S0
    clear S0
    have G0 : Gr w0 w0 := Gr.refl w0
    refine wp_seq_k fun K1 hK1 => ?_
    refine region_seq ?_  -- region 0
    refine La A rfl (evc _ _) fun _ A => ?_
    replace A := A.only [8, 3, 2, 1, 0] rfl
    refine hK1 _ _ ?_
    refine wp_seq_k fun K2 hK2 => ?_
    refine region_seq ?_  -- region 1
    refine Lm A rfl (A.g 0 rfl) fun _ A => Lm A rfl (A.g 1 rfl) fun _ A => Lm A rfl (A.g 2 rfl) fun _ A => Lm A rfl (A.g 3 rfl) fun _ A => ?_
    replace A := A.only [16, 15, 14, 13, 8, 3, 2, 1, 0] rfl
    refine Lo A rfl (y_call4 (by kernel_rfl) rfl (A.g 13 rfl) (A.g 14 rfl) (A.g 15 rfl) (A.g 16 rfl) (callN (hat _ G0) fun v w H gG nN hf ac A => ?_))
    obtain ⟨rfl, rfl⟩ := hf
    replace S : St _ _ _ ([(p, .cells #[.int .i64 R.n, .slice l1 R.links.length l2, .slice c1 R.cuts.length c2, .slice (some va) gs.length w2] 64 (0, 0))] ++ (Hl ++ (Hc ++ (Hw ++ (gmH gs))))) := (S.new gG nN).perm (by first | exact .refl _ | (rw [List.append_assoc]; exact .refl _) | (simp only [List.append_assoc, List.nil_append, List.append_nil]; exact .refl _))
    replace G0 := G0.trans gG
    refine Lm A rfl (A.g 17 rfl) fun _ A => Lo A rfl (y_extract (A.g 12 rfl) rfl fun _ A => ?_)
    refine Lo A rfl (y_extract (A.g 12 rfl) rfl fun _ A => ?_)
    replace A := A.only [19, 18, 8, 3, 2, 1, 0] rfl
    refine La A rfl (A.g 18 rfl) fun _ A => La A rfl (A.g 19 rfl) fun _ A => ?_
    replace A := A.only [10, 9, 8, 3, 2, 1, 0] rfl
    refine hK2 _ _ ?_
    refine wp_seq_k fun K3 hK3 => ?_
    refine wp_seq_k fun K4 hK4 => ?_
    refine region_seq ?_  -- region 2
    refine Lm A rfl (A.g 10 rfl) fun _ A => Lo A rfl (y_neq (A.g 20 rfl) (evc _ _) (c := false) (by decide) fun _ A => ?_)
    replace A := A.only [21, 10, 9, 8, 3, 2, 1, 0] rfl
    refine hK4 _ _ ?_
    refine wp_cond_false (A.get rfl) ?_
    refine wp_skip ?_
    refine hK3 _ _ ?_
    refine wp_seq_k fun K5 hK5 => ?_
    refine wp_seq_k fun K6 hK6 => ?_
    refine region_seq ?_  -- region 4
    refine Lm A rfl (A.g 0 rfl) fun _ A => Lm A rfl (A.g 1 rfl) fun _ A => Lm A rfl (A.g 2 rfl) fun _ A => Lo A rfl (y_call3 (by kernel_rfl) rfl (A.g 23 rfl) (A.g 24 rfl) (A.g 25 rfl) (callN (hln _ G0) fun v w H gG nN hf ac A => ?_))
    obtain ⟨rfl, rfl⟩ := hf
    replace S : St _ _ _ ([(p, .cells #[.int .i64 R.n, .slice l1 R.links.length l2, .slice c1 R.cuts.length c2, .slice (some va) gs.length w2] 64 (0, 0))] ++ (Hl ++ (Hc ++ (Hw ++ (gmH gs))))) := (S.new gG nN).perm (by first | exact .refl _ | (rw [List.append_assoc]; exact .refl _) | (simp only [List.append_assoc, List.nil_append, List.append_nil]; exact .refl _))
    replace G0 := G0.trans gG
    refine Lo A rfl (y_geq (A.g 26 rfl) (evc _ _) rfl fun _ A => ?_)
    replace A := A.only [27, 21, 10, 9, 8, 3, 2, 1, 0] rfl
    refine hK6 _ _ ?_
    refine wp_cond_split (A.get rfl) (fun hc27 => ?_) (fun hc27 => ?_)
    · -- .bool (decide ((24 : Int) ≤ ((R.len a b : Nat) : Int))) is true
      have hc27 := of_decide_eq_true hc27
      refine wp_seq_k fun K7 hK7 => ?_
      refine region_seq ?_  -- region 5
      refine La A rfl (evc _ _) fun _ A => ?_
      replace A := A.only [27, 21, 10, 9, 8, 3, 2, 1, 0] rfl
      refine hK7 _ _ ?_
      have hR : R.double a b i = (4, R) := by rw [hR0, if_pos (by omega)]
      exact wp_ret ⟨A.defers, _, res_run (rs := [.tmp 8]) (vs := [.int .i64 4]) rfl ⟨A.get rfl, trivial⟩, ⟨_, _, rfl, ⟨by rw [hR], by rw [hR]; exact hrep0⟩, S⟩⟩
    · -- .bool (decide ((24 : Int) ≤ ((R.len a b : Nat) : Int))) is false
      have hc27 := of_decide_eq_false hc27
      refine wp_skip ?_
      refine hK5 _ _ ?_
      refine wp_seq_k fun K8 hK8 => ?_
      refine region_seq ?_  -- region 6
      refine Lm A rfl (A.g 0 rfl) fun _ A => Lo A rfl (y_nilCheck (A.g 28 rfl) fun _ A => ?_)
      refine Lo A rfl (y_fieldAddr (off := 3) (j := 3) (by kernel_rfl) (A.g 29 rfl) (by first | rfl | omega) fun _ A => ?_)
      refine Lo A rfl (y_load (by kernel_rfl) (A.g 30 rfl) ((cell_of (S.get 0 rfl) _).trans rfl) fun _ A => ?_)
      replace A := A.only [31, 27, 21, 10, 9, 8, 3, 2, 1, 0] rfl
      refine Lm A rfl (A.g 9 rfl) fun _ A => Lo A rfl (y_indexA (e := 93) (size := 4) (by kernel_rfl) (by kernel_rfl) (A.g 31 rfl) (A.g 32 rfl) (by omega) (by omega) fun _ A => ?_)
      refine Lo A rfl (y_loadAgg [.int .i64 g.d.f, .int .i64 g.d.t, .slice ga g.d.bs.length gc, .bool g.d.sp] (by kernel_rfl) (A.g 33 rfl) (fun z hz => G0.cell' (hrow z hz)) fun _ A => ?_)
      refine Lo A rfl (y_allocN (z := .agg #[.int .i64 0, .int .i64 0, .slice none 0 0, .bool false]) (by kernel_rfl) fun b1 w gG nN ac A => ?_)
      replace S : St _ _ _ ([(b1, .cells #[.int .i64 0, .int .i64 0, .slice none 0 0, .bool false] 93 (0, 0)), (p, .cells #[.int .i64 R.n, .slice l1 R.links.length l2, .slice c1 R.cuts.length c2, .slice (some va) gs.length w2] 64 (0, 0))] ++ (Hl ++ (Hc ++ (Hw ++ (gmH gs))))) := (S.new gG nN).perm (by first | exact .refl _ | (rw [List.append_assoc]; exact .refl _) | (simp only [List.append_assoc, List.nil_append, List.append_nil]; exact .refl _))
      replace G0 := G0.trans gG
      replace A := A.only [34, 27, 21, 11, 10, 9, 8, 3, 2, 1, 0] rfl
      refine L_opN A rfl rfl (y_store 4 (by kernel_rfl) (A.g 11 rfl) (A.g 34 rfl) (S.get 0 rfl) rfl (Nat.le_of_ble_eq_true rfl) (one_all rfl) ?_)
      replace S : St _ _ _ ([(b1, .cells #[.int .i64 g.d.f, .int .i64 g.d.t, .slice ga g.d.bs.length gc, .bool g.d.sp] 93 (0, 0)), (p, .cells #[.int .i64 R.n, .slice l1 R.links.length l2, .slice c1 R.cuts.length c2, .slice (some va) gs.length w2] 64 (0, 0))] ++ (Hl ++ (Hc ++ (Hw ++ (gmH gs))))) := S.setAt 0 rfl _
      replace A := A.only [27, 21, 11, 10, 9, 8, 3, 2, 1, 0] rfl
      refine hK8 _ _ ?_
      refine wp_seq_k fun K9 hK9 => ?_
      refine region_seq ?_  -- region 7
      refine Lo A rfl (y_buildSlice0 (c := #[]) (e := 5)  (fun w => by kernel_rfl) fun b2 w gG nN ac A => ?_)
      replace S : St _ _ _ ([(b2, .cells #[] 5 (0, 0)), (b1, .cells #[.int .i64 g.d.f, .int .i64 g.d.t, .slice ga g.d.bs.length gc, .bool g.d.sp] 93 (0, 0)), (p, .cells #[.int .i64 R.n, .slice l1 R.links.length l2, .slice c1 R.cuts.length c2, .slice (some va) gs.length w2] 64 (0, 0))] ++ (Hl ++ (Hc ++ (Hw ++ (gmH gs))))) := (S.new gG nN).perm (by first | exact .refl _ | (rw [List.append_assoc]; exact .refl _) | (simp only [List.append_assoc, List.nil_append, List.append_nil]; exact .refl _))
      refine Lo A rfl (y_fieldAddr (off := 2) (j := 2) (by kernel_rfl) (A.g 11 rfl) (by first | rfl | omega) fun _ A => ?_)
      refine Lo A rfl (y_load (by kernel_rfl) (A.g 36 rfl) ((cell_of (S.get 1 rfl) _).trans rfl) fun _ A => ?_)
      refine Lo A rfl (y_append0 okU8 (by kernel_rfl) (A.g 35 rfl) (A.g 37 rfl) (BRep.src hgB (fun x hx => (St.app_left (H := (gmH gs)) (K := ([(b2, .cells #[] 5 (0, 0)), (b1, .cells #[.int .i64 g.d.f, .int .i64 g.d.t, .slice ga g.d.bs.length gc, .bool g.d.sp] 93 (0, 0)), (p, .cells #[.int .i64 R.n, .slice l1 R.links.length l2, .slice c1 R.cuts.length c2, .slice (some va) gs.length w2] 64 (0, 0))] ++ (Hl ++ (Hc ++ Hw)))) (S.perm (by classical rw [List.perm_iff_count]; intro x; simp only [List.count_append, List.count_cons, List.count_nil] <;> omega))).holds x (List.mem_flatMap.2 ⟨g, hgm, hx⟩))) (u8_one _) (by omega) (by omega) fun vb w Hb gG nN hB ac A => ?_)
      obtain ⟨ka, kc, rfl⟩ := SlRep.len hB
      replace S : St _ _ _ (Hb ++ ([(b2, .cells #[] 5 (0, 0)), (b1, .cells #[.int .i64 g.d.f, .int .i64 g.d.t, .slice ga g.d.bs.length gc, .bool g.d.sp] 93 (0, 0)), (p, .cells #[.int .i64 R.n, .slice l1 R.links.length l2, .slice c1 R.cuts.length c2, .slice (some va) gs.length w2] 64 (0, 0))] ++ (Hl ++ (Hc ++ (Hw ++ (gmH gs)))))) := (S.new gG nN).perm (by first | exact .refl _ | (rw [List.append_assoc]; exact .refl _) | (simp only [List.append_assoc, List.nil_append, List.append_nil]; exact .refl _))
      replace S : St _ _ _ ([(b2, .cells #[] 5 (0, 0)), (b1, .cells #[.int .i64 g.d.f, .int .i64 g.d.t, .slice ga g.d.bs.length gc, .bool g.d.sp] 93 (0, 0)), (p, .cells #[.int .i64 R.n, .slice l1 R.links.length l2, .slice c1 R.cuts.length c2, .slice (some va) gs.length w2] 64 (0, 0))] ++ (Hb ++ (Hl ++ (Hc ++ (Hw ++ (gmH gs)))))) := S.swap1 (L := []) (A := Hb) (B := [(b2, .cells #[] 5 (0, 0)), (b1, .cells #[.int .i64 g.d.f, .int .i64 g.d.t, .slice ga g.d.bs.length gc, .bool g.d.sp] 93 (0, 0)), (p, .cells #[.int .i64 R.n, .slice l1 R.links.length l2, .slice c1 R.cuts.length c2, .slice (some va) gs.length w2] 64 (0, 0))])
      refine Lo A rfl (y_fieldAddr (off := 2) (j := 2) (by kernel_rfl) (A.g 11 rfl) (by first | rfl | omega) fun _ A => ?_)
      refine L_opN A rfl rfl (y_store 1 (by kernel_rfl) (A.g 39 rfl) (A.g 38 rfl) (S.get 1 rfl) rfl (Nat.le_of_ble_eq_true rfl) (one_all rfl) ?_)
      replace S : St _ _ _ ([(b2, .cells #[] 5 (0, 0)), (b1, .cells #[.int .i64 g.d.f, .int .i64 g.d.t, .slice ka g.d.bs.length kc, .bool g.d.sp] 93 (0, 0)), (p, .cells #[.int .i64 R.n, .slice l1 R.links.length l2, .slice c1 R.cuts.length c2, .slice (some va) gs.length w2] 64 (0, 0))] ++ (Hb ++ (Hl ++ (Hc ++ (Hw ++ (gmH gs)))))) := S.setAt 1 rfl _
      replace A := A.only [27, 21, 11, 10, 9, 8, 3, 2, 1, 0] rfl
      refine hK9 _ _ ?_
      refine wp_seq_k fun K10 hK10 => ?_
      refine region_draw A [⟨40, pl (eqv (.pointer (some ⟨p, 0, none⟩))), [], [0], none, true⟩, ⟨41, pl (eqv (.pointer (some ⟨p, 0, none⟩))), [], [0], none, false⟩, ⟨42, pl (eqv (.pointer (some ⟨p, 0, none⟩))), [1], [], none, false⟩, ⟨43, pl (eqv (.pointer (some ⟨p, 3, none⟩))), [2], [], none, false⟩, ⟨44, pl (eqv (.slice (some va) gs.length w2)), [3], [], none, false⟩, ⟨45, pl (eqv (.agg #[.int .i64 g.d.f, .int .i64 g.d.t, .slice ka g.d.bs.length kc, .bool g.d.sp])), [], [11], none, false⟩, ⟨46, pl (sblk 1 (.cells #[.int .i64 g.d.f, .int .i64 g.d.t, .slice ka g.d.bs.length kc, .bool g.d.sp] 93)), [5], [], none, false⟩] [(7, false), (8, false), (9, false), (10, false)] (by kernel_rfl) (by kernel_rfl) (fun d _ _ _ _ h => by cases d <;> exact h) ⟨?_, ?_, ?_, ?_, ?_, ?_, ?_, trivial⟩ ?_  -- region 8
      · refine due_pure fun ρ w1 G hsrc hold => ?_; obtain ⟨o0, -⟩ := hold; exact ⟨_, (fun w1 => r_move (o0.trans (A.g 0 rfl))), rfl, rfl⟩
      · refine due_plain fun ρ w1 G hsrc hold => ?_; obtain ⟨o0, -⟩ := hold; exact y_move (o0.trans (A.g 0 rfl)) y_eq
      · refine due_plain fun ρ w1 G hsrc hold => ?_; obtain ⟨⟨_, _, ⟨h41, -⟩, -⟩, -⟩ := hsrc; exact y_nilCheck h41 y_eq
      · refine due_plain fun ρ w1 G hsrc hold => ?_; obtain ⟨⟨_, _, ⟨h42, -⟩, -⟩, -⟩ := hsrc; exact y_fieldAddr (off := 3) (j := 3) (by kernel_rfl) h42 (by first | rfl | omega) y_eq
      · refine due_plain fun ρ w1 G hsrc hold => ?_; obtain ⟨⟨_, _, ⟨h43, -⟩, -⟩, -⟩ := hsrc; exact y_load (by kernel_rfl) h43 ((cell_of (G.gr.heap' (S.get 2 rfl)) _).trans rfl) y_eq
      · refine due_plain fun ρ w1 G hsrc hold => ?_; obtain ⟨o11, -⟩ := hold; exact y_loadAgg [.int .i64 g.d.f, .int .i64 g.d.t, .slice ka g.d.bs.length kc, .bool g.d.sp] (by kernel_rfl) (o11.trans (A.g 11 rfl)) (cells_at (G.gr.heap' (S.get 1 rfl)) rfl) y_eq
      · refine due_plain fun ρ w1 G hsrc hold => ?_; obtain ⟨⟨_, _, ⟨h45, -⟩, -⟩, -⟩ := hsrc; exact y_buildSlice1 (c := #[.int .i64 g.d.f, .int .i64 g.d.t, .slice ka g.d.bs.length kc, .bool g.d.sp]) (e := 93) h45 (fun w => by kernel_rfl) (fun b w' g n => ⟨g, _, ⟨b, rfl, rfl⟩, n⟩)
      rintro _ _ ⟨rfl, rfl⟩ _ _ ⟨rfl, rfl⟩ _ _ ⟨rfl, rfl⟩ _ _ ⟨rfl, rfl⟩ _ _ ⟨rfl, rfl⟩ _ _ ⟨rfl, rfl⟩ _ _ ⟨b3, rfl, rfl⟩
      intro ac w A gG nN
      replace S : St _ _ _ ([(b3, .cells #[.int .i64 g.d.f, .int .i64 g.d.t, .slice ka g.d.bs.length kc, .bool g.d.sp] 93 (0, 0)), (b2, .cells #[] 5 (0, 0)), (b1, .cells #[.int .i64 g.d.f, .int .i64 g.d.t, .slice ka g.d.bs.length kc, .bool g.d.sp] 93 (0, 0)), (p, .cells #[.int .i64 R.n, .slice l1 R.links.length l2, .slice c1 R.cuts.length c2, .slice (some va) gs.length w2] 64 (0, 0))] ++ (Hb ++ (Hl ++ (Hc ++ (Hw ++ (gmH gs)))))) := (S.new gG nN).perm (by first | exact .refl _ | (rw [List.append_assoc]; exact .refl _) | (simp only [List.append_assoc, List.nil_append, List.append_nil]; exact .refl _))
      have hsrc : Src w 4 (.slice (some ⟨b3, 0, none⟩) 1 1) 1 [.int .i64 g.d.f, .int .i64 g.d.t, .slice ka g.d.bs.length kc, .bool g.d.sp] := ⟨rfl, Or.inr ⟨_, _, rfl, cells_at (S.get 0 rfl) rfl⟩⟩
      replace S : St _ _ _ (Hw ++ ([(b3, .cells #[.int .i64 g.d.f, .int .i64 g.d.t, .slice ka g.d.bs.length kc, .bool g.d.sp] 93 (0, 0)), (b2, .cells #[] 5 (0, 0)), (b1, .cells #[.int .i64 g.d.f, .int .i64 g.d.t, .slice ka g.d.bs.length kc, .bool g.d.sp] 93 (0, 0)), (p, .cells #[.int .i64 R.n, .slice l1 R.links.length l2, .slice c1 R.cuts.length c2, .slice (some va) gs.length w2] 64 (0, 0))] ++ (Hb ++ (Hl ++ (Hc ++ (gmH gs)))))) := S.perm (by classical rw [List.perm_iff_count]; intro x; simp only [List.count_append, List.count_cons, List.count_nil] <;> omega)
      refine Lo A rfl (y_append okGR (by kernel_rfl) (A.g 44 rfl) (A.g 46 rfl) (H := Hw) S h.way hsrc (one_all rfl) (by omega) (by omega) fun v2 w Hw2 hr2 S ac A => ?_)
      obtain ⟨x1, x2, rfl⟩ := hr2.len
      replace S : St _ _ _ ([(b3, .cells #[.int .i64 g.d.f, .int .i64 g.d.t, .slice ka g.d.bs.length kc, .bool g.d.sp] 93 (0, 0)), (b2, .cells #[] 5 (0, 0)), (b1, .cells #[.int .i64 g.d.f, .int .i64 g.d.t, .slice ka g.d.bs.length kc, .bool g.d.sp] 93 (0, 0)), (p, .cells #[.int .i64 R.n, .slice l1 R.links.length l2, .slice c1 R.cuts.length c2, .slice (some va) gs.length w2] 64 (0, 0))] ++ (Hb ++ (Hl ++ (Hc ++ ((gmH gs) ++ Hw2))))) := S.perm (by classical rw [List.perm_iff_count]; intro x; simp only [List.count_append, List.count_cons, List.count_nil] <;> omega)
      refine Lo A rfl (y_nilCheck (A.g 40 rfl) fun _ A => ?_)
      refine Lo A rfl (y_fieldAddr (off := 3) (j := 3) (by kernel_rfl) (A.g 48 rfl) (by first | rfl | omega) fun _ A => ?_)
      refine L_opN A rfl rfl (y_store 1 (by kernel_rfl) (A.g 49 rfl) (A.g 47 rfl) (S.get 3 rfl) rfl (Nat.le_of_ble_eq_true rfl) (one_all rfl) ?_)
      replace S : St _ _ _ ([(b3, .cells #[.int .i64 g.d.f, .int .i64 g.d.t, .slice ka g.d.bs.length kc, .bool g.d.sp] 93 (0, 0)), (b2, .cells #[] 5 (0, 0)), (b1, .cells #[.int .i64 g.d.f, .int .i64 g.d.t, .slice ka g.d.bs.length kc, .bool g.d.sp] 93 (0, 0)), (p, .cells #[.int .i64 R.n, .slice l1 R.links.length l2, .slice c1 R.cuts.length c2, .slice x1 (gs.length + 1) x2] 64 (0, 0))] ++ (Hb ++ (Hl ++ (Hc ++ ((gmH gs) ++ Hw2))))) := S.setAt 3 rfl _
      replace A := A.only [27, 21, 11, 10, 9, 8, 3, 2, 1, 0] rfl
      refine hK10 _ _ ?_
      refine wp_seq_k fun K11 hK11 => ?_
      refine region_seq ?_  -- region 9
      refine La A rfl (evc _ _) fun _ A => ?_
      replace A := A.only [27, 21, 11, 10, 9, 8, 3, 2, 1, 0] rfl
      refine hK11 _ _ ?_
      have hR : R.double a b i = (0, R.push g.d) := by rw [hR0, if_neg (by omega)]
      replace S : St _ _ _ ([(p, .cells #[.int .i64 R.n, .slice l1 R.links.length l2, .slice c1 R.cuts.length c2, .slice x1 (gs.length + 1) x2] 64 (0, 0))] ++ (Hl ++ (Hc ++ (Hw2 ++ ((gmH gs) ++ Hb))))) := St.app_left (K := [(b3, .cells #[.int .i64 g.d.f, .int .i64 g.d.t, .slice ka g.d.bs.length kc, .bool g.d.sp] 93 (0, 0)), (b2, .cells #[] 5 (0, 0)), (b1, .cells #[.int .i64 g.d.f, .int .i64 g.d.t, .slice ka g.d.bs.length kc, .bool g.d.sp] 93 (0, 0))]) (S.perm (by classical rw [List.perm_iff_count]; intro x; simp only [List.count_append, List.count_cons, List.count_nil] <;> omega))
      have hP := h.push (d := g.d) (vb := .slice ka g.d.bs.length kc) hr2 hB hg512
      exact wp_ret ⟨A.defers, _, res_run (rs := [.tmp 8]) (vs := [.int .i64 0]) rfl ⟨A.get rfl, trivial⟩, ⟨_, _, rfl, ⟨by rw [hR], by rw [hR]; exact ⟨_, _, _, _, _, _, _, (by simpa using hP), by rw [gmH_snoc]; rfl⟩⟩, S⟩⟩

theorem src_sliced {w : World} {wb l h m size : Nat} {cs : Array Value} {T : TypeId} (hb : w.heap[wb]? = some (.cells cs T (0, 0))) (hm : cs.size = m * size) (h1 : l ≤ h) (h2 : h ≤ m) {X : List Value} (hX : (cs.toList.drop (l * size)).take ((h - l) * size) = X) : Src w size (sliced wb 0 l h m size) (h - l) X := by
  have hk : h * size ≤ m * size := Nat.mul_le_mul_right _ h2
  have hd : (h - l) * size = h * size - l * size := Nat.sub_mul _ _ _
  have hl : l * size ≤ h * size := Nat.mul_le_mul_right _ h1
  have hlen : X.length = (h - l) * size := by rw [← hX, List.length_take, List.length_drop, Array.length_toList]; omega
  refine ⟨hlen, ?_⟩
  by_cases hml : m = l
  · refine Or.inl ⟨by omega, _, _, by unfold sliced; rw [show h - l = 0 by omega]⟩
  · refine Or.inr ⟨⟨wb, 0 + l * size, none⟩, m - l, by unfold sliced; rw [if_neg hml], fun j hj => ?_⟩
    rw [add_eq, cell_of hb]
    have : X[j]? = cs[0 + l * size + j]? := by
      rw [← hX, List.getElem?_take, if_pos (by omega), List.getElem?_drop, Array.getElem?_toList]; congr 1; omega
    rw [← this, List.getElem?_eq_getElem hj]
theorem gm_one {gs : List Dm} (h : DmOk gs) : ∀ q ∈ gmCells gs, oneC q = true := by
  intro q hq
  obtain ⟨g, hg, hq⟩ := List.mem_flatMap.1 hq
  obtain ⟨a, c, hv⟩ := SlRep.len (h g hg).1
  simp only [List.mem_cons, List.not_mem_nil, or_false] at hq
  rcases hq with rfl | rfl | rfl | rfl
  · rfl
  · rfl
  · rw [hv]; rfl
  · rfl
theorem DmOk.sub {gs l : List Dm} (h : DmOk gs) (hs : ∀ g ∈ l, g ∈ gs) : DmOk l := fun g hg => h g (hs g hg)
theorem gm_take (gs : List Dm) (j : Nat) : (gmCells gs).take (j * 4) = gmCells (gs.take j) := by
  induction gs generalizing j with
  | nil => simp [gmCells]
  | cons g r ih =>
    cases j with
    | zero => simp [gmCells]
    | succ j => have := ih j; simp only [gmCells, List.flatMap_cons, List.take_succ_cons] at this ⊢; rw [show (j + 1) * 4 = 4 + j * 4 by omega, ← this]; simp [List.take_add]
theorem gm_drop (gs : List Dm) (j : Nat) : (gmCells gs).drop (j * 4) = gmCells (gs.drop j) := by
  induction gs generalizing j with
  | nil => simp [gmCells]
  | cons g r ih =>
    cases j with
    | zero => simp [gmCells]
    | succ j => have := ih j; simp only [gmCells, List.flatMap_cons, List.drop_succ_cons] at this ⊢; rw [show (j + 1) * 4 = 4 + j * 4 by omega, ← this, ← List.drop_drop]; simp
theorem gm_app (l r : List Dm) : gmCells (l ++ r) = gmCells l ++ gmCells r := by simp [gmCells]
theorem gmH_erase : ∀ (l : List Dm) (j : Nat) (g : Dm), l[j]? = some g → (gmH l).Perm (g.H ++ gmH (l.eraseIdx j))
  | [], _, _, h => by simp at h
  | i :: r, 0, g, h => by simp at h; subst h; simp [gmH]
  | i :: r, j + 1, g, h => by
    simp at h
    have := gmH_erase r j g h
    simp only [gmH, List.flatMap_cons, List.eraseIdx_cons_succ] at *
    exact (List.Perm.append_left i.H this).trans (List.perm_append_comm_assoc _ _ _)
theorem RefP.drop {R : RM} {vl : Value} {Hl : Frag} {vc : Value} {Hc : Frag} {vw : Value} {Hw : Frag} {gs : List Dm} (h : RefP R vl Hl vc Hc vw Hw gs) {j : Nat} (hj : j < gs.length) {v' : Value} {Hx : Frag} (hr : SlRep 93 4 v' (j + (gs.length - (j + 1))) (gmCells (gs.take j) ++ gmCells (gs.drop (j + 1))) Hx) : RefP { R with way := R.way.eraseIdx j } vl Hl vc Hc v' Hx (gs.eraseIdx j) := by
  refine ⟨h.links, h.cuts, ?_, ?_, h.ok.sub (fun g hg => (List.eraseIdx_sublist _ _).subset hg), h.few, h.same⟩
  · rw [List.length_eraseIdx, if_pos hj, List.eraseIdx_eq_take_drop_succ, gm_app]
    rw [show j + (gs.length - (j + 1)) = gs.length - 1 by omega] at hr; exact hr
  · rw [← h.gd]; simp only [gmD, List.eraseIdx_eq_take_drop_succ, List.map_append, List.map_take, List.map_drop]
/-- the same, the links at a known place -/
def RefRepL (p : Nat) (R : RM) (vl : Value) (Hl : Frag) (H : Frag) : Prop := ∃ vc Hc vw Hw gs, RefP R vl Hl vc Hc vw Hw gs ∧ H = (p, refC R vl vc vw) :: (Hl ++ (Hc ++ (Hw ++ gmH gs)))
theorem RefRepL.to {p : Nat} {R : RM} {vl : Value} {Hl H : Frag} (h : RefRepL p R vl Hl H) : RefRep p R H := ⟨vl, Hl, h⟩
set_option maxRecDepth 20000 in
set_option maxHeartbeats 8000000 in
theorem rdropL_ok {vl : Value} {Hl : Frag} (hrep : RefRepL p R vl Hl H) (nd : (keys H).Nodup) (hH : Holds w0 H) (hw : R.way.length ≤ 1000000) : Calls Try.prog 51 #[.pointer (some ⟨p, 0, none⟩), .int .i64 a, .int .i64 b, .int .i64 i] w0 (RetW (keys H) w0 fun r H' => r = .int .i64 (R.drop a b i).1 ∧ RefRepL p (R.drop a b i).2 vl Hl H') := by
  obtain ⟨la, lc, ca, cc, wa, wc, gs0, hsrc0⟩ := hrep.to.src hH
  have hgr : ∀ w, Gr w0 w → RefS w p R la lc ca cc wa wc gs0 := fun w g => hsrc0.gr g
  clear hsrc0
  have hat : ∀ w, Gr w0 w → Calls Try.prog 59 #[.pointer (some ⟨p, 0, none⟩), .int .i64 a, .int .i64 b, .int .i64 i] w (RetN w (eqv (.tuple #[.int .i64 (R.at a b i).1, .int .i64 (R.at a b i).2]))) := fun w g => rat_ok (hgr w g) hw
  have hln : ∀ w, Gr w0 w → Calls Try.prog 47 #[.pointer (some ⟨p, 0, none⟩), .int .i64 a, .int .i64 b] w (RetN w (eqv (.int .i64 ((R.len a b : Nat) : Int)))) := fun w g => rlen_ok (hgr w g) hw
  clear hln
  have hrep0 := hrep
  obtain ⟨vc, Hc, vw, Hw, gs, h, rfl⟩ := hrep
  have hgl : gs.length = R.way.length := by rw [← h.gd]; simp [gmD]
  have S0 := St.start nd hH
  generalize hD : keys _ = DD at S0 ⊢
  obtain ⟨l1, l2, rfl⟩ := h.links.len
  obtain ⟨c1, c2, rfl⟩ := h.cuts.len
  obtain ⟨w1, w2, rfl⟩ := h.way.len
  rcases rat_cases R a b i with ⟨e, he, hne⟩ | ⟨j, d, he, hd⟩
  · have hR : R.drop a b i = (e, R) := by unfold RM.drop; rw [he]; simp [hne]
    simp only [he] at hat
    refine enter Try.func51 rfl (n := 41) rfl (Nat.le_of_ble_eq_true rfl) fun _ A => ?_
    have S : St _ _ _ ([(p, .cells #[.int .i64 R.n, .slice l1 R.links.length l2, .slice c1 R.cuts.length c2, .slice w1 gs.length w2] 64 (0, 0))] ++ (Hl ++ (Hc ++ (Hw ++ (gmH gs))))) := S0
    clear S0
    have G0 : Gr w0 w0 := Gr.refl w0
    refine wp_seq_k fun K1 hK1 => ?_
    refine region_seq ?_  -- region 0
    refine La A rfl (evc _ _) fun _ A => ?_
    replace A := A.only [8, 3, 2, 1, 0] rfl
    refine hK1 _ _ ?_
    refine wp_seq_k fun K2 hK2 => ?_
    refine region_seq ?_  -- region 1
    refine Lm A rfl (A.g 0 rfl) fun _ A => Lm A rfl (A.g 1 rfl) fun _ A => Lm A rfl (A.g 2 rfl) fun _ A => Lm A rfl (A.g 3 rfl) fun _ A => ?_
    replace A := A.only [15, 14, 13, 12, 8, 3, 2, 1, 0] rfl
    refine Lo A rfl (y_call4 (by kernel_rfl) rfl (A.g 12 rfl) (A.g 13 rfl) (A.g 14 rfl) (A.g 15 rfl) (callN (hat _ G0) fun v w H gG nN hf ac A => ?_))
    obtain ⟨rfl, rfl⟩ := hf
    replace S : St _ _ _ ([(p, .cells #[.int .i64 R.n, .slice l1 R.links.length l2, .slice c1 R.cuts.length c2, .slice w1 gs.length w2] 64 (0, 0))] ++ (Hl ++ (Hc ++ (Hw ++ (gmH gs))))) := (S.new gG nN).perm (by first | exact .refl _ | (rw [List.append_assoc]; exact .refl _) | (simp only [List.append_assoc, List.nil_append, List.append_nil]; exact .refl _))
    replace G0 := G0.trans gG
    refine Lm A rfl (A.g 16 rfl) fun _ A => Lo A rfl (y_extract (A.g 11 rfl) rfl fun _ A => ?_)
    refine Lo A rfl (y_extract (A.g 11 rfl) rfl fun _ A => ?_)
    replace A := A.only [18, 17, 8, 3, 2, 1, 0] rfl
    refine La A rfl (A.g 17 rfl) fun _ A => La A rfl (A.g 18 rfl) fun _ A => ?_
    replace A := A.only [10, 9, 8, 3, 2, 1, 0] rfl
    refine hK2 _ _ ?_
    refine wp_seq_k fun K3 hK3 => ?_
    refine wp_seq_k fun K4 hK4 => ?_
    refine region_seq ?_  -- region 2
    refine Lm A rfl (A.g 10 rfl) fun _ A => Lo A rfl (y_eql (A.g 19 rfl) (evc _ _) (c := false) (by simpa using hne) fun _ A => ?_)
    replace A := A.only [20, 10, 9, 8, 3, 2, 1, 0] rfl
    refine hK4 _ _ ?_
    refine wp_cond_false (A.get rfl) ?_
    refine wp_skip ?_
    refine hK3 _ _ ?_
    refine wp_seq_k fun K5 hK5 => ?_
    refine region_seq ?_  -- region 4
    refine Lm A rfl (A.g 10 rfl) fun _ A => La A rfl (A.g 40 rfl) fun _ A => ?_
    replace A := A.only [20, 10, 9, 8, 3, 2, 1, 0] rfl
    refine hK5 _ _ ?_
    exact wp_ret ⟨A.defers, _, res_run (rs := [.tmp 8]) (vs := [.int .i64 e]) rfl ⟨A.get rfl, trivial⟩, ⟨_, _, rfl, ⟨by rw [hR], by rw [hR]; exact hrep0⟩, S⟩⟩
  · have hR : R.drop a b i = (0, { R with way := R.way.eraseIdx j }) := by unfold RM.drop; rw [he]; simp
    simp only [he] at hat
    obtain ⟨g, hgj, rfl⟩ := gm_of h.gd hd
    have hjl := lt_of_get hgj
    obtain ⟨wb, cap, cs, hq, rfl, hcs, hncap, htake⟩ := h.way.block (by omega)
    simp only [Value.slice.injEq] at hq; obtain ⟨rfl, -, rfl⟩ := hq
    have hwb : w0.heap[wb]? = some (.cells cs 93 (0, 0)) := (Holds.app.1 (Holds.app.1 (Holds.app.1 hH.tail).2).2).1.one
    have hA0 : Src w0 4 (sliced wb 0 0 j w2 4) j (gmCells (gs.take j)) := src_sliced (l := 0) hwb hcs (by omega) (by omega) (by rw [← gm_take, ← htake, List.take_take, Nat.min_eq_left (by omega)]; simp)
    have hB0 : Src w0 4 (sliced wb 0 (j + 1) gs.length w2 4) (gs.length - (j + 1)) (gmCells (gs.drop (j + 1))) := src_sliced hwb hcs (by omega) (by omega) (by rw [← gm_drop, ← htake, List.drop_take]; congr 1; omega)
    have oA := gm_one (h.ok.sub (l := gs.take j) (fun g hg => List.mem_of_mem_take hg))
    have oB := gm_one (h.ok.sub (l := gs.drop (j + 1)) (fun g hg => List.mem_of_mem_drop hg))
    refine enter Try.func51 rfl (n := 41) rfl (Nat.le_of_ble_eq_true rfl) fun _ A => ?_
    have S : St _ _ _ ([(p, .cells #[.int .i64 R.n, .slice l1 R.links.length l2, .slice c1 R.cuts.length c2, .slice (some ⟨wb, 0, none⟩) gs.length w2] 64 (0, 0))] ++ (Hl ++ (Hc ++ ([(wb, .cells cs 93 (0, 0))] ++ (gmH gs))))) := S0
    clear S0
    have G0 : Gr w0 w0 := Gr.refl w0
    refine wp_seq_k fun K1 hK1 => ?_
    refine region_seq ?_  -- region 0
    refine La A rfl (evc _ _) fun _ A => ?_
    replace A := A.only [8, 3, 2, 1, 0] rfl
    refine hK1 _ _ ?_
    refine wp_seq_k fun K2 hK2 => ?_
    refine region_seq ?_  -- region 1
    refine Lm A rfl (A.g 0 rfl) fun _ A => Lm A rfl (A.g 1 rfl) fun _ A => Lm A rfl (A.g 2 rfl) fun _ A => Lm A rfl (A.g 3 rfl) fun _ A => ?_
    replace A := A.only [15, 14, 13, 12, 8, 3, 2, 1, 0] rfl
    refine Lo A rfl (y_call4 (by kernel_rfl) rfl (A.g 12 rfl) (A.g 13 rfl) (A.g 14 rfl) (A.g 15 rfl) (callN (hat _ G0) fun v w H gG nN hf ac A => ?_))
    obtain ⟨rfl, rfl⟩ := hf
    replace S : St _ _ _ ([(p, .cells #[.int .i64 R.n, .slice l1 R.links.length l2, .slice c1 R.cuts.length c2, .slice (some ⟨wb, 0, none⟩) gs.length w2] 64 (0, 0))] ++ (Hl ++ (Hc ++ ([(wb, .cells cs 93 (0, 0))] ++ (gmH gs))))) := (S.new gG nN).perm (by first | exact .refl _ | (rw [List.append_assoc]; exact .refl _) | (simp only [List.append_assoc, List.nil_append, List.append_nil]; exact .refl _))
    replace S : St _ _ _ ([(p, .cells #[.int .i64 R.n, .slice l1 R.links.length l2, .slice c1 R.cuts.length c2, .slice (some ⟨wb, 0, none⟩) gs.length w2] 64 (0, 0))] ++ (Hl ++ ([(wb, .cells cs 93 (0, 0))] ++ (Hc ++ (gmH gs))))) := S.swap1 (L := ([(p, .cells #[.int .i64 R.n, .slice l1 R.links.length l2, .slice c1 R.cuts.length c2, .slice (some ⟨wb, 0, none⟩) gs.length w2] 64 (0, 0))] ++ Hl)) (A := Hc) (B := [(wb, .cells cs 93 (0, 0))])
    replace S : St _ _ _ ([(p, .cells #[.int .i64 R.n, .slice l1 R.links.length l2, .slice c1 R.cuts.length c2, .slice (some ⟨wb, 0, none⟩) gs.length w2] 64 (0, 0)), (wb, .cells cs 93 (0, 0))] ++ (Hl ++ (Hc ++ (gmH gs)))) := S.swap1 (L := [(p, .cells #[.int .i64 R.n, .slice l1 R.links.length l2, .slice c1 R.cuts.length c2, .slice (some ⟨wb, 0, none⟩) gs.length w2] 64 (0, 0))]) (A := Hl) (B := [(wb, .cells cs 93 (0, 0))])
    replace G0 := G0.trans gG
    refine Lm A rfl (A.g 16 rfl) fun _ A => Lo A rfl (y_extract (A.g 11 rfl) rfl fun _ A => ?_)
    refine Lo A rfl (y_extract (A.g 11 rfl) rfl fun _ A => ?_)
    replace A := A.only [18, 17, 8, 3, 2, 1, 0] rfl
    refine La A rfl (A.g 17 rfl) fun _ A => La A rfl (A.g 18 rfl) fun _ A => ?_
    replace A := A.only [10, 9, 8, 3, 2, 1, 0] rfl
    refine hK2 _ _ ?_
    refine wp_seq_k fun K3 hK3 => ?_
    refine wp_seq_k fun K4 hK4 => ?_
    refine region_seq ?_  -- region 2
    refine Lm A rfl (A.g 10 rfl) fun _ A => Lo A rfl (y_eql (A.g 19 rfl) (evc _ _) (c := true) (by decide) fun _ A => ?_)
    replace A := A.only [20, 10, 9, 8, 3, 2, 1, 0] rfl
    refine hK4 _ _ ?_
    refine wp_cond_true (A.get rfl) ?_
    refine region_draw A [⟨21, pl (eqv (.pointer (some ⟨p, 0, none⟩))), [], [0], none, true⟩, ⟨22, pl (sblk 0 (.cells #[] 93)), [], [], none, false⟩, ⟨23, pl (eqv (.pointer (some ⟨p, 0, none⟩))), [], [0], none, false⟩, ⟨24, pl (eqv (.pointer (some ⟨p, 0, none⟩))), [2], [], none, false⟩, ⟨25, pl (eqv (.pointer (some ⟨p, 3, none⟩))), [3], [], none, false⟩, ⟨26, pl (eqv (.slice (some ⟨wb, 0, none⟩) gs.length w2)), [4], [], none, false⟩, ⟨27, pl (eqv (.int .i64 (((j : Nat) : Int)))), [], [9], none, false⟩, ⟨28, pl (eqv (sliced wb 0 0 j w2 4)), [5, 6], [], none, false⟩, ⟨29, pl (fun v H => (∃ a c, v = .slice a j c) ∧ SlRep 93 4 v j (gmCells (gs.take j)) H), [1, 7], [], none, false⟩, ⟨30, pl (eqv (.pointer (some ⟨p, 0, none⟩))), [], [0], none, false⟩, ⟨31, pl (eqv (.pointer (some ⟨p, 0, none⟩))), [9], [], none, false⟩, ⟨32, pl (eqv (.pointer (some ⟨p, 3, none⟩))), [10], [], none, false⟩, ⟨33, pl (eqv (.slice (some ⟨wb, 0, none⟩) gs.length w2)), [11], [], none, false⟩, ⟨34, pl (eqv (.int .i64 (((j : Nat) : Int)))), [], [9], none, false⟩, ⟨35, pl (eqv (.int .i64 (((j + 1 : Nat) : Int)))), [13], [], none, false⟩, ⟨36, pl (eqv (sliced wb 0 (j + 1) gs.length w2 4)), [12, 14], [], none, false⟩] [(16, false), (17, false), (18, false), (19, false)] (by kernel_rfl) (by kernel_rfl) (fun d _ _ _ _ h => by cases d <;> exact h) ⟨?_, ?_, ?_, ?_, ?_, ?_, ?_, ?_, ?_, ?_, ?_, ?_, ?_, ?_, ?_, ?_, trivial⟩ ?_  -- region 3
    · refine due_pure fun ρ w1 G hsrc hold => ?_; obtain ⟨o0, -⟩ := hold; exact ⟨_, (fun w1 => r_move (o0.trans (A.g 0 rfl))), rfl, rfl⟩
    · refine due_plain fun ρ w1 G hsrc hold => ?_; exact y_buildSlice0 (c := #[]) (e := 93)  (fun w => by kernel_rfl) (fun b w' g n => ⟨g, _, ⟨b, rfl, rfl⟩, n⟩)
    · refine due_plain fun ρ w1 G hsrc hold => ?_; obtain ⟨o0, -⟩ := hold; exact y_move (o0.trans (A.g 0 rfl)) y_eq
    · refine due_plain fun ρ w1 G hsrc hold => ?_; obtain ⟨⟨_, _, ⟨h23, -⟩, -⟩, -⟩ := hsrc; exact y_nilCheck h23 y_eq
    · refine due_plain fun ρ w1 G hsrc hold => ?_; obtain ⟨⟨_, _, ⟨h24, -⟩, -⟩, -⟩ := hsrc; exact y_fieldAddr (off := 3) (j := 3) (by kernel_rfl) h24 (by first | rfl | omega) y_eq
    · refine due_plain fun ρ w1 G hsrc hold => ?_; obtain ⟨⟨_, _, ⟨h25, -⟩, -⟩, -⟩ := hsrc; exact y_load (by kernel_rfl) h25 ((cell_of (G.gr.heap' (S.get 0 rfl)) _).trans rfl) y_eq
    · refine due_plain fun ρ w1 G hsrc hold => ?_; obtain ⟨o9, -⟩ := hold; exact y_move (o9.trans (A.g 9 rfl)) y_eq
    · refine due_plain fun ρ w1 G hsrc hold => ?_; obtain ⟨⟨_, _, ⟨h26, -⟩, -⟩, ⟨_, _, ⟨h27, -⟩, -⟩, -⟩ := hsrc; exact y_sliceHi (e := 93) (by kernel_rfl) (by kernel_rfl) h26 h27 (by omega) y_eq
    · refine due_plain fun ρ w1 G hsrc hold => ?_; obtain ⟨⟨_, _, ⟨b1, h22, -⟩, -⟩, ⟨_, _, ⟨h28, -⟩, -⟩, -⟩ := hsrc; exact y_append0 okGR (by kernel_rfl) h22 h28 (hA0.gr (G0.trans G.gr)) oA (by omega) (by omega) (fun v' w' H' g n hr => ⟨g, H', ⟨hr.len, hr⟩, n⟩)
    · refine due_plain fun ρ w1 G hsrc hold => ?_; obtain ⟨o0, -⟩ := hold; exact y_move (o0.trans (A.g 0 rfl)) y_eq
    · refine due_plain fun ρ w1 G hsrc hold => ?_; obtain ⟨⟨_, _, ⟨h30, -⟩, -⟩, -⟩ := hsrc; exact y_nilCheck h30 y_eq
    · refine due_plain fun ρ w1 G hsrc hold => ?_; obtain ⟨⟨_, _, ⟨h31, -⟩, -⟩, -⟩ := hsrc; exact y_fieldAddr (off := 3) (j := 3) (by kernel_rfl) h31 (by first | rfl | omega) y_eq
    · refine due_plain fun ρ w1 G hsrc hold => ?_; obtain ⟨⟨_, _, ⟨h32, -⟩, -⟩, -⟩ := hsrc; exact y_load (by kernel_rfl) h32 ((cell_of (G.gr.heap' (S.get 0 rfl)) _).trans rfl) y_eq
    · refine due_plain fun ρ w1 G hsrc hold => ?_; obtain ⟨o9, -⟩ := hold; exact y_move (o9.trans (A.g 9 rfl)) y_eq
    · refine due_plain fun ρ w1 G hsrc hold => ?_; obtain ⟨⟨_, _, ⟨h34, -⟩, -⟩, -⟩ := hsrc; exact y_add h34 (G.const _) (c := ((j + 1 : Nat) : Int)) ((wrap64 (by omega)).trans (by omega)) y_eq
    · refine due_plain fun ρ w1 G hsrc hold => ?_; obtain ⟨⟨_, _, ⟨h33, -⟩, -⟩, ⟨_, _, ⟨h35, -⟩, -⟩, -⟩ := hsrc; exact y_sliceLo (e := 93) (l := j + 1) (by kernel_rfl) (by kernel_rfl) h33 h35 (by omega) y_eq
    rintro _ _ ⟨rfl, rfl⟩ _ _ ⟨b1, rfl, rfl⟩ _ _ ⟨rfl, rfl⟩ _ _ ⟨rfl, rfl⟩ _ _ ⟨rfl, rfl⟩ _ _ ⟨rfl, rfl⟩ _ _ ⟨rfl, rfl⟩ _ _ ⟨rfl, rfl⟩ _ Ha ⟨⟨ka, kc, rfl⟩, hA⟩ _ _ ⟨rfl, rfl⟩ _ _ ⟨rfl, rfl⟩ _ _ ⟨rfl, rfl⟩ _ _ ⟨rfl, rfl⟩ _ _ ⟨rfl, rfl⟩ _ _ ⟨rfl, rfl⟩ _ _ ⟨rfl, rfl⟩
    intro ac w A gG nN
    replace S : St _ _ _ (Ha ++ ([(b1, .cells #[] 93 (0, 0)), (p, .cells #[.int .i64 R.n, .slice l1 R.links.length l2, .slice c1 R.cuts.length c2, .slice (some ⟨wb, 0, none⟩) gs.length w2] 64 (0, 0)), (wb, .cells cs 93 (0, 0))] ++ (Hl ++ (Hc ++ (gmH gs))))) := (S.new gG nN).perm (by first | exact .refl _ | (rw [List.append_assoc]; exact .refl _) | (simp only [List.append_assoc, List.nil_append, List.append_nil]; exact .refl _))
    replace S : St _ _ _ ([(b1, .cells #[] 93 (0, 0)), (p, .cells #[.int .i64 R.n, .slice l1 R.links.length l2, .slice c1 R.cuts.length c2, .slice (some ⟨wb, 0, none⟩) gs.length w2] 64 (0, 0)), (wb, .cells cs 93 (0, 0))] ++ (Ha ++ (Hl ++ (Hc ++ (gmH gs))))) := S.swap1 (L := []) (A := Ha) (B := [(b1, .cells #[] 93 (0, 0)), (p, .cells #[.int .i64 R.n, .slice l1 R.links.length l2, .slice c1 R.cuts.length c2, .slice (some ⟨wb, 0, none⟩) gs.length w2] 64 (0, 0)), (wb, .cells cs 93 (0, 0))])
    replace G0 := G0.trans gG
    replace S : St _ _ _ (Ha ++ ([(b1, .cells #[] 93 (0, 0)), (p, .cells #[.int .i64 R.n, .slice l1 R.links.length l2, .slice c1 R.cuts.length c2, .slice (some ⟨wb, 0, none⟩) gs.length w2] 64 (0, 0)), (wb, .cells cs 93 (0, 0))] ++ (Hl ++ (Hc ++ (gmH gs))))) := S.perm (by classical rw [List.perm_iff_count]; intro x; simp only [List.count_append, List.count_cons, List.count_nil] <;> omega)
    refine Lo A rfl (y_append okGR (by kernel_rfl) (A.g 29 rfl) (A.g 36 rfl) (H := Ha) S hA (hB0.gr G0) oB (by omega) (by omega) fun v2 w Hx hr2 S ac A => ?_)
    obtain ⟨x1, x2, rfl⟩ := hr2.len
    replace S : St _ _ _ ([(b1, .cells #[] 93 (0, 0)), (p, .cells #[.int .i64 R.n, .slice l1 R.links.length l2, .slice c1 R.cuts.length c2, .slice (some ⟨wb, 0, none⟩) gs.length w2] 64 (0, 0)), (wb, .cells cs 93 (0, 0))] ++ (Hl ++ (Hc ++ ((gmH gs) ++ Hx)))) := S.perm (by classical rw [List.perm_iff_count]; intro x; simp only [List.count_append, List.count_cons, List.count_nil] <;> omega)
    refine Lo A rfl (y_nilCheck (A.g 21 rfl) fun _ A => ?_)
    refine Lo A rfl (y_fieldAddr (off := 3) (j := 3) (by kernel_rfl) (A.g 38 rfl) (by first | rfl | omega) fun _ A => ?_)
    refine L_opN A rfl rfl (y_store 1 (by kernel_rfl) (A.g 39 rfl) (A.g 37 rfl) (S.get 1 rfl) rfl (Nat.le_of_ble_eq_true rfl) (one_all rfl) ?_)
    replace S : St _ _ _ ([(b1, .cells #[] 93 (0, 0)), (p, .cells #[.int .i64 R.n, .slice l1 R.links.length l2, .slice c1 R.cuts.length c2, .slice x1 (j + (gs.length - (j + 1))) x2] 64 (0, 0)), (wb, .cells cs 93 (0, 0))] ++ (Hl ++ (Hc ++ ((gmH gs) ++ Hx)))) := S.setAt 1 rfl _
    replace A := A.only [20, 10, 9, 8, 3, 2, 1, 0] rfl
    refine hK3 _ _ ?_
    refine wp_seq_k fun K5 hK5 => ?_
    refine region_seq ?_  -- region 4
    refine Lm A rfl (A.g 10 rfl) fun _ A => La A rfl (A.g 40 rfl) fun _ A => ?_
    replace A := A.only [20, 10, 9, 8, 3, 2, 1, 0] rfl
    refine hK5 _ _ ?_
    replace S : St _ _ _ ([(p, .cells #[.int .i64 R.n, .slice l1 R.links.length l2, .slice c1 R.cuts.length c2, .slice x1 (j + (gs.length - (j + 1))) x2] 64 (0, 0))] ++ (Hl ++ (Hc ++ (Hx ++ (gmH (gs.eraseIdx j)))))) := St.app_left (K := ([(b1, .cells #[] 93 (0, 0)), (wb, .cells cs 93 (0, 0))] ++ g.H)) (S.perm (by classical rw [List.perm_iff_count]; intro x; have hpt := (gmH_erase gs j g hgj).count_eq x; simp only [List.count_append, List.count_cons, List.count_nil] at hpt ⊢; omega))
    exact wp_ret ⟨A.defers, _, res_run (rs := [.tmp 8]) (vs := [.int .i64 0]) rfl ⟨A.get rfl, trivial⟩, ⟨_, _, rfl, ⟨by rw [hR], by rw [hR]; exact ⟨_, _, _, _, _, h.drop hjl hr2, rfl⟩⟩, S⟩⟩
theorem rdrop_ok (hrep : RefRep p R H) (nd : (keys H).Nodup) (hH : Holds w0 H) (hw : R.way.length ≤ 1000000) : Calls Try.prog 51 #[.pointer (some ⟨p, 0, none⟩), .int .i64 a, .int .i64 b, .int .i64 i] w0 (RetW (keys H) w0 fun r H' => r = .int .i64 (R.drop a b i).1 ∧ RefRep p (R.drop a b i).2 H') := by
  obtain ⟨vl, Hl, hrep⟩ := hrep
  exact (rdropL_ok hrep nd hH hw).mono (by rintro e w' ⟨v, H', rfl, ⟨h1, h2⟩, h3⟩; exact ⟨v, H', rfl, ⟨h1, h2.to⟩, h3⟩)
end
end Go.Proofs.Ytaeidblipdjgnaa
