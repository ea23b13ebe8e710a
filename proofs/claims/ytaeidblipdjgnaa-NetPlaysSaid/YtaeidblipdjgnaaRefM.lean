import Derived.Test.YtaeidblipdjgnaaRefB
namespace Go.Proofs.Ytaeidblipdjgnaa
open Go.RowKit Go.Maps Go.WideMaps

theorem SlRep.mk0 (T : TypeId) (size b : Nat) : SlRep T size (.slice (some ⟨b, 0, none⟩) 0 0) 0 [] [(b, .cells #[] T (0, 0))] := ⟨by simp, Or.inr ⟨b, 0, #[], rfl, rfl, by simp, by simp, by simp⟩⟩
/-- append to a slice without room: it only makes memory -/
theorem y_append0 {P : Program} {st T size bytes : Nat} {z : Value} {ρ : Operand → Value} {w : World} {Φ : Value → World → Prop} {d : Option Tmp} {ty xt : TypeId} {pos : String} {aft : Array Edge} {gd : Option (Nat × Bool)} {x y : Operand} {u : Value} {m : Nat} {X : List Value} {a : Option Addr}
    (ok : AppOk P st T size bytes z) (hxt : P.underlying xt = some (.slice T)) (hx : ρ x = .slice a 0 0) (hy : ρ y = u) (hu : Src w size u m X) (hone : ∀ q ∈ X, oneC q = true) (hroom : (2 * m + 192) * bytes ≤ 281474976710656) (hbig : m < 4611686018427387904)
    (hΦ : ∀ v' w' H', Gr w w' → NewF w w' H' → SlRep T size v' m X H' → Φ v' w') : OpY P ⟨d, .call ⟨.builtin .append, #[x, y], #[st, xt]⟩, ty, pos, aft, gd⟩ ρ w Φ :=
  y_append (H := []) (R := []) ok hxt hx hy (St.none w) (SlRep.nil T size a) hu hone (by simpa using hroom) (by omega) (fun v' w' H' hr S => by
    rw [List.append_nil] at S; rw [Nat.zero_add, List.nil_append] at hr
    exact hΦ v' w' H' S.kp.to_gr S.newF hr)
theorem okGR : AppOk Try.prog 62 93 4 48 (.agg #[.int .i64 0, .int .i64 0, .slice none 0 0, .bool false]) := ⟨by kernel_rfl, by kernel_rfl, by kernel_rfl, by kernel_rfl, rfl⟩
theorem okBO : AppOk Try.prog 61 4 1 1 (.bool false) := ⟨by kernel_rfl, by kernel_rfl, by kernel_rfl, by kernel_rfl, rfl⟩
theorem at_lt {a b i : Int} : ∀ {l : List Dg} {j0 : Nat} {k : Int} {j : Nat}, atGo a b i l j0 k = some j → j0 ≤ j ∧ j < j0 + l.length
  | [], _, _, _, h => by simp [atGo] at h
  | g :: r, j0, k, j, h => by
    unfold atGo at h
    split at h
    · split at h
      · simp at h; subst h; simp
      · have := at_lt h; simp; omega
    · have := at_lt h; simp; omega
theorem rat_cases (R : RM) (a b i : Int) : (∃ e, R.at a b i = (-1, e) ∧ e ≠ 0) ∨ ∃ (j : Nat) (d : Dg), R.at a b i = ((j : Int), 0) ∧ R.way[j]? = some d := by
  unfold RM.at
  split
  · exact Or.inl ⟨1, rfl, by decide⟩
  · cases h : atGo a b i R.way 0 0 with
    | none => exact Or.inl ⟨5, rfl, by decide⟩
    | some j => have := at_lt h; exact Or.inr ⟨j, _, rfl, List.getElem?_eq_getElem (by omega)⟩
def RM.peek (R : RM) (a b i : Int) : List UInt8 × Int := if (R.at a b i).2 = 0 then ((R.way[(R.at a b i).1.toNat]?.map (·.bs)).getD [], 0) else ([], (R.at a b i).2)
theorem gm_of {R : RM} {gs : List Dm} (h : gmD gs = R.way) {j : Nat} {d : Dg} (hd : R.way[j]? = some d) : ∃ g, gs[j]? = some g ∧ g.d = d := by
  rw [← h] at hd; simpa [gmD] using hd
section
variable {p : Nat} {R : RM} {w0 : World} {a b i : Int} {la : Option Addr} {lc : Nat} {ca : Option Addr} {cc : Nat} {wa : Option Addr} {wc : Nat} {gs : List Dm}
set_option maxRecDepth 20000 in
set_option maxHeartbeats 4000000 in
theorem rpeek_ok (h : RefS w0 p R la lc ca cc wa wc gs) (hw : R.way.length ≤ 1000000) : Calls Try.prog 50 #[.pointer (some ⟨p, 0, none⟩), .int .i64 a, .int .i64 b, .int .i64 i] w0 (RetN w0 fun r H => ∃ vb, r = .tuple #[vb, .int .i64 (R.peek a b i).2] ∧ BRep vb (R.peek a b i).1 H) := by
  have hp := h.hp
  have hgl : gs.length = R.way.length := by rw [← h.gd]; simp [gmD]
  have hat : ∀ w, Gr w0 w → Calls Try.prog 59 #[.pointer (some ⟨p, 0, none⟩), .int .i64 a, .int .i64 b, .int .i64 i] w (RetN w (eqv (.tuple #[.int .i64 (R.at a b i).1, .int .i64 (R.at a b i).2]))) := fun w g => rat_ok (h.gr g) hw
  rcases rat_cases R a b i with ⟨e, he, hne⟩ | ⟨j, d, he, hd⟩
  · have hR : R.peek a b i = ([], e) := by unfold RM.peek; rw [he]; simp [hne]
    rw [hR]; simp only [he] at hat
    refine enter Try.func50 rfl (n := 33) rfl (Nat.le_of_ble_eq_true rfl) fun _ A => ?_
    have S : St _ _ _ [] := St.none w0
    refine wp_seq_k fun K1 hK1 => ?_
    refine region_seq ?_  -- region 0
    refine La A rfl (evc _ _) fun _ A => La A rfl (evc _ _) fun _ A => ?_
    replace A := A.only [9, 8, 3, 2, 1, 0] rfl
    refine hK1 _ _ ?_
    refine wp_seq_k fun K2 hK2 => ?_
    refine region_seq ?_  -- region 1
    refine Lm A rfl (A.g 0 rfl) fun _ A => Lm A rfl (A.g 1 rfl) fun _ A => Lm A rfl (A.g 2 rfl) fun _ A => Lm A rfl (A.g 3 rfl) fun _ A => ?_
    replace A := A.only [16, 15, 14, 13, 9, 8, 3, 2, 1, 0] rfl
    refine Lo A rfl (y_call4 (by kernel_rfl) rfl (A.g 13 rfl) (A.g 14 rfl) (A.g 15 rfl) (A.g 16 rfl) (callN (hat _ S.kp.to_gr) fun v w H gG nN hf ac A => ?_))
    obtain ⟨rfl, rfl⟩ := hf
    replace S : St _ _ _ [] := S.new gG nN
    refine Lm A rfl (A.g 17 rfl) fun _ A => Lo A rfl (y_extract (A.g 12 rfl) rfl fun _ A => ?_)
    refine Lo A rfl (y_extract (A.g 12 rfl) rfl fun _ A => ?_)
    replace A := A.only [19, 18, 9, 8, 3, 2, 1, 0] rfl
    refine La A rfl (A.g 18 rfl) fun _ A => La A rfl (A.g 19 rfl) fun _ A => ?_
    replace A := A.only [11, 10, 9, 8, 3, 2, 1, 0] rfl
    refine hK2 _ _ ?_
    refine wp_seq_k fun K3 hK3 => ?_
    refine wp_seq_k fun K4 hK4 => ?_
    refine region_seq ?_  -- region 2
    refine Lm A rfl (A.g 11 rfl) fun _ A => Lo A rfl (y_neq (A.g 20 rfl) (evc _ _) (c := true) (by simpa using hne) fun _ A => ?_)
    replace A := A.only [21, 11, 10, 9, 8, 3, 2, 1, 0] rfl
    refine hK4 _ _ ?_
    refine wp_cond_true (A.get rfl) ?_
    refine wp_seq_k fun K5 hK5 => ?_
    refine region_seq ?_  -- region 3
    refine Lm A rfl (A.g 11 rfl) fun _ A => La A rfl (evc _ _) fun _ A => La A rfl (A.g 22 rfl) fun _ A => ?_
    replace A := A.only [21, 11, 10, 9, 8, 3, 2, 1, 0] rfl
    refine hK5 _ _ ?_
    exact wp_ret ⟨A.defers, _, res_run (rs := [.tmp 8, .tmp 9]) (vs := [.slice none 0 0, .int .i64 e]) rfl ⟨A.get rfl, A.get rfl, trivial⟩, ⟨_, rfl, S.kp.to_gr, [], ⟨_, rfl, SlRep.nil _ _ _⟩, NewF.nil _ _⟩⟩
  · obtain ⟨g, hgj, rfl⟩ := gm_of h.gd hd
    have hR : R.peek a b i = (g.d.bs, 0) := by unfold RM.peek; rw [he]; simp [hd]
    rw [hR]; simp only [he] at hat
    have hjl := lt_of_get hgj
    obtain ⟨va, vc, hva, hrow⟩ := gm_row h.way hgj
    simp only [Value.slice.injEq] at hva; obtain ⟨rfl, -, rfl⟩ := hva
    obtain ⟨hbs, hb512⟩ := h.bs g (List.mem_of_getElem? hgj)
    obtain ⟨ba, bc, hbv⟩ := hbs.slice
    rw [hbv] at hrow hbs
    refine enter Try.func50 rfl (n := 33) rfl (Nat.le_of_ble_eq_true rfl) fun _ A => ?_
    have S : St _ _ _ [] := St.none w0
    refine wp_seq_k fun K1 hK1 => ?_
    refine region_seq ?_  -- region 0
    refine La A rfl (evc _ _) fun _ A => La A rfl (evc _ _) fun _ A => ?_
    replace A := A.only [9, 8, 3, 2, 1, 0] rfl
    refine hK1 _ _ ?_
    refine wp_seq_k fun K2 hK2 => ?_
    refine region_seq ?_  -- region 1
    refine Lm A rfl (A.g 0 rfl) fun _ A => Lm A rfl (A.g 1 rfl) fun _ A => Lm A rfl (A.g 2 rfl) fun _ A => Lm A rfl (A.g 3 rfl) fun _ A => ?_
    replace A := A.only [16, 15, 14, 13, 9, 8, 3, 2, 1, 0] rfl
    refine Lo A rfl (y_call4 (by kernel_rfl) rfl (A.g 13 rfl) (A.g 14 rfl) (A.g 15 rfl) (A.g 16 rfl) (callN (hat _ S.kp.to_gr) fun v w H gG nN hf ac A => ?_))
    obtain ⟨rfl, rfl⟩ := hf
    replace S : St _ _ _ [] := S.new gG nN
    refine Lm A rfl (A.g 17 rfl) fun _ A => Lo A rfl (y_extract (A.g 12 rfl) rfl fun _ A => ?_)
    refine Lo A rfl (y_extract (A.g 12 rfl) rfl fun _ A => ?_)
    replace A := A.only [19, 18, 9, 8, 3, 2, 1, 0] rfl
    refine La A rfl (A.g 18 rfl) fun _ A => La A rfl (A.g 19 rfl) fun _ A => ?_
    replace A := A.only [11, 10, 9, 8, 3, 2, 1, 0] rfl
    refine hK2 _ _ ?_
    refine wp_seq_k fun K3 hK3 => ?_
    refine wp_seq_k fun K4 hK4 => ?_
    refine region_seq ?_  -- region 2
    refine Lm A rfl (A.g 11 rfl) fun _ A => Lo A rfl (y_neq (A.g 20 rfl) (evc _ _) (c := false) (by decide) fun _ A => ?_)
    replace A := A.only [21, 11, 10, 9, 8, 3, 2, 1, 0] rfl
    refine hK4 _ _ ?_
    refine wp_cond_false (A.get rfl) ?_
    refine wp_skip ?_
    refine hK3 _ _ ?_
    refine wp_seq_k fun K5 hK5 => ?_
    refine region_seq ?_  -- region 4
    refine Lo A rfl (y_buildSlice0 (c := #[]) (e := 5)  (fun w => by kernel_rfl) fun b1 w gG nN ac A => ?_)
    replace S : St _ _ _ [(b1, .cells #[] 5 (0, 0))] := S.new gG nN
    refine Lm A rfl (A.g 0 rfl) fun _ A => Lo A rfl (y_nilCheck (A.g 24 rfl) fun _ A => ?_)
    refine Lo A rfl (y_fieldAddr (off := 3) (j := 3) (by kernel_rfl) (A.g 25 rfl) (by first | rfl | omega) fun _ A => ?_)
    replace A := A.only [26, 23, 21, 11, 10, 9, 8, 3, 2, 1, 0] rfl
    refine Lo A rfl (y_load (by kernel_rfl) (A.g 26 rfl) ((cell_of (S.kp.heap' hp (by simp)) _).trans rfl) fun _ A => ?_)
    refine Lm A rfl (A.g 10 rfl) fun _ A => Lo A rfl (y_indexA (e := 93) (size := 4) (by kernel_rfl) (by kernel_rfl) (A.g 27 rfl) (A.g 28 rfl) (by omega) (by omega) fun _ A => ?_)
    refine Lo A rfl (y_fieldA (off := 2) (by kernel_rfl) (A.g 29 rfl) fun _ A => ?_)
    replace A := A.only [30, 23, 21, 11, 10, 9, 8, 3, 2, 1, 0] rfl
    refine Lo A rfl (y_load (by kernel_rfl) (A.g 30 rfl) (S.kp.cell' (hrow 2 (Nat.le_of_ble_eq_true rfl)) (by simp)) fun _ A => ?_)
    refine Lo A rfl (y_append0 okU8 (by kernel_rfl) (A.g 23 rfl) (A.g 31 rfl) (hbs.gr S.kp.to_gr) (u8_one _) (by omega) (by omega) fun v' w Hb gG nN hB ac A => ?_)
    replace S : St _ _ _ (Hb ++ [(b1, .cells #[] 5 (0, 0))]) := (S.new gG nN).perm (by first | exact .refl _ | (rw [List.append_assoc]; exact .refl _) | (simp only [List.append_assoc, List.nil_append, List.append_nil]; exact .refl _))
    replace S : St _ _ _ ([(b1, .cells #[] 5 (0, 0))] ++ Hb) := S.perm (by classical rw [List.perm_iff_count]; intro x; simp only [List.count_append, List.count_cons, List.count_nil] <;> omega)
    refine La A rfl (A.g 32 rfl) fun _ A => La A rfl (evc _ _) fun _ A => ?_
    replace A := A.only [21, 11, 10, 9, 8, 3, 2, 1, 0] rfl
    refine hK5 _ _ ?_
    exact wp_ret ⟨A.defers, _, res_run (rs := [.tmp 8, .tmp 9]) (vs := [v', .int .i64 0]) rfl ⟨A.get rfl, A.get rfl, trivial⟩, ⟨_, rfl, S.kp.to_gr, Hb, ⟨_, rfl, hB⟩, (St.app_left (K := [(b1, .cells #[] 5 (0, 0))]) (S.perm (by classical rw [List.perm_iff_count]; intro x; simp only [List.count_append, List.count_cons, List.count_nil] <;> omega))).newF⟩⟩

def RM.push (R : RM) (d : Dg) : RM := { R with way := R.way ++ [d] }
def RM.send (R : RM) (a b : Int) (bs : List UInt8) : Int × RM :=
  if R.link a b < 0 then (1, R) else if R.open' a b = false then (7, R) else if 512 < bs.length then (2, R) else if 24 ≤ R.len a b then (4, R) else (0, R.push ⟨a, b, bs, false⟩)
theorem gmCells_snoc (l : List Dm) (g : Dm) : gmCells (l ++ [g]) = gmCells l ++ [.int .i64 g.d.f, .int .i64 g.d.t, g.v, .bool g.d.sp] := by simp [gmCells]
theorem gmH_snoc (l : List Dm) (g : Dm) : gmH (l ++ [g]) = gmH l ++ g.H := by simp [gmH]
theorem RefP.push {R : RM} {vl : Value} {Hl : Frag} {vc : Value} {Hc : Frag} {vw : Value} {Hw : Frag} {gs : List Dm} (h : RefP R vl Hl vc Hc vw Hw gs) {v' : Value} {Hw' : Frag} {d : Dg} {vb : Value} {Hb : Frag} (hr : SlRep 93 4 v' (gs.length + 1) (gmCells gs ++ [.int .i64 d.f, .int .i64 d.t, vb, .bool d.sp]) Hw') (hB : BRep vb d.bs Hb) (hl : d.bs.length ≤ 512) : RefP (R.push d) vl Hl vc Hc v' Hw' (gs ++ [⟨d, vb, Hb⟩]) := by
  refine ⟨h.links, h.cuts, by rw [gmCells_snoc, List.length_append]; exact hr, by simp [gmD, RM.push, ← h.gd], fun g hg => ?_, h.few, h.same⟩
  rcases List.mem_append.1 hg with hg | hg
  · exact h.ok g hg
  · simp at hg; subst hg; exact ⟨hB, hl⟩
set_option maxRecDepth 20000 in
set_option maxHeartbeats 8000000 in
theorem rsend_ok {H : Frag} {v : Value} {bs : List UInt8} (hrep : RefRep p R H) (nd : (keys H).Nodup) (hH : Holds w0 H) (hw : R.way.length ≤ 1000000) (hv : BSrc w0 v bs) : Calls Try.prog 49 #[.pointer (some ⟨p, 0, none⟩), .int .i64 a, .int .i64 b, v] w0 (RetW (keys H) w0 fun r H' => r = .int .i64 (R.send a b bs).1 ∧ RefRep p (R.send a b bs).2 H') := by
  obtain ⟨va, vc', rfl⟩ := hv.slice
  obtain ⟨la, lc, ca, cc, wa, wc, gs0, hsrc0⟩ := hrep.src hH
  have hgr : ∀ w, Gr w0 w → RefS w p R la lc ca cc wa wc gs0 := fun w g => hsrc0.gr g
  clear hsrc0
  have hrep0 := hrep
  obtain ⟨vl, Hl, vc, Hc, vw, Hw, gs, h, rfl⟩ := hrep
  have hgl : gs.length = R.way.length := by rw [← h.gd]; simp [gmD]
  have S0 := St.start nd hH
  generalize hD : keys _ = DD at S0 ⊢
  obtain ⟨l1, l2, rfl⟩ := h.links.len
  obtain ⟨c1, c2, rfl⟩ := h.cuts.len
  obtain ⟨w1, w2, rfl⟩ := h.way.len
  refine enter Try.func49 rfl (n := 42) rfl (Nat.le_of_ble_eq_true rfl) fun _ A => ?_
  have S : St _ _ _ ([(p, .cells #[.int .i64 R.n, .slice l1 R.links.length l2, .slice c1 R.cuts.length c2, .slice w1 gs.length w2] 64 (0, 0))] ++ (Hl ++ (Hc ++ (Hw ++ (gmH gs))))) := S0
  clear S0
  have G0 : Gr w0 w0 := Gr.refl w0
  refine wp_seq_k fun K1 hK1 => ?_
  refine region_seq ?_  -- region 0
  refine La A rfl (evc _ _) fun _ A => ?_
  replace A := A.only [8, 3, 2, 1, 0] rfl
  refine hK1 _ _ ?_
  refine wp_seq_k fun K2 hK2 => ?_
  refine wp_seq_k fun K3 hK3 => ?_
  refine region_seq ?_  -- region 1
  refine Lm A rfl (A.g 0 rfl) fun _ A => Lm A rfl (A.g 1 rfl) fun _ A => Lm A rfl (A.g 2 rfl) fun _ A => Lo A rfl (y_call3 (by kernel_rfl) rfl (A.g 9 rfl) (A.g 10 rfl) (A.g 11 rfl) (callN (rlink_ok (hgr _ G0)) fun v w H gG nN hf ac A => ?_))
  obtain ⟨rfl, rfl⟩ := hf
  replace S : St _ _ _ ([(p, .cells #[.int .i64 R.n, .slice l1 R.links.length l2, .slice c1 R.cuts.length c2, .slice w1 gs.length w2] 64 (0, 0))] ++ (Hl ++ (Hc ++ (Hw ++ (gmH gs))))) := (S.new gG nN).perm (by first | exact .refl _ | (rw [List.append_assoc]; exact .refl _) | (simp only [List.append_assoc, List.nil_append, List.append_nil]; exact .refl _))
  replace G0 := G0.trans gG
  refine Lo A rfl (y_lss (A.g 12 rfl) (evc _ _) rfl fun _ A => ?_)
  replace A := A.only [13, 8, 3, 2, 1, 0] rfl
  refine hK3 _ _ ?_
  refine wp_cond_split (A.get rfl) (fun hc13 => ?_) (fun hc13 => ?_)
  · -- .bool (decide ((R.link a b : Int) < 0)) is true
    have hc13 := of_decide_eq_true hc13
    refine wp_seq_k fun K4 hK4 => ?_
    refine region_seq ?_  -- region 2
    refine La A rfl (evc _ _) fun _ A => ?_
    replace A := A.only [13, 8, 3, 2, 1, 0] rfl
    refine hK4 _ _ ?_
    have hR : R.send a b bs = (1, R) := by
      unfold RM.send
      rw [if_pos hc13]
    exact wp_ret ⟨A.defers, _, res_run (rs := [.tmp 8]) (vs := [.int .i64 1]) rfl ⟨A.get rfl, trivial⟩, ⟨_, _, rfl, ⟨by rw [hR], by rw [hR]; exact hrep0⟩, S⟩⟩
  · -- .bool (decide ((R.link a b : Int) < 0)) is false
    have hc13 := of_decide_eq_false hc13
    refine wp_skip ?_
    refine hK2 _ _ ?_
    refine wp_seq_k fun K5 hK5 => ?_
    refine wp_seq_k fun K6 hK6 => ?_
    refine region_seq ?_  -- region 3
    refine Lm A rfl (A.g 0 rfl) fun _ A => Lm A rfl (A.g 1 rfl) fun _ A => Lm A rfl (A.g 2 rfl) fun _ A => Lo A rfl (y_call3 (by kernel_rfl) rfl (A.g 14 rfl) (A.g 15 rfl) (A.g 16 rfl) (callN (ropen_ok (hgr _ G0)) fun v w H gG nN hf ac A => ?_))
    obtain ⟨rfl, rfl⟩ := hf
    replace S : St _ _ _ ([(p, .cells #[.int .i64 R.n, .slice l1 R.links.length l2, .slice c1 R.cuts.length c2, .slice w1 gs.length w2] 64 (0, 0))] ++ (Hl ++ (Hc ++ (Hw ++ (gmH gs))))) := (S.new gG nN).perm (by first | exact .refl _ | (rw [List.append_assoc]; exact .refl _) | (simp only [List.append_assoc, List.nil_append, List.append_nil]; exact .refl _))
    replace G0 := G0.trans gG
    refine Lo A rfl (y_not (A.g 17 rfl) rfl fun _ A => ?_)
    replace A := A.only [18, 13, 8, 3, 2, 1, 0] rfl
    refine hK6 _ _ ?_
    refine wp_cond_split (A.get rfl) (fun hc18 => ?_) (fun hc18 => ?_)
    · -- .bool (!(R.open' a b)) is true
      refine wp_seq_k fun K7 hK7 => ?_
      refine region_seq ?_  -- region 4
      refine La A rfl (evc _ _) fun _ A => ?_
      replace A := A.only [18, 13, 8, 3, 2, 1, 0] rfl
      refine hK7 _ _ ?_
      have hR : R.send a b bs = (7, R) := by
        unfold RM.send
        rw [if_neg hc13]
        rw [if_pos (by simpa using hc18)]
      exact wp_ret ⟨A.defers, _, res_run (rs := [.tmp 8]) (vs := [.int .i64 7]) rfl ⟨A.get rfl, trivial⟩, ⟨_, _, rfl, ⟨by rw [hR], by rw [hR]; exact hrep0⟩, S⟩⟩
    · -- .bool (!(R.open' a b)) is false
      refine wp_skip ?_
      refine hK5 _ _ ?_
      refine wp_seq_k fun K8 hK8 => ?_
      refine wp_seq_k fun K9 hK9 => ?_
      refine region_seq ?_  -- region 5
      refine Lm A rfl (A.g 3 rfl) fun _ A => Lo A rfl (y_lenS (e := 5) (by kernel_rfl) (A.g 19 rfl) fun _ A => ?_)
      refine Lo A rfl (y_gtr (A.g 20 rfl) (evc _ _) rfl fun _ A => ?_)
      replace A := A.only [21, 18, 13, 8, 3, 2, 1, 0] rfl
      refine hK9 _ _ ?_
      refine wp_cond_split (A.get rfl) (fun hc21 => ?_) (fun hc21 => ?_)
      · -- .bool (decide ((512 : Int) < bs.length)) is true
        have hc21 := of_decide_eq_true hc21
        refine wp_seq_k fun K10 hK10 => ?_
        refine region_seq ?_  -- region 6
        refine La A rfl (evc _ _) fun _ A => ?_
        replace A := A.only [21, 18, 13, 8, 3, 2, 1, 0] rfl
        refine hK10 _ _ ?_
        have hR : R.send a b bs = (2, R) := by
          unfold RM.send
          rw [if_neg hc13]
          rw [if_neg (by simpa using hc18)]
          rw [if_pos (by omega)]
        exact wp_ret ⟨A.defers, _, res_run (rs := [.tmp 8]) (vs := [.int .i64 2]) rfl ⟨A.get rfl, trivial⟩, ⟨_, _, rfl, ⟨by rw [hR], by rw [hR]; exact hrep0⟩, S⟩⟩
      · -- .bool (decide ((512 : Int) < bs.length)) is false
        have hc21 := of_decide_eq_false hc21
        refine wp_skip ?_
        refine hK8 _ _ ?_
        refine wp_seq_k fun K11 hK11 => ?_
        refine wp_seq_k fun K12 hK12 => ?_
        refine region_seq ?_  -- region 7
        refine Lm A rfl (A.g 0 rfl) fun _ A => Lm A rfl (A.g 1 rfl) fun _ A => Lm A rfl (A.g 2 rfl) fun _ A => Lo A rfl (y_call3 (by kernel_rfl) rfl (A.g 22 rfl) (A.g 23 rfl) (A.g 24 rfl) (callN (rlen_ok (hgr _ G0) hw) fun v w H gG nN hf ac A => ?_))
        obtain ⟨rfl, rfl⟩ := hf
        replace S : St _ _ _ ([(p, .cells #[.int .i64 R.n, .slice l1 R.links.length l2, .slice c1 R.cuts.length c2, .slice w1 gs.length w2] 64 (0, 0))] ++ (Hl ++ (Hc ++ (Hw ++ (gmH gs))))) := (S.new gG nN).perm (by first | exact .refl _ | (rw [List.append_assoc]; exact .refl _) | (simp only [List.append_assoc, List.nil_append, List.append_nil]; exact .refl _))
        replace G0 := G0.trans gG
        refine Lo A rfl (y_geq (A.g 25 rfl) (evc _ _) rfl fun _ A => ?_)
        replace A := A.only [26, 21, 18, 13, 8, 3, 2, 1, 0] rfl
        refine hK12 _ _ ?_
        refine wp_cond_split (A.get rfl) (fun hc26 => ?_) (fun hc26 => ?_)
        · -- .bool (decide ((24 : Int) ≤ ((R.len a b : Nat) : Int))) is true
          have hc26 := of_decide_eq_true hc26
          refine wp_seq_k fun K13 hK13 => ?_
          refine region_seq ?_  -- region 8
          refine La A rfl (evc _ _) fun _ A => ?_
          replace A := A.only [26, 21, 18, 13, 8, 3, 2, 1, 0] rfl
          refine hK13 _ _ ?_
          have hR : R.send a b bs = (4, R) := by
            unfold RM.send
            rw [if_neg hc13]
            rw [if_neg (by simpa using hc18)]
            rw [if_neg (by omega)]
            rw [if_pos (by omega)]
          exact wp_ret ⟨A.defers, _, res_run (rs := [.tmp 8]) (vs := [.int .i64 4]) rfl ⟨A.get rfl, trivial⟩, ⟨_, _, rfl, ⟨by rw [hR], by rw [hR]; exact hrep0⟩, S⟩⟩
        · -- .bool (decide ((24 : Int) ≤ ((R.len a b : Nat) : Int))) is false
          have hc26 := of_decide_eq_false hc26
          refine wp_skip ?_
          refine hK11 _ _ ?_
          refine wp_seq_k fun K14 hK14 => ?_
          refine region_draw A [⟨27, pl (eqv (.pointer (some ⟨p, 0, none⟩))), [], [0], none, true⟩, ⟨28, pl (eqv (.pointer (some ⟨p, 0, none⟩))), [], [0], none, false⟩, ⟨29, pl (eqv (.pointer (some ⟨p, 0, none⟩))), [1], [], none, false⟩, ⟨30, pl (eqv (.pointer (some ⟨p, 3, none⟩))), [2], [], none, false⟩, ⟨31, pl (eqv (.slice w1 gs.length w2)), [3], [], none, false⟩, ⟨32, pl (eqv (.int .i64 a)), [], [1], none, false⟩, ⟨33, pl (eqv (.int .i64 b)), [], [2], none, false⟩, ⟨34, pl (sblk 0 (.cells #[] 5)), [], [], none, false⟩, ⟨35, pl (eqv (.slice va bs.length vc')), [], [3], none, false⟩, ⟨36, pl (fun v H => (∃ a c, v = .slice a bs.length c) ∧ BRep v bs H), [7, 8], [], none, false⟩, ⟨37, (fun l v H => v = .agg #[.int .i64 a, .int .i64 b, l.getD 2 undef, .bool false] ∧ H = []), [5, 6, 9], [], none, false⟩, ⟨38, (fun l v H => ∃ b, v = .slice (some ⟨b, 0, none⟩) 1 1 ∧ H = [(b, .cells (l.getD 0 undef).cells 93)]), [10], [], none, false⟩] [(12, false), (13, false), (14, false), (15, false)] (by kernel_rfl) (by kernel_rfl) (fun d _ _ _ _ h => by cases d <;> exact h) ⟨?_, ?_, ?_, ?_, ?_, ?_, ?_, ?_, ?_, ?_, ?_, ?_, trivial⟩ ?_  -- region 9
          · refine due_pure fun ρ w1 G hsrc hold => ?_; obtain ⟨o0, -⟩ := hold; exact ⟨_, (fun w1 => r_move (o0.trans (A.g 0 rfl))), rfl, rfl⟩
          · refine due_plain fun ρ w1 G hsrc hold => ?_; obtain ⟨o0, -⟩ := hold; exact y_move (o0.trans (A.g 0 rfl)) y_eq
          · refine due_plain fun ρ w1 G hsrc hold => ?_; obtain ⟨⟨_, _, ⟨h28, -⟩, -⟩, -⟩ := hsrc; exact y_nilCheck h28 y_eq
          · refine due_plain fun ρ w1 G hsrc hold => ?_; obtain ⟨⟨_, _, ⟨h29, -⟩, -⟩, -⟩ := hsrc; exact y_fieldAddr (off := 3) (j := 3) (by kernel_rfl) h29 (by first | rfl | omega) y_eq
          · refine due_plain fun ρ w1 G hsrc hold => ?_; obtain ⟨⟨_, _, ⟨h30, -⟩, -⟩, -⟩ := hsrc; exact y_load (by kernel_rfl) h30 ((cell_of (G.gr.heap' (S.get 0 rfl)) _).trans rfl) y_eq
          · refine due_plain fun ρ w1 G hsrc hold => ?_; obtain ⟨o1, -⟩ := hold; exact y_move (o1.trans (A.g 1 rfl)) y_eq
          · refine due_plain fun ρ w1 G hsrc hold => ?_; obtain ⟨o2, -⟩ := hold; exact y_move (o2.trans (A.g 2 rfl)) y_eq
          · refine due_plain fun ρ w1 G hsrc hold => ?_; exact y_buildSlice0 (c := #[]) (e := 5)  (fun w => by kernel_rfl) (fun b w' g n => ⟨g, _, ⟨b, rfl, rfl⟩, n⟩)
          · refine due_plain fun ρ w1 G hsrc hold => ?_; obtain ⟨o3, -⟩ := hold; exact y_move (o3.trans (A.g 3 rfl)) y_eq
          · refine due_plain fun ρ w1 G hsrc hold => ?_; obtain ⟨⟨_, _, ⟨b1, h34, -⟩, -⟩, ⟨_, _, ⟨h35, -⟩, -⟩, -⟩ := hsrc; exact y_append0 okU8 (by kernel_rfl) h34 h35 (hv.gr (G0.trans G.gr)) (u8_one _) (by omega) (by omega) (fun v' w' H' g n hr => ⟨g, H', ⟨hr.len, hr⟩, n⟩)
          · refine due_plain fun ρ w1 G hsrc hold => ?_; obtain ⟨⟨_, _, ⟨h32, -⟩, -⟩, ⟨_, _, ⟨h33, -⟩, -⟩, ⟨_, _, ⟨⟨ka, kc, h36⟩, -⟩, -⟩, -⟩ := hsrc; exact y_build3 h32 h33 h36 (v := .agg #[.int .i64 a, .int .i64 b, .slice ka bs.length kc, .bool false]) (by kernel_rfl) ⟨Gr.refl _, [], ⟨congrArg (fun x => Value.agg #[.int .i64 a, .int .i64 b, x, .bool false]) h36.symm, rfl⟩, NewF.nil _ _⟩
          · refine due_plain fun ρ w1 G hsrc hold => ?_; obtain ⟨⟨_, _, ⟨h37, -⟩, -⟩, -⟩ := hsrc; exact y_buildSlice1 (e := 93) h37 (fun w => by kernel_rfl) (fun b w' g n => ⟨g, _, ⟨b, rfl, congrArg (fun x => [(b, Obj.cells (Value.cells x) 93)]) h37.symm⟩, n⟩)
          rintro _ _ ⟨rfl, rfl⟩ _ _ ⟨rfl, rfl⟩ _ _ ⟨rfl, rfl⟩ _ _ ⟨rfl, rfl⟩ _ _ ⟨rfl, rfl⟩ _ _ ⟨rfl, rfl⟩ _ _ ⟨rfl, rfl⟩ _ _ ⟨b1, rfl, rfl⟩ _ _ ⟨rfl, rfl⟩ _ Hb ⟨⟨ka, kc, rfl⟩, hB⟩ _ _ ⟨rfl, rfl⟩ _ _ ⟨b38, rfl, rfl⟩
          intro ac w A gG nN
          replace S : St _ _ _ ([(b38, .cells #[.int .i64 a, .int .i64 b, .slice ka bs.length kc, .bool false] 93 (0, 0))] ++ (Hb ++ ([(b1, .cells #[] 5 (0, 0)), (p, .cells #[.int .i64 R.n, .slice l1 R.links.length l2, .slice c1 R.cuts.length c2, .slice w1 gs.length w2] 64 (0, 0))] ++ (Hl ++ (Hc ++ (Hw ++ (gmH gs))))))) := (S.new gG nN).perm (by first | exact .refl _ | (rw [List.append_assoc]; exact .refl _) | (simp only [List.append_assoc, List.nil_append, List.append_nil]; exact .refl _))
          replace S : St _ _ _ ([(b38, .cells #[.int .i64 a, .int .i64 b, .slice ka bs.length kc, .bool false] 93 (0, 0)), (b1, .cells #[] 5 (0, 0)), (p, .cells #[.int .i64 R.n, .slice l1 R.links.length l2, .slice c1 R.cuts.length c2, .slice w1 gs.length w2] 64 (0, 0))] ++ (Hb ++ (Hl ++ (Hc ++ (Hw ++ (gmH gs)))))) := S.swap1 (L := [(b38, .cells #[.int .i64 a, .int .i64 b, .slice ka bs.length kc, .bool false] 93 (0, 0))]) (A := Hb) (B := [(b1, .cells #[] 5 (0, 0)), (p, .cells #[.int .i64 R.n, .slice l1 R.links.length l2, .slice c1 R.cuts.length c2, .slice w1 gs.length w2] 64 (0, 0))])
          replace G0 := G0.trans gG
          have hsrc : Src w 4 (.slice (some ⟨b38, 0, none⟩) 1 1) 1 [.int .i64 a, .int .i64 b, .slice ka bs.length kc, .bool false] := ⟨rfl, Or.inr ⟨_, _, rfl, cells_at (S.get 0 rfl) rfl⟩⟩
          replace S : St _ _ _ (Hw ++ ([(b38, .cells #[.int .i64 a, .int .i64 b, .slice ka bs.length kc, .bool false] 93 (0, 0)), (b1, .cells #[] 5 (0, 0)), (p, .cells #[.int .i64 R.n, .slice l1 R.links.length l2, .slice c1 R.cuts.length c2, .slice w1 gs.length w2] 64 (0, 0))] ++ (Hb ++ (Hl ++ (Hc ++ (gmH gs)))))) := S.perm (by classical rw [List.perm_iff_count]; intro x; simp only [List.count_append, List.count_cons, List.count_nil] <;> omega)
          refine Lo A rfl (y_append okGR (by kernel_rfl) (A.g 31 rfl) (A.g 38 rfl) (H := Hw) S h.way hsrc (one_all rfl) (by omega) (by omega) fun v2 w Hw2 hr2 S ac A => ?_)
          obtain ⟨x1, x2, rfl⟩ := hr2.len
          replace S : St _ _ _ ([(b38, .cells #[.int .i64 a, .int .i64 b, .slice ka bs.length kc, .bool false] 93 (0, 0)), (b1, .cells #[] 5 (0, 0)), (p, .cells #[.int .i64 R.n, .slice l1 R.links.length l2, .slice c1 R.cuts.length c2, .slice w1 gs.length w2] 64 (0, 0))] ++ (Hb ++ (Hl ++ (Hc ++ ((gmH gs) ++ Hw2))))) := S.perm (by classical rw [List.perm_iff_count]; intro x; simp only [List.count_append, List.count_cons, List.count_nil] <;> omega)
          refine Lo A rfl (y_nilCheck (A.g 27 rfl) fun _ A => ?_)
          refine Lo A rfl (y_fieldAddr (off := 3) (j := 3) (by kernel_rfl) (A.g 40 rfl) (by first | rfl | omega) fun _ A => ?_)
          refine L_opN A rfl rfl (y_store 1 (by kernel_rfl) (A.g 41 rfl) (A.g 39 rfl) (S.get 2 rfl) rfl (Nat.le_of_ble_eq_true rfl) (one_all rfl) ?_)
          replace S : St _ _ _ ([(b38, .cells #[.int .i64 a, .int .i64 b, .slice ka bs.length kc, .bool false] 93 (0, 0)), (b1, .cells #[] 5 (0, 0)), (p, .cells #[.int .i64 R.n, .slice l1 R.links.length l2, .slice c1 R.cuts.length c2, .slice x1 (gs.length + 1) x2] 64 (0, 0))] ++ (Hb ++ (Hl ++ (Hc ++ ((gmH gs) ++ Hw2))))) := S.setAt 2 rfl _
          replace A := A.only [26, 21, 18, 13, 8, 3, 2, 1, 0] rfl
          refine hK14 _ _ ?_
          refine wp_seq_k fun K15 hK15 => ?_
          refine region_seq ?_  -- region 10
          refine La A rfl (evc _ _) fun _ A => ?_
          replace A := A.only [26, 21, 18, 13, 8, 3, 2, 1, 0] rfl
          refine hK15 _ _ ?_
          have hR : R.send a b bs = (0, R.push ⟨a, b, bs, false⟩) := by
            unfold RM.send
            rw [if_neg hc13]
            rw [if_neg (by simpa using hc18)]
            rw [if_neg (by omega)]
            rw [if_neg (by omega)]
          replace S : St _ _ _ ([(p, .cells #[.int .i64 R.n, .slice l1 R.links.length l2, .slice c1 R.cuts.length c2, .slice x1 (gs.length + 1) x2] 64 (0, 0))] ++ (Hl ++ (Hc ++ (Hw2 ++ ((gmH gs) ++ Hb))))) := St.app_left (K := [(b38, .cells #[.int .i64 a, .int .i64 b, .slice ka bs.length kc, .bool false] 93 (0, 0)), (b1, .cells #[] 5 (0, 0))]) (S.perm (by classical rw [List.perm_iff_count]; intro x; simp only [List.count_append, List.count_cons, List.count_nil] <;> omega))
          have hP := h.push (d := ⟨a, b, bs, false⟩) (vb := .slice ka bs.length kc) hr2 hB (by show bs.length ≤ 512; omega)
          exact wp_ret ⟨A.defers, _, res_run (rs := [.tmp 8]) (vs := [.int .i64 0]) rfl ⟨A.get rfl, trivial⟩, ⟨_, _, rfl, ⟨by rw [hR], by rw [hR]; exact ⟨_, _, _, _, _, _, _, (by simpa using hP), by rw [gmH_snoc]; rfl⟩⟩, S⟩⟩
end
end Go.Proofs.Ytaeidblipdjgnaa
