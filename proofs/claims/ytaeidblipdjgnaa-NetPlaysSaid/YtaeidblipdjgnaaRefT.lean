import Derived.Test.YtaeidblipdjgnaaRefD
import Derived.Test.YtaeidblipdjgnaaSpoil1
namespace Go.Proofs.Ytaeidblipdjgnaa
open Go.RowKit Go.Maps Go.WideMaps

theorem y_eqlBool {P : Program} {ρ : Operand → Value} {w : World} {Φ : Value → World → Prop} {d : Option Tmp} {ty : TypeId} {pos : String} {aft : Array Edge} {gd : Option (Nat × Bool)} {x y : Operand} {t t' : TypeId} {a b c : Bool} (ht : P.underlying t = some .bool) (h : ρ x = .bool a) (h' : ρ y = .bool b) (hc : (a == b) = c) (hΦ : Φ (.bool c) w) : OpY P ⟨d, .binOp .eql t x y t', ty, pos, aft, gd⟩ ρ w Φ := by
  subst hc
  refine .pure (v := .bool (a == b)) ?_ hΦ
  have : ∀ m, (Op.equalIn (m + 1) t (.bool a) (.bool b)).run P w = .ok (a == b) w := by
    intro m; simp [Op.equalIn, Sem.run_bind, run_underlying ht]
  simp [execOp, h, h', eqGuard, binOp, Op.equal, Op.maxDepth, this 9999]
def RM.cutAt (R : RM) (k : Nat) (c : Bool) : RM := { R with cuts := R.cuts.set k c }
def RM.turnTo (R : RM) (a b : Int) (cut : Bool) : Int × RM :=
  match R.links.findIdx? (hitl a b) with
  | none => (1, R)
  | some k => if R.cuts.getD k true = cut then (6, R) else (0, if cut then ((R.cutAt k true).lose a b).lose b a else R.cutAt k false)
theorem cut_set {v : Value} {l : List Bool} {cb cap : Nat} {cs : Array Value} (hcs : cs.size = cap * 1) (hn : l.length ≤ cap) (ht : cs.toList.take (l.length * 1) = l.map Value.bool) {k : Nat} (hk : k < l.length) (c : Bool) (hv : v = .slice (some ⟨cb, 0, none⟩) l.length cap) : SlRep 4 1 v (l.set k c).length ((l.set k c).map Value.bool) [(cb, .cells (setCs cs k [.bool c]) 4 (0, 0))] := by
  refine ⟨by simp, Or.inr ⟨cb, cap, _, by rw [List.length_set]; exact hv, rfl, by rw [setCs_size, hcs], by rw [List.length_set]; exact hn, ?_⟩⟩
  apply List.ext_getElem?; intro m
  rw [List.getElem?_take, List.length_set]
  by_cases hm : m < l.length * 1
  · rw [if_pos hm, Array.getElem?_toList, setCs_get _ _ _ _ (by simp; omega), List.map_set, List.getElem?_set]
    by_cases h2 : k = m
    · subst h2; rw [if_pos (by simp), if_pos rfl, if_pos (by simp; omega)]; simp
    · rw [if_neg (by simp; omega), if_neg h2, SlRep.cell ht (by omega)]
  · rw [if_neg hm, List.getElem?_eq_none (by simp; omega)]
theorem RefP.cutAt {R : RM} {vl : Value} {Hl : Frag} {vc : Value} {Hc : Frag} {vw : Value} {Hw : Frag} {gs : List Dm} (h : RefP R vl Hl vc Hc vw Hw gs) {k : Nat} {c : Bool} {Hc' : Frag} (hr : SlRep 4 1 vc (R.cuts.set k c).length ((R.cuts.set k c).map Value.bool) Hc') : RefP (R.cutAt k c) vl Hl vc Hc' vw Hw gs :=
  ⟨h.links, hr, h.way, h.gd, h.ok, h.few, by simpa [RM.cutAt] using h.same⟩
section
variable {p : Nat} {R : RM} {w0 : World} {a b i : Int} {H : Frag}
set_option maxRecDepth 20000 in
set_option maxHeartbeats 8000000 in
theorem rturn_ok {cut : Bool} (hrep : RefRep p R H) (nd : (keys H).Nodup) (hH : Holds w0 H) (hw : R.way.length ≤ 1000000) : Calls Try.prog 54 #[.pointer (some ⟨p, 0, none⟩), .int .i64 a, .int .i64 b, .bool cut] w0 (RetW (keys H) w0 fun r H' => r = .int .i64 (R.turnTo a b cut).1 ∧ RefRep p (R.turnTo a b cut).2 H') := by
  obtain ⟨la, lc, ca, cc, wa, wc, gs0, hsrc0⟩ := hrep.src hH
  have hgr : ∀ w, Gr w0 w → RefS w p R la lc ca cc wa wc gs0 := fun w g => hsrc0.gr g
  clear hsrc0
  have hlk : ∀ w, Gr w0 w → Calls Try.prog 46 #[.pointer (some ⟨p, 0, none⟩), .int .i64 a, .int .i64 b] w (RetN w (eqv (.int .i64 (R.link a b)))) := fun w g => rlink_ok (hgr w g)
  have hrep0 := hrep
  obtain ⟨vl, Hl, vc, Hc, vw, Hw, gs, h, rfl⟩ := hrep
  have hgl : gs.length = R.way.length := by rw [← h.gd]; simp [gmD]
  have S0 := St.start nd hH
  generalize hD : keys _ = DD at S0 ⊢
  obtain ⟨l1, l2, rfl⟩ := h.links.len
  obtain ⟨c1, c2, rfl⟩ := h.cuts.len
  obtain ⟨w1, w2, rfl⟩ := h.way.len
  unfold RM.link at hlk
  cases hx : R.links.findIdx? (hitl a b) with
  | none =>
    have hR : R.turnTo a b cut = (1, R) := by unfold RM.turnTo; rw [hx]
    simp only [hx] at hlk
    refine enter Try.func54 rfl (n := 41) rfl (Nat.le_of_ble_eq_true rfl) fun _ A => ?_
    have S : St _ _ _ ([(p, .cells #[.int .i64 R.n, .slice l1 R.links.length l2, .slice c1 R.cuts.length c2, .slice w1 gs.length w2] 64 (0, 0))] ++ (Hl ++ (Hc ++ (Hw ++ (gmH gs))))) := S0
    clear S0
    have G0 : Gr w0 w0 := Gr.refl w0
    refine wp_seq_k fun K1 hK1 => ?_
    refine region_seq ?_  -- region 0
    refine La A rfl (evc _ _) fun _ A => ?_
    replace A := A.only [8, 3, 2, 1, 0] rfl
    refine hK1 _ _ ?_
    refine wp_seq_k fun K2 hK2 => ?_
    refine region_seq ?_  -- region 1
    refine Lm A rfl (A.g 0 rfl) fun _ A => Lm A rfl (A.g 1 rfl) fun _ A => Lm A rfl (A.g 2 rfl) fun _ A => Lo A rfl (y_call3 (by kernel_rfl) rfl (A.g 10 rfl) (A.g 11 rfl) (A.g 12 rfl) (callN (hlk _ G0) fun v w H gG nN hf ac A => ?_))
    obtain ⟨rfl, rfl⟩ := hf
    replace S : St _ _ _ ([(p, .cells #[.int .i64 R.n, .slice l1 R.links.length l2, .slice c1 R.cuts.length c2, .slice w1 gs.length w2] 64 (0, 0))] ++ (Hl ++ (Hc ++ (Hw ++ (gmH gs))))) := (S.new gG nN).perm (by first | exact .refl _ | (rw [List.append_assoc]; exact .refl _) | (simp only [List.append_assoc, List.nil_append, List.append_nil]; exact .refl _))
    replace G0 := G0.trans gG
    refine La A rfl (A.g 13 rfl) fun _ A => ?_
    replace A := A.only [9, 8, 3, 2, 1, 0] rfl
    refine hK2 _ _ ?_
    refine wp_seq_k fun K3 hK3 => ?_
    refine wp_seq_k fun K4 hK4 => ?_
    refine region_seq ?_  -- region 2
    refine Lm A rfl (A.g 9 rfl) fun _ A => Lo A rfl (y_lss (A.g 14 rfl) (evc _ _) (c := true) (by decide) fun _ A => ?_)
    replace A := A.only [15, 9, 8, 3, 2, 1, 0] rfl
    refine hK4 _ _ ?_
    refine wp_cond_true (A.get rfl) ?_
    refine wp_seq_k fun K5 hK5 => ?_
    refine region_seq ?_  -- region 3
    refine La A rfl (evc _ _) fun _ A => ?_
    replace A := A.only [15, 9, 8, 3, 2, 1, 0] rfl
    refine hK5 _ _ ?_
    exact wp_ret ⟨A.defers, _, res_run (rs := [.tmp 8]) (vs := [.int .i64 1]) rfl ⟨A.get rfl, trivial⟩, ⟨_, _, rfl, ⟨by rw [hR], by rw [hR]; exact hrep0⟩, S⟩⟩
  | some k =>
    simp only [hx] at hlk
    have hfew := h.few
    have hk : k < R.cuts.length := by have := (List.findIdx?_eq_some_iff_getElem.1 hx).1; have := h.same; omega
    obtain ⟨c, hck⟩ : ∃ c, R.cuts[k]? = some c := ⟨_, List.getElem?_eq_getElem hk⟩
    obtain ⟨cb, cap, cs, hq, rfl, hcs, hncap, htake⟩ := h.cuts.block (by omega)
    simp only [Value.slice.injEq] at hq; obtain ⟨rfl, -, rfl⟩ := hq
    have hcell : cs[k]? = some (.bool c) := by rw [SlRep.cell htake (by omega)]; simp [hck]
    have hR0 : R.turnTo a b cut = if c = cut then (6, R) else (0, if cut then ((R.cutAt k true).lose a b).lose b a else R.cutAt k false) := by unfold RM.turnTo; rw [hx]; simp [hck]
    have S0 := S0.perm (show List.Perm _ ([(p, .cells #[.int .i64 R.n, .slice l1 R.links.length l2, .slice (some ⟨cb, 0, none⟩) R.cuts.length c2, .slice w1 gs.length w2] 64 (0, 0)), (cb, .cells cs 4 (0, 0))] ++ (Hl ++ (Hw ++ (gmH gs)))) from by unfold refC; classical rw [List.perm_iff_count]; intro x; simp only [List.count_append, List.count_cons, List.count_nil] <;> omega)
    by_cases hc : c = cut
    · have hR : R.turnTo a b cut = (6, R) := by rw [hR0, if_pos hc]

      refine enter Try.func54 rfl (n := 41) rfl (Nat.le_of_ble_eq_true rfl) fun _ A => ?_
      have S : St _ _ _ ([(p, .cells #[.int .i64 R.n, .slice l1 R.links.length l2, .slice (some ⟨cb, 0, none⟩) R.cuts.length c2, .slice w1 gs.length w2] 64 (0, 0)), (cb, .cells cs 4 (0, 0))] ++ (Hl ++ (Hw ++ (gmH gs)))) := S0
      clear S0
      have G0 : Gr w0 w0 := Gr.refl w0
      refine wp_seq_k fun K1 hK1 => ?_
      refine region_seq ?_  -- region 0
      refine La A rfl (evc _ _) fun _ A => ?_
      replace A := A.only [8, 3, 2, 1, 0] rfl
      refine hK1 _ _ ?_
      refine wp_seq_k fun K2 hK2 => ?_
      refine region_seq ?_  -- region 1
      refine Lm A rfl (A.g 0 rfl) fun _ A => Lm A rfl (A.g 1 rfl) fun _ A => Lm A rfl (A.g 2 rfl) fun _ A => Lo A rfl (y_call3 (by kernel_rfl) rfl (A.g 10 rfl) (A.g 11 rfl) (A.g 12 rfl) (callN (hlk _ G0) fun v w H gG nN hf ac A => ?_))
      obtain ⟨rfl, rfl⟩ := hf
      replace S : St _ _ _ ([(p, .cells #[.int .i64 R.n, .slice l1 R.links.length l2, .slice (some ⟨cb, 0, none⟩) R.cuts.length c2, .slice w1 gs.length w2] 64 (0, 0)), (cb, .cells cs 4 (0, 0))] ++ (Hl ++ (Hw ++ (gmH gs)))) := (S.new gG nN).perm (by first | exact .refl _ | (rw [List.append_assoc]; exact .refl _) | (simp only [List.append_assoc, List.nil_append, List.append_nil]; exact .refl _))
      replace G0 := G0.trans gG
      refine La A rfl (A.g 13 rfl) fun _ A => ?_
      replace A := A.only [9, 8, 3, 2, 1, 0] rfl
      refine hK2 _ _ ?_
      refine wp_seq_k fun K3 hK3 => ?_
      refine wp_seq_k fun K4 hK4 => ?_
      refine region_seq ?_  -- region 2
      refine Lm A rfl (A.g 9 rfl) fun _ A => Lo A rfl (y_lss (A.g 14 rfl) (evc _ _) (c := false) (decide_eq_false (by omega)) fun _ A => ?_)
      replace A := A.only [15, 9, 8, 3, 2, 1, 0] rfl
      refine hK4 _ _ ?_
      refine wp_cond_false (A.get rfl) ?_
      refine wp_skip ?_
      refine hK3 _ _ ?_
      refine wp_seq_k fun K5 hK5 => ?_
      refine wp_seq_k fun K6 hK6 => ?_
      refine region_seq ?_  -- region 4
      refine Lm A rfl (A.g 0 rfl) fun _ A => Lo A rfl (y_nilCheck (A.g 16 rfl) fun _ A => ?_)
      refine Lo A rfl (y_fieldAddr (off := 2) (j := 2) (by kernel_rfl) (A.g 17 rfl) (by first | rfl | omega) fun _ A => ?_)
      refine Lo A rfl (y_load (by kernel_rfl) (A.g 18 rfl) ((cell_of (S.get 0 rfl) _).trans rfl) fun _ A => ?_)
      replace A := A.only [19, 15, 9, 8, 3, 2, 1, 0] rfl
      refine Lm A rfl (A.g 9 rfl) fun _ A => Lo A rfl (y_indexS (e := 4) (size := 1) (j := k) (by kernel_rfl) (by kernel_rfl) (A.g 19 rfl) (A.g 20 rfl) (by omega) (by omega) (by simp) fun _ A => ?_)
      refine Lo A rfl (y_load (by kernel_rfl) (A.g 21 rfl) ((cell_of (S.get 1 rfl) _).trans hcell) fun _ A => ?_)
      refine Lm A rfl (A.g 3 rfl) fun _ A => ?_
      replace A := A.only [23, 22, 15, 9, 8, 3, 2, 1, 0] rfl
      refine Lo A rfl (y_eqlBool (by kernel_rfl) (A.g 22 rfl) (A.g 23 rfl) (c := true) (by simp [hc]) fun _ A => ?_)
      replace A := A.only [24, 15, 9, 8, 3, 2, 1, 0] rfl
      refine hK6 _ _ ?_
      refine wp_cond_true (A.get rfl) ?_
      refine wp_seq_k fun K7 hK7 => ?_
      refine region_seq ?_  -- region 5
      refine La A rfl (evc _ _) fun _ A => ?_
      replace A := A.only [24, 15, 9, 8, 3, 2, 1, 0] rfl
      refine hK7 _ _ ?_
      replace S : St _ _ _ ((p, refC R (.slice l1 R.links.length l2) (.slice (some ⟨cb, 0, none⟩) R.cuts.length c2) (.slice w1 gs.length w2)) :: (Hl ++ ([(cb, .cells cs 4 (0, 0))] ++ (Hw ++ gmH gs)))) := S.perm (by unfold refC; classical rw [List.perm_iff_count]; intro x; simp only [List.count_append, List.count_cons, List.count_nil] <;> omega)
      exact wp_ret ⟨A.defers, _, res_run (rs := [.tmp 8]) (vs := [.int .i64 6]) rfl ⟨A.get rfl, trivial⟩, ⟨_, _, rfl, ⟨by rw [hR], by rw [hR]; exact hrep0⟩, S⟩⟩
    · cases cut
      · have hR : R.turnTo a b false = (0, R.cutAt k false) := by rw [hR0, if_neg hc]; rfl
        refine enter Try.func54 rfl (n := 41) rfl (Nat.le_of_ble_eq_true rfl) fun _ A => ?_
        have S : St _ _ _ ([(p, .cells #[.int .i64 R.n, .slice l1 R.links.length l2, .slice (some ⟨cb, 0, none⟩) R.cuts.length c2, .slice w1 gs.length w2] 64 (0, 0)), (cb, .cells cs 4 (0, 0))] ++ (Hl ++ (Hw ++ (gmH gs)))) := S0
        clear S0
        have G0 : Gr w0 w0 := Gr.refl w0
        refine wp_seq_k fun K1 hK1 => ?_
        refine region_seq ?_  -- region 0
        refine La A rfl (evc _ _) fun _ A => ?_
        replace A := A.only [8, 3, 2, 1, 0] rfl
        refine hK1 _ _ ?_
        refine wp_seq_k fun K2 hK2 => ?_
        refine region_seq ?_  -- region 1
        refine Lm A rfl (A.g 0 rfl) fun _ A => Lm A rfl (A.g 1 rfl) fun _ A => Lm A rfl (A.g 2 rfl) fun _ A => Lo A rfl (y_call3 (by kernel_rfl) rfl (A.g 10 rfl) (A.g 11 rfl) (A.g 12 rfl) (callN (hlk _ G0) fun v w H gG nN hf ac A => ?_))
        obtain ⟨rfl, rfl⟩ := hf
        replace S : St _ _ _ ([(p, .cells #[.int .i64 R.n, .slice l1 R.links.length l2, .slice (some ⟨cb, 0, none⟩) R.cuts.length c2, .slice w1 gs.length w2] 64 (0, 0)), (cb, .cells cs 4 (0, 0))] ++ (Hl ++ (Hw ++ (gmH gs)))) := (S.new gG nN).perm (by first | exact .refl _ | (rw [List.append_assoc]; exact .refl _) | (simp only [List.append_assoc, List.nil_append, List.append_nil]; exact .refl _))
        replace G0 := G0.trans gG
        refine La A rfl (A.g 13 rfl) fun _ A => ?_
        replace A := A.only [9, 8, 3, 2, 1, 0] rfl
        refine hK2 _ _ ?_
        refine wp_seq_k fun K3 hK3 => ?_
        refine wp_seq_k fun K4 hK4 => ?_
        refine region_seq ?_  -- region 2
        refine Lm A rfl (A.g 9 rfl) fun _ A => Lo A rfl (y_lss (A.g 14 rfl) (evc _ _) (c := false) (decide_eq_false (by omega)) fun _ A => ?_)
        replace A := A.only [15, 9, 8, 3, 2, 1, 0] rfl
        refine hK4 _ _ ?_
        refine wp_cond_false (A.get rfl) ?_
        refine wp_skip ?_
        refine hK3 _ _ ?_
        refine wp_seq_k fun K5 hK5 => ?_
        refine wp_seq_k fun K6 hK6 => ?_
        refine region_seq ?_  -- region 4
        refine Lm A rfl (A.g 0 rfl) fun _ A => Lo A rfl (y_nilCheck (A.g 16 rfl) fun _ A => ?_)
        refine Lo A rfl (y_fieldAddr (off := 2) (j := 2) (by kernel_rfl) (A.g 17 rfl) (by first | rfl | omega) fun _ A => ?_)
        refine Lo A rfl (y_load (by kernel_rfl) (A.g 18 rfl) ((cell_of (S.get 0 rfl) _).trans rfl) fun _ A => ?_)
        replace A := A.only [19, 15, 9, 8, 3, 2, 1, 0] rfl
        refine Lm A rfl (A.g 9 rfl) fun _ A => Lo A rfl (y_indexS (e := 4) (size := 1) (j := k) (by kernel_rfl) (by kernel_rfl) (A.g 19 rfl) (A.g 20 rfl) (by omega) (by omega) (by simp) fun _ A => ?_)
        refine Lo A rfl (y_load (by kernel_rfl) (A.g 21 rfl) ((cell_of (S.get 1 rfl) _).trans hcell) fun _ A => ?_)
        refine Lm A rfl (A.g 3 rfl) fun _ A => ?_
        replace A := A.only [23, 22, 15, 9, 8, 3, 2, 1, 0] rfl
        refine Lo A rfl (y_eqlBool (by kernel_rfl) (A.g 22 rfl) (A.g 23 rfl) (c := false) (by simpa using hc) fun _ A => ?_)
        replace A := A.only [24, 15, 9, 8, 3, 2, 1, 0] rfl
        refine hK6 _ _ ?_
        refine wp_cond_false (A.get rfl) ?_
        refine wp_skip ?_
        refine hK5 _ _ ?_
        refine wp_seq_k fun K7 hK7 => ?_
        refine region_seq ?_  -- region 6
        refine Lm A rfl (A.g 0 rfl) fun _ A => Lo A rfl (y_nilCheck (A.g 25 rfl) fun _ A => ?_)
        refine Lo A rfl (y_fieldAddr (off := 2) (j := 2) (by kernel_rfl) (A.g 26 rfl) (by first | rfl | omega) fun _ A => ?_)
        refine Lo A rfl (y_load (by kernel_rfl) (A.g 27 rfl) ((cell_of (S.get 0 rfl) _).trans rfl) fun _ A => ?_)
        replace A := A.only [28, 24, 15, 9, 8, 3, 2, 1, 0] rfl
        refine Lm A rfl (A.g 9 rfl) fun _ A => Lm A rfl (A.g 3 rfl) fun _ A => Lo A rfl (y_indexS (e := 4) (size := 1) (j := k) (by kernel_rfl) (by kernel_rfl) (A.g 28 rfl) (A.g 29 rfl) (by omega) (by omega) (by simp) fun _ A => ?_)
        refine L_opN A rfl rfl (y_store 1 (by kernel_rfl) (A.g 31 rfl) (A.g 30 rfl) (S.get 1 rfl) rfl (by omega) (one_all rfl) ?_)
        replace S : St _ _ _ ([(p, .cells #[.int .i64 R.n, .slice l1 R.links.length l2, .slice (some ⟨cb, 0, none⟩) R.cuts.length c2, .slice w1 gs.length w2] 64 (0, 0)), (cb, .cells (setCs cs k [.bool false]) 4 (0, 0))] ++ (Hl ++ (Hw ++ (gmH gs)))) := S.setAt 1 rfl _
        have hP := h.cutAt (cut_set hcs hncap htake hk false rfl)
        obtain ⟨Hn, hrn, Sn⟩ : ∃ Hn, RefRep p (R.cutAt k false) Hn ∧ St DD w0 _ Hn := ⟨_, ⟨_, _, _, _, _, _, _, hP, rfl⟩, S.perm (by unfold refC; simp only [RM.cutAt]; classical rw [List.perm_iff_count]; intro x; simp only [List.count_append, List.count_cons, List.count_nil] <;> omega)⟩
        replace S := Sn
        replace A := A.only [24, 15, 9, 8, 3, 2, 1, 0] rfl
        refine hK7 _ _ ?_
        refine wp_seq_k fun K8 hK8 => ?_
        refine wp_seq_k fun K9 hK9 => ?_
        refine region_seq ?_  -- region 7
        refine Lm A rfl (A.g 3 rfl) fun _ A => ?_
        replace A := A.only [32, 24, 15, 9, 8, 3, 2, 1, 0] rfl
        refine hK9 _ _ ?_
        refine wp_cond_false (A.get rfl) ?_
        refine wp_skip ?_
        refine hK8 _ _ ?_
        refine wp_seq_k fun K10 hK10 => ?_
        refine region_seq ?_  -- region 10
        refine La A rfl (evc _ _) fun _ A => ?_
        replace A := A.only [32, 24, 15, 9, 8, 3, 2, 1, 0] rfl
        refine hK10 _ _ ?_
        exact wp_ret ⟨A.defers, _, res_run (rs := [.tmp 8]) (vs := [.int .i64 0]) rfl ⟨A.get rfl, trivial⟩, ⟨_, _, rfl, ⟨by rw [hR], by rw [hR]; exact hrn⟩, S⟩⟩
      · have hR : R.turnTo a b true = (0, ((R.cutAt k true).lose a b).lose b a) := by rw [hR0, if_neg hc]; rfl
        refine enter Try.func54 rfl (n := 41) rfl (Nat.le_of_ble_eq_true rfl) fun _ A => ?_
        have S : St _ _ _ ([(p, .cells #[.int .i64 R.n, .slice l1 R.links.length l2, .slice (some ⟨cb, 0, none⟩) R.cuts.length c2, .slice w1 gs.length w2] 64 (0, 0)), (cb, .cells cs 4 (0, 0))] ++ (Hl ++ (Hw ++ (gmH gs)))) := S0
        clear S0
        have G0 : Gr w0 w0 := Gr.refl w0
        refine wp_seq_k fun K1 hK1 => ?_
        refine region_seq ?_  -- region 0
        refine La A rfl (evc _ _) fun _ A => ?_
        replace A := A.only [8, 3, 2, 1, 0] rfl
        refine hK1 _ _ ?_
        refine wp_seq_k fun K2 hK2 => ?_
        refine region_seq ?_  -- region 1
        refine Lm A rfl (A.g 0 rfl) fun _ A => Lm A rfl (A.g 1 rfl) fun _ A => Lm A rfl (A.g 2 rfl) fun _ A => Lo A rfl (y_call3 (by kernel_rfl) rfl (A.g 10 rfl) (A.g 11 rfl) (A.g 12 rfl) (callN (hlk _ G0) fun v w H gG nN hf ac A => ?_))
        obtain ⟨rfl, rfl⟩ := hf
        replace S : St _ _ _ ([(p, .cells #[.int .i64 R.n, .slice l1 R.links.length l2, .slice (some ⟨cb, 0, none⟩) R.cuts.length c2, .slice w1 gs.length w2] 64 (0, 0)), (cb, .cells cs 4 (0, 0))] ++ (Hl ++ (Hw ++ (gmH gs)))) := (S.new gG nN).perm (by first | exact .refl _ | (rw [List.append_assoc]; exact .refl _) | (simp only [List.append_assoc, List.nil_append, List.append_nil]; exact .refl _))
        replace G0 := G0.trans gG
        refine La A rfl (A.g 13 rfl) fun _ A => ?_
        replace A := A.only [9, 8, 3, 2, 1, 0] rfl
        refine hK2 _ _ ?_
        refine wp_seq_k fun K3 hK3 => ?_
        refine wp_seq_k fun K4 hK4 => ?_
        refine region_seq ?_  -- region 2
        refine Lm A rfl (A.g 9 rfl) fun _ A => Lo A rfl (y_lss (A.g 14 rfl) (evc _ _) (c := false) (decide_eq_false (by omega)) fun _ A => ?_)
        replace A := A.only [15, 9, 8, 3, 2, 1, 0] rfl
        refine hK4 _ _ ?_
        refine wp_cond_false (A.get rfl) ?_
        refine wp_skip ?_
        refine hK3 _ _ ?_
        refine wp_seq_k fun K5 hK5 => ?_
        refine wp_seq_k fun K6 hK6 => ?_
        refine region_seq ?_  -- region 4
        refine Lm A rfl (A.g 0 rfl) fun _ A => Lo A rfl (y_nilCheck (A.g 16 rfl) fun _ A => ?_)
        refine Lo A rfl (y_fieldAddr (off := 2) (j := 2) (by kernel_rfl) (A.g 17 rfl) (by first | rfl | omega) fun _ A => ?_)
        refine Lo A rfl (y_load (by kernel_rfl) (A.g 18 rfl) ((cell_of (S.get 0 rfl) _).trans rfl) fun _ A => ?_)
        replace A := A.only [19, 15, 9, 8, 3, 2, 1, 0] rfl
        refine Lm A rfl (A.g 9 rfl) fun _ A => Lo A rfl (y_indexS (e := 4) (size := 1) (j := k) (by kernel_rfl) (by kernel_rfl) (A.g 19 rfl) (A.g 20 rfl) (by omega) (by omega) (by simp) fun _ A => ?_)
        refine Lo A rfl (y_load (by kernel_rfl) (A.g 21 rfl) ((cell_of (S.get 1 rfl) _).trans hcell) fun _ A => ?_)
        refine Lm A rfl (A.g 3 rfl) fun _ A => ?_
        replace A := A.only [23, 22, 15, 9, 8, 3, 2, 1, 0] rfl
        refine Lo A rfl (y_eqlBool (by kernel_rfl) (A.g 22 rfl) (A.g 23 rfl) (c := false) (by simpa using hc) fun _ A => ?_)
        replace A := A.only [24, 15, 9, 8, 3, 2, 1, 0] rfl
        refine hK6 _ _ ?_
        refine wp_cond_false (A.get rfl) ?_
        refine wp_skip ?_
        refine hK5 _ _ ?_
        refine wp_seq_k fun K7 hK7 => ?_
        refine region_seq ?_  -- region 6
        refine Lm A rfl (A.g 0 rfl) fun _ A => Lo A rfl (y_nilCheck (A.g 25 rfl) fun _ A => ?_)
        refine Lo A rfl (y_fieldAddr (off := 2) (j := 2) (by kernel_rfl) (A.g 26 rfl) (by first | rfl | omega) fun _ A => ?_)
        refine Lo A rfl (y_load (by kernel_rfl) (A.g 27 rfl) ((cell_of (S.get 0 rfl) _).trans rfl) fun _ A => ?_)
        replace A := A.only [28, 24, 15, 9, 8, 3, 2, 1, 0] rfl
        refine Lm A rfl (A.g 9 rfl) fun _ A => Lm A rfl (A.g 3 rfl) fun _ A => Lo A rfl (y_indexS (e := 4) (size := 1) (j := k) (by kernel_rfl) (by kernel_rfl) (A.g 28 rfl) (A.g 29 rfl) (by omega) (by omega) (by simp) fun _ A => ?_)
        refine L_opN A rfl rfl (y_store 1 (by kernel_rfl) (A.g 31 rfl) (A.g 30 rfl) (S.get 1 rfl) rfl (by omega) (one_all rfl) ?_)
        replace S : St _ _ _ ([(p, .cells #[.int .i64 R.n, .slice l1 R.links.length l2, .slice (some ⟨cb, 0, none⟩) R.cuts.length c2, .slice w1 gs.length w2] 64 (0, 0)), (cb, .cells (setCs cs k [.bool true]) 4 (0, 0))] ++ (Hl ++ (Hw ++ (gmH gs)))) := S.setAt 1 rfl _
        have hP := h.cutAt (cut_set hcs hncap htake hk true rfl)
        obtain ⟨Hn, hrn, Sn⟩ : ∃ Hn, RefRep p (R.cutAt k true) Hn ∧ St DD w0 _ Hn := ⟨_, ⟨_, _, _, _, _, _, _, hP, rfl⟩, S.perm (by unfold refC; simp only [RM.cutAt]; classical rw [List.perm_iff_count]; intro x; simp only [List.count_append, List.count_cons, List.count_nil] <;> omega)⟩
        replace S := Sn
        replace A := A.only [24, 15, 9, 8, 3, 2, 1, 0] rfl
        refine hK7 _ _ ?_
        refine wp_seq_k fun K8 hK8 => ?_
        refine wp_seq_k fun K9 hK9 => ?_
        refine region_seq ?_  -- region 7
        refine Lm A rfl (A.g 3 rfl) fun _ A => ?_
        replace A := A.only [32, 24, 15, 9, 8, 3, 2, 1, 0] rfl
        refine hK9 _ _ ?_
        refine wp_cond_true (A.get rfl) ?_
        refine wp_seq_k fun K10 hK10 => ?_
        refine region_seq ?_  -- region 8
        refine Lm A rfl (A.g 0 rfl) fun _ A => Lm A rfl (A.g 1 rfl) fun _ A => Lm A rfl (A.g 2 rfl) fun _ A => ?_
        replace S : St _ _ _ Hn := S.perm (List.Perm.refl _)
        replace S : St _ _ _ (Hn ++ []) := S.perm (by rw [List.append_nil])
        refine Lo A rfl (y_call3 (by kernel_rfl) rfl (A.g 33 rfl) (A.g 34 rfl) (A.g 35 rfl) (callW (rlose_ok hrn (St.app_left S).nd (St.app_left S).holds hw) fun v w Hm s hf ac A => ?_))
        replace S : St _ _ _ (Hm ++ []) := St.call (H := Hn) (R := []) S rfl s
        obtain ⟨rfl, hr1⟩ := hf
        rw [List.append_nil] at S
        replace S : St _ _ _ Hm := S.perm (List.Perm.refl _)
        replace A := A.only [32, 24, 15, 9, 8, 3, 2, 1, 0] rfl
        refine hK10 _ _ ?_
        refine region_seq ?_  -- region 9
        refine Lm A rfl (A.g 0 rfl) fun _ A => Lm A rfl (A.g 2 rfl) fun _ A => Lm A rfl (A.g 1 rfl) fun _ A => ?_
        replace S : St _ _ _ Hm := S.perm (List.Perm.refl _)
        replace S : St _ _ _ (Hm ++ []) := S.perm (by rw [List.append_nil])
        refine Lo A rfl (y_call3 (by kernel_rfl) rfl (A.g 37 rfl) (A.g 38 rfl) (A.g 39 rfl) (callW (rlose_ok hr1 (St.app_left S).nd (St.app_left S).holds (Nat.le_trans (lose_len _ _ _) hw)) fun v w Hk s hf ac A => ?_))
        replace S : St _ _ _ (Hk ++ []) := St.call (H := Hm) (R := []) S rfl s
        obtain ⟨rfl, hr2⟩ := hf
        rw [List.append_nil] at S
        replace S : St _ _ _ Hk := S.perm (List.Perm.refl _)
        replace A := A.only [32, 24, 15, 9, 8, 3, 2, 1, 0] rfl
        refine hK8 _ _ ?_
        refine wp_seq_k fun K11 hK11 => ?_
        refine region_seq ?_  -- region 10
        refine La A rfl (evc _ _) fun _ A => ?_
        replace A := A.only [32, 24, 15, 9, 8, 3, 2, 1, 0] rfl
        refine hK11 _ _ ?_
        exact wp_ret ⟨A.defers, _, res_run (rs := [.tmp 8]) (vs := [.int .i64 0]) rfl ⟨A.get rfl, trivial⟩, ⟨_, _, rfl, ⟨by rw [hR], by rw [hR]; exact hr2⟩, S⟩⟩

def RM.spoil (R : RM) (a b i bit : Int) : Int × RM :=
  if (R.at a b i).2 ≠ 0 then ((R.at a b i).2, R) else match R.way[(R.at a b i).1.toNat]? with
  | none => (0, R)
  | some d => if bit < 0 then (1, R) else if d.bs.length ≤ bit.toNat / 8 then (1, R) else if d.sp then (6, R) else (0, { R with way := R.way.set (R.at a b i).1.toNat ⟨d.f, d.t, turn d.bs bit.toNat, true⟩ })
theorem gmH_set : ∀ (l : List Dm) (j : Nat) (g g' : Dm), l[j]? = some g → (gmH (l.set j g')).Perm (g'.H ++ gmH (l.eraseIdx j))
  | [], _, _, _, h => by simp at h
  | i :: r, 0, g, g', h => by simp [gmH]
  | i :: r, j + 1, g, g', h => by
    simp at h
    have := gmH_set r j g g' h
    simp only [gmH, List.flatMap_cons, List.eraseIdx_cons_succ, List.set_cons_succ] at *
    exact (List.Perm.append_left i.H this).trans (List.perm_append_comm_assoc _ _ _)
theorem way_set {v : Value} {gs : List Dm} {wb cap : Nat} {cs : Array Value} (hcs : cs.size = cap * 4) (hn : gs.length ≤ cap) (ht : cs.toList.take (gs.length * 4) = gmCells gs) {j : Nat} {g : Dm} (hj : gs[j]? = some g) {g' : Dm} (h1 : g'.d.f = g.d.f) (h2 : g'.d.t = g.d.t) (h3 : g'.v = g.v) (h4 : g'.d.sp = true) (hv : v = .slice (some ⟨wb, 0, none⟩) gs.length cap) : SlRep 93 4 v (gs.set j g').length (gmCells (gs.set j g')) [(wb, .cells (setCs cs (j * 4 + 3) [.bool true]) 93 (0, 0))] := by
  have hjl := lt_of_get hj
  refine ⟨gmCells_len _, Or.inr ⟨wb, cap, _, by rw [List.length_set]; exact hv, rfl, by rw [setCs_size, hcs], by rw [List.length_set]; exact hn, ?_⟩⟩
  apply List.ext_getElem?; intro m
  obtain ⟨q, r, hr, rfl⟩ : ∃ q r, r < 4 ∧ m = q * 4 + r := ⟨m / 4, m % 4, by omega, by omega⟩
  rw [List.getElem?_take, List.length_set]
  by_cases hm : q * 4 + r < gs.length * 4
  · rw [if_pos hm, Array.getElem?_toList, setCs_get _ _ _ _ (by simp; omega)]
    by_cases hq : q = j
    · subst hq
      rw [gmCells_get (i := q) (g := g') (by rw [List.getElem?_set, if_pos rfl, if_pos hjl]) r hr]
      have hold := gmCells_get hj r hr
      rw [← SlRep.cell ht (by omega)] at hold
      rw [hold, h1, h2, h3, h4]
      rcases (by omega : r = 0 ∨ r = 1 ∨ r = 2 ∨ r = 3) with rfl | rfl | rfl | rfl <;> simp <;> omega
    · obtain ⟨x, hx⟩ : ∃ x, gs[q]? = some x := ⟨_, List.getElem?_eq_getElem (by omega)⟩
      rw [if_neg (by simp; omega), SlRep.cell ht (by omega), gmCells_get hx r hr, gmCells_get (i := q) (g := x) (by rw [List.getElem?_set, if_neg (by omega)]; exact hx) r hr]
  · rw [if_neg hm, List.getElem?_eq_none (by rw [gmCells_len, List.length_set]; omega)]
theorem byte_set {v : Value} {bs : List UInt8} {bb cap : Nat} {cs : Array Value} (hcs : cs.size = cap * 1) (hn : bs.length ≤ cap) (ht : cs.toList.take (bs.length * 1) = bs.map u8v) {n : Nat} (hk : n / 8 < bs.length) (hv : v = .slice (some ⟨bb, 0, none⟩) bs.length cap) : BRep v (turn bs n) [(bb, .cells (setCs cs (n / 8) [u8v (flip (bs.getD (n / 8) 0) (n % 8))]) 5 (0, 0))] := by
  refine ⟨by simp, Or.inr ⟨bb, cap, _, by rw [turn_length]; exact hv, rfl, by rw [setCs_size, hcs], by rw [turn_length]; exact hn, ?_⟩⟩
  apply List.ext_getElem?; intro m; rw [List.getElem?_take, turn_length]
  by_cases hm : m < bs.length * 1
  · rw [if_pos hm, Array.getElem?_toList, setCs_get _ _ _ _ (by simp; omega)]
    unfold turn; rw [List.map_set, List.getElem?_set]
    by_cases h2 : n / 8 = m
    · subst h2; rw [if_pos (by simp), if_pos rfl, if_pos (by simp; omega)]; simp
    · rw [if_neg (by simp; omega), if_neg h2, SlRep.cell ht (by omega)]
  · rw [if_neg hm, List.getElem?_eq_none (by simp [turn]; omega)]
theorem RefP.spoil {R : RM} {vl : Value} {Hl : Frag} {vc : Value} {Hc : Frag} {vw : Value} {Hw : Frag} {gs : List Dm} (h : RefP R vl Hl vc Hc vw Hw gs) {j : Nat} {Hw' : Frag} {g' : Dm} (hr : SlRep 93 4 vw (gs.set j g').length (gmCells (gs.set j g')) Hw') (hB : BRep g'.v g'.d.bs g'.H) (hl : g'.d.bs.length ≤ 512) : RefP { R with way := R.way.set j g'.d } vl Hl vc Hc vw Hw' (gs.set j g') := by
  refine ⟨h.links, h.cuts, hr, by simp [gmD, ← h.gd, List.map_set], fun g hg => ?_, h.few, h.same⟩
  rcases List.mem_or_eq_of_mem_set hg with hg | rfl
  · exact h.ok g hg
  · exact ⟨hB, hl⟩
set_option maxRecDepth 20000 in
set_option maxHeartbeats 8000000 in
theorem rspoil_ok {bit : Int} (hrep : RefRep p R H) (nd : (keys H).Nodup) (hH : Holds w0 H) (hw : R.way.length ≤ 1000000) (hbit : i64 bit) : Calls Try.prog 53 #[.pointer (some ⟨p, 0, none⟩), .int .i64 a, .int .i64 b, .int .i64 i, .int .i64 bit] w0 (RetW (keys H) w0 fun r H' => r = .int .i64 (R.spoil a b i bit).1 ∧ RefRep p (R.spoil a b i bit).2 H') := by
  obtain ⟨la, lc, ca, cc, wa, wc, gs0, hsrc0⟩ := hrep.src hH
  have hgr : ∀ w, Gr w0 w → RefS w p R la lc ca cc wa wc gs0 := fun w g => hsrc0.gr g
  clear hsrc0
  have hat : ∀ w, Gr w0 w → Calls Try.prog 59 #[.pointer (some ⟨p, 0, none⟩), .int .i64 a, .int .i64 b, .int .i64 i] w (RetN w (eqv (.tuple #[.int .i64 (R.at a b i).1, .int .i64 (R.at a b i).2]))) := fun w g => rat_ok (hgr w g) hw
  have hln : ∀ w, Gr w0 w → Calls Try.prog 47 #[.pointer (some ⟨p, 0, none⟩), .int .i64 a, .int .i64 b] w (RetN w (eqv (.int .i64 ((R.len a b : Nat) : Int)))) := fun w g => rlen_ok (hgr w g) hw
  clear hln
  have hrep0 := hrep
  obtain ⟨vl, Hl, vc, Hc, vw, Hw, gs, h, rfl⟩ := hrep
  have hgl : gs.length = R.way.length := by rw [← h.gd]; simp [gmD]
  have S0 := St.start nd hH
  generalize hD : keys _ = DD at S0 ⊢
  obtain ⟨l1, l2, rfl⟩ := h.links.len
  obtain ⟨c1, c2, rfl⟩ := h.cuts.len
  obtain ⟨w1, w2, rfl⟩ := h.way.len
  rcases rat_cases R a b i with ⟨e, he, hne⟩ | ⟨j, d, he, hd⟩
  · have hR : R.spoil a b i bit = (e, R) := by unfold RM.spoil; rw [he]; simp [hne]
    simp only [he] at hat
    refine enter Try.func53 rfl (n := 82) rfl (Nat.le_of_ble_eq_true rfl) fun _ A => ?_
    have S : St _ _ _ ([(p, .cells #[.int .i64 R.n, .slice l1 R.links.length l2, .slice c1 R.cuts.length c2, .slice w1 gs.length w2] 64 (0, 0))] ++ (Hl ++ (Hc ++ (Hw ++ (gmH gs))))) := S0
    clear S0
    have G0 : Gr w0 w0 := Gr.refl w0
    refine wp_seq_k fun K1 hK1 => ?_
    refine region_seq ?_  -- region 0
    refine La A rfl (evc _ _) fun _ A => ?_
    replace A := A.only [10, 4, 3, 2, 1, 0] rfl
    refine hK1 _ _ ?_
    refine wp_seq_k fun K2 hK2 => ?_
    refine region_seq ?_  -- region 1
    refine Lm A rfl (A.g 0 rfl) fun _ A => Lm A rfl (A.g 1 rfl) fun _ A => Lm A rfl (A.g 2 rfl) fun _ A => Lm A rfl (A.g 3 rfl) fun _ A => ?_
    replace A := A.only [17, 16, 15, 14, 10, 4, 3, 2, 1, 0] rfl
    refine Lo A rfl (y_call4 (by kernel_rfl) rfl (A.g 14 rfl) (A.g 15 rfl) (A.g 16 rfl) (A.g 17 rfl) (callN (hat _ G0) fun v w H gG nN hf ac A => ?_))
    obtain ⟨rfl, rfl⟩ := hf
    replace S : St _ _ _ ([(p, .cells #[.int .i64 R.n, .slice l1 R.links.length l2, .slice c1 R.cuts.length c2, .slice w1 gs.length w2] 64 (0, 0))] ++ (Hl ++ (Hc ++ (Hw ++ (gmH gs))))) := (S.new gG nN).perm (by first | exact .refl _ | (rw [List.append_assoc]; exact .refl _) | (simp only [List.append_assoc, List.nil_append, List.append_nil]; exact .refl _))
    replace G0 := G0.trans gG
    refine Lm A rfl (A.g 18 rfl) fun _ A => Lo A rfl (y_extract (A.g 13 rfl) rfl fun _ A => ?_)
    refine Lo A rfl (y_extract (A.g 13 rfl) rfl fun _ A => ?_)
    replace A := A.only [20, 19, 10, 4, 3, 2, 1, 0] rfl
    refine La A rfl (A.g 19 rfl) fun _ A => La A rfl (A.g 20 rfl) fun _ A => ?_
    replace A := A.only [12, 11, 10, 4, 3, 2, 1, 0] rfl
    refine hK2 _ _ ?_
    refine wp_seq_k fun K3 hK3 => ?_
    refine wp_seq_k fun K4 hK4 => ?_
    refine region_seq ?_  -- region 2
    refine Lm A rfl (A.g 12 rfl) fun _ A => Lo A rfl (y_neq (A.g 21 rfl) (evc _ _) (c := true) (by simpa using hne) fun _ A => ?_)
    replace A := A.only [22, 12, 11, 10, 4, 3, 2, 1, 0] rfl
    refine hK4 _ _ ?_
    refine wp_cond_true (A.get rfl) ?_
    refine wp_seq_k fun K5 hK5 => ?_
    refine region_seq ?_  -- region 3
    refine Lm A rfl (A.g 12 rfl) fun _ A => La A rfl (A.g 23 rfl) fun _ A => ?_
    replace A := A.only [22, 12, 11, 10, 4, 3, 2, 1, 0] rfl
    refine hK5 _ _ ?_
    exact wp_ret ⟨A.defers, _, res_run (rs := [.tmp 10]) (vs := [.int .i64 e]) rfl ⟨A.get rfl, trivial⟩, ⟨_, _, rfl, ⟨by rw [hR], by rw [hR]; exact hrep0⟩, S⟩⟩
  · have hR0 : R.spoil a b i bit = if bit < 0 then (1, R) else if d.bs.length ≤ bit.toNat / 8 then (1, R) else if d.sp then (6, R) else (0, { R with way := R.way.set j ⟨d.f, d.t, turn d.bs bit.toNat, true⟩ }) := by unfold RM.spoil; rw [he]; simp [hd]
    simp only [he] at hat
    obtain ⟨g, hgj, rfl⟩ := gm_of h.gd hd
    have hjl := lt_of_get hgj
    have hgm := List.mem_of_getElem? hgj
    obtain ⟨hgB, hg512⟩ := h.ok g hgm
    obtain ⟨ga, gc, hgv⟩ := SlRep.len hgB
    obtain ⟨wb, cap, cs, hq, rfl, hcs, hncap, htake⟩ := h.way.block (by omega)
    simp only [Value.slice.injEq] at hq; obtain ⟨rfl, -, rfl⟩ := hq
    have hc2 : cs[j * 4 + 2]? = some (.slice ga g.d.bs.length gc) := by rw [SlRep.cell htake (by omega), gmCells_get hgj 2 (by omega), ← hgv]; rfl
    have hc3 : cs[j * 4 + 3]? = some (.bool g.d.sp) := by rw [SlRep.cell htake (by omega), gmCells_get hgj 3 (by omega)]; rfl
    by_cases hneg : bit < 0
    · have hR : R.spoil a b i bit = (1, R) := by rw [hR0, if_pos hneg]
      refine enter Try.func53 rfl (n := 82) rfl (Nat.le_of_ble_eq_true rfl) fun _ A => ?_
      have S : St _ _ _ ([(p, .cells #[.int .i64 R.n, .slice l1 R.links.length l2, .slice c1 R.cuts.length c2, .slice (some ⟨wb, 0, none⟩) gs.length w2] 64 (0, 0))] ++ (Hl ++ (Hc ++ ([(wb, .cells cs 93 (0, 0))] ++ (gmH gs))))) := S0
      clear S0
      have G0 : Gr w0 w0 := Gr.refl w0
      refine wp_seq_k fun K1 hK1 => ?_
      refine region_seq ?_  -- region 0
      refine La A rfl (evc _ _) fun _ A => ?_
      replace A := A.only [10, 4, 3, 2, 1, 0] rfl
      refine hK1 _ _ ?_
      refine wp_seq_k fun K2 hK2 => ?_
      refine region_seq ?_  -- region 1
      refine Lm A rfl (A.g 0 rfl) fun _ A => Lm A rfl (A.g 1 rfl) fun _ A => Lm A rfl (A.g 2 rfl) fun _ A => Lm A rfl (A.g 3 rfl) fun _ A => ?_
      replace A := A.only [17, 16, 15, 14, 10, 4, 3, 2, 1, 0] rfl
      refine Lo A rfl (y_call4 (by kernel_rfl) rfl (A.g 14 rfl) (A.g 15 rfl) (A.g 16 rfl) (A.g 17 rfl) (callN (hat _ G0) fun v w H gG nN hf ac A => ?_))
      obtain ⟨rfl, rfl⟩ := hf
      replace S : St _ _ _ ([(p, .cells #[.int .i64 R.n, .slice l1 R.links.length l2, .slice c1 R.cuts.length c2, .slice (some ⟨wb, 0, none⟩) gs.length w2] 64 (0, 0))] ++ (Hl ++ (Hc ++ ([(wb, .cells cs 93 (0, 0))] ++ (gmH gs))))) := (S.new gG nN).perm (by first | exact .refl _ | (rw [List.append_assoc]; exact .refl _) | (simp only [List.append_assoc, List.nil_append, List.append_nil]; exact .refl _))
      replace S : St _ _ _ ([(p, .cells #[.int .i64 R.n, .slice l1 R.links.length l2, .slice c1 R.cuts.length c2, .slice (some ⟨wb, 0, none⟩) gs.length w2] 64 (0, 0))] ++ (Hl ++ ([(wb, .cells cs 93 (0, 0))] ++ (Hc ++ (gmH gs))))) := S.swap1 (L := ([(p, .cells #[.int .i64 R.n, .slice l1 R.links.length l2, .slice c1 R.cuts.length c2, .slice (some ⟨wb, 0, none⟩) gs.length w2] 64 (0, 0))] ++ Hl)) (A := Hc) (B := [(wb, .cells cs 93 (0, 0))])
      replace S : St _ _ _ ([(p, .cells #[.int .i64 R.n, .slice l1 R.links.length l2, .slice c1 R.cuts.length c2, .slice (some ⟨wb, 0, none⟩) gs.length w2] 64 (0, 0)), (wb, .cells cs 93 (0, 0))] ++ (Hl ++ (Hc ++ (gmH gs)))) := S.swap1 (L := [(p, .cells #[.int .i64 R.n, .slice l1 R.links.length l2, .slice c1 R.cuts.length c2, .slice (some ⟨wb, 0, none⟩) gs.length w2] 64 (0, 0))]) (A := Hl) (B := [(wb, .cells cs 93 (0, 0))])
      replace G0 := G0.trans gG
      refine Lm A rfl (A.g 18 rfl) fun _ A => Lo A rfl (y_extract (A.g 13 rfl) rfl fun _ A => ?_)
      refine Lo A rfl (y_extract (A.g 13 rfl) rfl fun _ A => ?_)
      replace A := A.only [20, 19, 10, 4, 3, 2, 1, 0] rfl
      refine La A rfl (A.g 19 rfl) fun _ A => La A rfl (A.g 20 rfl) fun _ A => ?_
      replace A := A.only [12, 11, 10, 4, 3, 2, 1, 0] rfl
      refine hK2 _ _ ?_
      refine wp_seq_k fun K3 hK3 => ?_
      refine wp_seq_k fun K4 hK4 => ?_
      refine region_seq ?_  -- region 2
      refine Lm A rfl (A.g 12 rfl) fun _ A => Lo A rfl (y_neq (A.g 21 rfl) (evc _ _) (c := false) (by decide) fun _ A => ?_)
      replace A := A.only [22, 12, 11, 10, 4, 3, 2, 1, 0] rfl
      refine hK4 _ _ ?_
      refine wp_cond_false (A.get rfl) ?_
      refine wp_skip ?_
      refine hK3 _ _ ?_
      refine wp_seq_k fun K5 hK5 => ?_
      refine wp_seq_k fun K6 hK6 => ?_
      refine region_seq ?_  -- region 4
      refine Lm A rfl (A.g 4 rfl) fun _ A => Lo A rfl (y_lss (A.g 24 rfl) (evc _ _) (c := true) (decide_eq_true hneg) fun _ A => ?_)
      refine Lm A rfl (A.g 25 rfl) fun _ A => L_no A rfl (by decide) rfl rfl (by decide) (A.get rfl) (by decide) fun _ A => ?_
      replace A := A.only [27, 26, 22, 12, 11, 10, 4, 3, 2, 1, 0] rfl
      refine L_no A rfl (by decide) rfl rfl (by decide) (A.get rfl) (by decide) fun _ A => ?_
      refine L_no A rfl (by decide) rfl rfl (by decide) (A.get rfl) (by decide) fun _ A => ?_
      refine L_no A rfl (by decide) rfl rfl (by decide) (A.get rfl) (by decide) fun _ A => ?_
      refine L_no A rfl (by decide) rfl rfl (by decide) (A.get rfl) (by decide) fun _ A => ?_
      replace A := A.only [31, 28, 26, 22, 12, 11, 10, 4, 3, 2, 1, 0] rfl
      refine L_no A rfl (by decide) rfl rfl (by decide) (A.get rfl) (by decide) fun _ A => ?_
      refine L_no A rfl (by decide) rfl rfl (by decide) (A.get rfl) (by decide) fun _ A => ?_
      refine L_no A rfl (by decide) rfl rfl (by decide) (A.get rfl) (by decide) fun _ A => ?_
      refine L_no A rfl (by decide) rfl rfl (by decide) (A.get rfl) (by decide) fun _ A => ?_
      replace A := A.only [35, 28, 26, 22, 12, 11, 10, 4, 3, 2, 1, 0] rfl
      refine L_no A rfl (by decide) rfl rfl (by decide) (A.get rfl) (by decide) fun _ A => ?_
      refine L_no A rfl (by decide) rfl rfl (by decide) (A.get rfl) (by decide) fun _ A => ?_
      refine L_no A rfl (by decide) rfl rfl (by decide) (A.get rfl) (by decide) fun _ A => ?_
      refine Lo A rfl (y_pickT (A.g 26 rfl) (evc _ _) fun _ A => ?_)
      replace A := A.only [39, 22, 12, 11, 10, 4, 3, 2, 1, 0] rfl
      refine hK6 _ _ ?_
      refine wp_cond_true (A.get rfl) ?_
      refine wp_seq_k fun K7 hK7 => ?_
      refine region_seq ?_  -- region 5
      refine La A rfl (evc _ _) fun _ A => ?_
      replace A := A.only [39, 22, 12, 11, 10, 4, 3, 2, 1, 0] rfl
      refine hK7 _ _ ?_
      replace S : St _ _ _ ((p, refC R (.slice l1 R.links.length l2) (.slice c1 R.cuts.length c2) (.slice (some ⟨wb, 0, none⟩) gs.length w2)) :: (Hl ++ (Hc ++ ([(wb, .cells cs 93 (0, 0))] ++ gmH gs)))) := S.perm (by unfold refC; classical rw [List.perm_iff_count]; intro x; simp only [List.count_append, List.count_cons, List.count_nil] <;> omega)
      exact wp_ret ⟨A.defers, _, res_run (rs := [.tmp 10]) (vs := [.int .i64 1]) rfl ⟨A.get rfl, trivial⟩, ⟨_, _, rfl, ⟨by rw [hR], by rw [hR]; exact hrep0⟩, S⟩⟩
    · obtain ⟨n, rfl⟩ : ∃ n : Nat, bit = n := ⟨bit.toNat, by omega⟩
      have hn : n ≤ 9223372036854775807 := by unfold i64 at hbit; omega
      rw [if_neg hneg, Int.toNat_natCast] at hR0
      by_cases hfar : g.d.bs.length ≤ n / 8
      · have hR : R.spoil a b i n = (1, R) := by rw [hR0, if_pos hfar]
        refine enter Try.func53 rfl (n := 82) rfl (Nat.le_of_ble_eq_true rfl) fun _ A => ?_
        have S : St _ _ _ ([(p, .cells #[.int .i64 R.n, .slice l1 R.links.length l2, .slice c1 R.cuts.length c2, .slice (some ⟨wb, 0, none⟩) gs.length w2] 64 (0, 0))] ++ (Hl ++ (Hc ++ ([(wb, .cells cs 93 (0, 0))] ++ (gmH gs))))) := S0
        clear S0
        have G0 : Gr w0 w0 := Gr.refl w0
        refine wp_seq_k fun K1 hK1 => ?_
        refine region_seq ?_  -- region 0
        refine La A rfl (evc _ _) fun _ A => ?_
        replace A := A.only [10, 4, 3, 2, 1, 0] rfl
        refine hK1 _ _ ?_
        refine wp_seq_k fun K2 hK2 => ?_
        refine region_seq ?_  -- region 1
        refine Lm A rfl (A.g 0 rfl) fun _ A => Lm A rfl (A.g 1 rfl) fun _ A => Lm A rfl (A.g 2 rfl) fun _ A => Lm A rfl (A.g 3 rfl) fun _ A => ?_
        replace A := A.only [17, 16, 15, 14, 10, 4, 3, 2, 1, 0] rfl
        refine Lo A rfl (y_call4 (by kernel_rfl) rfl (A.g 14 rfl) (A.g 15 rfl) (A.g 16 rfl) (A.g 17 rfl) (callN (hat _ G0) fun v w H gG nN hf ac A => ?_))
        obtain ⟨rfl, rfl⟩ := hf
        replace S : St _ _ _ ([(p, .cells #[.int .i64 R.n, .slice l1 R.links.length l2, .slice c1 R.cuts.length c2, .slice (some ⟨wb, 0, none⟩) gs.length w2] 64 (0, 0))] ++ (Hl ++ (Hc ++ ([(wb, .cells cs 93 (0, 0))] ++ (gmH gs))))) := (S.new gG nN).perm (by first | exact .refl _ | (rw [List.append_assoc]; exact .refl _) | (simp only [List.append_assoc, List.nil_append, List.append_nil]; exact .refl _))
        replace S : St _ _ _ ([(p, .cells #[.int .i64 R.n, .slice l1 R.links.length l2, .slice c1 R.cuts.length c2, .slice (some ⟨wb, 0, none⟩) gs.length w2] 64 (0, 0))] ++ (Hl ++ ([(wb, .cells cs 93 (0, 0))] ++ (Hc ++ (gmH gs))))) := S.swap1 (L := ([(p, .cells #[.int .i64 R.n, .slice l1 R.links.length l2, .slice c1 R.cuts.length c2, .slice (some ⟨wb, 0, none⟩) gs.length w2] 64 (0, 0))] ++ Hl)) (A := Hc) (B := [(wb, .cells cs 93 (0, 0))])
        replace S : St _ _ _ ([(p, .cells #[.int .i64 R.n, .slice l1 R.links.length l2, .slice c1 R.cuts.length c2, .slice (some ⟨wb, 0, none⟩) gs.length w2] 64 (0, 0)), (wb, .cells cs 93 (0, 0))] ++ (Hl ++ (Hc ++ (gmH gs)))) := S.swap1 (L := [(p, .cells #[.int .i64 R.n, .slice l1 R.links.length l2, .slice c1 R.cuts.length c2, .slice (some ⟨wb, 0, none⟩) gs.length w2] 64 (0, 0))]) (A := Hl) (B := [(wb, .cells cs 93 (0, 0))])
        replace G0 := G0.trans gG
        refine Lm A rfl (A.g 18 rfl) fun _ A => Lo A rfl (y_extract (A.g 13 rfl) rfl fun _ A => ?_)
        refine Lo A rfl (y_extract (A.g 13 rfl) rfl fun _ A => ?_)
        replace A := A.only [20, 19, 10, 4, 3, 2, 1, 0] rfl
        refine La A rfl (A.g 19 rfl) fun _ A => La A rfl (A.g 20 rfl) fun _ A => ?_
        replace A := A.only [12, 11, 10, 4, 3, 2, 1, 0] rfl
        refine hK2 _ _ ?_
        refine wp_seq_k fun K3 hK3 => ?_
        refine wp_seq_k fun K4 hK4 => ?_
        refine region_seq ?_  -- region 2
        refine Lm A rfl (A.g 12 rfl) fun _ A => Lo A rfl (y_neq (A.g 21 rfl) (evc _ _) (c := false) (by decide) fun _ A => ?_)
        replace A := A.only [22, 12, 11, 10, 4, 3, 2, 1, 0] rfl
        refine hK4 _ _ ?_
        refine wp_cond_false (A.get rfl) ?_
        refine wp_skip ?_
        refine hK3 _ _ ?_
        refine wp_seq_k fun K5 hK5 => ?_
        refine wp_seq_k fun K6 hK6 => ?_
        refine region_seq ?_  -- region 4
        refine Lm A rfl (A.g 4 rfl) fun _ A => Lo A rfl (y_lss (A.g 24 rfl) (evc _ _) (c := false) (decide_eq_false (by omega)) fun _ A => ?_)
        refine Lm A rfl (A.g 25 rfl) fun _ A => L_yes A rfl (by decide) rfl rfl (by decide) (A.get rfl) (y_move (A.g 4 rfl) fun _ A => ?_)
        replace A := A.only [27, 26, 22, 12, 11, 10, 4, 3, 2, 1, 0] rfl
        refine L_yes A rfl (by decide) rfl rfl (by decide) (A.get rfl) (y_quo (A.g 27 rfl) (evc _ _) (by decide) (quo_nat n 8 hn) fun _ A => ?_)
        refine L_yes A rfl (by decide) rfl rfl (by decide) (A.get rfl) (y_move (A.g 0 rfl) fun _ A => ?_)
        refine L_yes A rfl (by decide) rfl rfl (by decide) (A.get rfl) (y_nilCheck (A.g 29 rfl) fun _ A => ?_)
        refine L_yes A rfl (by decide) rfl rfl (by decide) (A.get rfl) (y_fieldAddr (off := 3) (j := 3) (by kernel_rfl) (A.g 30 rfl) (by first | rfl | omega) fun _ A => ?_)
        replace A := A.only [31, 28, 26, 22, 12, 11, 10, 4, 3, 2, 1, 0] rfl
        refine L_yes A rfl (by decide) rfl rfl (by decide) (A.get rfl) (y_load (by kernel_rfl) (A.g 31 rfl) ((cell_of (S.get 0 rfl) _).trans rfl) fun _ A => ?_)
        refine L_yes A rfl (by decide) rfl rfl (by decide) (A.get rfl) (y_move (A.g 11 rfl) fun _ A => ?_)
        refine L_yes A rfl (by decide) rfl rfl (by decide) (A.get rfl) (y_indexS (e := 93) (size := 4) (j := j * 4) (by kernel_rfl) (by kernel_rfl) (A.g 32 rfl) (A.g 33 rfl) (by omega) (by omega) (by simp) fun _ A => ?_)
        refine L_yes A rfl (by decide) rfl rfl (by decide) (A.get rfl) (y_fieldAddr (off := 2) (j := j * 4 + 2) (by kernel_rfl) (A.g 34 rfl) (by first | rfl | omega) fun _ A => ?_)
        replace A := A.only [35, 28, 26, 22, 12, 11, 10, 4, 3, 2, 1, 0] rfl
        refine L_yes A rfl (by decide) rfl rfl (by decide) (A.get rfl) (y_load (by kernel_rfl) (A.g 35 rfl) ((cell_of (S.get 1 rfl) _).trans hc2) fun _ A => ?_)
        refine L_yes A rfl (by decide) rfl rfl (by decide) (A.get rfl) (y_lenS (e := 5) (by kernel_rfl) (A.g 36 rfl) fun _ A => ?_)
        refine L_yes A rfl (by decide) rfl rfl (by decide) (A.get rfl) (y_geq (A.g 28 rfl) (A.g 37 rfl) (c := true) (decide_eq_true (by omega)) fun _ A => ?_)
        refine Lo A rfl (y_pickF (A.g 26 rfl) (A.g 38 rfl) fun _ A => ?_)
        replace A := A.only [39, 22, 12, 11, 10, 4, 3, 2, 1, 0] rfl
        refine hK6 _ _ ?_
        refine wp_cond_true (A.get rfl) ?_
        refine wp_seq_k fun K7 hK7 => ?_
        refine region_seq ?_  -- region 5
        refine La A rfl (evc _ _) fun _ A => ?_
        replace A := A.only [39, 22, 12, 11, 10, 4, 3, 2, 1, 0] rfl
        refine hK7 _ _ ?_
        replace S : St _ _ _ ((p, refC R (.slice l1 R.links.length l2) (.slice c1 R.cuts.length c2) (.slice (some ⟨wb, 0, none⟩) gs.length w2)) :: (Hl ++ (Hc ++ ([(wb, .cells cs 93 (0, 0))] ++ gmH gs)))) := S.perm (by unfold refC; classical rw [List.perm_iff_count]; intro x; simp only [List.count_append, List.count_cons, List.count_nil] <;> omega)
        exact wp_ret ⟨A.defers, _, res_run (rs := [.tmp 10]) (vs := [.int .i64 1]) rfl ⟨A.get rfl, trivial⟩, ⟨_, _, rfl, ⟨by rw [hR], by rw [hR]; exact hrep0⟩, S⟩⟩
      · rw [if_neg hfar] at hR0
        cases hsp : g.d.sp with
        | true =>
          have hR : R.spoil a b i n = (6, R) := by rw [hR0, if_pos hsp]
          rw [hsp] at hc3
          refine enter Try.func53 rfl (n := 82) rfl (Nat.le_of_ble_eq_true rfl) fun _ A => ?_
          have S : St _ _ _ ([(p, .cells #[.int .i64 R.n, .slice l1 R.links.length l2, .slice c1 R.cuts.length c2, .slice (some ⟨wb, 0, none⟩) gs.length w2] 64 (0, 0))] ++ (Hl ++ (Hc ++ ([(wb, .cells cs 93 (0, 0))] ++ (gmH gs))))) := S0
          clear S0
          have G0 : Gr w0 w0 := Gr.refl w0
          refine wp_seq_k fun K1 hK1 => ?_
          refine region_seq ?_  -- region 0
          refine La A rfl (evc _ _) fun _ A => ?_
          replace A := A.only [10, 4, 3, 2, 1, 0] rfl
          refine hK1 _ _ ?_
          refine wp_seq_k fun K2 hK2 => ?_
          refine region_seq ?_  -- region 1
          refine Lm A rfl (A.g 0 rfl) fun _ A => Lm A rfl (A.g 1 rfl) fun _ A => Lm A rfl (A.g 2 rfl) fun _ A => Lm A rfl (A.g 3 rfl) fun _ A => ?_
          replace A := A.only [17, 16, 15, 14, 10, 4, 3, 2, 1, 0] rfl
          refine Lo A rfl (y_call4 (by kernel_rfl) rfl (A.g 14 rfl) (A.g 15 rfl) (A.g 16 rfl) (A.g 17 rfl) (callN (hat _ G0) fun v w H gG nN hf ac A => ?_))
          obtain ⟨rfl, rfl⟩ := hf
          replace S : St _ _ _ ([(p, .cells #[.int .i64 R.n, .slice l1 R.links.length l2, .slice c1 R.cuts.length c2, .slice (some ⟨wb, 0, none⟩) gs.length w2] 64 (0, 0))] ++ (Hl ++ (Hc ++ ([(wb, .cells cs 93 (0, 0))] ++ (gmH gs))))) := (S.new gG nN).perm (by first | exact .refl _ | (rw [List.append_assoc]; exact .refl _) | (simp only [List.append_assoc, List.nil_append, List.append_nil]; exact .refl _))
          replace S : St _ _ _ ([(p, .cells #[.int .i64 R.n, .slice l1 R.links.length l2, .slice c1 R.cuts.length c2, .slice (some ⟨wb, 0, none⟩) gs.length w2] 64 (0, 0))] ++ (Hl ++ ([(wb, .cells cs 93 (0, 0))] ++ (Hc ++ (gmH gs))))) := S.swap1 (L := ([(p, .cells #[.int .i64 R.n, .slice l1 R.links.length l2, .slice c1 R.cuts.length c2, .slice (some ⟨wb, 0, none⟩) gs.length w2] 64 (0, 0))] ++ Hl)) (A := Hc) (B := [(wb, .cells cs 93 (0, 0))])
          replace S : St _ _ _ ([(p, .cells #[.int .i64 R.n, .slice l1 R.links.length l2, .slice c1 R.cuts.length c2, .slice (some ⟨wb, 0, none⟩) gs.length w2] 64 (0, 0)), (wb, .cells cs 93 (0, 0))] ++ (Hl ++ (Hc ++ (gmH gs)))) := S.swap1 (L := [(p, .cells #[.int .i64 R.n, .slice l1 R.links.length l2, .slice c1 R.cuts.length c2, .slice (some ⟨wb, 0, none⟩) gs.length w2] 64 (0, 0))]) (A := Hl) (B := [(wb, .cells cs 93 (0, 0))])
          replace G0 := G0.trans gG
          refine Lm A rfl (A.g 18 rfl) fun _ A => Lo A rfl (y_extract (A.g 13 rfl) rfl fun _ A => ?_)
          refine Lo A rfl (y_extract (A.g 13 rfl) rfl fun _ A => ?_)
          replace A := A.only [20, 19, 10, 4, 3, 2, 1, 0] rfl
          refine La A rfl (A.g 19 rfl) fun _ A => La A rfl (A.g 20 rfl) fun _ A => ?_
          replace A := A.only [12, 11, 10, 4, 3, 2, 1, 0] rfl
          refine hK2 _ _ ?_
          refine wp_seq_k fun K3 hK3 => ?_
          refine wp_seq_k fun K4 hK4 => ?_
          refine region_seq ?_  -- region 2
          refine Lm A rfl (A.g 12 rfl) fun _ A => Lo A rfl (y_neq (A.g 21 rfl) (evc _ _) (c := false) (by decide) fun _ A => ?_)
          replace A := A.only [22, 12, 11, 10, 4, 3, 2, 1, 0] rfl
          refine hK4 _ _ ?_
          refine wp_cond_false (A.get rfl) ?_
          refine wp_skip ?_
          refine hK3 _ _ ?_
          refine wp_seq_k fun K5 hK5 => ?_
          refine wp_seq_k fun K6 hK6 => ?_
          refine region_seq ?_  -- region 4
          refine Lm A rfl (A.g 4 rfl) fun _ A => Lo A rfl (y_lss (A.g 24 rfl) (evc _ _) (c := false) (decide_eq_false (by omega)) fun _ A => ?_)
          refine Lm A rfl (A.g 25 rfl) fun _ A => L_yes A rfl (by decide) rfl rfl (by decide) (A.get rfl) (y_move (A.g 4 rfl) fun _ A => ?_)
          replace A := A.only [27, 26, 22, 12, 11, 10, 4, 3, 2, 1, 0] rfl
          refine L_yes A rfl (by decide) rfl rfl (by decide) (A.get rfl) (y_quo (A.g 27 rfl) (evc _ _) (by decide) (quo_nat n 8 hn) fun _ A => ?_)
          refine L_yes A rfl (by decide) rfl rfl (by decide) (A.get rfl) (y_move (A.g 0 rfl) fun _ A => ?_)
          refine L_yes A rfl (by decide) rfl rfl (by decide) (A.get rfl) (y_nilCheck (A.g 29 rfl) fun _ A => ?_)
          refine L_yes A rfl (by decide) rfl rfl (by decide) (A.get rfl) (y_fieldAddr (off := 3) (j := 3) (by kernel_rfl) (A.g 30 rfl) (by first | rfl | omega) fun _ A => ?_)
          replace A := A.only [31, 28, 26, 22, 12, 11, 10, 4, 3, 2, 1, 0] rfl
          refine L_yes A rfl (by decide) rfl rfl (by decide) (A.get rfl) (y_load (by kernel_rfl) (A.g 31 rfl) ((cell_of (S.get 0 rfl) _).trans rfl) fun _ A => ?_)
          refine L_yes A rfl (by decide) rfl rfl (by decide) (A.get rfl) (y_move (A.g 11 rfl) fun _ A => ?_)
          refine L_yes A rfl (by decide) rfl rfl (by decide) (A.get rfl) (y_indexS (e := 93) (size := 4) (j := j * 4) (by kernel_rfl) (by kernel_rfl) (A.g 32 rfl) (A.g 33 rfl) (by omega) (by omega) (by simp) fun _ A => ?_)
          refine L_yes A rfl (by decide) rfl rfl (by decide) (A.get rfl) (y_fieldAddr (off := 2) (j := j * 4 + 2) (by kernel_rfl) (A.g 34 rfl) (by first | rfl | omega) fun _ A => ?_)
          replace A := A.only [35, 28, 26, 22, 12, 11, 10, 4, 3, 2, 1, 0] rfl
          refine L_yes A rfl (by decide) rfl rfl (by decide) (A.get rfl) (y_load (by kernel_rfl) (A.g 35 rfl) ((cell_of (S.get 1 rfl) _).trans hc2) fun _ A => ?_)
          refine L_yes A rfl (by decide) rfl rfl (by decide) (A.get rfl) (y_lenS (e := 5) (by kernel_rfl) (A.g 36 rfl) fun _ A => ?_)
          refine L_yes A rfl (by decide) rfl rfl (by decide) (A.get rfl) (y_geq (A.g 28 rfl) (A.g 37 rfl) (c := false) (decide_eq_false (by omega)) fun _ A => ?_)
          refine Lo A rfl (y_pickF (A.g 26 rfl) (A.g 38 rfl) fun _ A => ?_)
          replace A := A.only [39, 22, 12, 11, 10, 4, 3, 2, 1, 0] rfl
          refine hK6 _ _ ?_
          refine wp_cond_false (A.get rfl) ?_
          refine wp_skip ?_
          refine hK5 _ _ ?_
          refine wp_seq_k fun K7 hK7 => ?_
          refine wp_seq_k fun K8 hK8 => ?_
          refine region_seq ?_  -- region 6
          refine Lm A rfl (A.g 0 rfl) fun _ A => Lo A rfl (y_nilCheck (A.g 40 rfl) fun _ A => ?_)
          refine Lo A rfl (y_fieldAddr (off := 3) (j := 3) (by kernel_rfl) (A.g 41 rfl) (by first | rfl | omega) fun _ A => ?_)
          refine Lo A rfl (y_load (by kernel_rfl) (A.g 42 rfl) ((cell_of (S.get 0 rfl) _).trans rfl) fun _ A => ?_)
          replace A := A.only [43, 39, 22, 12, 11, 10, 4, 3, 2, 1, 0] rfl
          refine Lm A rfl (A.g 11 rfl) fun _ A => Lo A rfl (y_indexS (e := 93) (size := 4) (j := j * 4) (by kernel_rfl) (by kernel_rfl) (A.g 43 rfl) (A.g 44 rfl) (by omega) (by omega) (by simp) fun _ A => ?_)
          refine Lo A rfl (y_fieldAddr (off := 3) (j := j * 4 + 3) (by kernel_rfl) (A.g 45 rfl) (by first | rfl | omega) fun _ A => ?_)
          refine Lo A rfl (y_load (by kernel_rfl) (A.g 46 rfl) ((cell_of (S.get 1 rfl) _).trans hc3) fun _ A => ?_)
          replace A := A.only [47, 39, 22, 12, 11, 10, 4, 3, 2, 1, 0] rfl
          refine hK8 _ _ ?_
          refine wp_cond_true (A.get rfl) ?_
          refine wp_seq_k fun K9 hK9 => ?_
          refine region_seq ?_  -- region 7
          refine La A rfl (evc _ _) fun _ A => ?_
          replace A := A.only [47, 39, 22, 12, 11, 10, 4, 3, 2, 1, 0] rfl
          refine hK9 _ _ ?_
          replace S : St _ _ _ ((p, refC R (.slice l1 R.links.length l2) (.slice c1 R.cuts.length c2) (.slice (some ⟨wb, 0, none⟩) gs.length w2)) :: (Hl ++ (Hc ++ ([(wb, .cells cs 93 (0, 0))] ++ gmH gs)))) := S.perm (by unfold refC; classical rw [List.perm_iff_count]; intro x; simp only [List.count_append, List.count_cons, List.count_nil] <;> omega)
          exact wp_ret ⟨A.defers, _, res_run (rs := [.tmp 10]) (vs := [.int .i64 6]) rfl ⟨A.get rfl, trivial⟩, ⟨_, _, rfl, ⟨by rw [hR], by rw [hR]; exact hrep0⟩, S⟩⟩
        | false =>
          have hR : R.spoil a b i n = (0, { R with way := R.way.set j ⟨g.d.f, g.d.t, turn g.d.bs n, true⟩ }) := by rw [hR0, if_neg (by simp [hsp])]
          rw [hsp] at hc3
          obtain ⟨bb, bcap, bcs, hbq, hbH, hbcs, hbcap, hbtake⟩ := SlRep.block hgB (by omega)
          rw [hgv] at hbq
          simp only [Value.slice.injEq] at hbq; obtain ⟨rfl, -, rfl⟩ := hbq
          have hc2' : (setCs cs (j * 4 + 3) [.bool true])[j * 4 + 2]? = some (.slice (some ⟨bb, 0, none⟩) g.d.bs.length gc) := by rw [setCs_get _ _ _ _ (by simp; omega), if_neg (by simp), hc2]
          have hcb : bcs[n / 8]? = some (u8v (g.d.bs.getD (n / 8) 0)) := by rw [SlRep.cell hbtake (by omega)]; simp [show n / 8 < g.d.bs.length by omega]
          have hpe := gmH_erase gs j g hgj
          rw [hbH] at hpe
          have S0 := S0.perm (show List.Perm _ ([(p, .cells #[.int .i64 R.n, .slice l1 R.links.length l2, .slice c1 R.cuts.length c2, .slice (some ⟨wb, 0, none⟩) gs.length w2] 64 (0, 0)), (wb, .cells cs 93 (0, 0)), (bb, .cells bcs 5 (0, 0))] ++ (Hl ++ (Hc ++ (gmH (gs.eraseIdx j))))) from by classical rw [List.perm_iff_count]; intro x; have hpt := hpe.count_eq x; simp only [refC, List.count_append, List.count_cons, List.count_nil] at hpt ⊢; omega)
          refine enter Try.func53 rfl (n := 82) rfl (Nat.le_of_ble_eq_true rfl) fun _ A => ?_
          have S : St _ _ _ ([(p, .cells #[.int .i64 R.n, .slice l1 R.links.length l2, .slice c1 R.cuts.length c2, .slice (some ⟨wb, 0, none⟩) gs.length w2] 64 (0, 0)), (wb, .cells cs 93 (0, 0)), (bb, .cells bcs 5 (0, 0))] ++ (Hl ++ (Hc ++ (gmH (gs.eraseIdx j))))) := S0
          clear S0
          have G0 : Gr w0 w0 := Gr.refl w0
          refine wp_seq_k fun K1 hK1 => ?_
          refine region_seq ?_  -- region 0
          refine La A rfl (evc _ _) fun _ A => ?_
          replace A := A.only [10, 4, 3, 2, 1, 0] rfl
          refine hK1 _ _ ?_
          refine wp_seq_k fun K2 hK2 => ?_
          refine region_seq ?_  -- region 1
          refine Lm A rfl (A.g 0 rfl) fun _ A => Lm A rfl (A.g 1 rfl) fun _ A => Lm A rfl (A.g 2 rfl) fun _ A => Lm A rfl (A.g 3 rfl) fun _ A => ?_
          replace A := A.only [17, 16, 15, 14, 10, 4, 3, 2, 1, 0] rfl
          refine Lo A rfl (y_call4 (by kernel_rfl) rfl (A.g 14 rfl) (A.g 15 rfl) (A.g 16 rfl) (A.g 17 rfl) (callN (hat _ G0) fun v w H gG nN hf ac A => ?_))
          obtain ⟨rfl, rfl⟩ := hf
          replace S : St _ _ _ ([(p, .cells #[.int .i64 R.n, .slice l1 R.links.length l2, .slice c1 R.cuts.length c2, .slice (some ⟨wb, 0, none⟩) gs.length w2] 64 (0, 0)), (wb, .cells cs 93 (0, 0)), (bb, .cells bcs 5 (0, 0))] ++ (Hl ++ (Hc ++ (gmH (gs.eraseIdx j))))) := (S.new gG nN).perm (by first | exact .refl _ | (rw [List.append_assoc]; exact .refl _) | (simp only [List.append_assoc, List.nil_append, List.append_nil]; exact .refl _))
          replace G0 := G0.trans gG
          refine Lm A rfl (A.g 18 rfl) fun _ A => Lo A rfl (y_extract (A.g 13 rfl) rfl fun _ A => ?_)
          refine Lo A rfl (y_extract (A.g 13 rfl) rfl fun _ A => ?_)
          replace A := A.only [20, 19, 10, 4, 3, 2, 1, 0] rfl
          refine La A rfl (A.g 19 rfl) fun _ A => La A rfl (A.g 20 rfl) fun _ A => ?_
          replace A := A.only [12, 11, 10, 4, 3, 2, 1, 0] rfl
          refine hK2 _ _ ?_
          refine wp_seq_k fun K3 hK3 => ?_
          refine wp_seq_k fun K4 hK4 => ?_
          refine region_seq ?_  -- region 2
          refine Lm A rfl (A.g 12 rfl) fun _ A => Lo A rfl (y_neq (A.g 21 rfl) (evc _ _) (c := false) (by decide) fun _ A => ?_)
          replace A := A.only [22, 12, 11, 10, 4, 3, 2, 1, 0] rfl
          refine hK4 _ _ ?_
          refine wp_cond_false (A.get rfl) ?_
          refine wp_skip ?_
          refine hK3 _ _ ?_
          refine wp_seq_k fun K5 hK5 => ?_
          refine wp_seq_k fun K6 hK6 => ?_
          refine region_seq ?_  -- region 4
          refine Lm A rfl (A.g 4 rfl) fun _ A => Lo A rfl (y_lss (A.g 24 rfl) (evc _ _) (c := false) (decide_eq_false (by omega)) fun _ A => ?_)
          refine Lm A rfl (A.g 25 rfl) fun _ A => L_yes A rfl (by decide) rfl rfl (by decide) (A.get rfl) (y_move (A.g 4 rfl) fun _ A => ?_)
          replace A := A.only [27, 26, 22, 12, 11, 10, 4, 3, 2, 1, 0] rfl
          refine L_yes A rfl (by decide) rfl rfl (by decide) (A.get rfl) (y_quo (A.g 27 rfl) (evc _ _) (by decide) (quo_nat n 8 hn) fun _ A => ?_)
          refine L_yes A rfl (by decide) rfl rfl (by decide) (A.get rfl) (y_move (A.g 0 rfl) fun _ A => ?_)
          refine L_yes A rfl (by decide) rfl rfl (by decide) (A.get rfl) (y_nilCheck (A.g 29 rfl) fun _ A => ?_)
          refine L_yes A rfl (by decide) rfl rfl (by decide) (A.get rfl) (y_fieldAddr (off := 3) (j := 3) (by kernel_rfl) (A.g 30 rfl) (by first | rfl | omega) fun _ A => ?_)
          replace A := A.only [31, 28, 26, 22, 12, 11, 10, 4, 3, 2, 1, 0] rfl
          refine L_yes A rfl (by decide) rfl rfl (by decide) (A.get rfl) (y_load (by kernel_rfl) (A.g 31 rfl) ((cell_of (S.get 0 rfl) _).trans rfl) fun _ A => ?_)
          refine L_yes A rfl (by decide) rfl rfl (by decide) (A.get rfl) (y_move (A.g 11 rfl) fun _ A => ?_)
          refine L_yes A rfl (by decide) rfl rfl (by decide) (A.get rfl) (y_indexS (e := 93) (size := 4) (j := j * 4) (by kernel_rfl) (by kernel_rfl) (A.g 32 rfl) (A.g 33 rfl) (by omega) (by omega) (by simp) fun _ A => ?_)
          refine L_yes A rfl (by decide) rfl rfl (by decide) (A.get rfl) (y_fieldAddr (off := 2) (j := j * 4 + 2) (by kernel_rfl) (A.g 34 rfl) (by first | rfl | omega) fun _ A => ?_)
          replace A := A.only [35, 28, 26, 22, 12, 11, 10, 4, 3, 2, 1, 0] rfl
          refine L_yes A rfl (by decide) rfl rfl (by decide) (A.get rfl) (y_load (by kernel_rfl) (A.g 35 rfl) ((cell_of (S.get 1 rfl) _).trans hc2) fun _ A => ?_)
          refine L_yes A rfl (by decide) rfl rfl (by decide) (A.get rfl) (y_lenS (e := 5) (by kernel_rfl) (A.g 36 rfl) fun _ A => ?_)
          refine L_yes A rfl (by decide) rfl rfl (by decide) (A.get rfl) (y_geq (A.g 28 rfl) (A.g 37 rfl) (c := false) (decide_eq_false (by omega)) fun _ A => ?_)
          refine Lo A rfl (y_pickF (A.g 26 rfl) (A.g 38 rfl) fun _ A => ?_)
          replace A := A.only [39, 22, 12, 11, 10, 4, 3, 2, 1, 0] rfl
          refine hK6 _ _ ?_
          refine wp_cond_false (A.get rfl) ?_
          refine wp_skip ?_
          refine hK5 _ _ ?_
          refine wp_seq_k fun K7 hK7 => ?_
          refine wp_seq_k fun K8 hK8 => ?_
          refine region_seq ?_  -- region 6
          refine Lm A rfl (A.g 0 rfl) fun _ A => Lo A rfl (y_nilCheck (A.g 40 rfl) fun _ A => ?_)
          refine Lo A rfl (y_fieldAddr (off := 3) (j := 3) (by kernel_rfl) (A.g 41 rfl) (by first | rfl | omega) fun _ A => ?_)
          refine Lo A rfl (y_load (by kernel_rfl) (A.g 42 rfl) ((cell_of (S.get 0 rfl) _).trans rfl) fun _ A => ?_)
          replace A := A.only [43, 39, 22, 12, 11, 10, 4, 3, 2, 1, 0] rfl
          refine Lm A rfl (A.g 11 rfl) fun _ A => Lo A rfl (y_indexS (e := 93) (size := 4) (j := j * 4) (by kernel_rfl) (by kernel_rfl) (A.g 43 rfl) (A.g 44 rfl) (by omega) (by omega) (by simp) fun _ A => ?_)
          refine Lo A rfl (y_fieldAddr (off := 3) (j := j * 4 + 3) (by kernel_rfl) (A.g 45 rfl) (by first | rfl | omega) fun _ A => ?_)
          refine Lo A rfl (y_load (by kernel_rfl) (A.g 46 rfl) ((cell_of (S.get 1 rfl) _).trans hc3) fun _ A => ?_)
          replace A := A.only [47, 39, 22, 12, 11, 10, 4, 3, 2, 1, 0] rfl
          refine hK8 _ _ ?_
          refine wp_cond_false (A.get rfl) ?_
          refine wp_skip ?_
          refine hK7 _ _ ?_
          refine wp_seq_k fun K9 hK9 => ?_
          refine region_seq ?_  -- region 8
          refine Lm A rfl (A.g 0 rfl) fun _ A => Lo A rfl (y_nilCheck (A.g 48 rfl) fun _ A => ?_)
          refine Lo A rfl (y_fieldAddr (off := 3) (j := 3) (by kernel_rfl) (A.g 49 rfl) (by first | rfl | omega) fun _ A => ?_)
          refine Lo A rfl (y_load (by kernel_rfl) (A.g 50 rfl) ((cell_of (S.get 0 rfl) _).trans rfl) fun _ A => ?_)
          replace A := A.only [51, 47, 39, 22, 12, 11, 10, 4, 3, 2, 1, 0] rfl
          refine Lm A rfl (A.g 11 rfl) fun _ A => Lo A rfl (y_indexS (e := 93) (size := 4) (j := j * 4) (by kernel_rfl) (by kernel_rfl) (A.g 51 rfl) (A.g 52 rfl) (by omega) (by omega) (by simp) fun _ A => ?_)
          refine Lo A rfl (y_fieldAddr (off := 3) (j := j * 4 + 3) (by kernel_rfl) (A.g 53 rfl) (by first | rfl | omega) fun _ A => ?_)
          refine L_opN A rfl rfl (y_store 1 (by kernel_rfl) (A.g 54 rfl) rfl (S.get 1 rfl) rfl (by omega) (one_all rfl) ?_)
          replace S : St _ _ _ ([(p, .cells #[.int .i64 R.n, .slice l1 R.links.length l2, .slice c1 R.cuts.length c2, .slice (some ⟨wb, 0, none⟩) gs.length w2] 64 (0, 0)), (wb, .cells (setCs cs (j * 4 + 3) [.bool true]) 93 (0, 0)), (bb, .cells bcs 5 (0, 0))] ++ (Hl ++ (Hc ++ (gmH (gs.eraseIdx j))))) := S.setAt 1 rfl _
          replace A := A.only [47, 39, 22, 12, 11, 10, 4, 3, 2, 1, 0] rfl
          refine hK9 _ _ ?_
          refine wp_seq_k fun K10 hK10 => ?_
          refine region_draw A [⟨55, pl (eqv (.pointer (some ⟨p, 0, none⟩))), [], [0], none, false⟩, ⟨56, pl (eqv (.pointer (some ⟨p, 0, none⟩))), [0], [], none, false⟩, ⟨57, pl (eqv (.pointer (some ⟨p, 3, none⟩))), [1], [], none, false⟩, ⟨58, pl (eqv (.slice (some ⟨wb, 0, none⟩) gs.length w2)), [2], [], none, false⟩, ⟨59, pl (eqv (.int .i64 (((j : Nat) : Int)))), [], [11], none, false⟩, ⟨60, pl (eqv (.pointer (some ⟨wb, j * 4, none⟩))), [3, 4], [], none, false⟩, ⟨61, pl (eqv (.pointer (some ⟨wb, j * 4 + 2, none⟩))), [5], [], none, false⟩, ⟨62, pl (eqv (.slice (some ⟨bb, 0, none⟩) g.d.bs.length gc)), [6], [], none, false⟩, ⟨63, pl (eqv (.int .i64 n)), [], [4], none, false⟩, ⟨64, pl (eqv (.int .i64 ((n / 8 : Nat)))), [8], [], none, false⟩, ⟨65, pl (eqv (.pointer (some ⟨p, 0, none⟩))), [], [0], none, false⟩, ⟨66, pl (eqv (.pointer (some ⟨p, 0, none⟩))), [10], [], none, false⟩, ⟨67, pl (eqv (.pointer (some ⟨p, 3, none⟩))), [11], [], none, false⟩, ⟨68, pl (eqv (.slice (some ⟨wb, 0, none⟩) gs.length w2)), [12], [], none, false⟩, ⟨69, pl (eqv (.int .i64 (((j : Nat) : Int)))), [], [11], none, false⟩, ⟨70, pl (eqv (.pointer (some ⟨wb, j * 4, none⟩))), [13, 14], [], none, false⟩, ⟨71, pl (eqv (.pointer (some ⟨wb, j * 4 + 2, none⟩))), [15], [], none, false⟩, ⟨72, pl (eqv (.slice (some ⟨bb, 0, none⟩) g.d.bs.length gc)), [16], [], none, false⟩, ⟨73, pl (eqv (.int .i64 n)), [], [4], none, false⟩, ⟨74, pl (eqv (.int .i64 ((n / 8 : Nat)))), [18], [], none, false⟩, ⟨75, pl (eqv (.pointer (some ⟨bb, (n / 8), none⟩))), [17, 19], [], none, false⟩, ⟨76, pl (eqv (u8v (g.d.bs.getD (n / 8) 0))), [20], [], none, false⟩, ⟨77, pl (eqv (.int .i64 n)), [], [4], none, false⟩, ⟨78, pl (eqv (.int .i64 ((n % 8 : Nat)))), [22], [], none, false⟩, ⟨79, pl (eqv (.int .u8 ((2 ^ (n % 8) : Nat)))), [23], [], none, false⟩, ⟨80, pl (eqv (u8v (flip (g.d.bs.getD (n / 8) 0) (n % 8)))), [21, 24], [], none, false⟩, ⟨81, pl (eqv (.pointer (some ⟨bb, (n / 8), none⟩))), [7, 9], [], none, false⟩] [(27, false)] (by kernel_rfl) (by kernel_rfl) (fun d _ _ _ _ h => by cases d <;> exact h) ⟨?_, ?_, ?_, ?_, ?_, ?_, ?_, ?_, ?_, ?_, ?_, ?_, ?_, ?_, ?_, ?_, ?_, ?_, ?_, ?_, ?_, ?_, ?_, ?_, ?_, ?_, ?_, trivial⟩ ?_  -- region 9
          · refine due_plain fun ρ w1 G hsrc hold => ?_; obtain ⟨o0, -⟩ := hold; exact y_move (o0.trans (A.g 0 rfl)) y_eq
          · refine due_plain fun ρ w1 G hsrc hold => ?_; obtain ⟨⟨_, _, ⟨h55, -⟩, -⟩, -⟩ := hsrc; exact y_nilCheck h55 y_eq
          · refine due_plain fun ρ w1 G hsrc hold => ?_; obtain ⟨⟨_, _, ⟨h56, -⟩, -⟩, -⟩ := hsrc; exact y_fieldAddr (off := 3) (j := 3) (by kernel_rfl) h56 (by first | rfl | omega) y_eq
          · refine due_plain fun ρ w1 G hsrc hold => ?_; obtain ⟨⟨_, _, ⟨h57, -⟩, -⟩, -⟩ := hsrc; exact y_load (by kernel_rfl) h57 ((cell_of (G.gr.heap' (S.get 0 rfl)) _).trans rfl) y_eq
          · refine due_plain fun ρ w1 G hsrc hold => ?_; obtain ⟨o11, -⟩ := hold; exact y_move (o11.trans (A.g 11 rfl)) y_eq
          · refine due_plain fun ρ w1 G hsrc hold => ?_; obtain ⟨⟨_, _, ⟨h58, -⟩, -⟩, ⟨_, _, ⟨h59, -⟩, -⟩, -⟩ := hsrc; exact y_indexS (e := 93) (size := 4) (j := j * 4) (by kernel_rfl) (by kernel_rfl) h58 h59 (by omega) (by omega) (by simp) y_eq
          · refine due_plain fun ρ w1 G hsrc hold => ?_; obtain ⟨⟨_, _, ⟨h60, -⟩, -⟩, -⟩ := hsrc; exact y_fieldAddr (off := 2) (j := j * 4 + 2) (by kernel_rfl) h60 (by first | rfl | omega) y_eq
          · refine due_plain fun ρ w1 G hsrc hold => ?_; obtain ⟨⟨_, _, ⟨h61, -⟩, -⟩, -⟩ := hsrc; exact y_load (by kernel_rfl) h61 ((cell_of (G.gr.heap' (S.get 1 rfl)) _).trans hc2') y_eq
          · refine due_plain fun ρ w1 G hsrc hold => ?_; obtain ⟨o4, -⟩ := hold; exact y_move (o4.trans (A.g 4 rfl)) y_eq
          · refine due_plain fun ρ w1 G hsrc hold => ?_; obtain ⟨⟨_, _, ⟨h63, -⟩, -⟩, -⟩ := hsrc; exact y_quo h63 (G.const _) (by decide) (quo_nat n 8 hn) y_eq
          · refine due_plain fun ρ w1 G hsrc hold => ?_; obtain ⟨o0, -⟩ := hold; exact y_move (o0.trans (A.g 0 rfl)) y_eq
          · refine due_plain fun ρ w1 G hsrc hold => ?_; obtain ⟨⟨_, _, ⟨h65, -⟩, -⟩, -⟩ := hsrc; exact y_nilCheck h65 y_eq
          · refine due_plain fun ρ w1 G hsrc hold => ?_; obtain ⟨⟨_, _, ⟨h66, -⟩, -⟩, -⟩ := hsrc; exact y_fieldAddr (off := 3) (j := 3) (by kernel_rfl) h66 (by first | rfl | omega) y_eq
          · refine due_plain fun ρ w1 G hsrc hold => ?_; obtain ⟨⟨_, _, ⟨h67, -⟩, -⟩, -⟩ := hsrc; exact y_load (by kernel_rfl) h67 ((cell_of (G.gr.heap' (S.get 0 rfl)) _).trans rfl) y_eq
          · refine due_plain fun ρ w1 G hsrc hold => ?_; obtain ⟨o11, -⟩ := hold; exact y_move (o11.trans (A.g 11 rfl)) y_eq
          · refine due_plain fun ρ w1 G hsrc hold => ?_; obtain ⟨⟨_, _, ⟨h68, -⟩, -⟩, ⟨_, _, ⟨h69, -⟩, -⟩, -⟩ := hsrc; exact y_indexS (e := 93) (size := 4) (j := j * 4) (by kernel_rfl) (by kernel_rfl) h68 h69 (by omega) (by omega) (by simp) y_eq
          · refine due_plain fun ρ w1 G hsrc hold => ?_; obtain ⟨⟨_, _, ⟨h70, -⟩, -⟩, -⟩ := hsrc; exact y_fieldAddr (off := 2) (j := j * 4 + 2) (by kernel_rfl) h70 (by first | rfl | omega) y_eq
          · refine due_plain fun ρ w1 G hsrc hold => ?_; obtain ⟨⟨_, _, ⟨h71, -⟩, -⟩, -⟩ := hsrc; exact y_load (by kernel_rfl) h71 ((cell_of (G.gr.heap' (S.get 1 rfl)) _).trans hc2') y_eq
          · refine due_plain fun ρ w1 G hsrc hold => ?_; obtain ⟨o4, -⟩ := hold; exact y_move (o4.trans (A.g 4 rfl)) y_eq
          · refine due_plain fun ρ w1 G hsrc hold => ?_; obtain ⟨⟨_, _, ⟨h73, -⟩, -⟩, -⟩ := hsrc; exact y_quo h73 (G.const _) (by decide) (quo_nat n 8 hn) y_eq
          · refine due_plain fun ρ w1 G hsrc hold => ?_; obtain ⟨⟨_, _, ⟨h72, -⟩, -⟩, ⟨_, _, ⟨h74, -⟩, -⟩, -⟩ := hsrc; exact y_indexS (e := 5) (size := 1) (j := n / 8) (by kernel_rfl) (by kernel_rfl) h72 h74 (by omega) (by omega) (by simp; rfl) y_eq
          · refine due_plain fun ρ w1 G hsrc hold => ?_; obtain ⟨⟨_, _, ⟨h75, -⟩, -⟩, -⟩ := hsrc; exact y_load (by kernel_rfl) h75 ((cell_of (G.gr.heap' (S.get 2 rfl)) _).trans hcb) y_eq
          · refine due_plain fun ρ w1 G hsrc hold => ?_; obtain ⟨o4, -⟩ := hold; exact y_move (o4.trans (A.g 4 rfl)) y_eq
          · refine due_plain fun ρ w1 G hsrc hold => ?_; obtain ⟨⟨_, _, ⟨h77, -⟩, -⟩, -⟩ := hsrc; exact y_rem h77 (G.const _) (by decide) (rem_nat n 8) y_eq
          · refine due_plain fun ρ w1 G hsrc hold => ?_; obtain ⟨⟨_, _, ⟨h78, -⟩, -⟩, -⟩ := hsrc; exact y_shl (G.const _) h78 (by omega) (shl_u8 (n % 8) (by omega)) y_eq
          · refine due_plain fun ρ w1 G hsrc hold => ?_; obtain ⟨⟨_, _, ⟨h76, -⟩, -⟩, ⟨_, _, ⟨h79, -⟩, -⟩, -⟩ := hsrc; exact y_xor h76 h79 (xor_u8 _ (n % 8) (by omega)) y_eq
          · refine due_plain fun ρ w1 G hsrc hold => ?_; obtain ⟨⟨_, _, ⟨h62, -⟩, -⟩, ⟨_, _, ⟨h64, -⟩, -⟩, -⟩ := hsrc; exact y_indexS (e := 5) (size := 1) (j := n / 8) (by kernel_rfl) (by kernel_rfl) h62 h64 (by omega) (by omega) (by simp; rfl) y_eq
          rintro _ _ ⟨rfl, rfl⟩ _ _ ⟨rfl, rfl⟩ _ _ ⟨rfl, rfl⟩ _ _ ⟨rfl, rfl⟩ _ _ ⟨rfl, rfl⟩ _ _ ⟨rfl, rfl⟩ _ _ ⟨rfl, rfl⟩ _ _ ⟨rfl, rfl⟩ _ _ ⟨rfl, rfl⟩ _ _ ⟨rfl, rfl⟩ _ _ ⟨rfl, rfl⟩ _ _ ⟨rfl, rfl⟩ _ _ ⟨rfl, rfl⟩ _ _ ⟨rfl, rfl⟩ _ _ ⟨rfl, rfl⟩ _ _ ⟨rfl, rfl⟩ _ _ ⟨rfl, rfl⟩ _ _ ⟨rfl, rfl⟩ _ _ ⟨rfl, rfl⟩ _ _ ⟨rfl, rfl⟩ _ _ ⟨rfl, rfl⟩ _ _ ⟨rfl, rfl⟩ _ _ ⟨rfl, rfl⟩ _ _ ⟨rfl, rfl⟩ _ _ ⟨rfl, rfl⟩ _ _ ⟨rfl, rfl⟩ _ _ ⟨rfl, rfl⟩
          intro ac w A gG nN
          replace S : St _ _ _ ([(p, .cells #[.int .i64 R.n, .slice l1 R.links.length l2, .slice c1 R.cuts.length c2, .slice (some ⟨wb, 0, none⟩) gs.length w2] 64 (0, 0)), (wb, .cells (setCs cs (j * 4 + 3) [.bool true]) 93 (0, 0)), (bb, .cells bcs 5 (0, 0))] ++ (Hl ++ (Hc ++ (gmH (gs.eraseIdx j))))) := (S.new gG nN).perm (by first | exact .refl _ | (rw [List.append_assoc]; exact .refl _) | (simp only [List.append_assoc, List.nil_append, List.append_nil]; exact .refl _))
          refine L_opN A rfl rfl (y_store 1 (by kernel_rfl) (A.g 81 rfl) (A.g 80 rfl) (S.get 2 rfl) rfl (by omega) (one_all rfl) ?_)
          replace S : St _ _ _ ([(p, .cells #[.int .i64 R.n, .slice l1 R.links.length l2, .slice c1 R.cuts.length c2, .slice (some ⟨wb, 0, none⟩) gs.length w2] 64 (0, 0)), (wb, .cells (setCs cs (j * 4 + 3) [.bool true]) 93 (0, 0)), (bb, .cells (setCs bcs (n / 8) [u8v (flip (g.d.bs.getD (n / 8) 0) (n % 8))]) 5 (0, 0))] ++ (Hl ++ (Hc ++ (gmH (gs.eraseIdx j))))) := S.setAt 2 rfl _
          replace A := A.only [47, 39, 22, 12, 11, 10, 4, 3, 2, 1, 0] rfl
          refine hK10 _ _ ?_
          refine wp_seq_k fun K11 hK11 => ?_
          refine region_seq ?_  -- region 10
          refine La A rfl (evc _ _) fun _ A => ?_
          replace A := A.only [47, 39, 22, 12, 11, 10, 4, 3, 2, 1, 0] rfl
          refine hK11 _ _ ?_
          have hps := gmH_set gs j g (⟨⟨g.d.f, g.d.t, turn g.d.bs n, true⟩, g.v, [(bb, .cells (setCs bcs (n / 8) [u8v (flip (g.d.bs.getD (n / 8) 0) (n % 8))]) 5 (0, 0))]⟩ : Dm) hgj
          have hP := h.spoil (j := j) (g' := (⟨⟨g.d.f, g.d.t, turn g.d.bs n, true⟩, g.v, [(bb, .cells (setCs bcs (n / 8) [u8v (flip (g.d.bs.getD (n / 8) 0) (n % 8))]) 5 (0, 0))]⟩ : Dm)) (way_set hcs hncap htake hgj rfl rfl rfl rfl rfl) (by rw [hgv]; exact byte_set hbcs hbcap hbtake (by omega) rfl) (by show (turn g.d.bs n).length ≤ 512; rw [turn_length]; exact hg512)
          replace S : St _ _ _ ([(p, .cells #[.int .i64 R.n, .slice l1 R.links.length l2, .slice c1 R.cuts.length c2, .slice (some ⟨wb, 0, none⟩) gs.length w2] 64 (0, 0))] ++ (Hl ++ (Hc ++ ([(wb, .cells (setCs cs (j * 4 + 3) [.bool true]) 93 (0, 0))] ++ (gmH (gs.set j (⟨⟨g.d.f, g.d.t, turn g.d.bs n, true⟩, g.v, [(bb, .cells (setCs bcs (n / 8) [u8v (flip (g.d.bs.getD (n / 8) 0) (n % 8))]) 5 (0, 0))]⟩ : Dm))))))) := S.perm (by classical rw [List.perm_iff_count]; intro x; have hpt := hps.count_eq x; simp only [List.count_append, List.count_cons, List.count_nil] at hpt ⊢; omega)
          have hl2 : (gs.set j (⟨⟨g.d.f, g.d.t, turn g.d.bs n, true⟩, g.v, [(bb, .cells (setCs bcs (n / 8) [u8v (flip (g.d.bs.getD (n / 8) 0) (n % 8))]) 5 (0, 0))]⟩ : Dm)).length = gs.length := List.length_set
          exact wp_ret ⟨A.defers, _, res_run (rs := [.tmp 10]) (vs := [.int .i64 0]) rfl ⟨A.get rfl, trivial⟩, ⟨_, _, rfl, ⟨by rw [hR], by rw [hR]; exact ⟨_, _, _, _, _, _, _, hP, rfl⟩⟩, S⟩⟩
end
end Go.Proofs.Ytaeidblipdjgnaa
