/-
  A region that draws its order: behind its first operations (by facts) reads may come up side by side, under guards too; what holds of memory meanwhile may be told anew at each step.
-/
import Derived.Test.YtaeidblipdjgnaaRead
namespace Go.Proofs.Ytaeidblipdjgnaa
open Go.RowKit
section
variable {P : Program} {ops : Array Oper} {Q : Exit → Act → World → Prop}
def wpLS (P : Program) (ops : Array Oper) (Q : Exit → Act → World → Prop) : List (Oper × Bool) → (World → Prop) → Act → World → Prop
  | [], Rk, a, w => Rk w ∧ Q .normal a w
  | (o, pu) :: r, Rk, a, w => ∃ Rk' : World → Prop, (∀ w, Rk' w → Rk w) ∧ Rk' w ∧ bif pu then Region.wanted o (yielded ops a.tmps) = true ∧ ∃ v, (∀ w', Rk' w' → (execOp a.eval o).run P w' = .ok (.value v) w') ∧ wpLS P ops Q r Rk' (a.put o.dst v) w
    else match o.guard with
      | none => OpY P o a.eval w (fun v w' => wpLS P ops Q r Rk (a.put o.dst v) w')
      | some (j, want) => (yielded ops a.tmps j = some want → OpY P o a.eval w (fun v w' => wpLS P ops Q r Rk (a.put o.dst v) w')) ∧ (yielded ops a.tmps j ≠ some want → wpLS P ops Q r Rk (a.put o.dst undef) w)
theorem wpAnyR_weak {Rk Rk' : World → Prop} (h : ∀ w, Rk' w → Rk w) : ∀ {fuel : Nat} {L : Array Bool} {a : Act} {w : World}, wpAnyR P ops Q Rk' fuel L a w → wpAnyR P ops Q Rk fuel L a w
  | 0, _, _, _, k => ⟨h _ k.1, k.2⟩
  | _ + 1, _, _, _, k => ⟨h _ k.1, k.2.1, fun i hi => wpOp_mono (fun _ _ k => wpAnyR_weak h k) (k.2.2 i hi)⟩
theorem wpLS_op {Rk : World → Prop} {o : Oper} {r : List (Oper × Bool)} {i : Nat} (ho : ops[i]? = some o) {a : Act} {w : World} {K : Act → World → Prop} (hK : ∀ a w, wpLS P ops Q r Rk a w → K a w) (h : wpLS P ops Q ((o, false) :: r) Rk a w) : wpOp P ops Q i K a w := by
  unfold wpOp
  simp only [ho]
  unfold wpLS at h
  obtain ⟨Rk', -, -, h⟩ := h
  simp only [cond_false] at h
  cases hg : o.guard with
  | none =>
    rw [hg] at h
    simp only [Region.wanted, hg, if_true]
    exact Or.inl (OpY.wp h (fun v w' h => hK _ _ h))
  | some g =>
    obtain ⟨j, want⟩ := g
    rw [hg] at h
    simp only [Region.wanted, hg]
    by_cases hy : yielded ops a.tmps j = some want
    · rw [if_pos (by simp [hy])]
      exact Or.inl (OpY.wp (h.1 hy) (fun v w' h => hK _ _ h))
    · rw [if_neg (by simp [hy])]
      exact hK _ _ (h.2 hy)
theorem wpAnyS_sig (hQ : ∀ d v c a w, Q (.panic c) (a.put d v) w → Q (.panic c) a w) : ∀ (σ : List (Nat × Bool)) (Rk : World → Prop) (L : Array Bool) (a : Act) (w : World), sigOk ops L σ = true → wpLS P ops Q (pick ops σ) Rk a w → wpAnyR P ops Q Rk σ.length L a w := by
  intro σ
  induction σ with
  | nil =>
    intro Rk L a w hs h
    exact ⟨h.1, by simpa [sigOk] using hs, h.2⟩
  | cons x r ih =>
    intro Rk L a w hs h
    obtain ⟨i, pu⟩ := x
    simp only [sigOk, Bool.and_eq_true] at hs
    obtain ⟨⟨hsome, hrd⟩, hs⟩ := hs
    obtain ⟨o, ho⟩ := Option.isSome_iff_exists.1 hsome
    simp only [pick, ho] at h
    cases pu with
    | true =>
      simp only [if_true, Bool.and_eq_true] at hrd
      obtain ⟨⟨hr, hf⟩, hsel⟩ := hrd
      unfold wpLS at h
      simp only [cond_true] at h
      obtain ⟨Rk', hsub, hR, hg, v, hv, h⟩ := h
      exact wpAnyR_weak hsub (wpAnyR_first ho (Region.noSelect_spec hsel) (hQ o.dst v) _ L a w (fun j oj hj hne hun hno => Region.free_spec ho hf j oj hj hne hun hno) (by simpa using hr) ⟨hg, hv⟩ (ih _ _ _ _ hs h))
    | false =>
      simp only [Bool.false_eq_true, if_false, beq_iff_eq] at hrd
      have hR : Rk w := by unfold wpLS at h; obtain ⟨Rk', hsub, hR, -⟩ := h; exact hsub _ hR
      refine ⟨hR, (fun h0 => by rw [hrd] at h0; simp at h0), fun j hj => ?_⟩
      rw [hrd] at hj
      obtain rfl := List.mem_singleton.1 hj
      exact wpLS_op ho (fun a w h => ih _ _ a w hs h) h
theorem region_drawS {id : Nat} {a0 : Act} {w0 : World} {E : List (Nat × Value)} {sz : Nat} (A0 : Sl sz a0 E) (N : List NOp) (σ : List (Nat × Bool)) (hm : P.follows .mixedOrders = true)
    (hok : (tabOk ops sz (N.map (·.dst)) (N.map (·.src)) (N.map (·.old)) (N.map (·.gd)) (N.map (·.pu)) && sigOk ops (listedTo ops.size N.length) σ && (σ.length + N.length == ops.size)) = true)
    (hQ : ∀ d v c a w, Q (.panic c) (a.put d v) w → Q (.panic c) a w)
    (hops : opsDueR P anyW N a0 w0 ops.toList N)
    (hrest : restN (fun E' H => ∀ a w, Sl sz a (E' ++ outE E (N.map (·.dst))) → Gr w0 w → NewF w0 w H → wpLS P ops Q (pick ops σ) anyW a w) N [] [] []) :
    (Code.region id ops true).wp P Q a0 w0 := by
  simp only [Bool.and_eq_true, beq_iff_eq] at hok
  obtain ⟨⟨htab, hsig⟩, hlen⟩ := hok
  have hk := regOk_of htab
  have hcnt : cnt (Array.replicate ops.size false) N.length = N.length := by
    unfold cnt
    rw [List.filter_eq_self.2, List.length_range]
    intro i hi
    have : i < ops.size := by have := hk.le; have := List.mem_range.1 hi; omega
    simp [Array.getD, this]
  refine wp_region_any hm ?_
  have hr : ops.size - N.length = σ.length := by omega
  have := wpAny_facts (Q := Q) (Rk := anyW) A0 hk hQ (fun _ _ => trivial) hops (by
      rw [hr]
      exact restN_mono (fun E' H h a w h1 h2 h3 => wpAnyS_sig hQ σ _ _ a w hsig (h a w h1 h2 h3)) N [] [] [] hrest)
    N.length _ _ _ _ _ (Jst.start (a0 := a0) (w0 := w0) (w := w0.drew) hk.le (Gr.drew w0)) hcnt
  rw [Nat.sub_add_cancel hk.le] at this
  exact this.to
variable {Rk : World → Prop} {sz d j s : Nat} {E : List (Nat × Value)} {a : Act} {w : World} {o : Oper} {r : List (Oper × Bool)} {want : Bool}
theorem S_op (A : Sl sz a E) (hR : Rk w) (hd : o.dst = some d) (hlt : d < sz) (hg : o.guard = none)
    (h : OpY P o a.eval w (fun v w' => ∀ a', Sl sz a' ((d, v) :: but E d) → wpLS P ops Q r Rk a' w')) : wpLS P ops Q ((o, false) :: r) Rk a w := by
  unfold wpLS
  simp only [cond_false, hg]
  refine ⟨Rk, fun _ h => h, hR, h.mono (fun v w' h => ?_)⟩
  rw [hd]
  exact h _ (A.put d v hlt)
theorem S_yes (A : Sl sz a E) (hR : Rk w) (hd : o.dst = some d) (hlt : d < sz) (hg : o.guard = some (j, want)) (hj : dstOf ops j = some s) (hs : s < sz) (hv : a.eval (.tmp s) = .bool want)
    (h : OpY P o a.eval w (fun v w' => ∀ a', Sl sz a' ((d, v) :: but E d) → wpLS P ops Q r Rk a' w')) : wpLS P ops Q ((o, false) :: r) Rk a w := by
  unfold wpLS
  simp only [cond_false, hg]
  have hy : yielded ops a.tmps j = some want := by rw [yielded_eq hj (by rw [A.size]; exact hs), hv]
  refine ⟨Rk, fun _ h => h, hR, fun _ => h.mono (fun v w' h => ?_), fun hn => absurd hy hn⟩
  rw [hd]
  exact h _ (A.put d v hlt)
theorem S_pure (Rk' : World → Prop) (hsub : ∀ w, Rk' w → Rk w) (hR : Rk' w) (A : Sl sz a E) (hd : o.dst = some d) (hlt : d < sz) (hg : o.guard = none) {v : Value}
    (hv : ∀ w', Rk' w' → (execOp a.eval o).run P w' = .ok (.value v) w') (h : ∀ a', Sl sz a' ((d, v) :: but E d) → wpLS P ops Q r Rk' a' w) : wpLS P ops Q ((o, true) :: r) Rk a w := by
  unfold wpLS
  simp only [cond_true]
  refine ⟨Rk', hsub, hR, by simp [Region.wanted, hg], v, hv, ?_⟩
  rw [hd]; exact h _ (A.put d v hlt)
theorem S_pureG (Rk' : World → Prop) (hsub : ∀ w, Rk' w → Rk w) (hR : Rk' w) (A : Sl sz a E) (hd : o.dst = some d) (hlt : d < sz) (hg : o.guard = some (j, want)) (hj : dstOf ops j = some s) (hs : s < sz) (hw : a.eval (.tmp s) = .bool want) {v : Value}
    (hv : ∀ w', Rk' w' → (execOp a.eval o).run P w' = .ok (.value v) w') (h : ∀ a', Sl sz a' ((d, v) :: but E d) → wpLS P ops Q r Rk' a' w) : wpLS P ops Q ((o, true) :: r) Rk a w := by
  have hy : yielded ops a.tmps j = some want := by rw [yielded_eq hj (by rw [A.size]; exact hs), hw]
  unfold wpLS
  simp only [cond_true]
  refine ⟨Rk', hsub, hR, by simp [Region.wanted, hg, hy], v, hv, ?_⟩
  rw [hd]; exact h _ (A.put d v hlt)
theorem S_end (hR : Rk w) (h : Q .normal a w) : wpLS P ops Q [] Rk a w := ⟨hR, h⟩
end
end Go.Proofs.Ytaeidblipdjgnaa
