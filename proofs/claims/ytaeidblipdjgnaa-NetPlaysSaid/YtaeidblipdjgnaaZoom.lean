import Derived.Test.YtaeidblipdjgnaaNet
import Derived.Test.YtaeidblipdjgnaaMapw
namespace Go.Proofs.Ytaeidblipdjgnaa
open Go.RowKit Go.Maps Go.WideMaps

def M.setq (m : M) (k : Int × Int) (q : List (List UInt8 × Bool)) : M := { m with q := fun k' => if k' = k then q else m.q k' }
theorem M.setq_same (m : M) (k : Int × Int) (q : List (List UInt8 × Bool)) : (m.setq k q).q k = q := by simp [M.setq]
theorem M.setq_other (m : M) {k k' : Int × Int} (q : List (List UInt8 × Bool)) (h : k' ≠ k) : (m.setq k q).q k' = m.q k' := by simp [M.setq, h]

def ItOk (l : List It) : Prop := ∀ i ∈ l, BRep i.v i.bs i.H ∧ i.bs.length ≤ 512
def EsOk (m : M) (es : List Qe) : Prop := (∀ e ∈ es, e.q ≠ [] ∧ m.q e.k = e.q ∧ QRep e.v e.q e.H) ∧ ∀ k, (∀ e ∈ es, e.k ≠ k) → m.q k = []

theorem itQ_ne {l : List It} (h : l ≠ []) : itQ l ≠ [] := by
  intro e; exact h (by simpa [itQ] using e)

/-- ONE QUEUE IN VIEW: its slice, its datagrams, the rest; what comes of all when another one is put in its place, or none -/
theorem NetP.zoom {m : M} {vo : Value} {Ho : Frag} {ol : Obj} {ls : List ((Int × Int) × Value)} {oq : Obj} {es : List Qe} (h : NetP m vo Ho ol ls oq es) (k : Int × Int) :
    ∃ v0 its HQ H2, (look (qeM es) k).getD (.slice none 0 0) = v0 ∧ SlRep 85 2 v0 its.length (itCells its) HQ ∧ itQ its = m.q k ∧ ItOk its ∧ (qeH es).Perm (HQ ++ (itH its ++ H2)) ∧
      (∀ v' its' HQ', its' ≠ [] → SlRep 85 2 v' its'.length (itCells its') HQ' → ItOk its' → ∃ es', qeM es' = put (qeM es) k v' ∧ EsOk (m.setq k (itQ its')) es' ∧ (qeH es').Perm (HQ' ++ (itH its' ++ H2))) ∧
      ∃ es', qeM es' = drop (qeM es) k ∧ EsOk (m.setq k []) es' ∧ (qeH es').Perm H2 := by
  cases hl : look (qeM es) k with
  | none =>
    have hno := qe_none hl
    have hany : ¬ (qeM es).any (fun x => decide (x.1 = k)) = true := by
      intro h'
      obtain ⟨x, hx, e⟩ := any_iff.1 h'
      obtain ⟨en, hen, rfl⟩ := List.mem_map.1 hx
      exact hno en hen e
    refine ⟨_, [], [], qeH es, rfl, SlRep.nil _ _ _, by simp [itQ, h.non k hno], by intro i hi; simp at hi, by simp [itH], ?_, es, ?_, ⟨?_, ?_⟩, List.Perm.refl _⟩
    · intro v' its' HQ' hne hsl hok
      refine ⟨es ++ [⟨k, v', itQ its', HQ' ++ itH its'⟩], ?_, ⟨?_, ?_⟩, ?_⟩
      · unfold put
        rw [if_neg hany]; simp [qeM]
      · intro e he
        rcases List.mem_append.1 he with he | he
        · obtain ⟨h1, h2, h3⟩ := h.ent e he
          exact ⟨h1, by rw [M.setq_other m _ (hno e he), h2], h3⟩
        · simp at he; subst he
          exact ⟨itQ_ne hne, M.setq_same m k _, its', HQ', rfl, hok, hsl, rfl⟩
      · intro k' hk'
        have h1 : k' ≠ k := fun e => hk' ⟨k, v', itQ its', HQ' ++ itH its'⟩ (by simp) e.symm
        rw [M.setq_other m _ h1]
        exact h.non k' (fun e he => hk' e (by simp [he]))
      · simp only [qeH, List.flatMap_append, List.flatMap_cons, List.flatMap_nil, List.append_nil]
        exact List.perm_append_comm.trans (by rw [List.append_assoc])
    · unfold drop
      rw [List.filter_eq_self.2]
      intro x hx
      obtain ⟨en, hen, rfl⟩ := List.mem_map.1 hx
      simpa using hno en hen
    · intro e he
      obtain ⟨h1, h2, h3⟩ := h.ent e he
      exact ⟨h1, by rw [M.setq_other m _ (hno e he), h2], h3⟩
    · intro k' hk'
      by_cases hkk : k' = k
      · subst hkk; exact M.setq_same m k' []
      · rw [M.setq_other m _ hkk]; exact h.non k' hk'
  | some v =>
    obtain ⟨e, he, rfl, rfl⟩ := qe_look hl
    obtain ⟨h1, h2, its, HQ, hq, hok, hsl, heH⟩ := h.ent e he
    obtain ⟨es1, es2, hes⟩ := List.append_of_mem he
    have hnd : (es.map (·.k)).Nodup := by have := h.qm.nd; simpa [qeM, List.map_map, Function.comp_def] using this
    have hk1 : ∀ x ∈ es1, x.k ≠ e.k := by
      intro x hx hxe
      rw [hes] at hnd
      simp only [List.map_append, List.map_cons] at hnd
      exact (List.nodup_append.1 hnd).2.2 x.k (List.mem_map_of_mem hx) e.k (by simp) hxe
    have hk2 : ∀ x ∈ es2, x.k ≠ e.k := by
      intro x hx hxe
      rw [hes] at hnd
      simp only [List.map_append, List.map_cons] at hnd
      have := (List.nodup_append.1 hnd).2.1
      simp only [List.nodup_cons] at this
      exact this.1 (hxe ▸ List.mem_map_of_mem hx)
    have hany : (qeM es).any (fun x => decide (x.1 = e.k)) = true := any_iff.2 ⟨(e.k, e.v), List.mem_map_of_mem (f := fun e : Qe => (e.k, e.v)) he, rfl⟩
    have hoth : ∀ (q : List (List UInt8 × Bool)) (x : Qe), x ∈ es1 ∨ x ∈ es2 → x.q ≠ [] ∧ (m.setq e.k q).q x.k = x.q ∧ QRep x.v x.q x.H := by
      intro q x hx
      have hxe : x ∈ es := by rw [hes]; rcases hx with hx | hx <;> simp [hx]
      have hne : x.k ≠ e.k := by rcases hx with hx | hx; exact hk1 x hx; exact hk2 x hx
      obtain ⟨g1, g2, g3⟩ := h.ent x hxe
      exact ⟨g1, by rw [M.setq_other m _ hne, g2], g3⟩
    have hid : ∀ (v : Value) (l : List Qe), (∀ x ∈ l, x.k ≠ e.k) → (qeM l).map (fun x => if x.1 = e.k then (e.k, v) else x) = qeM l := by
      intro v l hl
      conv => rhs; rw [← List.map_id (qeM l)]
      apply List.map_congr_left
      intro x hx
      obtain ⟨y, hy, rfl⟩ := List.mem_map.1 hx
      simp [hl y hy]
    refine ⟨e.v, its, HQ, qeH es1 ++ qeH es2, rfl, hsl, by rw [hq, h2], hok, ?_, ?_, es1 ++ es2, ?_, ⟨?_, ?_⟩, by simp [qeH]⟩
    · rw [hes]
      simp only [qeH, List.flatMap_append, List.flatMap_cons, heH]
      refine (List.perm_append_comm_assoc _ _ _).trans ?_
      rw [List.append_assoc]
    · intro v' its' HQ' hne hsl' hok'
      refine ⟨es1 ++ ⟨e.k, v', itQ its', HQ' ++ itH its'⟩ :: es2, ?_, ⟨?_, ?_⟩, ?_⟩
      · unfold put
        rw [if_pos hany, hes]
        have a1 := hid v' es1 hk1
        have a2 := hid v' es2 hk2
        simp only [qeM, List.map_append, List.map_cons] at a1 a2 ⊢
        rw [a1, a2]; simp
      · intro x hx
        rcases List.mem_append.1 hx with hx | hx
        · exact hoth _ x (Or.inl hx)
        · rcases List.mem_cons.1 hx with hx | hx
          · subst hx; exact ⟨itQ_ne hne, M.setq_same m e.k _, its', HQ', rfl, hok', hsl', rfl⟩
          · exact hoth _ x (Or.inr hx)
      · intro k' hk'
        have hkk : k' ≠ e.k := fun e' => hk' ⟨e.k, v', itQ its', HQ' ++ itH its'⟩ (by simp) e'.symm
        rw [M.setq_other m _ hkk]
        refine h.non k' (fun x hx => ?_)
        rw [hes] at hx
        rcases List.mem_append.1 hx with hx | hx
        · exact hk' x (by simp [hx])
        · rcases List.mem_cons.1 hx with hx | hx
          · subst hx; exact fun e' => hkk e'.symm
          · exact hk' x (by simp [hx])
      · simp only [qeH, List.flatMap_append, List.flatMap_cons]
        refine (List.perm_append_comm_assoc _ _ _).trans ?_
        rw [List.append_assoc]
    · unfold drop
      rw [hes]
      have hf : ∀ l : List Qe, (∀ x ∈ l, x.k ≠ e.k) → (qeM l).filter (fun x => !decide (x.1 = e.k)) = qeM l := by
        intro l hl
        rw [List.filter_eq_self]
        intro x hx
        obtain ⟨y, hy, rfl⟩ := List.mem_map.1 hx
        simpa using hl y hy
      have a1 := hf es1 hk1
      have a2 := hf es2 hk2
      simp only [qeM, List.map_append, List.map_cons, List.filter_append] at a1 a2 ⊢
      rw [a1, List.filter_cons_of_neg (by simp), a2]
    · intro x hx
      exact hoth _ x (List.mem_append.1 hx)
    · intro k' hk'
      by_cases hkk : k' = e.k
      · subst hkk; exact M.setq_same m _ []
      · rw [M.setq_other m _ hkk]
        refine h.non k' (fun x hx => ?_)
        rw [hes] at hx
        rcases List.mem_append.1 hx with hx | hx
        · exact hk' x (by simp [hx])
        · rcases List.mem_cons.1 hx with hx | hx
          · subst hx; exact fun e' => hkk e'.symm
          · exact hk' x (by simp [hx])

end Go.Proofs.Ytaeidblipdjgnaa
