/-
  Maps that are written: a store, a delete, the two halves of 'm[k] = append(m[k], ..)'.
-/
import Derived.Test.YtaeidblipdjgnaaOps
namespace Go.Proofs.Ytaeidblipdjgnaa
open Go.RowKit Go.Maps

theorem eraseIdx_map' {α β : Type} (f : α → β) : ∀ (l : List α) (j : Nat), (l.map f).eraseIdx j = (l.eraseIdx j).map f
  | [], _ => by simp
  | x :: r, 0 => by simp
  | x :: r, j + 1 => by simp [eraseIdx_map' f r j]

section
variable {κ : Type} [DecidableEq κ]

theorem any_iff {kvs : List (κ × Value)} {k : κ} : kvs.any (fun x => decide (x.1 = k)) = true ↔ ∃ x ∈ kvs, x.1 = k := by
  simp [List.any_eq_true]
theorem put_keys (kvs : List (κ × Value)) (k : κ) (v : Value) : (put kvs k v).map (·.1) = if kvs.any (fun x => decide (x.1 = k)) then kvs.map (·.1) else kvs.map (·.1) ++ [k] := by
  unfold put
  split
  · rw [List.map_map]
    apply List.map_congr_left
    intro x _
    simp only [Function.comp]
    split
    · rename_i h; exact h.symm
    · rfl
  · simp
theorem put_nodup {kvs : List (κ × Value)} (h : (kvs.map (·.1)).Nodup) (k : κ) (v : Value) : ((put kvs k v).map (·.1)).Nodup := by
  rw [put_keys]
  split
  · exact h
  · rename_i hn
    rw [List.nodup_append]
    refine ⟨h, by simp, ?_⟩
    intro a ha b hb e
    simp only [List.mem_singleton] at hb
    subst hb; subst e
    obtain ⟨x, hx, rfl⟩ := List.mem_map.1 ha
    exact hn (any_iff.2 ⟨x, hx, rfl⟩)
theorem put_mem {kvs : List (κ × Value)} {k : κ} {v : Value} {x : κ × Value} (h : x ∈ put kvs k v) : x.1 = k ∨ x ∈ kvs := by
  unfold put at h
  split at h
  · obtain ⟨y, hy, rfl⟩ := List.mem_map.1 h
    split
    · exact Or.inl rfl
    · exact Or.inr hy
  · rcases List.mem_append.1 h with h | h
    · exact Or.inr h
    · simp at h; exact Or.inl (by rw [h])
theorem put_put (kvs : List (κ × Value)) (k : κ) (u v : Value) : put (put kvs k u) k v = put kvs k v := by
  have h1 : (put kvs k u).any (fun x => decide (x.1 = k)) = true := by
    rw [any_iff]
    unfold put
    split
    · rename_i h
      obtain ⟨x, hx, hk⟩ := any_iff.1 h
      exact ⟨_, List.mem_map_of_mem hx, by simp [hk]⟩
    · exact ⟨(k, u), by simp, rfl⟩
  have h2 : ∀ l : List (κ × Value), l.any (fun x => decide (x.1 = k)) = true → put l k v = l.map (fun x => if x.1 = k then (k, v) else x) := fun l hl => by unfold put; rw [if_pos hl]
  rw [h2 _ h1]
  unfold put
  split
  · rw [List.map_map]
    apply List.map_congr_left
    intro x _
    simp only [Function.comp]
    by_cases hx : x.1 = k <;> simp [hx]
  · rename_i hn
    have hno : ∀ x ∈ kvs, x.1 ≠ k := fun x hx e => hn (any_iff.2 ⟨x, hx, e⟩)
    rw [List.map_append]
    congr 1
    · conv => rhs; rw [← List.map_id kvs]
      apply List.map_congr_left
      intro x hx
      simp [hno x hx]
    · simp

end

section
variable {κ : Type} [DecidableEq κ] {P : Program} {K e t : TypeId} {enc : κ → Value} {o : Obj} {kvs : List (κ × Value)} {w : World} {r : Nat}

theorem run_getObj {es : Array MapEntry} {clock : Nat} (hb : w.heap[r]? = some (.map es clock)) : (getObj r).run P w = .ok (.map es clock) w := by simp [getObj, Sem.run, hb]
theorem run_setObj {es : Array MapEntry} {clock : Nat} {o' : Obj} (hb : w.heap[r]? = some (.map es clock)) : (setObj r o').run P w = .ok () (setB w r o') := by simp [setObj, Sem.run, hb, setB]

/-- the entry at j is put anew -/
theorem MapIs.modify {es : Array MapEntry} {clock : Nat} {k : κ} {j : Nat} {en : MapEntry} {old : Value} (h : MapIs P K enc (.map es clock) kvs) (hj : es.toList[j]? = some en) (hk : kvs[j]? = some (k, old)) (v : Value) :
    MapIs P K enc (.map (es.modify j fun e => { e with key := enc k, val := v }) clock) (put kvs k v) := by
  obtain ⟨es', clock', ho, he, hb, hc⟩ := h.ex
  cases ho
  have hany : kvs.any (fun x => decide (x.1 = k)) = true := any_iff.2 ⟨(k, old), List.mem_of_getElem? hk, rfl⟩
  have hjs : j < es.size := by have := lt_of_get hj; simpa using this
  have huniq : ∀ i x, kvs[i]? = some x → x.1 = k → i = j := by
    intro i x hx hxk
    have h1 : (kvs.map (·.1))[i]? = some k := by simp [hx, hxk]
    have h2 : (kvs.map (·.1))[j]? = some k := by simp [hk]
    exact (List.getElem?_inj (by have := lt_of_get hx; simpa using this) h.nd).1 (h1.trans h2.symm)
  refine ⟨⟨_, _, rfl, ?_, ?_, ?_⟩, put_nodup h.nd k v, ?_⟩
  · apply List.ext_getElem?
    intro i
    unfold put
    rw [if_pos hany]
    simp only [List.getElem?_map, Array.getElem?_toList, Array.getElem?_modify]
    have hi := congrArg (fun l => l[i]?) he
    simp only [List.getElem?_map, Array.getElem?_toList] at hi
    by_cases hij : j = i
    · subst hij
      rw [if_pos rfl]
      rw [hk] at hi ⊢
      cases hes : es[j]? with
      | none => simp [hes] at hi
      | some e1 => simp
    · rw [if_neg hij]
      cases hkv : kvs[i]? with
      | none => rw [hkv] at hi; simpa using hi
      | some x =>
        rw [hkv] at hi
        have : x.1 ≠ k := fun e => hij (huniq i x hkv e).symm
        simpa [this] using hi
  · have : ((es.modify j fun e => { e with key := enc k, val := v }).toList.map (·.born)) = es.toList.map (·.born) := by
      apply List.ext_getElem?
      intro i
      simp only [List.getElem?_map, Array.getElem?_toList, Array.getElem?_modify]
      split
      · cases es[i]? <;> simp
      · rfl
    rw [this]; exact hb
  · intro e1 he1
    obtain ⟨i, hi⟩ := List.getElem?_of_mem he1
    simp only [Array.getElem?_toList, Array.getElem?_modify] at hi
    split at hi
    · cases hes : es[i]? with
      | none => simp [hes] at hi
      | some e2 =>
        simp [hes] at hi
        subst hi
        exact hc e2 (by have : es.toList[i]? = some e2 := by simpa using hes
                        exact List.mem_of_getElem? this)
    · exact hc e1 (by have : es.toList[i]? = some e1 := by simpa using hi
                      exact List.mem_of_getElem? this)
  · intro x hx
    rcases put_mem hx with h1 | h1
    · rw [h1]; exact h.keys (k, old) (List.mem_of_getElem? hk)
    · exact h.keys x h1

/-- an entry is put behind -/
theorem MapIs.push {es : Array MapEntry} {clock : Nat} {k : κ} (h : MapIs P K enc (.map es clock) kvs) (hno : ∀ x ∈ kvs, x.1 ≠ k) (hk : ∃ l, keyOf P K (enc k) = some l) (v : Value) :
    MapIs P K enc (.map (es.push { key := enc k, val := v, born := clock }) (clock + 1)) (put kvs k v) := by
  obtain ⟨es', clock', ho, he, hb, hc⟩ := h.ex
  cases ho
  have hany : ¬ kvs.any (fun x => decide (x.1 = k)) = true := by
    intro h; obtain ⟨x, hx, e⟩ := any_iff.1 h; exact hno x hx e
  refine ⟨⟨_, _, rfl, ?_, ?_, ?_⟩, put_nodup h.nd k v, ?_⟩
  · unfold put
    rw [if_neg hany]
    simp [he]
  · simp only [Array.toList_push, List.map_append, List.map_cons, List.map_nil]
    rw [List.nodup_append]
    refine ⟨hb, by simp, ?_⟩
    intro a ha b hb' e
    simp only [List.mem_singleton] at hb'
    subst hb'; subst e
    obtain ⟨x, hx, hxe⟩ := List.mem_map.1 ha
    have := hc x hx
    omega
  · intro e1 he1
    simp only [Array.toList_push, List.mem_append, List.mem_singleton] at he1
    rcases he1 with h1 | h1
    · have := hc e1 h1; omega
    · subst h1; simp
  · intro x hx
    rcases put_mem hx with h1 | h1
    · rw [h1]; exact hk
    · exact h.keys x h1

omit [DecidableEq κ] in
theorem run_checkKey (L : Keyed P K) (em : Bool) (k : κ) (hk : ∃ l, keyOf P K (enc k) = some l) : (Instr.checkKey em 10000 K (enc k)).run P w = .ok () w := by
  obtain ⟨l, hl⟩ := hk; exact L.check w _ hl

/-- a store -/
theorem run_put (L : Keyed P K) (hinj : ∀ a b, enc a = enc b → a = b) (ht : P.underlying t = some (.map K e)) (hb : w.heap[r]? = some o) (hm : MapIs P K enc o kvs) (k : κ) (hk : ∃ l, keyOf P K (enc k) = some l) (v : Value) :
    ∃ o', (Instr.mapUpdate t (.map (some r)) (enc k) v).run P w = .ok () (setB w r o') ∧ MapIs P K enc o' (put kvs k v) := by
  obtain ⟨es, clock, rfl, he, _, _⟩ := hm.ex
  unfold Instr.mapUpdate
  simp only [Sem.run_bind, run_underlying ht, Result.andThen_ok, run_getObj hb, run_checkKey L false k hk]
  cases find_is L hinj w k hk es.toList he hm.keys with
  | inl h => exact ⟨_, by simp only [h.1, Result.andThen_ok, run_setObj hb], hm.push h.2 hk v⟩
  | inr h =>
    obtain ⟨j, old, en, h1, h2, h3, h4, h5⟩ := h
    have hst : (Instr.keyThatStays (((es[j]?).map (·.key)).getD (enc k)) (enc k)).run P w = .ok (enc k) w := by
      have : es[j]? = some en := by simpa using h3
      obtain ⟨l, hl⟩ := hk
      rw [this]; simp only [Option.map_some, Option.getD_some, h4]; exact L.stays w hl
    exact ⟨_, by simp only [h1, Result.andThen_ok, Sem.run_bind, hst, run_setObj hb], hm.modify h3 h2 v⟩

/-- the stamp s is that of the key k -/
def Stamp (enc : κ → Value) (o : Obj) (s : Int) (k : κ) : Prop := ∃ (es : Array MapEntry) (clock j : Nat) (en : MapEntry), o = .map es clock ∧ es.toList[j]? = some en ∧ en.key = enc k ∧ (en.born : Int) = s

/-- the first half -/
theorem run_entry (L : Keyed P K) (hinj : ∀ a b, enc a = enc b → a = b) (ht : P.underlying t = some (.map K e)) {z : Value} (hz : (zeroValue e).run P w = .ok z w) (hb : w.heap[r]? = some o) (hm : MapIs P K enc o kvs) (k : κ) (hk : ∃ l, keyOf P K (enc k) = some l) :
    ∃ o' s, (Instr.mapEntry t (.map (some r)) (enc k)).run P w = .ok (.tuple #[(look kvs k).getD z, .int .i64 s]) (setB w r o') ∧ MapIs P K enc o' (put kvs k ((look kvs k).getD z)) ∧ Stamp enc o' s k := by
  obtain ⟨es, clock, rfl, he, _, _⟩ := hm.ex
  unfold Instr.mapEntry
  simp only [Sem.run_bind, run_underlying ht, Result.andThen_ok, run_getObj hb, run_checkKey L false k hk]
  cases find_is L hinj w k hk es.toList he hm.keys with
  | inl h =>
    refine ⟨.map (es.push { key := enc k, val := z, born := clock }) (clock + 1), clock, by simp only [h.1, Result.andThen_ok, Sem.run_bind, hz, run_setObj hb, Sem.run_pure, look_none h.2, Option.getD_none, goInt], ?_, ?_⟩
    · rw [look_none h.2]; exact hm.push h.2 hk z
    · exact ⟨_, _, es.size, { key := enc k, val := z, born := clock }, rfl, by simp, rfl, rfl⟩
  | inr h =>
    obtain ⟨j, old, en, h1, h2, h3, h4, h5⟩ := h
    have hes : es[j]? = some en := by simpa using h3
    have hst : (Instr.keyThatStays en.key (enc k)).run P w = .ok (enc k) w := by
      obtain ⟨l, hl⟩ := hk
      rw [h4]; exact L.stays w hl
    have hlk : look kvs k = some old := look_at hm.nd h2 rfl
    refine ⟨.map (es.modify j fun e => { e with key := enc k, val := old }) clock, en.born, ?_, ?_, ?_⟩
    · have hmod : (es.modify j fun e => { e with key := enc k }) = es.modify j fun e => { e with key := enc k, val := old } := by
        apply Array.ext_getElem?
        intro i
        simp only [Array.getElem?_modify]
        split
        · rename_i hij; subst hij; simp [hes, h5]
        · rfl
      simp only [h1, Result.andThen_ok, Sem.run_bind, hes, Option.map_some, Option.getD_some, hst, run_setObj hb, Sem.run_pure, hlk, goInt, hmod]
    · rw [hlk]; exact hm.modify h3 h2 old
    · refine ⟨_, _, j, { en with key := enc k, val := old }, rfl, ?_, rfl, rfl⟩
      simp [Array.getElem?_modify, hes]

/-- the second half -/
theorem run_entryStore {s : Int} {k : κ} (hb : w.heap[r]? = some o) (hinj : ∀ a b, enc a = enc b → a = b) (hm : MapIs P K enc o kvs) (hs : Stamp enc o s k) (v : Value) :
    ∃ o', (Instr.entryStore t (.map (some r)) (.int .i64 s) v).run P w = .ok () (setB w r o') ∧ MapIs P K enc o' (put kvs k v) := by
  obtain ⟨es, clock, rfl, he, hbn, hc⟩ := hm.ex
  obtain ⟨es', clock', j, en, ho, hj, hkey, hborn⟩ := hs
  cases ho
  have hes : es[j]? = some en := by simpa using hj
  have hjs : j < es.size := (Array.getElem?_eq_some_iff.1 hes).1
  have hidx : es.findIdx? (fun e => (e.born : Int) == s) = some j := by
    rw [Array.findIdx?_eq_some_iff_getElem]
    refine ⟨hjs, ?_, ?_⟩
    · have : es[j] = en := (Array.getElem?_eq_some_iff.1 hes).2
      simp [this, hborn]
    · intro i hi
      have hil : i < es.size := by omega
      simp only [beq_iff_eq]
      intro e
      have h1 : (es.toList.map (·.born))[i]? = some en.born := by
        have : (es[i].born : Int) = (en.born : Int) := by rw [e, hborn]
        have h2 : es[i].born = en.born := by omega
        simp [hil, h2]
      have h2 : (es.toList.map (·.born))[j]? = some en.born := by simp [hes]
      have := (List.getElem?_inj (by simpa using hil) hbn).1 (h1.trans h2.symm)
      omega
  have hkj : ∃ old, kvs[j]? = some (k, old) ∧ en.val = old := by
    have hi := congrArg (fun l => l[j]?) he
    simp only [List.getElem?_map, Array.getElem?_toList, hes, Option.map_some] at hi
    cases hkv : kvs[j]? with
    | none => simp [hkv] at hi
    | some x =>
      simp only [hkv, Option.map_some, Option.some.injEq, Prod.mk.injEq] at hi
      refine ⟨x.2, ?_, hi.2⟩
      have : x.1 = k := hinj _ _ (by rw [← hi.1, hkey])
      cases x; simp at this; rw [this]
  obtain ⟨old, hk2, hval⟩ := hkj
  refine ⟨.map (es.modify j fun e => { e with key := enc k, val := v }) clock, ?_, hm.modify hj hk2 v⟩
  have hmod : (es.modify j fun e => { e with val := v }) = es.modify j fun e => { e with key := enc k, val := v } := by
    apply Array.ext_getElem?
    intro i
    simp only [Array.getElem?_modify]
    split
    · rename_i hij; subst hij; simp [hes, hkey]
    · rfl
  unfold Instr.entryStore
  simp only [Sem.run_bind, run_getObj hb, Result.andThen_ok, asInt, asIntOf, Sem.run_pure, hidx, run_setObj hb, hmod]

/-- a delete -/
theorem run_drop (L : Keyed P K) (hinj : ∀ a b, enc a = enc b → a = b) (ht : P.underlying t = some (.map K e)) (hb : w.heap[r]? = some o) (hm : MapIs P K enc o kvs) (k : κ) (hk : ∃ l, keyOf P K (enc k) = some l) (ty u : TypeId) :
    ∃ o', (Builtin.delete_ #[t, u] ty #[.map (some r), enc k]).run P w = .ok (.tuple #[]) (setB w r o') ∧ MapIs P K enc o' (drop kvs k) := by
  obtain ⟨es, clock, rfl, he, hbn, hc⟩ := hm.ex
  unfold Builtin.delete_
  simp only [List.getElem?_toArray, List.getElem?_cons_zero, List.getElem?_cons_succ, Sem.run_bind, run_underlying ht, Result.andThen_ok, run_getObj hb, run_checkKey L es.isEmpty k hk]
  have hdk : ∀ x ∈ drop kvs k, x ∈ kvs := fun x hx => (List.mem_filter.1 hx).1
  have hdn : ((drop kvs k).map (·.1)).Nodup := by
    unfold drop; exact (List.Sublist.map _ List.filter_sublist).nodup hm.nd
  cases find_is L hinj w k hk es.toList he hm.keys with
  | inl h =>
    have hsame : drop kvs k = kvs := by
      unfold drop; rw [List.filter_eq_self]; intro x hx; simpa using h.2 x hx
    exact ⟨.map es clock, by simp only [h.1, Result.andThen_ok, Sem.run_bind, run_setObj hb, Sem.run_pure], by rw [hsame]; exact hm⟩
  | inr h =>
    obtain ⟨j, old, en, h1, h2, h3, h4, h5⟩ := h
    have hes : es[j]? = some en := by simpa using h3
    have hjs : j < es.size := (Array.getElem?_eq_some_iff.1 hes).1
    refine ⟨.map (es.eraseIdxIfInBounds j) clock, by simp only [h1, Result.andThen_ok, Sem.run_bind, run_setObj hb, Sem.run_pure], ?_⟩
    have hel : (es.eraseIdxIfInBounds j).toList = es.toList.eraseIdx j := by
      simp [Array.eraseIdxIfInBounds, hjs]
    have hdrop : drop kvs k = kvs.eraseIdx j := by
      have key : ∀ (l : List (κ × Value)) (j : Nat), (l.map (·.1)).Nodup → l[j]? = some (k, old) → drop l k = l.eraseIdx j := by
        intro l
        induction l with
        | nil => intro j _ h; simp at h
        | cons x r ih =>
          intro j hnd h
          simp only [List.map_cons, List.nodup_cons] at hnd
          cases j with
          | zero =>
            simp at h; subst h
            unfold drop
            rw [List.filter_cons_of_neg (by simp), List.eraseIdx_cons_zero, List.filter_eq_self]
            intro y hy
            have : y.1 ≠ k := fun e => hnd.1 (by show k ∈ List.map (fun x : κ × Value => x.1) r; rw [← e]; exact List.mem_map_of_mem (f := fun x : κ × Value => x.1) hy)
            simpa using this
          | succ j =>
            simp at h
            have hx : x.1 ≠ k := fun e => hnd.1 (by rw [e]; exact List.mem_map_of_mem (f := fun x : κ × Value => x.1) (List.mem_of_getElem? h))
            have := ih j hnd.2 h
            unfold drop at this ⊢
            rw [List.filter_cons_of_pos (by simpa using hx), this, List.eraseIdx_cons_succ]
      exact key kvs j hm.nd h2
    refine ⟨⟨_, _, rfl, ?_, ?_, ?_⟩, hdn, fun x hx => hm.keys x (hdk x hx)⟩
    · rw [hel, hdrop, ← eraseIdx_map', ← eraseIdx_map', he]
    · rw [hel, ← eraseIdx_map']; exact (List.eraseIdx_sublist _ _).nodup hbn
    · intro e1 he1
      rw [hel] at he1
      exact hc e1 ((List.eraseIdx_sublist _ _).subset he1)
end

section
variable {P : Program} {ρ : Operand → Value} {w w' : World} {Φ : Value → World → Prop} {d : Option Tmp} {ty t u : TypeId} {pos : String} {aft : Array Edge} {gd : Option (Nat × Bool)} {x y z : Operand} {m k v r : Value}
theorem y_mapEntry (hx : ρ x = m) (hy : ρ y = k) (hr : (Instr.mapEntry t m k).run P w = .ok r w') (hΦ : Φ r w') : OpY P ⟨d, .mapEntry t x y, ty, pos, aft, gd⟩ ρ w Φ :=
  .pure (by simp only [execOp, hx, hy, Sem.run_bind, hr, Result.andThen_ok, Sem.run_pure]) hΦ
theorem y_entryStore (hx : ρ x = m) (hy : ρ y = k) (hz : ρ z = v) (hr : (Instr.entryStore t m k v).run P w = .ok () w') (hΦ : Φ undef w') : OpY P ⟨d, .entryStore t x y z, ty, pos, aft, gd⟩ ρ w Φ :=
  .skip (by simp only [execOp, hx, hy, hz, Sem.run_bind, hr, Result.andThen_ok, Sem.run_pure]) hΦ
theorem y_mapUpdate (hx : ρ x = m) (hy : ρ y = k) (hz : ρ z = v) (hr : (Instr.mapUpdate t m k v).run P w = .ok () w') (hΦ : Φ undef w') : OpY P ⟨d, .mapUpdate t x y z, ty, pos, aft, gd⟩ ρ w Φ :=
  .skip (by simp only [execOp, hx, hy, hz, Sem.run_bind, hr, Result.andThen_ok, Sem.run_pure]) hΦ
theorem y_delete (hx : ρ x = m) (hy : ρ y = k) (hr : (Builtin.delete_ #[t, u] ty #[m, k]).run P w = .ok r w') (hΦ : Φ r w') : OpY P ⟨d, .call ⟨.builtin .delete, #[x, y], #[t, u]⟩, ty, pos, aft, gd⟩ ρ w Φ :=
  .pure (by simp only [execOp, resolve, List.map_toArray, List.map, hx, hy, Sem.run_bind, Sem.run_pure, Result.andThen_ok, invoke, builtin, hr]) hΦ
end
/-- fragments: the second part is put ahead of the first -/
theorem St.swap {D : List Nat} {w0 w : World} {A B C : Frag} (s : St D w0 w (A ++ (B ++ C))) : St D w0 w (B ++ (A ++ C)) := s.perm (List.perm_append_comm_assoc A B C)
/-- .. behind L -/
theorem St.swap1 {D : List Nat} {w0 w : World} {L A B C : Frag} (s : St D w0 w (L ++ (A ++ (B ++ C)))) : St D w0 w (L ++ (B ++ (A ++ C))) := s.perm (List.Perm.append_left L (List.perm_append_comm_assoc A B C))
theorem St.last {D : List Nat} {w0 w : World} {L A B : Frag} (s : St D w0 w (L ++ A)) (p : A.Perm B) : St D w0 w (L ++ B) := s.perm (List.Perm.append_left L p)
theorem retW_of_N {P : Program} {f : FuncId} {args : Array Value} {w : World} {H : Frag} {c : Value} {Ψ : Value → Frag → Prop} (h : Calls P f args w (RetN w (eqv c))) (nd : (keys H).Nodup) (hH : Holds w H) (hΨ : Ψ c H) : Calls P f args w (RetW (keys H) w Ψ) :=
  h.mono (by
    rintro e w' ⟨v, rfl, g, _, ⟨rfl, rfl⟩, _⟩
    exact ⟨_, H, rfl, hΨ, (St.start nd hH).gr g⟩)
end Go.Proofs.Ytaeidblipdjgnaa
