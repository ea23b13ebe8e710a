/-
  Maps as lists of entries: what a look-up, a store, a delete, and the two halves of 'm[k] = append(m[k], ..)' do, as run equations, over a key type with the kit's law of keys.
-/
import Derived.WalkKit
import Derived.Below
import Derived.Maps.Own

namespace Go.Proofs.Ytaeidblipdjgnaa
open Go.Maps

/-- the block r of w is a map: the keys 'enc k', the values v, in the order of their making -/
structure MapIs {κ : Type} (P : Program) (K : TypeId) (enc : κ → Value) (o : Obj) (kvs : List (κ × Value)) : Prop where
  ex : ∃ es clock, o = .map es clock ∧ es.toList.map (fun e => (e.key, e.val)) = kvs.map (fun x => (enc x.1, x.2)) ∧
    (es.toList.map (·.born)).Nodup ∧ (∀ e ∈ es.toList, e.born < clock)
  nd : (kvs.map (·.1)).Nodup
  keys : ∀ x ∈ kvs, ∃ l, keyOf P K (enc x.1) = some l

section
variable {κ : Type} [DecidableEq κ]

def look (kvs : List (κ × Value)) (k : κ) : Option Value := (kvs.find? (fun x => decide (x.1 = k))).map (·.2)
def put (kvs : List (κ × Value)) (k : κ) (v : Value) : List (κ × Value) :=
  if kvs.any (fun x => decide (x.1 = k)) then kvs.map (fun x => if x.1 = k then (k, v) else x) else kvs ++ [(k, v)]
def drop (kvs : List (κ × Value)) (k : κ) : List (κ × Value) := kvs.filter (fun x => !decide (x.1 = k))

theorem look_nil (k : κ) : look ([] : List (κ × Value)) k = none := rfl
theorem look_cons (x : κ × Value) (l : List (κ × Value)) (k : κ) : look (x :: l) k = if x.1 = k then some x.2 else look l k := by
  unfold look
  by_cases h : x.1 = k <;> simp [h]

theorem look_none {kvs : List (κ × Value)} {k : κ} (h : ∀ x ∈ kvs, x.1 ≠ k) : look kvs k = none := by
  induction kvs with
  | nil => rfl
  | cons x l ih => rw [look_cons, if_neg (h x (by simp)), ih (fun y hy => h y (by simp [hy]))]

theorem look_none_iff {kvs : List (κ × Value)} {k : κ} : look kvs k = none ↔ ∀ x ∈ kvs, x.1 ≠ k := by
  constructor
  · intro h
    induction kvs with
    | nil => simp
    | cons x l ih =>
      rw [look_cons] at h
      by_cases hx : x.1 = k
      · simp [hx] at h
      · rw [if_neg hx] at h
        intro y hy
        cases List.mem_cons.1 hy with
        | inl e => subst e; exact hx
        | inr e => exact ih h y e
  · exact look_none

theorem look_at {kvs : List (κ × Value)} {k : κ} {j : Nat} {x : κ × Value} (hnd : (kvs.map (·.1)).Nodup) (hj : kvs[j]? = some x) (hx : x.1 = k) : look kvs k = some x.2 := by
  induction kvs generalizing j with
  | nil => simp at hj
  | cons y l ih =>
    rw [look_cons]
    cases j with
    | zero => simp at hj; subst hj; simp [hx]
    | succ j =>
      simp at hj
      have hm : x ∈ l := List.mem_of_getElem? hj
      have hne : y.1 ≠ k := by
        intro e
        simp only [List.map_cons, List.nodup_cons] at hnd
        exact hnd.1 (by rw [e, ← hx]; exact List.mem_map_of_mem hm)
      rw [if_neg hne]
      simp only [List.map_cons, List.nodup_cons] at hnd
      exact ih hnd.2 hj

theorem look_put (kvs : List (κ × Value)) (k k' : κ) (v : Value) : look (put kvs k v) k' = if k' = k then some v else look kvs k' := by
  unfold put
  by_cases ha : kvs.any (fun x => decide (x.1 = k)) = true
  · rw [if_pos ha]
    induction kvs with
    | nil => simp at ha
    | cons x l ih =>
      rw [List.map_cons, look_cons, look_cons]
      by_cases hx : x.1 = k
      · by_cases hk : k' = k
        · subst hk; simp [hx]
        · have hk2 : k ≠ k' := fun e => hk e.symm
          simp only [hx, if_true, if_neg hk, if_neg hk2]
          by_cases hl : l.any (fun x => decide (x.1 = k)) = true
          · have := ih hl; rw [if_neg hk] at this; exact this
          · have : l.map (fun x => if x.1 = k then (k, v) else x) = l := by
              conv => rhs; rw [← List.map_id l]
              apply List.map_congr_left
              intro y hy
              have : ¬ y.1 = k := by
                intro e; apply hl; simp only [List.any_eq_true]; exact ⟨y, hy, by simp [e]⟩
              simp [this]
            rw [this]
      · have hl : l.any (fun x => decide (x.1 = k)) = true := by
          simp only [List.any_cons, Bool.or_eq_true] at ha
          cases ha with
          | inl e => simp at e; exact absurd e hx
          | inr e => exact e
        simp only [if_neg hx]
        by_cases hk : k' = k
        · subst hk
          rw [if_neg hx, ih hl]; simp
        · by_cases hxk : x.1 = k'
          · simp [hxk, hk]
          · rw [if_neg hxk, if_neg hxk, ih hl]
  · rw [if_neg ha]
    have hn : ∀ x ∈ kvs, x.1 ≠ k := by
      intro x hx e; apply ha; simp only [List.any_eq_true]; exact ⟨x, hx, by simp [e]⟩
    induction kvs with
    | nil => simp [look_cons, look_nil, eq_comm]
    | cons x l ih =>
      rw [List.cons_append, look_cons, look_cons]
      have h1 := hn x (by simp)
      have h2 := ih (by simp only [List.any_cons, Bool.or_eq_true] at ha; simp only [Bool.not_eq_true]; exact Bool.eq_false_iff.2 (fun e => ha (Or.inr e))) (fun y hy => hn y (by simp [hy]))
      by_cases hk : k' = k
      · subst hk; rw [if_neg h1, h2]; simp
      · by_cases hxk : x.1 = k'
        · simp [hxk, hk]
        · rw [if_neg hxk, if_neg hxk, h2]

theorem look_drop (kvs : List (κ × Value)) (k k' : κ) : look (drop kvs k) k' = if k' = k then none else look kvs k' := by
  unfold drop
  induction kvs with
  | nil => simp [look_nil]
  | cons x l ih =>
    by_cases hx : x.1 = k
    · have : (fun x : κ × Value => !decide (x.1 = k)) x = false := by simp [hx]
      rw [List.filter_cons_of_neg (by simp [hx]), ih, look_cons]
      by_cases hk : k' = k
      · simp [hk]
      · rw [if_neg hk, if_neg hk, if_neg (by rw [hx]; exact fun e => hk e.symm)]
    · rw [List.filter_cons_of_pos (by simp [hx]), look_cons, look_cons, ih]
      by_cases hk : k' = k
      · subst hk; simp [hx]
      · simp [hk]
end

section
variable {κ : Type} [DecidableEq κ] {P : Program} {K e t : TypeId} {enc : κ → Value} {o : Obj} {kvs : List (κ × Value)} {w : World} {r : Nat}

omit [DecidableEq κ] in
/-- what the kit's law of keys finds, over the list of entries -/
theorem find_is (L : Keyed P K) (hinj : ∀ a b, enc a = enc b → a = b) (w : World) (k : κ) (hk : ∃ l, keyOf P K (enc k) = some l)
    (es : List MapEntry) (he : es.map (fun e => (e.key, e.val)) = kvs.map (fun x => (enc x.1, x.2))) (hks : ∀ x ∈ kvs, ∃ l, keyOf P K (enc x.1) = some l) :
    ((Instr.findKey K (enc k) es).run P w = .ok none w ∧ ∀ x ∈ kvs, x.1 ≠ k) ∨
    ∃ j v en, (Instr.findKey K (enc k) es).run P w = .ok (some (j, v)) w ∧ kvs[j]? = some (k, v) ∧ es[j]? = some en ∧ en.key = enc k ∧ en.val = v := by
  obtain ⟨l, hl⟩ := hk
  have hall : ∀ en ∈ es, ∃ l, keyOf P K en.key = some l := by
    intro en hen
    have : (en.key, en.val) ∈ kvs.map (fun x => (enc x.1, x.2)) := by rw [← he]; exact List.mem_map_of_mem (f := fun e : MapEntry => (e.key, e.val)) hen
    obtain ⟨x, hx, e⟩ := List.mem_map.1 this
    have := hks x hx
    simp only [Prod.mk.injEq] at e
    rwa [e.1] at this
  cases L.find w hl es hall with
  | inl h =>
    refine Or.inl ⟨h.1, fun x hx e => ?_⟩
    have : (enc x.1, x.2) ∈ es.map (fun e => (e.key, e.val)) := by rw [he]; exact List.mem_map_of_mem (f := fun x : κ × Value => (enc x.1, x.2)) hx
    obtain ⟨en, hen, hee⟩ := List.mem_map.1 this
    simp only [Prod.mk.injEq] at hee
    exact h.2 en hen (by rw [hee.1, e])
  | inr h =>
    obtain ⟨j, en, h1, h2, h3⟩ := h
    have hj : (es.map (fun e => (e.key, e.val)))[j]? = some (en.key, en.val) := by simp [h2]
    rw [he] at hj
    simp only [List.getElem?_map, Option.map_eq_some_iff] at hj
    obtain ⟨x, hx, hxe⟩ := hj
    simp only [Prod.mk.injEq] at hxe
    have hxk : x.1 = k := hinj _ _ (by rw [hxe.1, h3])
    refine Or.inr ⟨j, en.val, en, h1, ?_, h2, h3, rfl⟩
    rw [hx]; cases x; simp at hxk hxe ⊢; exact ⟨hxk, hxe.2⟩

/-- a look-up -/
theorem run_look (L : Keyed P K) (hinj : ∀ a b, enc a = enc b → a = b) (ht : P.underlying t = some (.map K e)) {z : Value} (hz : (zeroValue e).run P w = .ok z w)
    (hb : w.heap[r]? = some o) (hm : MapIs P K enc o kvs) (k : κ) (hk : ∃ l, keyOf P K (enc k) = some l) (ok : Bool) :
    (Instr.lookup t (.map (some r)) (enc k) ok).run P w = .ok (if ok then .tuple #[(look kvs k).getD z, .bool (look kvs k).isSome] else (look kvs k).getD z) w := by
  obtain ⟨es, clock, rfl, he, _, _⟩ := hm.ex
  have hg : (getObj r).run P w = .ok (.map es clock) w := by simp [getObj, Sem.run, hb]
  have hc : (Instr.checkKey es.isEmpty 10000 K (enc k)).run P w = .ok () w := by obtain ⟨l, hl⟩ := hk; exact L.check w _ hl
  unfold Instr.lookup
  simp only [Sem.run_bind, run_underlying ht, Result.andThen_ok, hg, Sem.run_pure, hc]
  cases find_is L hinj w k hk es.toList he hm.keys with
  | inl h =>
    simp only [h.1, Result.andThen_ok, Sem.run_bind, hz, Sem.run_pure, look_none h.2]
    cases ok <;> simp
  | inr h =>
    obtain ⟨j, v, en, h1, h2, _⟩ := h
    simp only [h1, Result.andThen_ok, Sem.run_bind, Sem.run_pure, look_at hm.nd h2 rfl]
    cases ok <;> simp
end
end Go.Proofs.Ytaeidblipdjgnaa
