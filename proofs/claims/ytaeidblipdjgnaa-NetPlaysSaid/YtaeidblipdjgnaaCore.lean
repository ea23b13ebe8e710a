/-
  The frame of all walks here: memory by fragments; slots by lists; a region that draws its order, by facts.
-/
import Derived.WalkKit
import Derived.Below
namespace Go.Proofs.Ytaeidblipdjgnaa
open Go.RowKit

/-- memory has grown: nothing that was there has turned -/
abbrev Gr (w w' : World) : Prop := Below w.heap.size w w'
theorem Gr.refl (w : World) : Gr w w := Below.refl _ _
theorem Gr.trans {a b c : World} (h : Gr a b) (k : Gr b c) : Gr a c := Below.trans h (k.mono h.size)
theorem Gr.drew (w : World) : Gr w w.drew := (Below.refl _ _).drew

theorem heap_lt {w : World} {b : Nat} {o : Obj} (h : w.heap[b]? = some o) : b < w.heap.size := by
  rcases Nat.lt_or_ge b w.heap.size with h' | h'
  · exact h'
  · simp [Array.getElem?_eq_none h'] at h
theorem cell_lt {w : World} {a : Addr} {v : Value} (h : w.cell? a = some v) : a.block < w.heap.size := by
  rcases Nat.lt_or_ge a.block w.heap.size with h' | h'
  · exact h'
  · simp [World.cell?, Array.getElem?_eq_none h'] at h
theorem Gr.cell' {w w' : World} (h : Gr w w') {a : Addr} {v : Value} (hc : w.cell? a = some v) : w'.cell? a = some v := by
  rw [Below.cell h (cell_lt hc)]; exact hc
theorem Gr.heap' {w w' : World} (h : Gr w w') {b : Nat} {o : Obj} (hc : w.heap[b]? = some o) : w'.heap[b]? = some o := by
  rw [h.block b (heap_lt hc)]; exact hc
theorem Gr.alloc (w : World) (o : Obj) : Gr w (w.alloc o) := (Below.refl _ _).alloc (Nat.le_refl _) _
theorem heap_new (w : World) (o : Obj) : (w.alloc o).heap[w.heap.size]? = some o := (MapKept.heap_alloc w o).1
theorem heap_old (w : World) (o : Obj) (b : Nat) (h : b < w.heap.size) : (w.alloc o).heap[b]? = w.heap[b]? := Below.heap_alloc w o b h
theorem cell_of {w : World} {b : Nat} {c : Array Value} {t : TypeId} {fr : Nat × Nat} (h : w.heap[b]? = some (.cells c t fr)) (i : Nat) : w.cell? ⟨b, i, none⟩ = c[i]? := by
  simp [World.cell?, h]

/-! ### fragments -/
abbrev Frag := List (Nat × Obj)
def keys (H : Frag) : List Nat := H.map (·.1)
def Holds (w : World) (H : Frag) : Prop := ∀ x ∈ H, w.heap[x.1]? = some x.2
theorem Holds.nil (w : World) : Holds w [] := by intro x hx; simp at hx
theorem Holds.gr {w w' : World} {H : Frag} (h : Holds w H) (g : Gr w w') : Holds w' H := fun x hx => g.heap' (h x hx)
theorem Holds.one {w : World} {b : Nat} {o : Obj} {H : Frag} (h : Holds w ((b, o) :: H)) : w.heap[b]? = some o := h (b, o) (by simp)
theorem Holds.tail {w : World} {x : Nat × Obj} {H : Frag} (h : Holds w (x :: H)) : Holds w H := fun y hy => h y (by simp [hy])
theorem Holds.app {w : World} {H K : Frag} : Holds w (H ++ K) ↔ Holds w H ∧ Holds w K := by
  constructor
  · intro h; exact ⟨fun x hx => h x (by simp [hx]), fun x hx => h x (by simp [hx])⟩
  · rintro ⟨h1, h2⟩ x hx
    rcases List.mem_append.1 hx with h | h
    · exact h1 x h
    · exact h2 x h
theorem Holds.lt {w : World} {H : Frag} (h : Holds w H) {b : Nat} (hb : b ∈ keys H) : b < w.heap.size := by
  obtain ⟨x, hx, rfl⟩ := List.mem_map.1 hb
  exact heap_lt (h x hx)

/-- new memory: blocks that were not there in w, as they stand in w' -/
structure NewF (w w' : World) (H : Frag) : Prop where
  nd : (keys H).Nodup
  new : ∀ b ∈ keys H, w.heap.size ≤ b
  holds : Holds w' H
theorem NewF.nil (w w' : World) : NewF w w' [] := ⟨by simp [keys], by simp [keys], Holds.nil _⟩
theorem NewF.alloc (w : World) (o : Obj) : NewF w (w.alloc o) [(w.heap.size, o)] := ⟨by simp [keys], by simp [keys], by intro x hx; simp at hx; subst hx; exact heap_new w o⟩
theorem NewF.gr {w w' w'' : World} {H : Frag} (h : NewF w w' H) (g : Gr w' w'') : NewF w w'' H := ⟨h.nd, h.new, h.holds.gr g⟩
theorem NewF.ahead {w0 w w' : World} {H : Frag} (h : NewF w w' H) (g : Gr w0 w) : NewF w0 w' H := ⟨h.nd, fun b hb => Nat.le_trans g.size (h.new b hb), h.holds⟩
theorem nodup_app {H K : List Nat} (h : H.Nodup) (k : K.Nodup) (d : ∀ b ∈ H, b ∉ K) : (H ++ K).Nodup := by
  rw [List.nodup_append]; exact ⟨h, k, fun a ha b hb e => d a ha (e ▸ hb)⟩
theorem keys_app (H K : Frag) : keys (H ++ K) = keys H ++ keys K := by simp [keys]
/-- first H, then K -/
theorem NewF.app {w w' w'' : World} {H K : Frag} (h : NewF w w' H) (g0 : Gr w w') (k : NewF w' w'' K) (g : Gr w' w'') : NewF w w'' (K ++ H) where
  nd := by
    rw [keys_app]
    exact nodup_app k.nd h.nd (fun b hb hb' => by have := k.new b hb; have := h.holds.lt hb'; omega)
  new := by
    intro b hb
    rw [keys_app] at hb
    rcases List.mem_append.1 hb with e | e
    · exact Nat.le_trans g0.size (k.new b e)
    · exact h.new b e
  holds := Holds.app.2 ⟨k.holds, h.holds.gr g⟩

/-- nothing that was there has turned but the blocks of D -/
structure Kp (D : List Nat) (w0 w : World) : Prop where
  os : w.os = w0.os
  tape : w.tape = w0.tape
  output : w.output = w0.output
  size : w0.heap.size ≤ w.heap.size
  block : ∀ b, b < w0.heap.size → b ∉ D → w.heap[b]? = w0.heap[b]?
theorem Kp.refl (D : List Nat) (w : World) : Kp D w w := ⟨rfl, rfl, rfl, Nat.le_refl _, fun _ _ _ => rfl⟩
theorem Kp.gr {D : List Nat} {w0 w w' : World} (h : Kp D w0 w) (g : Gr w w') : Kp D w0 w' :=
  ⟨g.os.trans h.os, g.tape.trans h.tape, g.output.trans h.output, Nat.le_trans h.size g.size, fun b hb hd => by rw [g.block b (Nat.lt_of_lt_of_le hb h.size)]; exact h.block b hb hd⟩
theorem Kp.of_gr {w0 w : World} (g : Gr w0 w) (D : List Nat) : Kp D w0 w := (Kp.refl D w0).gr g
theorem Kp.to_gr {w0 w : World} (h : Kp [] w0 w) : Gr w0 w := ⟨h.os, h.tape, h.output, h.size, fun b hb => h.block b hb (by simp)⟩
theorem Kp.heap' {D : List Nat} {w0 w : World} (h : Kp D w0 w) {b : Nat} {o : Obj} (hb : w0.heap[b]? = some o) (hd : b ∉ D) : w.heap[b]? = some o := by
  rw [h.block b (heap_lt hb) hd]; exact hb
theorem Kp.cell' {D : List Nat} {w0 w : World} (h : Kp D w0 w) {a : Addr} {v : Value} (hc : w0.cell? a = some v) (hd : a.block ∉ D) : w.cell? a = some v := by
  rw [World.cell?_of_block (w := w0) (h.block a.block (cell_lt hc) hd)]; exact hc
theorem Kp.holds {D : List Nat} {w0 w : World} (h : Kp D w0 w) {H : Frag} (hH : Holds w0 H) (hd : ∀ b ∈ keys H, b ∉ D) : Holds w H :=
  fun x hx => h.heap' (hH x hx) (hd x.1 (List.mem_map_of_mem hx))

/-- block b is put anew -/
def setB (w : World) (b : Nat) (o : Obj) : World := { w with heap := w.heap.setIfInBounds b o }
theorem setB_same {w : World} {b : Nat} (o : Obj) (h : b < w.heap.size) : (setB w b o).heap[b]? = some o := by simp [setB, h]
theorem setB_other {w : World} {b c : Nat} (o : Obj) (h : b ≠ c) : (setB w b o).heap[c]? = w.heap[c]? := by
  simp [setB, Array.getElem?_setIfInBounds_ne h]
theorem setB_size (w : World) (b : Nat) (o : Obj) : (setB w b o).heap.size = w.heap.size := by simp [setB]
theorem setCell_eq {w : World} {b i : Nat} {c : Array Value} {t : TypeId} {fr : Nat × Nat} (h : w.heap[b]? = some (.cells c t fr)) (v : Value) : w.setCell ⟨b, i, none⟩ v = setB w b (.cells (c.setIfInBounds i v) t fr) := by
  unfold World.setCell setB
  congr 1
  apply Array.ext_getElem?
  intro j
  have hb := heap_lt h
  rw [Array.getElem?_modify, Array.getElem?_setIfInBounds]
  by_cases e : b = j
  · subst e
    have hg : w.heap[b] = .cells c t fr := by rw [Array.getElem?_eq_getElem hb] at h; exact Option.some.inj h
    simp [hb, hg]
  · simp [e]

/-- THE STATE OF A WALK: since w0 nothing but D has turned; H is one's own -/
structure St (D : List Nat) (w0 w : World) (H : Frag) : Prop where
  kp : Kp D w0 w
  nd : (keys H).Nodup
  own : ∀ b ∈ keys H, w0.heap.size ≤ b ∨ b ∈ D
  holds : Holds w H
theorem St.start {w : World} {H : Frag} (nd : (keys H).Nodup) (h : Holds w H) : St (keys H) w w H := ⟨Kp.refl _ _, nd, fun _ h => Or.inr h, h⟩
theorem St.none (w : World) : St [] w w [] := ⟨Kp.refl _ _, by simp [keys], by simp [keys], Holds.nil _⟩
theorem St.gr {D : List Nat} {w0 w w' : World} {H : Frag} (s : St D w0 w H) (g : Gr w w') : St D w0 w' H := ⟨s.kp.gr g, s.nd, s.own, s.holds.gr g⟩
theorem St.new {D : List Nat} {w0 w w' : World} {H K : Frag} (s : St D w0 w H) (g : Gr w w') (n : NewF w w' K) : St D w0 w' (K ++ H) where
  kp := s.kp.gr g
  nd := by
    rw [keys_app]
    exact nodup_app n.nd s.nd (fun b hb hb' => by have := n.new b hb; have := s.holds.lt hb'; omega)
  own := by
    intro b hb
    rw [keys_app] at hb
    rcases List.mem_append.1 hb with e | e
    · exact Or.inl (Nat.le_trans s.kp.size (n.new b e))
    · exact s.own b e
  holds := Holds.app.2 ⟨n.holds, s.holds.gr g⟩
theorem St.alloc {D : List Nat} {w0 w : World} {H : Frag} (s : St D w0 w H) (o : Obj) : St D w0 (w.alloc o) ((w.heap.size, o) :: H) := s.new (Gr.alloc w o) (NewF.alloc w o)
theorem St.perm {D : List Nat} {w0 w : World} {H K : Frag} (s : St D w0 w H) (p : H.Perm K) : St D w0 w K :=
  ⟨s.kp, (List.Perm.map (fun x : Nat × Obj => x.1) p).nodup_iff.1 s.nd, fun b hb => s.own b ((List.Perm.map (fun x : Nat × Obj => x.1) p).mem_iff.2 hb), fun x hx => s.holds x (p.mem_iff.2 hx)⟩
theorem St.app_right {D : List Nat} {w0 w : World} {H K : Frag} (s : St D w0 w (H ++ K)) : St D w0 w K :=
  ⟨s.kp, by have := s.nd; rw [keys_app] at this; exact (List.nodup_append.1 this).2.1, fun b hb => s.own b (by rw [keys_app]; exact List.mem_append.2 (Or.inr hb)), (Holds.app.1 s.holds).2⟩
theorem St.app_left {D : List Nat} {w0 w : World} {H K : Frag} (s : St D w0 w (H ++ K)) : St D w0 w H :=
  ⟨s.kp, by have := s.nd; rw [keys_app] at this; exact (List.nodup_append.1 this).1, fun b hb => s.own b (by rw [keys_app]; exact List.mem_append.2 (Or.inl hb)), (Holds.app.1 s.holds).1⟩
/-- the first block is put anew -/
theorem St.set {D : List Nat} {w0 w : World} {b : Nat} {o : Obj} {H : Frag} (s : St D w0 w ((b, o) :: H)) (o' : Obj) : St D w0 (setB w b o') ((b, o') :: H) where
  kp := by
    refine ⟨s.kp.os, s.kp.tape, s.kp.output, by rw [setB_size]; exact s.kp.size, fun c hc hd => ?_⟩
    have hne : b ≠ c := by
      intro e; subst e
      rcases s.own b (by simp [keys]) with h | h
      · omega
      · exact hd h
    rw [setB_other o' hne]; exact s.kp.block c hc hd
  nd := s.nd
  own := s.own
  holds := by
    intro x hx
    rcases List.mem_cons.1 hx with e | e
    · subst e; exact setB_same o' (heap_lt s.holds.one)
    · have hne : b ≠ x.1 := by
        intro e2
        have := s.nd
        simp only [keys, List.map_cons, List.nodup_cons] at this
        exact this.1 (e2 ▸ List.mem_map_of_mem e)
      rw [setB_other o' hne]; exact s.holds.tail x e
/-- a callee has worked on H (D' = keys of H): K is what it leaves of it -/
theorem St.call {D D' : List Nat} {w0 w w' : World} {H R K : Frag} (s : St D w0 w (H ++ R)) (hD : D' = keys H) (t : St D' w w' K) : St D w0 w' (K ++ R) where
  kp := by
    refine ⟨t.kp.os.trans s.kp.os, t.kp.tape.trans s.kp.tape, t.kp.output.trans s.kp.output, Nat.le_trans s.kp.size t.kp.size, fun b hb hd => ?_⟩
    rw [t.kp.block b (Nat.lt_of_lt_of_le hb s.kp.size) ?_]
    · exact s.kp.block b hb hd
    · intro hb'
      rw [hD] at hb'
      rcases s.own b (by rw [keys_app]; exact List.mem_append.2 (Or.inl hb')) with h | h
      · omega
      · exact hd h
  nd := by
    rw [keys_app]
    have h1 := s.app_right
    refine nodup_app t.nd h1.nd (fun b hb hb' => ?_)
    rcases t.own b hb with h | h
    · have := h1.holds.lt hb'; omega
    · rw [hD] at h
      have := s.nd
      rw [keys_app] at this
      exact (List.nodup_append.1 this).2.2 b h b hb' rfl
  own := by
    intro b hb
    rw [keys_app] at hb
    rcases List.mem_append.1 hb with e | e
    · rcases t.own b e with h | h
      · exact Or.inl (Nat.le_trans s.kp.size h)
      · rw [hD] at h; exact s.own b (by rw [keys_app]; exact List.mem_append.2 (Or.inl h))
    · exact s.own b (by rw [keys_app]; exact List.mem_append.2 (Or.inr e))
  holds := Holds.app.2 ⟨t.holds, t.kp.holds s.app_right.holds (fun b hb hb' => by
    rw [hD] at hb'
    have := s.nd
    rw [keys_app] at this
    exact (List.nodup_append.1 this).2.2 b hb' b hb rfl)⟩

/-- what a function that only makes memory leaves -/
def RetN (w : World) (Φ : Value → Frag → Prop) : Ending → World → Prop := fun e w' => ∃ v, e = .returned v ∧ Gr w w' ∧ ∃ H, Φ v H ∧ NewF w w' H
/-- what a function that works on the fragment of D leaves -/
def RetW (D : List Nat) (w : World) (Φ : Value → Frag → Prop) : Ending → World → Prop := fun e w' => ∃ v H, e = .returned v ∧ Φ v H ∧ St D w w' H

/-! ### slots -/
/-- the slots' values, as far as they are known -/
structure Sl (n : Nat) (a : Act) (E : List (Nat × Value)) : Prop where
  size : a.tmps.size = n
  defers : a.defers = []
  at' : ∀ x ∈ E, a.eval (.tmp x.1) = x.2
def slot : List (Nat × Value) → Nat → Option Value
  | [], _ => none
  | (k, v) :: r, s => bif k.beq s then some v else slot r s
theorem slot_mem : ∀ {E : List (Nat × Value)} {s : Nat} {v : Value}, slot E s = some v → (s, v) ∈ E
  | [], _, _, h => by simp [slot] at h
  | (k, u) :: r, s, v, h => by
    unfold slot at h
    cases hk : k.beq s with
    | true => simp only [hk, cond_true, Option.some.injEq] at h; subst h; rw [Nat.eq_of_beq_eq_true hk]; exact List.mem_cons_self
    | false => simp only [hk, cond_false] at h; exact List.mem_cons_of_mem _ (slot_mem h)
theorem Sl.get {n : Nat} {a : Act} {E : List (Nat × Value)} (A : Sl n a E) {s : Nat} {v : Value} (h : slot E s = some v) : a.eval (.tmp s) = v := A.at' _ (slot_mem h)
theorem Sl.g {n : Nat} {a : Act} {E : List (Nat × Value)} (A : Sl n a E) (s : Nat) {v : Value} (h : slot E s = some v) : a.eval (.tmp s) = v := A.get h
def but (E : List (Nat × Value)) (d : Nat) : List (Nat × Value) := E.filter (fun x => x.1 != d)
def Subs (E : List (Nat × Value)) : List (Nat × Value) → Prop
  | [] => True
  | x :: r => slot E x.1 = some x.2 ∧ Subs E r
theorem Sl.keep {n : Nat} {a : Act} {E : List (Nat × Value)} (A : Sl n a E) (E' : List (Nat × Value)) (h : Subs E E') : Sl n a E' := by
  refine ⟨A.size, A.defers, ?_⟩
  induction E' with
  | nil => intro x hx; simp at hx
  | cons y r ih =>
    intro x hx
    rcases List.mem_cons.1 hx with e | e
    · subst e; exact A.get h.1
    · exact ih h.2 x e

theorem evc (a : Act) (v : Value) : a.eval (.const v) = v := rfl
def pickE (E : List (Nat × Value)) : List Nat → List (Nat × Value) → Option (List (Nat × Value))
  | [], acc => some acc
  | s :: r, acc => match slot E s with | some v => pickE E r ((s, v) :: acc) | none => none
theorem pickE_sub {n : Nat} {a : Act} {E : List (Nat × Value)} (A : Sl n a E) : ∀ {l : List Nat} {acc E' : List (Nat × Value)}, pickE E l acc = some E' → (∀ x ∈ acc, a.eval (.tmp x.1) = x.2) → ∀ x ∈ E', a.eval (.tmp x.1) = x.2
  | [], _, _, h, k => by simp only [pickE, Option.some.injEq] at h; subst h; exact k
  | s :: r, acc, E', h, k => by
    unfold pickE at h
    cases hs : slot E s with
    | none => simp [hs] at h
    | some v =>
      simp only [hs] at h
      refine pickE_sub A h fun x hx => ?_
      rcases List.mem_cons.1 hx with e | e
      · subst e; exact A.get hs
      · exact k x e
/-- only these slots are remembered (the greatest first) -/
theorem Sl.only {n : Nat} {a : Act} {E : List (Nat × Value)} (A : Sl n a E) (l : List Nat) {E' : List (Nat × Value)} (h : pickE E l [] = some E') : Sl n a E' := ⟨A.size, A.defers, pickE_sub A h (by simp)⟩
theorem eval_put_same (a : Act) (d : Nat) (v : Value) (h : d < a.tmps.size) : (a.put (some d) v).eval (.tmp d) = v := by
  simp [Act.put, Act.eval, Array.getD, h]
theorem eval_put_other (a : Act) (d s : Nat) (v : Value) (h : d ≠ s) : (a.put (some d) v).eval (.tmp s) = a.eval (.tmp s) := by
  simp only [Act.put, Act.eval, Array.getD_eq_getD_getElem?, Array.getElem?_setIfInBounds, if_neg h]
theorem put_size (a : Act) (d : Option Tmp) (v : Value) : (a.put d v).tmps.size = a.tmps.size := by
  cases d <;> simp [Act.put]
theorem put_defers (a : Act) (d : Option Tmp) (v : Value) : (a.put d v).defers = a.defers := by
  cases d <;> simp [Act.put]
theorem Sl.put {n : Nat} {a : Act} {E : List (Nat × Value)} (A : Sl n a E) (d : Nat) (v : Value) (hd : d < n) : Sl n (a.put (some d) v) ((d, v) :: but E d) := by
  refine ⟨by rw [put_size, A.size], by rw [put_defers, A.defers], ?_⟩
  intro x hx
  rcases List.mem_cons.1 hx with e | e
  · subst e; exact eval_put_same a d v (by rw [A.size]; exact hd)
  · simp only [but, List.mem_filter, bne_iff_ne] at e
    rw [eval_put_other a d x.1 v (fun h => e.2 h.symm)]; exact A.at' x e.1
theorem Sl.putNone {n : Nat} {a : Act} {E : List (Nat × Value)} (A : Sl n a E) (v : Value) : Sl n (a.put none v) E := A

def argsE : List Value → Nat → List (Nat × Value)
  | [], _ => []
  | v :: r, i => (i, v) :: argsE r (i + 1)
theorem argsE_mem : ∀ (vs : List Value) (i : Nat) (x : Nat × Value), x ∈ argsE vs i → i ≤ x.1 ∧ vs[x.1 - i]? = some x.2 := by
  intro vs
  induction vs with
  | nil => intro i x hx; simp [argsE] at hx
  | cons v r ih =>
    intro i x hx
    simp only [argsE, List.mem_cons] at hx
    rcases hx with e | e
    · subst e; simp
    · obtain ⟨h1, h2⟩ := ih (i + 1) x e
      refine ⟨by omega, ?_⟩
      rw [show x.1 - i = (x.1 - (i + 1)) + 1 by omega]; simpa using h2
/-- a call is entered -/
theorem enter {P : Program} {f : FuncId} {fn : Func} {c : Code} {args : List Value} {w : World} {R : Ending → World → Prop}
    (hf : P.funcs[f]? = some fn) (hb : fn.body = some c) {n : Nat} (hn : fn.ntmps = n) (hle : args.length ≤ n)
    (h : ∀ a, Sl n a (argsE args 0) → c.wp P (bodyPost P fn R) a w) : Calls P f args.toArray w R := by
  refine calls_of_wp hf hb (h _ ⟨?_, rfl, ?_⟩)
  · simp; omega
  · intro x hx
    obtain ⟨h1, h2⟩ := argsE_mem args 0 x hx
    simp only [Nat.sub_zero] at h2
    have hlt : x.1 < args.length := by
      rcases Nat.lt_or_ge x.1 args.length with h' | h'
      · exact h'
      · simp [List.getElem?_eq_none h'] at h2
    rw [List.getElem?_eq_getElem hlt] at h2
    simp [Act.eval, Array.getD_eq_getD_getElem?, Array.getElem?_append, hlt, Option.some.inj h2]

end Go.Proofs.Ytaeidblipdjgnaa
