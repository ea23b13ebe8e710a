/-
  A region that draws its order: its first operations only read, reckon, and make memory. Each of them is given a fact of what it yields (its value, and the memory that it makes); then in whatever order they come up the facts hold of all of them at the end.
-/
import Derived.Test.YtaeidblipdjgnaaCore
namespace Go.Proofs.Ytaeidblipdjgnaa
open Go.RowKit

/-- an operation yields a value of which Φ holds -/
def OpY (P : Program) (o : Oper) (ρ : Operand → Value) (w : World) (Φ : Value → World → Prop) : Prop :=
  match (execOp ρ o).run P w with
  | .ok (.value v) w' => Φ v w'
  | .ok .skip w' => Φ undef w'
  | .ok (.enter f args) w' => Calls P f args w' fun e w'' => ∃ v, e = .returned v ∧ Φ v w''
  | _ => False

theorem OpY.wp {P : Program} {o : Oper} {a : Act} {w : World} {Φ : Value → World → Prop} {next : Act → World → Prop} {Q : Exit → Act → World → Prop}
    (h : OpY P o a.eval w Φ) (hn : ∀ v w', Φ v w' → next (a.put o.dst v) w') : o.wp P a w next Q := by
  unfold Oper.wp
  unfold OpY at h
  generalize (execOp a.eval o).run P w = r at *
  cases r with
  | ok n w' =>
    cases n <;> simp only [Oper.upon] at h ⊢ <;> first
      | exact hn _ _ h
      | exact h.elim
      | (refine Calls.mono h ?_
         rintro e w'' ⟨v, rfl, hv⟩
         exact hn _ _ hv)
  | halt x w' => exact h.elim

theorem OpY.pure {P : Program} {o : Oper} {ρ : Operand → Value} {w w' : World} {Φ : Value → World → Prop} {v : Value} (h : (execOp ρ o).run P w = .ok (.value v) w') (hv : Φ v w') : OpY P o ρ w Φ := by
  unfold OpY; rw [h]; exact hv
theorem OpY.skip {P : Program} {o : Oper} {ρ : Operand → Value} {w w' : World} {Φ : Value → World → Prop} (h : (execOp ρ o).run P w = .ok .skip w') (hv : Φ undef w') : OpY P o ρ w Φ := by
  unfold OpY; rw [h]; exact hv
theorem OpY.call {P : Program} {o : Oper} {ρ : Operand → Value} {w : World} {Φ : Value → World → Prop} {f : FuncId} {args : Array Value} (h : (execOp ρ o).run P w = .ok (.enter f args) w) (hv : Calls P f args w fun e w' => ∃ v, e = .returned v ∧ Φ v w') : OpY P o ρ w Φ := by
  unfold OpY; rw [h]; exact hv
theorem OpY.mono {P : Program} {o : Oper} {ρ : Operand → Value} {w : World} {Φ Ψ : Value → World → Prop} (h : OpY P o ρ w Φ) (hi : ∀ v w', Φ v w' → Ψ v w') : OpY P o ρ w Ψ := by
  unfold OpY at *
  generalize (execOp ρ o).run P w = r at *
  cases r with
  | ok n w' =>
    cases n <;> simp only at h ⊢ <;> first
      | exact hi _ _ h
      | (refine Calls.mono h ?_
         rintro e w'' ⟨v, rfl, hv⟩
         exact ⟨v, rfl, hi _ _ hv⟩)
  | halt x w' => exact h.elim

def dstOf (ops : Array Oper) (i : Nat) : Option Tmp := (ops[i]?).bind (·.dst)

/-- of one operation: the slot that it writes; the fact of what it yields and of the memory that it makes; whom of the others it waits for (by their places); which elder slots it reads; its guard (the slot, and what it must be); whether it looks at no memory -/
structure NOp where
  dst : Nat
  f : List Value → Value → Frag → Prop
  src : List Nat := []
  old : List Nat := []
  gd : Option (Nat × Bool) := none
  pu : Bool := false

/-- a known value, no memory -/
def eqv (c : Value) : Value → Frag → Prop := fun v H => v = c ∧ H = []
/-- a fact that asks nothing of the others -/
abbrev pl (f : Value → Frag → Prop) : List Value → Value → Frag → Prop := fun _ => f
/-- a slice of a block of its own -/
def sblk (n : Nat) (o : Obj) : Value → Frag → Prop := fun v H => ∃ b, v = .slice (some ⟨b, 0, none⟩) n n ∧ H = [(b, o)]
/-- a block of its own -/
def blk (o : Obj) : Value → Frag → Prop := fun v H => ∃ b, v = .pointer (some ⟨b, 0, none⟩) ∧ H = [(b, o)]

def envN (N : List NOp) (ρ : Operand → Value) (w : World) : List Nat → Prop
  | [] => True
  | j :: r => (match N[j]? with | some n => ∃ l H, n.f l (ρ (.tmp n.dst)) H ∧ Holds w H | none => True) ∧ envN N ρ w r
/-- the values of those that one waits for -/
def srcV (N : List NOp) (ρ : Operand → Value) : List Nat → List Value
  | [] => []
  | j :: r => (match N[j]? with | some n => ρ (.tmp n.dst) | none => undef) :: srcV N ρ r
def envO (a0 : Act) (ρ : Operand → Value) : List Nat → Prop
  | [] => True
  | s :: r => ρ (.tmp s) = a0.eval (.tmp s) ∧ envO a0 ρ r

/-- what an operation may lean on -/
structure Gd (w0 : World) (ρ : Operand → Value) (w : World) : Prop where
  gr : Gr w0 w
  const : ∀ v, ρ (.const v) = v
  func : ∀ f, ρ (.func f) = .func (.func f) #[] #[]
  glob : ∀ g, ρ (.global g) = .pointer (some ⟨g, 0, none⟩)

/-- what an operation must yield -/
abbrev yld (P : Program) (o : Oper) (ρ : Operand → Value) (w : World) (f : Value → Frag → Prop) : Prop := OpY P o ρ w (fun v w' => Gr w w' ∧ ∃ H, f v H ∧ NewF w w' H)
theorem y_eq {w : World} {c : Value} : Gr w w ∧ ∃ H, eqv c c H ∧ NewF w w H := ⟨Gr.refl _, [], ⟨rfl, rfl⟩, NewF.nil _ _⟩
theorem y_eq' {w : World} {c v : Value} (h : v = c) : Gr w w ∧ ∃ H, eqv c v H ∧ NewF w w H := ⟨Gr.refl _, [], ⟨h, rfl⟩, NewF.nil _ _⟩
theorem y_blk {w : World} {o : Obj} : Gr w (w.alloc o) ∧ ∃ H, blk o (.pointer (some ⟨w.heap.size, 0, none⟩)) H ∧ NewF w (w.alloc o) H := ⟨Gr.alloc w o, _, ⟨_, rfl, rfl⟩, NewF.alloc w o⟩

/-- what each must do; Rk: what holds of memory all the time -/
def opDueR (P : Program) (Rk : World → Prop) (N : List NOp) (a0 : Act) (w0 : World) (o : Oper) (n : NOp) : Prop :=
  ∀ ρ w, Gd w0 ρ w → envN N ρ w n.src → envO a0 ρ n.old →
    match n.gd with
    | some (s, want) => ∃ b, ρ (.tmp s) = .bool b ∧ (b = want → yld P o ρ w (n.f (srcV N ρ n.src))) ∧ (b ≠ want → n.f (srcV N ρ n.src) undef [])
    | none => bif n.pu then ∃ v, (∀ w', Rk w' → (execOp ρ o).run P w' = .ok (.value v) w') ∧ n.f (srcV N ρ n.src) v [] else yld P o ρ w (n.f (srcV N ρ n.src))

theorem due_plain {P : Program} {Rk : World → Prop} {N : List NOp} {a0 : Act} {w0 : World} {o : Oper} {dst : Nat} {f : List Value → Value → Frag → Prop} {src old : List Nat} (h : ∀ ρ w, Gd w0 ρ w → envN N ρ w src → envO a0 ρ old → yld P o ρ w (f (srcV N ρ src))) : opDueR P Rk N a0 w0 o ⟨dst, f, src, old, none, false⟩ := h
theorem due_pure {P : Program} {Rk : World → Prop} {N : List NOp} {a0 : Act} {w0 : World} {o : Oper} {dst : Nat} {f : List Value → Value → Frag → Prop} {src old : List Nat} (h : ∀ ρ w, Gd w0 ρ w → envN N ρ w src → envO a0 ρ old → ∃ v, (∀ w', (execOp ρ o).run P w' = .ok (.value v) w') ∧ f (srcV N ρ src) v []) : opDueR P Rk N a0 w0 o ⟨dst, f, src, old, none, true⟩ :=
  fun ρ w g s e => let ⟨v, h1, h2⟩ := h ρ w g s e; ⟨v, fun w' _ => h1 w', h2⟩
theorem due_read {P : Program} {Rk : World → Prop} {N : List NOp} {a0 : Act} {w0 : World} {o : Oper} {dst : Nat} {f : List Value → Value → Frag → Prop} {src old : List Nat} (h : ∀ ρ w, Gd w0 ρ w → envN N ρ w src → envO a0 ρ old → ∃ v, (∀ w', Rk w' → (execOp ρ o).run P w' = .ok (.value v) w') ∧ f (srcV N ρ src) v []) : opDueR P Rk N a0 w0 o ⟨dst, f, src, old, none, true⟩ := h
theorem due_guard {P : Program} {Rk : World → Prop} {N : List NOp} {a0 : Act} {w0 : World} {o : Oper} {dst s : Nat} {want : Bool} {f : List Value → Value → Frag → Prop} {src old : List Nat} (h : ∀ ρ w, Gd w0 ρ w → envN N ρ w src → envO a0 ρ old → ∃ b, ρ (.tmp s) = .bool b ∧ (b = want → yld P o ρ w (f (srcV N ρ src))) ∧ (b ≠ want → f (srcV N ρ src) undef [])) : opDueR P Rk N a0 w0 o ⟨dst, f, src, old, some (s, want), false⟩ := h

def opsDueR (P : Program) (Rk : World → Prop) (N : List NOp) (a0 : Act) (w0 : World) : List Oper → List NOp → Prop
  | o :: os, n :: ns => opDueR P Rk N a0 w0 o n ∧ opsDueR P Rk N a0 w0 os ns
  | _, _ => True
abbrev anyW : World → Prop := fun _ => True

/-- does operation j wait for operation i, through others too? -/
def waits (ops : Array Oper) : Nat → Nat → Nat → Bool
  | 0, _, _ => false
  | f + 1, j, i => match ops[j]? with
    | some o => o.after.any (fun e => Region.binds .any e && e.on == i) || o.after.any (fun e => Region.binds .any e && e.ground != .phase && waits ops f e.on i)
    | none => false

/-- the checks on the region, by the numbers alone: each of the first operations writes a slot of its own; those behind them wait for all of them, but for those that look at no memory -/
def tabOk (ops : Array Oper) (size : Nat) (ds : List Nat) (srcs olds : List (List Nat)) (gds : List (Option (Nat × Bool))) (pus : List Bool) : Bool :=
  let k := ds.length
  let pure (i : Nat) : Bool := (pus[i]?).getD false
  k ≤ ops.size && (!pus.any id || Region.noSelect ops) &&
  (List.range k).all (fun i => match ops[i]? with
    | some o =>
      o.after.all (fun e => !Region.binds .any e || e.on < i) &&
      (match o.dst with | some d => d < size && ds[i]? == some d | none => false) && (List.range i).all (fun j => dstOf ops j != o.dst) &&
      (match o.guard, (gds[i]?).getD none with
        | none, none => true
        | some (j, want), some (s, want') => want == want' && j < k && ds[j]? == some s
        | _, _ => false) &&
      ((srcs[i]?).getD []).all (fun j => j < k && o.after.any fun e => Region.binds .any e && e.on == j) &&
      ((olds[i]?).getD []).all (fun s => !ds.contains s) &&
      (!pure i || ((gds[i]?).getD none).isNone && (List.range ops.size).all fun j => j == i || o.after.any (fun e => Region.binds .any e && e.on == j) || match ops[j]? with
        | some oj => oj.after.any (fun e => Region.binds .any e && e.on == i) || o.apart ops oj
        | none => true)
    | none => false) &&
  (List.range ops.size).all (fun j => j < k ||
    match ops[j]? with
    | some o => (List.range k).all (fun i => pure i || waits ops 20 j i) || o.after.any (fun e => Region.binds .any e && k ≤ e.on && e.on < j)
    | none => false)

structure RegOk (ops : Array Oper) (size : Nat) (N : List NOp) : Prop where
  le : N.length ≤ ops.size
  nosel : (∃ n ∈ N, n.pu = true) → Region.noSelect ops = true
  op : ∀ i n, N[i]? = some n → ∃ o, ops[i]? = some o ∧ o.dst = some n.dst ∧ n.dst < size ∧ (∀ e ∈ o.after, Region.binds .any e = true → e.on < i) ∧
    (match o.guard, n.gd with | none, none => True | some (j, want), some (s, want') => want = want' ∧ ∃ m, N[j]? = some m ∧ m.dst = s | _, _ => False) ∧
    (∀ j ∈ n.src, j < N.length ∧ ∃ e ∈ o.after, Region.binds .any e = true ∧ e.on = j) ∧ (∀ s ∈ n.old, ∀ m ∈ N, m.dst ≠ s) ∧
    (n.pu = true → n.gd = none ∧ ∀ j oj, ops[j]? = some oj → j ≠ i → (∀ e ∈ o.after, Region.binds .any e = true → e.on ≠ j) → (∀ e ∈ oj.after, Region.binds .any e = true → e.on ≠ i) → o.apart ops oj = true)
  distinct : ∀ (i j : Nat) (n m : NOp), N[i]? = some n → N[j]? = some m → i ≠ j → n.dst ≠ m.dst
  suffix : ∀ j o, N.length ≤ j → ops[j]? = some o → (∀ i n, N[i]? = some n → n.pu = false → waits ops 20 j i = true) ∨ ∃ e ∈ o.after, Region.binds .any e = true ∧ N.length ≤ e.on ∧ e.on < j

theorem lt_of_get {α : Type} {l : List α} {i : Nat} {x : α} (h : l[i]? = some x) : i < l.length := by
  rcases Nat.lt_or_ge i l.length with h' | h'
  · exact h'
  · simp [List.getElem?_eq_none h'] at h

theorem regOk_of {ops : Array Oper} {size : Nat} {N : List NOp} (h : tabOk ops size (N.map (·.dst)) (N.map (·.src)) (N.map (·.old)) (N.map (·.gd)) (N.map (·.pu)) = true) : RegOk ops size N := by
  simp only [tabOk, Bool.and_eq_true, decide_eq_true_eq, List.all_eq_true, List.mem_range, List.length_map] at h
  obtain ⟨⟨⟨hle, hsel⟩, h1⟩, h2⟩ := h
  have hop : ∀ i n, N[i]? = some n → ∃ o, ops[i]? = some o ∧ o.dst = some n.dst ∧ n.dst < size ∧ (∀ e ∈ o.after, Region.binds .any e = true → e.on < i) ∧
    (match o.guard, n.gd with | none, none => True | some (j, want), some (s, want') => want = want' ∧ ∃ m, N[j]? = some m ∧ m.dst = s | _, _ => False) ∧
    (∀ j ∈ n.src, j < N.length ∧ ∃ e ∈ o.after, Region.binds .any e = true ∧ e.on = j) ∧ (∀ s ∈ n.old, ∀ m ∈ N, m.dst ≠ s) ∧
    (n.pu = true → n.gd = none ∧ ∀ j oj, ops[j]? = some oj → j ≠ i → (∀ e ∈ o.after, Region.binds .any e = true → e.on ≠ j) → (∀ e ∈ oj.after, Region.binds .any e = true → e.on ≠ i) → o.apart ops oj = true) ∧ ∀ j, j < i → dstOf ops j ≠ o.dst := by
    intro i n hn
    have hi := lt_of_get hn
    have := h1 i hi
    cases ho : ops[i]? with
    | none => simp [ho] at this
    | some o =>
      simp only [ho, Bool.and_eq_true, List.getElem?_map, hn, Option.map_some, Option.getD_some] at this
      obtain ⟨⟨⟨⟨⟨⟨ha, hd⟩, hdist⟩, hg⟩, hsrc⟩, hold⟩, hpu⟩ := this
      refine ⟨o, rfl, ?_, ?_, ?_, ?_, ?_, ?_, ?_, ?_⟩
      · cases hdd : o.dst with
        | none => simp [hdd] at hd
        | some d => simp [hdd] at hd; rw [hd.2]
      · cases hdd : o.dst with
        | none => simp [hdd] at hd
        | some d => simp [hdd] at hd; rw [hd.2]; exact hd.1
      · intro e he hb
        rw [Array.all_eq_true_iff_forall_mem] at ha
        have := ha e he
        simpa [hb] using this
      · cases hgo : o.guard with
        | none => cases hgn : n.gd with
          | none => trivial
          | some g => simp [hgo, hgn] at hg
        | some g =>
          obtain ⟨j, want⟩ := g
          cases hgn : n.gd with
          | none => simp [hgo, hgn] at hg
          | some g =>
            obtain ⟨s, want'⟩ := g
            simp only [hgo, hgn, Bool.and_eq_true, beq_iff_eq, decide_eq_true_eq] at hg
            obtain ⟨⟨e1, hj⟩, e2⟩ := hg
            refine ⟨e1, N[j], List.getElem?_eq_getElem hj, ?_⟩
            simpa [List.getElem?_eq_getElem hj] using e2
      · intro j hj
        rw [List.all_eq_true] at hsrc
        have := hsrc j hj
        simp only [Bool.and_eq_true, decide_eq_true_eq, Array.any_eq_true', beq_iff_eq] at this
        obtain ⟨h3, e, he, h4, h5⟩ := this
        exact ⟨h3, e, he, h4, h5⟩
      · intro s hs m hm e
        rw [List.all_eq_true] at hold
        have := hold s hs
        simp only [Bool.not_eq_true', List.contains_eq_mem, decide_eq_false_iff_not] at this
        exact this (e ▸ List.mem_map_of_mem (f := fun n : NOp => n.dst) hm)
      · intro hp
        simp only [hp, Bool.not_true, Bool.false_or, Bool.and_eq_true, List.all_eq_true, List.mem_range, Option.isNone_iff_eq_none] at hpu
        refine ⟨hpu.1, ?_⟩
        intro j oj hoj hne hnp hno
        have := hpu.2 j (Array.getElem?_eq_some_iff.1 hoj).1
        simp only [hoj, Bool.or_eq_true, beq_iff_eq, hne, false_or] at this
        rcases this with h3 | h3 | h3
        · obtain ⟨e, he, hb⟩ := Array.any_eq_true'.1 h3
          simp only [Bool.and_eq_true, beq_iff_eq] at hb
          exact absurd hb.2 (hnp e he hb.1)
        · obtain ⟨e, he, hb⟩ := Array.any_eq_true'.1 h3
          simp only [Bool.and_eq_true, beq_iff_eq] at hb
          exact absurd hb.2 (hno e he hb.1)
        · exact h3
      · intro j hj
        rw [List.all_eq_true] at hdist
        have := hdist j (List.mem_range.2 hj)
        simpa using this
  refine ⟨hle, ?_, ?_, ?_, ?_⟩
  · rintro ⟨n, hn, hp⟩
    simp only [Bool.or_eq_true, Bool.not_eq_true', List.any_map] at hsel
    rcases hsel with h | h
    · rw [List.any_eq_false] at h
      have := h n hn
      simp [hp] at this
    · exact h
  · intro i n hn
    obtain ⟨o, a, b, c, d, e, f, g, h', _⟩ := hop i n hn
    exact ⟨o, a, b, c, d, e, f, g, h'⟩
  · intro i j n m hn hm hne
    obtain ⟨oi, a, b, _, _, _, _, _, _, g⟩ := hop i n hn
    obtain ⟨oj, a', b', _, _, _, _, _, _, g'⟩ := hop j m hm
    have ei : dstOf ops i = some n.dst := by simp [dstOf, a, b]
    have ej : dstOf ops j = some m.dst := by simp [dstOf, a', b']
    rcases Nat.lt_or_gt_of_ne hne with hlt | hlt
    · intro e; exact g' i hlt (by rw [ei, b', e])
    · intro e; exact g j hlt (by rw [ej, b, e])
  · intro j o hj ho
    have hjn : j < ops.size := (Array.getElem?_eq_some_iff.1 ho).1
    have := h2 j hjn
    simp only [Bool.or_eq_true, decide_eq_true_eq] at this
    rcases this with h | h
    · omega
    · simp only [ho, Bool.or_eq_true, List.all_eq_true, List.mem_range, Array.any_eq_true', Bool.and_eq_true, beq_iff_eq, decide_eq_true_eq] at h
      rcases h with h | h
      · refine Or.inl fun i n hn hp => ?_
        have := h i (lt_of_get hn)
        simpa only [List.getElem?_map, hn, Option.map_some, Option.getD_some, hp, Bool.false_eq_true, false_or] using this
      · obtain ⟨e, he, ⟨h3, h4⟩, h5⟩ := h; exact Or.inr ⟨e, he, h3, h4, h5⟩


def listedTo (n k : Nat) : Array Bool := ((List.range n).map (fun j => decide (j < k))).toArray
theorem listedTo_getD (n k j : Nat) (h : j < n) (d : Bool) : (listedTo n k).getD j d = decide (j < k) := by
  simp [listedTo, Array.getD, h]
def cnt (L : Array Bool) (k : Nat) : Nat := ((List.range k).filter fun i => !L.getD i true).length
theorem filter_set (L : Array Bool) (i : Nat) (l : List Nat) (hnd : l.Nodup) (hi : i ∈ l) (hL : L.getD i true = false) (hs : i < L.size) :
    (l.filter fun j => !(L.setIfInBounds i true).getD j true).length + 1 = (l.filter fun j => !L.getD j true).length := by
  have hself : (L.setIfInBounds i true).getD i true = true := by simp [Array.getD, hs]
  have hoth : ∀ j, j ≠ i → (L.setIfInBounds i true).getD j true = L.getD j true := by
    intro j hj
    simp only [Array.getD_eq_getD_getElem?, Array.getElem?_setIfInBounds, if_neg (fun e => hj (Eq.symm e))]
  induction l with
  | nil => simp at hi
  | cons y r ih =>
    simp only [List.nodup_cons] at hnd
    by_cases hy : y = i
    · subst hy
      have hr : (r.filter fun j => !(L.setIfInBounds y true).getD j true) = (r.filter fun j => !L.getD j true) := by
        apply List.filter_congr
        intro j hj
        rw [hoth j (fun e => hnd.1 (e ▸ hj))]
      rw [List.filter_cons_of_neg (by simp [hself]), List.filter_cons_of_pos (by simp [hL]), hr]
      simp
    · have him : i ∈ r := by
        cases List.mem_cons.1 hi with
        | inl e => exact absurd e.symm hy
        | inr e => exact e
      have := ih hnd.2 him
      by_cases hly : L.getD y true = false
      · rw [List.filter_cons_of_pos (by rw [hoth y hy]; simp [hly]), List.filter_cons_of_pos (by simp [hly])]
        simp only [List.length_cons]; omega
      · rw [List.filter_cons_of_neg (by rw [hoth y hy]; simpa using hly), List.filter_cons_of_neg (by simpa using hly)]
        exact this

def done (L : Array Bool) (i : Nat) : Prop := L.getD i true = true
/-- how far the region has come -/
structure Jst (ops : Array Oper) (N : List NOp) (a0 : Act) (w0 : World) (L : Array Bool) (x : Nat → Value) (Hs : Nat → Frag) (a : Act) (w : World) : Prop where
  size : L.size = ops.size
  later : ∀ j, N.length ≤ j → j < ops.size → L.getD j true = false
  defers : a.defers = a0.defers
  tsize : a.tmps.size = a0.tmps.size
  val : ∀ i n, N[i]? = some n → done L i → a.eval (.tmp n.dst) = x i
  old : ∀ s, (∀ n ∈ N, n.dst ≠ s) → a.eval (.tmp s) = a0.eval (.tmp s)
  gr : Gr w0 w
  facts : ∀ i n, N[i]? = some n → done L i → n.f (n.src.map x) (x i) (Hs i)
  srcs : ∀ i n, N[i]? = some n → done L i → ∀ j ∈ n.src, done L j
  closed : ∀ i o, L.getD i true = true → ops[i]? = some o → ∀ e ∈ o.after, Region.binds .any e = true → L.getD e.on false = true
  new : ∀ i, i < N.length → done L i → NewF w0 w (Hs i)
  disj : ∀ i j, i < N.length → j < N.length → done L i → done L j → i ≠ j → ∀ b ∈ keys (Hs i), b ∉ keys (Hs j)

theorem Jst.start {ops : Array Oper} {N : List NOp} {a0 : Act} {w0 w : World} (hle : N.length ≤ ops.size) (g : Gr w0 w) : Jst ops N a0 w0 (Array.replicate ops.size false) (fun _ => undef) (fun _ => []) a0 w := by
  have no : ∀ i, i < N.length → ¬ done (Array.replicate ops.size false) i := by
    intro i hi h
    have : i < ops.size := by omega
    simp [done, Array.getD, this] at h
  have no2 : ∀ i o, (Array.replicate ops.size false).getD i true = true → ops[i]? = some o → ∀ e ∈ o.after, Region.binds .any e = true → (Array.replicate ops.size false).getD e.on false = true := by
    intro i o h ho
    have : i < ops.size := (Array.getElem?_eq_some_iff.1 ho).1
    simp [Array.getD, this] at h
  exact ⟨by simp, by intro j _ hj; simp [Array.getD, hj], rfl, rfl, fun i n hn h => (no i (lt_of_get hn) h).elim, fun _ _ => rfl, g, fun i n hn h => (no i (lt_of_get hn) h).elim, fun i n hn h => (no i (lt_of_get hn) h).elim, no2, fun i hi h => (no i hi h).elim, fun i _ hi _ h => (no i hi h).elim⟩

/-- the continuation: the facts, one behind the other -/
def restN (K : List (Nat × Value) → Frag → Prop) : List NOp → List Value → List (Nat × Value) → Frag → Prop
  | [], _, E, H => K E H
  | n :: r, vs, E, H => ∀ v Hn, n.f (n.src.map fun j => vs.getD j undef) v Hn → restN K r (vs ++ [v]) ((n.dst, v) :: E) (Hn ++ H)
def revE (x : Nat → Value) : List NOp → Nat → List (Nat × Value) → List (Nat × Value)
  | [], _, E => E
  | n :: r, i, E => revE x r (i + 1) ((n.dst, x i) :: E)
def revH (Hs : Nat → Frag) : List NOp → Nat → Frag → Frag
  | [], _, H => H
  | _ :: r, i, H => revH Hs r (i + 1) (Hs i ++ H)
theorem restN_at {K : List (Nat × Value) → Frag → Prop} {x : Nat → Value} {Hs : Nat → Frag} : ∀ (N : List NOp) (i : Nat) (vs : List Value) (E : List (Nat × Value)) (H : Frag),
    vs = (List.range i).map x → (∀ (j : Nat) (n : NOp), N[j]? = some n → (∀ q ∈ n.src, q < i + j) ∧ n.f (n.src.map x) (x (i + j)) (Hs (i + j))) → restN K N vs E H → K (revE x N i E) (revH Hs N i H)
  | [], _, _, _, _, _, _, h => h
  | n :: r, i, vs, E, H, hvs, hf, h => by
    obtain ⟨hs, hn⟩ := hf 0 n (by simp)
    have hm : (n.src.map fun j => vs.getD j undef) = n.src.map x := by
      apply List.map_congr_left
      intro q hq
      have := hs q hq
      rw [hvs]
      simp [List.getD, List.getElem?_map, List.getElem?_range (show q < i by omega)]
    refine restN_at r (i + 1) _ _ _ (by rw [hvs, List.range_succ, List.map_append]; rfl) (fun j m hm => ?_) (h _ _ (by rw [hm]; exact hn))
    have := hf (j + 1) m (by simpa using hm)
    rwa [show i + (j + 1) = i + 1 + j by omega] at this

theorem restN_mono {K K' : List (Nat × Value) → Frag → Prop} (h : ∀ E H, K E H → K' E H) : ∀ (N : List NOp) (vs : List Value) (E : List (Nat × Value)) (H : Frag), restN K N vs E H → restN K' N vs E H
  | [], _, _, _, hk => h _ _ hk
  | _ :: r, _, _, _, hk => fun v Hn hf => restN_mono h r _ _ _ (hk v Hn hf)

theorem revE_mem (x : Nat → Value) : ∀ (N : List NOp) (i : Nat) (E : List (Nat × Value)) (y : Nat × Value), y ∈ revE x N i E → y ∈ E ∨ ∃ j n, N[j]? = some n ∧ y = (n.dst, x (i + j))
  | [], _, _, _, h => Or.inl h
  | n :: r, i, E, y, h => by
    rcases revE_mem x r (i + 1) _ y h with h1 | ⟨j, m, hm, e⟩
    · rcases List.mem_cons.1 h1 with e | e
      · exact Or.inr ⟨0, n, by simp, e⟩
      · exact Or.inl e
    · exact Or.inr ⟨j + 1, m, by simpa using hm, by rw [e, show i + 1 + j = i + (j + 1) by omega]⟩

theorem revH_new {w0 w : World} (Hs : Nat → Frag) : ∀ (N : List NOp) (i : Nat) (H : Frag), NewF w0 w H → (∀ j, j < N.length → NewF w0 w (Hs (i + j))) →
    (∀ j, j < N.length → ∀ b ∈ keys (Hs (i + j)), b ∉ keys H) → (∀ j k, j < N.length → k < N.length → j ≠ k → ∀ b ∈ keys (Hs (i + j)), b ∉ keys (Hs (i + k))) → NewF w0 w (revH Hs N i H)
  | [], _, _, h, _, _, _ => h
  | n :: r, i, H, h, hn, hd, hdd => by
    refine revH_new Hs r (i + 1) _ ?_ ?_ ?_ ?_
    · have h0 := hn 0 (by simp)
      refine ⟨?_, ?_, Holds.app.2 ⟨h0.holds, h.holds⟩⟩
      · rw [keys_app]; exact nodup_app h0.nd h.nd (hd 0 (by simp))
      · intro b hb
        rw [keys_app] at hb
        rcases List.mem_append.1 hb with e | e
        · exact h0.new b e
        · exact h.new b e
    · intro j hj
      have := hn (j + 1) (by simp; omega)
      rwa [show i + (j + 1) = i + 1 + j by omega] at this
    · intro j hj b hb hb'
      rw [show i + 1 + j = i + (j + 1) by omega] at hb
      rw [keys_app] at hb'
      rcases List.mem_append.1 hb' with e | e
      · exact hdd (j + 1) 0 (by simp; omega) (by simp) (by omega) b hb e
      · exact hd (j + 1) (by simp; omega) b hb e
    · intro j k hj hk hne
      have := hdd (j + 1) (k + 1) (by simp; omega) (by simp; omega) (by omega)
      rwa [show i + (j + 1) = i + 1 + j by omega, show i + (k + 1) = i + 1 + k by omega] at this

def outE (E : List (Nat × Value)) (ds : List Nat) : List (Nat × Value) := E.filter (fun x => !ds.contains x.1)

variable {P : Program} {ops : Array Oper} {Q : Exit → Act → World → Prop}

theorem ready_iff (L : Array Bool) (i : Nat) : i ∈ Region.ready .any ops L ↔ i < ops.size ∧ L.getD i true = false ∧ ∃ o, ops[i]? = some o ∧ ∀ e ∈ o.after, Region.binds .any e = true → L.getD e.on false = true := by
  rw [mem_ready]
  constructor
  · rintro ⟨h1, o, ho, h2⟩; exact ⟨(Array.getElem?_eq_some_iff.1 ho).1, h1, o, ho, h2⟩
  · rintro ⟨_, h1, o, ho, h2⟩; exact ⟨h1, o, ho, h2⟩

theorem getD_bool (L : Array Bool) (i : Nat) (h : i < L.size) : L.getD i true = L.getD i false := by simp [Array.getD, h]

theorem opsDue_at {Rk : World → Prop} {N : List NOp} {a0 : Act} {w0 : World} : ∀ (os : List Oper) (ns : List NOp) (i : Nat) (o : Oper) (n : NOp), opsDueR P Rk N a0 w0 os ns → os[i]? = some o → ns[i]? = some n → opDueR P Rk N a0 w0 o n
  | o' :: os, n' :: ns, 0, o, n, h, ho, hn => by simp at ho hn; subst ho; subst hn; exact h.1
  | o' :: os, n' :: ns, i + 1, o, n, h, ho, hn => by simp at ho hn; exact opsDue_at os ns i o n h.2 ho hn
  | [], _, _, _, _, _, ho, _ => by simp at ho
  | _ :: _, [], _, _, _, _, _, hn => by simp at hn

theorem yielded_eq {a : Act} {j d : Nat} (hd : dstOf ops j = some d) (hs : d < a.tmps.size) : yielded ops a.tmps j = match a.eval (.tmp d) with | .bool b => some b | _ => none := by
  unfold yielded
  unfold dstOf at hd
  rw [hd]
  simp only [Option.bind_some, Act.eval, Array.getD_eq_getD_getElem?, Array.getElem?_eq_getElem hs, Option.getD_some]
  cases a.tmps[d] <;> rfl

/-- whatever order; Rk holds all the time -/
def wpAnyR (P : Program) (ops : Array Oper) (Q : Exit → Act → World → Prop) (Rk : World → Prop) : Nat → Array Bool → Act → World → Prop
  | 0, L, a, w => Rk w ∧ Region.ready .any ops L = [] ∧ Q .normal a w
  | fuel + 1, L, a, w => Rk w ∧ (Region.ready .any ops L = [] → Q .normal a w) ∧ ∀ i ∈ Region.ready .any ops L, wpOp P ops Q i (wpAnyR P ops Q Rk fuel (L.setIfInBounds i true)) a w
theorem wpAnyR.rk {Rk : World → Prop} {fuel : Nat} {L : Array Bool} {a : Act} {w : World} (h : wpAnyR P ops Q Rk fuel L a w) : Rk w := by cases fuel <;> exact h.1
theorem wpAnyR.to {Rk : World → Prop} : ∀ {fuel : Nat} {L : Array Bool} {a : Act} {w : World}, wpAnyR P ops Q Rk fuel L a w → wpAny P .any ops Q fuel L a w
  | 0, _, _, _, h => h.2
  | _ + 1, _, _, _, h => ⟨h.2.1, fun i hi => wpOp_mono (fun _ _ h => wpAnyR.to h) (h.2.2 i hi)⟩
/-- an operation whose value is known as long as Rk holds -/
def YieldsR (P : Program) (ops : Array Oper) (Rk : World → Prop) (o : Oper) (v : Value) (a : Act) : Prop :=
  Region.wanted o (yielded ops a.tmps) = true ∧ ∀ w, Rk w → (execOp a.eval o).run P w = .ok (.value v) w
theorem YieldsR.wpOp {Rk : World → Prop} {i : Nat} {o : Oper} {v : Value} {a : Act} (hi : ops[i]? = some o) (hy : YieldsR P ops Rk o v a) {K : Act → World → Prop} {w : World} (hR : Rk w) (h : K (a.put o.dst v) w) : Go.wpOp P ops Q i K a w := by
  unfold Go.wpOp
  simp only [hi]
  simp only [hy.1, if_true, Oper.wp, hy.2 w hR, Oper.upon]; exact .inl h
/-- an operation ahead of which a value is put: as if it were put behind it -/
theorem wpOp_behind {Y : Act → Prop} {j : Nat} {oi oj : Oper} {v : Value} (hj : ops[j]? = some oj) (hap : oi.apart ops oj = true) (hsj : ∀ cs b, oj.op ≠ .select cs b)
    (keep : ∀ a, Y a → ∀ u, Y (a.put oj.dst u)) (keepD : ∀ a d, Y a → Y { a with defers := d :: a.defers })
    (hQ : ∀ c a w, Q (.panic c) (a.put oi.dst v) w → Q (.panic c) a w) {K : Act → World → Prop} {a : Act} {w : World}
    (hy : Y a) (h : Go.wpOp P ops Q j K (a.put oi.dst v) w) : Go.wpOp P ops Q j (fun a' w' => Y a' ∧ K (a'.put oi.dst v) w') a w := by
  obtain ⟨h1, h2, h3⟩ := Oper.apart_spec hap
  unfold Go.wpOp at *
  simp only [hj] at *
  rw [wanted_put oj a oi.dst v h1] at h
  split
  · rename_i hw
    simp only [hw, if_true] at h
    rcases h with h | ⟨hasks, hlets⟩
    case inr => exact .inr ⟨by unfold Oper.asks at *; rw [execOp_put oj hsj a oi.dst v h1] at hasks; exact hasks, hlets⟩
    refine .inl ?_
    unfold Oper.wp at *
    rw [execOp_put oj hsj a oi.dst v h1] at h
    generalize (execOp a.eval oj).run P w = r at *
    cases r with
    | ok n w' =>
      cases n <;> simp only [Oper.upon] at h ⊢
      case value u => exact ⟨keep a hy u, by rw [← Act.put_comm a v u h2]; exact h⟩
      case skip => exact ⟨keep a hy _, by rw [← Act.put_comm a v undef h2]; exact h⟩
      case defer d =>
        refine ⟨keep _ (keepD a d hy) _, ?_⟩
        rw [← Act.put_comm _ v undef h2, ← Act.put_defers]
        exact h
      case enter f args =>
        refine Calls.mono h fun e w'' he => ?_
        cases e with
        | returned u => exact ⟨keep a hy u, by rw [← Act.put_comm a v u h2]; exact he⟩
        | panicked c => exact hQ _ _ _ he
        | outgrown => exact he
      case row row args => exact Rows.mono h fun u w'' he => ⟨keep a hy u, by rw [← Act.put_comm a v u h2]; exact he⟩
    | halt x w' =>
      cases x <;> simp only [Oper.upon] at h ⊢
      case panic u => exact hQ _ _ _ h
  · rename_i hw
    simp only [hw] at h
    exact ⟨keep a hy _, by rw [← Act.put_comm a v undef h2]; exact h⟩
theorem wpAnyR_first {Rk : World → Prop} {i : Nat} {oi : Oper} {v : Value} (hi : ops[i]? = some oi) (hsel : ∀ (j : Nat) (o : Oper) cs b, ops[j]? = some o → o.op ≠ .select cs b)
    (hQ : ∀ c a w, Q (.panic c) (a.put oi.dst v) w → Q (.panic c) a w) :
    ∀ (fuel : Nat) (L : Array Bool) (a : Act) (w : World),
      (∀ j oj, ops[j]? = some oj → j ≠ i → L.getD j true = false → (∀ e ∈ oj.after, Region.binds .any e = true → e.on ≠ i) → oi.apart ops oj = true) →
      i ∈ Region.ready .any ops L → YieldsR P ops Rk oi v a →
      wpAnyR P ops Q Rk fuel (L.setIfInBounds i true) (a.put oi.dst v) w → wpAnyR P ops Q Rk (fuel + 1) L a w := by
  intro fuel
  induction fuel with
  | zero =>
    intro L a w _ hr hy H
    refine ⟨H.rk, fun h => (by rw [h] at hr; cases hr), fun j hj => ?_⟩
    by_cases hji : j = i
    · subst hji; exact hy.wpOp hi H.rk H
    · have := ready_mono hj hji
      rw [H.2.1] at this
      cases this
  | succ fuel ih =>
    intro L a w hfree hr hy H
    refine ⟨H.rk, fun h => (by rw [h] at hr; cases hr), fun j hj => ?_⟩
    by_cases hji : j = i
    · subst hji; exact hy.wpOp hi H.rk H
    · have h1 := H.2.2 j (ready_mono hj hji)
      obtain ⟨hjun, oj, hoj, hall⟩ := mem_ready.1 hj
      have hnot : ∀ e ∈ oj.after, Region.binds .any e = true → e.on ≠ i := fun e he hb heq => by
        have h1 := hall e he hb
        have h0 := (mem_ready.1 hr).1
        rw [heq] at h1
        rcases Nat.lt_or_ge i L.size with h' | h'
        · simp [h'] at h0 h1; rw [h0] at h1; cases h1
        · simp [Array.getElem?_eq_none h'] at h1
      have hap := hfree j oj hoj hji hjun hnot
      obtain ⟨_, _, h3⟩ := Oper.apart_spec hap
      have h2 := wpOp_behind (Y := YieldsR P ops Rk oi v) hoj hap (fun cs b => hsel j oj cs b hoj)
        (fun a hy u => by unfold YieldsR at *; rw [execOp_put oi (fun cs b => hsel i oi cs b hi) a oj.dst u h3, wanted_put oi a oj.dst u h3]; exact hy) (fun a d hy => hy) hQ hy h1
      have hfree' : ∀ k ok, ops[k]? = some ok → k ≠ i → (L.setIfInBounds j true).getD k true = false →
          (∀ e ∈ ok.after, Region.binds .any e = true → e.on ≠ i) → oi.apart ops ok = true := fun k ok hk hki hun hno => by
        refine hfree k ok hk hki ?_ hno
        by_cases hjk : j = k
        · subst hjk; exact hjun
        · rw [getD_set_ne true hjk] at hun; exact hun
      refine wpOp_mono (fun a' w' h3 => ih (L.setIfInBounds j true) a' w' hfree' (ready_mono hr (Ne.symm hji)) h3.1 ?_) h2
      rw [Array.setIfInBounds_comm _ _ hji]
      exact h3.2

theorem wpAny_facts {Rk : World → Prop} {N : List NOp} {a0 : Act} {w0 : World} {E : List (Nat × Value)} {sz : Nat} (A0 : Sl sz a0 E) (hok : RegOk ops sz N)
    (hQ : ∀ d v c a w, Q (.panic c) (a.put d v) w → Q (.panic c) a w)
    (hRk : ∀ w, Gr w0 w → Rk w)
    (hops : opsDueR P Rk N a0 w0 ops.toList N)
    (hrest : restN (fun E' H => ∀ a w, Sl sz a (E' ++ outE E (N.map (·.dst))) → Gr w0 w → NewF w0 w H → wpAnyR P ops Q Rk (ops.size - N.length) (listedTo ops.size N.length) a w) N [] [] []) :
    ∀ c L x Hs a w, Jst ops N a0 w0 L x Hs a w → cnt L N.length = c → wpAnyR P ops Q Rk (ops.size - N.length + c) L a w := by
  intro c
  induction c with
  | zero =>
    intro L x Hs a w J hc
    have hall : ∀ i, i < N.length → done L i := by
      intro i hi
      have : (List.range N.length).filter (fun i => !L.getD i true) = [] := List.eq_nil_of_length_eq_zero hc
      rw [List.filter_eq_nil_iff] at this
      have := this i (List.mem_range.2 hi)
      simpa [done] using this
    have hL : L = listedTo ops.size N.length := by
      apply Array.ext
      · simp [J.size, listedTo]
      · intro i h1 h2
        have hi : i < ops.size := by rw [← J.size]; exact h1
        have e1 : L.getD i true = L[i] := by simp [Array.getD, h1]
        have e2 := listedTo_getD ops.size N.length i hi true
        have e3 : (listedTo ops.size N.length).getD i true = (listedTo ops.size N.length)[i] := by simp [Array.getD, h2]
        rw [← e1, ← e3, e2]
        by_cases hik : i < N.length
        · have : L.getD i true = true := hall i hik
          simp [this, hik]
        · rw [J.later i (by omega) hi]; simp [hik]
    rw [Nat.add_zero, hL]
    refine restN_at (x := x) (Hs := Hs) N 0 [] [] [] (by simp) (fun j n hn => by
      rw [Nat.zero_add]
      obtain ⟨o, ho, _, _, hord, _, hsrc, _⟩ := hok.op j n hn
      refine ⟨fun q hq => ?_, J.facts j n hn (hall j (lt_of_get hn))⟩
      obtain ⟨_, e, he, hb, hon⟩ := hsrc q hq
      have := hord e he hb; omega) hrest a w ⟨by rw [J.tsize, A0.size], by rw [J.defers, A0.defers], ?_⟩ J.gr ?_
    · intro y hy
      rcases List.mem_append.1 hy with h | h
      · rcases revE_mem x N 0 [] y h with h1 | ⟨j, n, hn, e⟩
        · simp at h1
        · subst e
          rw [Nat.zero_add]; exact J.val j n hn (hall j (lt_of_get hn))
      · simp only [outE, List.mem_filter, Bool.not_eq_true', List.contains_eq_mem, decide_eq_false_iff_not] at h
        rw [J.old y.1 (fun n hn e => h.2 (e ▸ List.mem_map_of_mem (f := fun n : NOp => n.dst) hn))]
        exact A0.at' y h.1
    · refine revH_new Hs N 0 [] (NewF.nil _ _) (fun j hj => by rw [Nat.zero_add]; exact J.new j hj (hall j hj)) (fun j _ b _ => by simp [keys]) (fun j k hj hk hne => ?_)
      rw [Nat.zero_add, Nat.zero_add]; exact J.disj j k hj hk (hall j hj) (hall k hk) hne
  | succ c ih =>
    intro L x Hs a w J hc
    have hle := hok.le
    have hleast : ∃ i, i < N.length ∧ i ∈ Region.ready .any ops L := by
      have hex : ∃ i, i < N.length ∧ L.getD i true = false := by
        have : (List.range N.length).filter (fun i => !L.getD i true) ≠ [] := by
          intro e; unfold cnt at hc; rw [e] at hc; simp at hc
        obtain ⟨i, hi⟩ := List.exists_mem_of_ne_nil _ this
        simp only [List.mem_filter, List.mem_range] at hi
        exact ⟨i, hi.1, by simpa using hi.2⟩
      obtain ⟨i0, h0, h1⟩ := hex
      have key : ∀ m i, i ≤ m → i < N.length → L.getD i true = false → ∃ i, i < N.length ∧ i ∈ Region.ready .any ops L := by
        intro m
        induction m with
        | zero =>
          intro i hin hik hi
          refine ⟨i, hik, ?_⟩
          rw [ready_iff]
          obtain ⟨o, ho, _, _, hord, _⟩ := hok.op i N[i] (List.getElem?_eq_getElem hik)
          refine ⟨by omega, hi, o, ho, fun e' he hb => ?_⟩
          have := hord e' he hb; omega
        | succ m ih =>
          intro i hin hik hi
          obtain ⟨o, ho, _, _, hord, _⟩ := hok.op i N[i] (List.getElem?_eq_getElem hik)
          by_cases hp : ∀ e ∈ o.after, Region.binds .any e = true → L.getD e.on false = true
          · refine ⟨i, hik, ?_⟩
            rw [ready_iff]; exact ⟨by omega, hi, o, ho, hp⟩
          · simp only [Classical.not_forall] at hp
            obtain ⟨e, he, hb, hn⟩ := hp
            have hlt := hord e he hb
            refine ih e.on (by omega) (by omega) ?_
            rw [getD_bool L e.on (by rw [J.size]; omega)]
            simpa using hn
      exact key i0 i0 (Nat.le_refl _) h0 h1
    have hready : Region.ready .any ops L ≠ [] := by
      obtain ⟨i, _, hi⟩ := hleast
      exact List.ne_nil_of_mem hi
    have hdue : ∀ (i : Nat) (n : NOp), N[i]? = some n → ∀ o : Oper, ops[i]? = some o → (∀ e ∈ o.after, Region.binds .any e = true → L.getD e.on false = true) →
        match n.gd with
        | some (s, want) => ∃ b, a.eval (.tmp s) = .bool b ∧ (b = want → yld P o a.eval w (n.f (srcV N a.eval n.src))) ∧ (b ≠ want → n.f (srcV N a.eval n.src) undef [])
        | none => bif n.pu then ∃ v, (∀ w', Rk w' → (execOp a.eval o).run P w' = .ok (.value v) w') ∧ n.f (srcV N a.eval n.src) v [] else yld P o a.eval w (n.f (srcV N a.eval n.src)) := by
      intro i n hn o ho hpre
      obtain ⟨o', ho', _, _, _, _, hsrc, hold, _⟩ := hok.op i n hn
      rw [ho] at ho'; cases ho'
      refine opsDue_at ops.toList N i o n hops (by simpa using ho) hn a.eval w ⟨J.gr, fun _ => rfl, fun _ => rfl, fun _ => rfl⟩ ?_ ?_
      · have : ∀ l : List Nat, (∀ j ∈ l, j < N.length ∧ ∃ e ∈ o.after, Region.binds .any e = true ∧ e.on = j) → envN N a.eval w l := by
          intro l
          induction l with
          | nil => intro _; trivial
          | cons j r ih =>
            intro h
            refine ⟨?_, ih (fun j' hj' => h j' (by simp [hj']))⟩
            obtain ⟨hj, e, he, hb, hon⟩ := h j (by simp)
            rw [List.getElem?_eq_getElem hj]
            have hdj : done L j := by
              unfold done
              rw [getD_bool L j (by rw [J.size]; omega), ← hon]; exact hpre e he hb
            refine ⟨N[j].src.map x, Hs j, ?_, (J.new j hj hdj).holds⟩
            have hv := J.val j N[j] (List.getElem?_eq_getElem hj) hdj
            rw [hv]; exact J.facts j N[j] (List.getElem?_eq_getElem hj) hdj
        exact this _ hsrc
      · have : ∀ l : List Nat, (∀ s ∈ l, ∀ m ∈ N, m.dst ≠ s) → envO a0 a.eval l := by
          intro l
          induction l with
          | nil => intro _; trivial
          | cons s r ih =>
            intro h
            exact ⟨J.old s (h s (by simp)), ih (fun j' hj' => h j' (by simp [hj']))⟩
        exact this _ hold
    have hsv : ∀ (i : Nat) (n : NOp), N[i]? = some n → ∀ o : Oper, ops[i]? = some o → (∀ e ∈ o.after, Region.binds .any e = true → L.getD e.on false = true) → (∀ j ∈ n.src, done L j) ∧ srcV N a.eval n.src = n.src.map x := by
      intro i n hn o ho hpre
      obtain ⟨o', ho', _, _, _, _, hsrc, _⟩ := hok.op i n hn
      rw [ho] at ho'; cases ho'
      have hd : ∀ j ∈ n.src, j < N.length ∧ done L j := by
        intro j hj
        obtain ⟨hjl, e, he, hb, hon⟩ := hsrc j hj
        refine ⟨hjl, ?_⟩
        unfold done
        rw [getD_bool L j (by rw [J.size]; omega), ← hon]; exact hpre e he hb
      refine ⟨fun j hj => (hd j hj).2, ?_⟩
      have : ∀ l : List Nat, (∀ j ∈ l, j < N.length ∧ done L j) → srcV N a.eval l = l.map x := by
        intro l
        induction l with
        | nil => intro _; rfl
        | cons j r ih =>
          intro h
          obtain ⟨hj, hdj⟩ := h j (by simp)
          simp only [srcV, List.map_cons, List.getElem?_eq_getElem hj]
          rw [J.val j N[j] (List.getElem?_eq_getElem hj) hdj, ih (fun j' hj' => h j' (by simp [hj']))]
      exact this _ hd
    have hnext : ∀ (i : Nat) (n : NOp), N[i]? = some n → L.getD i true = false → (∀ o, ops[i]? = some o → ∀ e ∈ o.after, Region.binds .any e = true → L.getD e.on false = true) → (∀ j ∈ n.src, done L j) → ∀ v w' H, n.f (n.src.map x) v H → Gr w w' → NewF w w' H →
        wpAnyR P ops Q Rk (ops.size - N.length + c) (L.setIfInBounds i true) (a.put (some n.dst) v) w' := by
      intro i n hn hiL hcl hsd v w' H hf hgr hnew
      have hik := lt_of_get hn
      have hin : i < ops.size := by omega
      obtain ⟨o, ho, hd, hds, _⟩ := hok.op i n hn
      have hset : ∀ j, j ≠ i → (L.setIfInBounds i true).getD j true = L.getD j true := by
        intro j hj
        simp only [Array.getD_eq_getD_getElem?, Array.getElem?_setIfInBounds, if_neg (fun e => hj (Eq.symm e))]
      have hdn : ∀ j, done (L.setIfInBounds i true) j → j ≠ i → done L j := by
        intro j hj hne; unfold done at *; rwa [hset j hne] at hj
      refine ih (L.setIfInBounds i true) (fun j => if j = i then v else x j) (fun j => if j = i then H else Hs j) _ w' ?_ ?_
      · refine ⟨by simp [J.size], ?_, by rw [put_defers, J.defers], by rw [put_size, J.tsize], ?_, ?_, J.gr.trans hgr, ?_, ?_, ?_, ?_, ?_⟩
        · intro j hj hjn
          rw [hset j (by omega)]; exact J.later j hj hjn
        · intro j m hm hL'
          by_cases hji : j = i
          · subst hji
            rw [hn] at hm; cases hm
            rw [eval_put_same _ _ _ (by rw [J.tsize, A0.size]; exact hds)]; simp
          · rw [eval_put_other _ _ _ _ (hok.distinct i j n m hn hm (fun e => hji e.symm)), J.val j m hm (hdn j hL' hji)]
            simp [hji]
        · intro s hs
          rw [eval_put_other _ _ _ _ (hs n (List.mem_of_getElem? hn))]
          exact J.old s hs
        · intro j m hm hL'
          have hx : ∀ l : List Nat, (∀ q ∈ l, done L q) → (l.map fun q => if q = i then v else x q) = l.map x := by
            intro l hl
            apply List.map_congr_left
            intro q hq
            have : q ≠ i := by
              rintro rfl
              have := hl q hq
              unfold done at this; rw [hiL] at this; simp at this
            simp [this]
          by_cases hji : j = i
          · subst hji; rw [hn] at hm; cases hm
            rw [hx _ hsd]; simpa using hf
          · simp only [if_neg hji]
            rw [hx _ (J.srcs j m hm (hdn j hL' hji))]; exact J.facts j m hm (hdn j hL' hji)
        · intro j m hm hL' q hq
          have hmono : ∀ q, done L q → done (L.setIfInBounds i true) q := by
            intro q h
            unfold done at *
            by_cases hqi : q = i
            · subst hqi; simp [Array.getD, J.size, hin]
            · rwa [hset q hqi]
          by_cases hji : j = i
          · subst hji; rw [hn] at hm; cases hm; exact hmono q (hsd q hq)
          · exact hmono q (J.srcs j m hm (hdn j hL' hji) q hq)
        · intro j oj hL' hoj e he hb
          have hup : ∀ q, L.getD q false = true → (L.setIfInBounds i true).getD q false = true := fun q h => getD_set_true h
          by_cases hji : j = i
          · subst hji; exact hup _ (hcl oj hoj e he hb)
          · rw [hset j hji] at hL'; exact hup _ (J.closed j oj hL' hoj e he hb)
        · intro j hj hL'
          by_cases hji : j = i
          · simp only [hji, if_true]; exact hnew.ahead J.gr
          · simp only [if_neg hji]; exact (J.new j hj (hdn j hL' hji)).gr hgr
        · intro j k hj hk hLj hLk hne b hb hb'
          by_cases hji : j = i
          · have hki : k ≠ i := fun e => hne (hji.trans e.symm)
            simp only [hji, if_true] at hb
            simp only [if_neg hki] at hb'
            have h1 := hnew.new b hb
            have h2 := (J.new k hk (hdn k hLk hki)).holds.lt hb'
            omega
          · simp only [if_neg hji] at hb
            by_cases hki : k = i
            · simp only [hki, if_true] at hb'
              have h1 := hnew.new b hb'
              have h2 := (J.new j hj (hdn j hLj hji)).holds.lt hb
              omega
            · simp only [if_neg hki] at hb'
              exact J.disj j k hj hk (hdn j hLj hji) (hdn k hLk hki) hne b hb hb'
      · have := filter_set L i (List.range N.length) List.nodup_range (List.mem_range.2 hik) hiL (by rw [J.size]; exact hin)
        unfold cnt at hc ⊢
        omega
    rw [← Nat.add_assoc]
    by_cases hpu : ∀ (i : Nat) (n : NOp), N[i]? = some n → L.getD i true = false → n.pu = true
    · obtain ⟨i, hik, hir⟩ := hleast
      have hir' := hir
      rw [ready_iff] at hir
      obtain ⟨hin, hiL, o, ho, hpre⟩ := hir
      have hn := List.getElem?_eq_getElem hik
      have hip := hpu i N[i] hn hiL
      obtain ⟨o', ho', hd, hds, _, hgd, _, _, hfree⟩ := hok.op i N[i] hn
      rw [ho] at ho'; cases ho'
      obtain ⟨hgn, hap⟩ := hfree hip
      have hdu := hdue i N[i] hn o ho hpre
      rw [hgn] at hdu hgd
      simp only [hip, cond_true] at hdu
      obtain ⟨v, hv, hf⟩ := hdu
      obtain ⟨hsd, hse⟩ := hsv i N[i] hn o ho hpre
      rw [hse] at hf
      have hg0 : o.guard = none := by
        cases hg : o.guard with
        | none => rfl
        | some g => obtain ⟨j, want⟩ := g; simp [hg] at hgd
      have hstep := hnext i N[i] hn hiL (fun o' ho'' => by rw [ho] at ho''; cases ho''; exact hpre) hsd v w [] hf (Gr.refl _) (NewF.nil _ _)
      rw [← hd] at hstep
      refine wpAnyR_first ho (Region.noSelect_spec (hok.nosel ⟨N[i], List.getElem_mem hik, hip⟩)) (hQ o.dst v) _ L a w ?_ hir' ⟨by simp [Region.wanted, hg0], hv⟩ hstep
      intro j oj hj hne hun hno
      refine hap j oj hj hne (fun e he hb hon => ?_) hno
      have hl := hpre e he hb
      have hjn : j < L.size := by rw [J.size]; exact (Array.getElem?_eq_some_iff.1 hj).1
      rw [hon, ← getD_bool L j hjn, hun] at hl
      simp at hl
    refine ⟨hRk w J.gr, fun h => absurd h hready, fun i hi => ?_⟩
    rw [ready_iff] at hi
    obtain ⟨hin, hiL, o, ho, hpre⟩ := hi
    have hik : i < N.length := by
      rcases Nat.lt_or_ge i N.length with h | h
      · exact h
      · exfalso
        rcases hok.suffix i o h ho with hs | ⟨e, he, hb, h1, h2⟩
        · simp only [Classical.not_forall] at hpu
          obtain ⟨j, n, hn, hjf, hjp⟩ := hpu
          have hw := hs j n hn (by simpa using hjp)
          have hj := lt_of_get hn
          have key : ∀ f q o, ops[q]? = some o → (∀ e ∈ o.after, Region.binds .any e = true → L.getD e.on false = true) → waits ops f q j = true → L.getD j false = true := by
            intro f
            induction f with
            | zero => intro q o _ _ h; simp [waits] at h
            | succ f ihf =>
              intro q o hq hpr h
              simp only [waits, hq, Bool.or_eq_true, Array.any_eq_true', Bool.and_eq_true, beq_iff_eq] at h
              rcases h with ⟨e, he, hb, hon⟩ | ⟨e, he, ⟨hb, _⟩, hwt⟩
              · rw [← hon]; exact hpr e he hb
              · have hl := hpr e he hb
                cases hoe : ops[e.on]? with
                | none => cases f <;> simp [waits, hoe] at hwt
                | some oe =>
                  have hlt : e.on < L.size := by rw [J.size]; exact (Array.getElem?_eq_some_iff.1 hoe).1
                  exact ihf e.on oe hoe (J.closed e.on oe (by rw [getD_bool L e.on hlt]; exact hl) hoe) hwt
          have := key 20 i o ho hpre hw
          rw [← getD_bool L j (by rw [J.size]; omega), hjf] at this
          simp at this
        · have h3 := hpre e he hb
          rw [← getD_bool L e.on (by rw [J.size]; omega), J.later e.on h1 (by omega)] at h3
          simp at h3
    have hn := List.getElem?_eq_getElem hik
    obtain ⟨o', ho', hd, hds, _, hgd, _, _, _⟩ := hok.op i N[i] hn
    rw [ho] at ho'; cases ho'
    have hdu := hdue i N[i] hn o ho hpre
    obtain ⟨hsd, hse⟩ := hsv i N[i] hn o ho hpre
    rw [hse] at hdu
    have hgo : yld P o a.eval w (N[i].f (N[i].src.map x)) → o.wp P a w (wpAnyR P ops Q Rk (ops.size - N.length + c) (L.setIfInBounds i true)) Q := by
      intro hy
      refine OpY.wp hy ?_
      rintro v w' ⟨hgr, H, hf, hnew⟩
      rw [hd]
      exact hnext i N[i] hn hiL (fun o' ho'' => by rw [ho] at ho''; cases ho''; exact hpre) hsd v w' H hf hgr hnew
    unfold wpOp
    simp only [ho]
    cases hg : o.guard with
    | none =>
      have hgn : N[i].gd = none := by
        cases h : N[i].gd with
        | none => rfl
        | some g => obtain ⟨s, want⟩ := g; rw [hg, h] at hgd; exact hgd.elim
      rw [hgn] at hdu
      simp only [Region.wanted, hg, if_true]
      refine Or.inl (hgo ?_)
      cases hp : N[i].pu with
      | false => simpa [hp] using hdu
      | true =>
        simp only [hp, cond_true] at hdu
        obtain ⟨v, h1, h2⟩ := hdu
        exact OpY.pure (h1 w (hRk w J.gr)) ⟨Gr.refl _, [], h2, NewF.nil _ _⟩
    | some g =>
      obtain ⟨j, want⟩ := g
      cases hgn : N[i].gd with
      | none => rw [hg, hgn] at hgd; exact hgd.elim
      | some g =>
        obtain ⟨s, want'⟩ := g
        rw [hg, hgn] at hgd
        obtain ⟨e1, m, hm, hms⟩ := hgd
        rw [hgn] at hdu
        obtain ⟨b, hb, h1, h2⟩ := hdu
        obtain ⟨oj, hoj, hdj, hdsj, _⟩ := hok.op j m hm
        have hy : yielded ops a.tmps j = some b := by
          rw [yielded_eq (d := m.dst) (by simp [dstOf, hoj, hdj]) (by rw [J.tsize, A0.size]; exact hdsj), hms, hb]
        simp only [Region.wanted, hg, hy]
        by_cases hbw : b = want
        · rw [if_pos (by simp [hbw])]
          exact Or.inl (hgo (h1 (by rw [hbw, e1])))
        · rw [if_neg (by simp [hbw]), hd]
          exact hnext i N[i] hn hiL (fun o' ho'' => by rw [ho] at ho''; cases ho''; exact hpre) hsd undef w [] (h2 (by rw [← e1]; exact hbw)) (Gr.refl _) (NewF.nil _ _)


/-- operations, one behind the other; a mark: it looks at no memory -/
def wpL (P : Program) (ops : Array Oper) (Q : Exit → Act → World → Prop) : List (Oper × Bool) → Act → World → Prop
  | [], a, w => Q .normal a w
  | (o, pu) :: r, a, w => bif pu then o.guard = none ∧ ∃ v, (∀ w', (execOp a.eval o).run P w' = .ok (.value v) w') ∧ wpL P ops Q r (a.put o.dst v) w
    else match o.guard with
      | none => OpY P o a.eval w (fun v w' => wpL P ops Q r (a.put o.dst v) w')
      | some (j, want) => (yielded ops a.tmps j = some want → OpY P o a.eval w (fun v w' => wpL P ops Q r (a.put o.dst v) w')) ∧ (yielded ops a.tmps j ≠ some want → wpL P ops Q r (a.put o.dst undef) w)

def pick (ops : Array Oper) : List (Nat × Bool) → List (Oper × Bool)
  | [] => []
  | (i, pu) :: r => match ops[i]? with
    | some o => (o, pu) :: pick ops r
    | none => pick ops r

def sigOk (ops : Array Oper) : Array Bool → List (Nat × Bool) → Bool
  | L, [] => (Region.ready .any ops L).isEmpty
  | L, (i, pu) :: r => (ops[i]?).isSome && (if pu then (Region.ready .any ops L).contains i && Region.free .any ops L i && Region.noSelect ops else Region.ready .any ops L == [i]) && sigOk ops (L.setIfInBounds i true) r

theorem wpL_op {o : Oper} {pu : Bool} {r : List (Oper × Bool)} {i : Nat} (ho : ops[i]? = some o) {a : Act} {w : World} {K : Act → World → Prop} (hK : ∀ a w, wpL P ops Q r a w → K a w) (h : wpL P ops Q ((o, pu) :: r) a w) : wpOp P ops Q i K a w := by
  unfold wpOp
  simp only [ho]
  unfold wpL at h
  cases pu with
  | true =>
    simp only [cond_true] at h
    obtain ⟨hg, v, hv, h⟩ := h
    simp only [Region.wanted, hg, if_true]
    exact Or.inl (OpY.wp (Φ := fun v w' => wpL P ops Q r (a.put o.dst v) w') (OpY.pure (hv w) h) (fun v w' h => hK _ _ h))
  | false =>
    simp only [cond_false] at h
    cases hg : o.guard with
    | none =>
      rw [hg] at h
      simp only [Region.wanted, hg, if_true]
      exact Or.inl (OpY.wp h (fun v w' h => hK _ _ h))
    | some g =>
      obtain ⟨j, want⟩ := g
      rw [hg] at h
      simp only [Region.wanted, hg]
      by_cases hy : yielded ops a.tmps j = some want
      · rw [if_pos (by simp [hy])]
        exact Or.inl (OpY.wp (h.1 hy) (fun v w' h => hK _ _ h))
      · rw [if_neg (by simp [hy])]
        exact hK _ _ (h.2 hy)

theorem wpAny_sig (hQ : ∀ d v c a w, Q (.panic c) (a.put d v) w → Q (.panic c) a w) : ∀ (σ : List (Nat × Bool)) (L : Array Bool) (a : Act) (w : World), sigOk ops L σ = true → wpL P ops Q (pick ops σ) a w → wpAny P .any ops Q σ.length L a w := by
  intro σ
  induction σ with
  | nil =>
    intro L a w hs h
    exact ⟨by simpa [sigOk] using hs, h⟩
  | cons x r ih =>
    intro L a w hs h
    obtain ⟨i, pu⟩ := x
    simp only [sigOk, Bool.and_eq_true] at hs
    obtain ⟨⟨hsome, hrd⟩, hs⟩ := hs
    obtain ⟨o, ho⟩ := Option.isSome_iff_exists.1 hsome
    simp only [pick, ho] at h
    cases pu with
    | true =>
      simp only [if_true, Bool.and_eq_true] at hrd
      obtain ⟨⟨hr, hf⟩, hsel⟩ := hrd
      unfold wpL at h
      simp only [cond_true] at h
      obtain ⟨hg, v, hv, h⟩ := h
      exact wpAny_take ho hsel hf hr (hQ o.dst v) (Or.inl ⟨by simp [Region.wanted, hg], hv⟩) (ih _ _ _ hs h)
    | false =>
      simp only [Bool.false_eq_true, if_false, beq_iff_eq] at hrd
      refine ⟨(fun h0 => by rw [hrd] at h0; simp at h0), fun j hj => ?_⟩
      rw [hrd] at hj
      obtain rfl := List.mem_singleton.1 hj
      exact wpL_op ho (fun a w h => ih _ a w hs h) h

/-- operations, one behind the other; Rk holds all the time -/
def wpLR (P : Program) (ops : Array Oper) (Q : Exit → Act → World → Prop) (Rk : World → Prop) : List (Oper × Bool) → Act → World → Prop
  | [], a, w => Rk w ∧ Q .normal a w
  | (o, pu) :: r, a, w => Rk w ∧ bif pu then o.guard = none ∧ ∃ v, (∀ w', (execOp a.eval o).run P w' = .ok (.value v) w') ∧ wpLR P ops Q Rk r (a.put o.dst v) w
    else match o.guard with
      | none => OpY P o a.eval w (fun v w' => wpLR P ops Q Rk r (a.put o.dst v) w')
      | some (j, want) => (yielded ops a.tmps j = some want → OpY P o a.eval w (fun v w' => wpLR P ops Q Rk r (a.put o.dst v) w')) ∧ (yielded ops a.tmps j ≠ some want → wpLR P ops Q Rk r (a.put o.dst undef) w)
theorem wpLR.of : ∀ {l : List (Oper × Bool)} {a : Act} {w : World}, wpL P ops Q l a w → wpLR P ops Q anyW l a w
  | [], _, _, h => ⟨trivial, h⟩
  | (o, true) :: r, a, w, h => by
    unfold wpL at h; unfold wpLR
    simp only [cond_true] at h ⊢
    obtain ⟨hg, v, hv, h⟩ := h
    exact ⟨trivial, hg, v, hv, wpLR.of h⟩
  | (o, false) :: r, a, w, h => by
    unfold wpL at h; unfold wpLR
    simp only [cond_false] at h ⊢
    refine ⟨trivial, ?_⟩
    cases hg : o.guard with
    | none => rw [hg] at h; exact h.mono (fun v w' h => wpLR.of h)
    | some g =>
      obtain ⟨j, want⟩ := g
      rw [hg] at h
      exact ⟨fun hy => (h.1 hy).mono (fun v w' h => wpLR.of h), fun hy => wpLR.of (h.2 hy)⟩
theorem wpLR_op {Rk : World → Prop} {o : Oper} {pu : Bool} {r : List (Oper × Bool)} {i : Nat} (ho : ops[i]? = some o) {a : Act} {w : World} {K : Act → World → Prop} (hK : ∀ a w, wpLR P ops Q Rk r a w → K a w) (h : wpLR P ops Q Rk ((o, pu) :: r) a w) : wpOp P ops Q i K a w := by
  unfold wpOp
  simp only [ho]
  unfold wpLR at h
  replace h := h.2
  cases pu with
  | true =>
    simp only [cond_true] at h
    obtain ⟨hg, v, hv, h⟩ := h
    simp only [Region.wanted, hg, if_true]
    exact Or.inl (OpY.wp (Φ := fun v w' => wpLR P ops Q Rk r (a.put o.dst v) w') (OpY.pure (hv w) h) (fun v w' h => hK _ _ h))
  | false =>
    simp only [cond_false] at h
    cases hg : o.guard with
    | none =>
      rw [hg] at h
      simp only [Region.wanted, hg, if_true]
      exact Or.inl (OpY.wp h (fun v w' h => hK _ _ h))
    | some g =>
      obtain ⟨j, want⟩ := g
      rw [hg] at h
      simp only [Region.wanted, hg]
      by_cases hy : yielded ops a.tmps j = some want
      · rw [if_pos (by simp [hy])]
        exact Or.inl (OpY.wp (h.1 hy) (fun v w' h => hK _ _ h))
      · rw [if_neg (by simp [hy])]
        exact hK _ _ (h.2 hy)
theorem wpAnyR_sig {Rk : World → Prop} (hQ : ∀ d v c a w, Q (.panic c) (a.put d v) w → Q (.panic c) a w) : ∀ (σ : List (Nat × Bool)) (L : Array Bool) (a : Act) (w : World), sigOk ops L σ = true → wpLR P ops Q Rk (pick ops σ) a w → wpAnyR P ops Q Rk σ.length L a w := by
  intro σ
  induction σ with
  | nil =>
    intro L a w hs h
    exact ⟨h.1, by simpa [sigOk] using hs, h.2⟩
  | cons x r ih =>
    intro L a w hs h
    obtain ⟨i, pu⟩ := x
    simp only [sigOk, Bool.and_eq_true] at hs
    obtain ⟨⟨hsome, hrd⟩, hs⟩ := hs
    obtain ⟨o, ho⟩ := Option.isSome_iff_exists.1 hsome
    simp only [pick, ho] at h
    cases pu with
    | true =>
      simp only [if_true, Bool.and_eq_true] at hrd
      obtain ⟨⟨hr, hf⟩, hsel⟩ := hrd
      unfold wpLR at h
      simp only [cond_true] at h
      obtain ⟨hR, hg, v, hv, h⟩ := h
      exact wpAnyR_first ho (Region.noSelect_spec hsel) (hQ o.dst v) _ L a w (fun j oj hj hne hun hno => Region.free_spec ho hf j oj hj hne hun hno) (by simpa using hr) ⟨by simp [Region.wanted, hg], fun w' _ => hv w'⟩ (ih _ _ _ hs h)
    | false =>
      simp only [Bool.false_eq_true, if_false, beq_iff_eq] at hrd
      have hR : Rk w := by unfold wpLR at h; exact h.1
      refine ⟨hR, (fun h0 => by rw [hrd] at h0; simp at h0), fun j hj => ?_⟩
      rw [hrd] at hj
      obtain rfl := List.mem_singleton.1 hj
      exact wpLR_op ho (fun a w h => ih _ a w hs h) h

theorem wpOps_seq : ∀ (l : List Nat) (os : List Oper) (a : Act) (w : World), l.map (fun i => ops[i]?) = os.map some → wpL P ops Q (os.map (·, false)) a w → wpOps P ops Q l a w := by
  intro l
  induction l with
  | nil => intro os a w h hl; cases os with
    | nil => exact hl
    | cons => simp at h
  | cons i r ih =>
    intro os a w h hl
    cases os with
    | nil => simp at h
    | cons o os =>
      simp only [List.map_cons, List.cons.injEq] at h
      rw [wpOps_cons]
      exact wpL_op h.1 (fun a w h' => ih os a w h.2 h') hl

/-- A REGION THAT DRAWS NO ORDER -/
theorem region_seq {id : Nat} {a : Act} {w : World} (h : wpL P ops Q (ops.toList.map (·, false)) a w) : (Code.region id ops false).wp P Q a w := by
  refine wp_region (wpOps_seq _ ops.toList a w ?_ h)
  apply List.ext_getElem?
  intro i
  simp only [List.getElem?_map, Array.getElem?_toList]
  rcases Nat.lt_or_ge i ops.size with hi | hi
  · simp [List.getElem?_range hi, hi]
  · simp [hi]

/-- A REGION THAT DRAWS ITS ORDER: Rk: what holds of memory all the time; N: those that come first, by facts; σ: the rest, one behind the other -/
theorem region_drawR (Rk : World → Prop) {id : Nat} {a0 : Act} {w0 : World} {E : List (Nat × Value)} {sz : Nat} (A0 : Sl sz a0 E) (N : List NOp) (σ : List (Nat × Bool)) (hm : P.follows .mixedOrders = true)
    (hok : (tabOk ops sz (N.map (·.dst)) (N.map (·.src)) (N.map (·.old)) (N.map (·.gd)) (N.map (·.pu)) && sigOk ops (listedTo ops.size N.length) σ && (σ.length + N.length == ops.size)) = true)
    (hQ : ∀ d v c a w, Q (.panic c) (a.put d v) w → Q (.panic c) a w)
    (hRk : ∀ w, Gr w0 w → Rk w)
    (hops : opsDueR P Rk N a0 w0 ops.toList N)
    (hrest : restN (fun E' H => ∀ a w, Sl sz a (E' ++ outE E (N.map (·.dst))) → Gr w0 w → NewF w0 w H → wpLR P ops Q Rk (pick ops σ) a w) N [] [] []) :
    (Code.region id ops true).wp P Q a0 w0 := by
  simp only [Bool.and_eq_true, beq_iff_eq] at hok
  obtain ⟨⟨htab, hsig⟩, hlen⟩ := hok
  have hk := regOk_of htab
  have hcnt : cnt (Array.replicate ops.size false) N.length = N.length := by
    unfold cnt
    rw [List.filter_eq_self.2, List.length_range]
    intro i hi
    have : i < ops.size := by have := hk.le; have := List.mem_range.1 hi; omega
    simp [Array.getD, this]
  refine wp_region_any hm ?_
  have hr : ops.size - N.length = σ.length := by omega
  have := wpAny_facts (Q := Q) A0 hk hQ hRk hops (by
      rw [hr]
      exact restN_mono (fun E' H h a w h1 h2 h3 => wpAnyR_sig hQ σ _ a w hsig (h a w h1 h2 h3)) N [] [] [] hrest)
    N.length _ _ _ _ _ (Jst.start (a0 := a0) (w0 := w0) (w := w0.drew) hk.le (Gr.drew w0)) hcnt
  rw [Nat.sub_add_cancel hk.le] at this
  exact this.to

/-- .. of whose first operations those that the rest does not wait for look at no memory -/
theorem region_draw {id : Nat} {a0 : Act} {w0 : World} {E : List (Nat × Value)} {sz : Nat} (A0 : Sl sz a0 E) (N : List NOp) (σ : List (Nat × Bool)) (hm : P.follows .mixedOrders = true)
    (hok : (tabOk ops sz (N.map (·.dst)) (N.map (·.src)) (N.map (·.old)) (N.map (·.gd)) (N.map (·.pu)) && sigOk ops (listedTo ops.size N.length) σ && (σ.length + N.length == ops.size)) = true)
    (hQ : ∀ d v c a w, Q (.panic c) (a.put d v) w → Q (.panic c) a w)
    (hops : opsDueR P anyW N a0 w0 ops.toList N)
    (hrest : restN (fun E' H => ∀ a w, Sl sz a (E' ++ outE E (N.map (·.dst))) → Gr w0 w → NewF w0 w H → wpL P ops Q (pick ops σ) a w) N [] [] []) :
    (Code.region id ops true).wp P Q a0 w0 :=
  region_drawR anyW A0 N σ hm hok hQ (fun _ _ => trivial) hops (restN_mono (fun _ _ h a w h1 h2 h3 => wpLR.of (h a w h1 h2 h3)) N [] [] [] hrest)

theorem L_op {sz d : Nat} {E : List (Nat × Value)} {a : Act} {w : World} {o : Oper} {r : List (Oper × Bool)} (A : Sl sz a E) (hd : o.dst = some d) (hlt : d < sz) (hg : o.guard = none)
    (h : OpY P o a.eval w (fun v w' => ∀ a', Sl sz a' ((d, v) :: but E d) → wpL P ops Q r a' w')) : wpL P ops Q ((o, false) :: r) a w := by
  unfold wpL
  simp only [cond_false, hg]
  refine h.mono (fun v w' h => ?_)
  rw [hd]
  exact h _ (A.put d v hlt)
theorem Lo {sz d : Nat} {E : List (Nat × Value)} {a : Act} {w : World} {op : Op} {ty : TypeId} {pos : String} {aft : Array Edge} {r : List (Oper × Bool)} (A : Sl sz a E) (hlt : d.blt sz = true)
    (h : OpY P ⟨some d, op, ty, pos, aft, none⟩ a.eval w (fun v w' => ∀ a', Sl sz a' ((d, v) :: but E d) → wpL P ops Q r a' w')) : wpL P ops Q ((⟨some d, op, ty, pos, aft, none⟩, false) :: r) a w :=
  L_op A rfl (by simpa [Nat.blt_eq] using hlt) rfl h
theorem L_opN {sz : Nat} {E : List (Nat × Value)} {a : Act} {w : World} {o : Oper} {r : List (Oper × Bool)} (A : Sl sz a E) (hd : o.dst = none) (hg : o.guard = none)
    (h : OpY P o a.eval w (fun _ w' => wpL P ops Q r a w')) : wpL P ops Q ((o, false) :: r) a w := by
  unfold wpL
  simp only [cond_false, hg]
  refine h.mono (fun v w' h => ?_)
  rw [hd]; exact h
theorem L_pure {sz d : Nat} {E : List (Nat × Value)} {a : Act} {w : World} {o : Oper} {r : List (Oper × Bool)} (A : Sl sz a E) (hd : o.dst = some d) (hlt : d < sz) (hg : o.guard = none) {v : Value}
    (hv : ∀ w', (execOp a.eval o).run P w' = .ok (.value v) w') (h : ∀ a', Sl sz a' ((d, v) :: but E d) → wpL P ops Q r a' w) : wpL P ops Q ((o, true) :: r) a w := by
  unfold wpL
  simp only [cond_true]
  refine ⟨hg, v, hv, ?_⟩
  rw [hd]; exact h _ (A.put d v hlt)
/-- under a guard that is met -/
theorem L_yes {sz d j s : Nat} {want : Bool} {E : List (Nat × Value)} {a : Act} {w : World} {o : Oper} {r : List (Oper × Bool)} (A : Sl sz a E) (hd : o.dst = some d) (hlt : d < sz) (hg : o.guard = some (j, want)) (hj : dstOf ops j = some s) (hs : s < sz) (hv : a.eval (.tmp s) = .bool want)
    (h : OpY P o a.eval w (fun v w' => ∀ a', Sl sz a' ((d, v) :: but E d) → wpL P ops Q r a' w')) : wpL P ops Q ((o, false) :: r) a w := by
  unfold wpL
  simp only [cond_false, hg]
  have hy : yielded ops a.tmps j = some want := by rw [yielded_eq hj (by rw [A.size]; exact hs), hv]
  refine ⟨fun _ => h.mono (fun v w' h => ?_), fun hn => absurd hy hn⟩
  rw [hd]
  exact h _ (A.put d v hlt)
/-- under a guard that is not met -/
theorem L_no {sz d j s : Nat} {want b : Bool} {E : List (Nat × Value)} {a : Act} {w : World} {o : Oper} {r : List (Oper × Bool)} (A : Sl sz a E) (hd : o.dst = some d) (hlt : d < sz) (hg : o.guard = some (j, want)) (hj : dstOf ops j = some s) (hs : s < sz) (hv : a.eval (.tmp s) = .bool b) (hb : b ≠ want)
    (h : ∀ a', Sl sz a' ((d, undef) :: but E d) → wpL P ops Q r a' w) : wpL P ops Q ((o, false) :: r) a w := by
  unfold wpL
  simp only [cond_false, hg]
  have hy : yielded ops a.tmps j = some b := by rw [yielded_eq hj (by rw [A.size]; exact hs), hv]
  refine ⟨fun hn => absurd (Option.some.inj (hy.symm.trans hn)) hb, fun _ => ?_⟩
  rw [hd]
  exact h _ (A.put d undef hlt)

/-! ### the same, where something of memory holds all the time -/
theorem R_op {Rk : World → Prop} {sz d : Nat} {E : List (Nat × Value)} {a : Act} {w : World} {o : Oper} {r : List (Oper × Bool)} (hR : Rk w) (A : Sl sz a E) (hd : o.dst = some d) (hlt : d < sz) (hg : o.guard = none)
    (h : OpY P o a.eval w (fun v w' => ∀ a', Sl sz a' ((d, v) :: but E d) → wpLR P ops Q Rk r a' w')) : wpLR P ops Q Rk ((o, false) :: r) a w := by
  unfold wpLR
  simp only [cond_false, hg]
  refine ⟨hR, h.mono (fun v w' h => ?_)⟩
  rw [hd]
  exact h _ (A.put d v hlt)
theorem R_opN {Rk : World → Prop} {sz : Nat} {E : List (Nat × Value)} {a : Act} {w : World} {o : Oper} {r : List (Oper × Bool)} (hR : Rk w) (A : Sl sz a E) (hd : o.dst = none) (hg : o.guard = none)
    (h : OpY P o a.eval w (fun _ w' => wpLR P ops Q Rk r a w')) : wpLR P ops Q Rk ((o, false) :: r) a w := by
  unfold wpLR
  simp only [cond_false, hg]
  refine ⟨hR, h.mono (fun v w' h => ?_)⟩
  rw [hd]; exact h
theorem R_pure {Rk : World → Prop} {sz d : Nat} {E : List (Nat × Value)} {a : Act} {w : World} {o : Oper} {r : List (Oper × Bool)} (hR : Rk w) (A : Sl sz a E) (hd : o.dst = some d) (hlt : d < sz) (hg : o.guard = none) {v : Value}
    (hv : ∀ w', (execOp a.eval o).run P w' = .ok (.value v) w') (h : ∀ a', Sl sz a' ((d, v) :: but E d) → wpLR P ops Q Rk r a' w) : wpLR P ops Q Rk ((o, true) :: r) a w := by
  unfold wpLR
  simp only [cond_true]
  refine ⟨hR, hg, v, hv, ?_⟩
  rw [hd]; exact h _ (A.put d v hlt)
theorem R_end {Rk : World → Prop} {a : Act} {w : World} (hR : Rk w) (h : Q .normal a w) : wpLR P ops Q Rk [] a w := ⟨hR, h⟩

end Go.Proofs.Ytaeidblipdjgnaa
