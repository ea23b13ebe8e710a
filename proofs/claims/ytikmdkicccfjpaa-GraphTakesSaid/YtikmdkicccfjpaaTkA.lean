/-
  graphTakes_holds, part 1 of 5: merged by program from the texts that it needs.
-/
import Derived.WalkKit
import Derived.Below
import Derived.OrdersIn
import Derived.RangeFuncOwn
import Derived.Maps.Own
import Derived.Deep.LoopGhost
import Derived.Deep.Slices
import Derived.ProofKit
import Derived.Carry
import Derived.Laws.IdiomStrings
import Derived.Lib.SlBytesConst
import Derived.Test.YtikmdkicccfjpaaRows
import Derived.SizedLaws
import Derived.Laws.IdiomRangeMap
import Derived.Laws.Externs
import Derived.Lib.UnsafeStr
import Derived.Lib.Builder
import Derived.Lib.MakeNoZero
import Derived.Test.YtikmdkicccfjpaaProg
import Derived.RangeFuncRecord
import Derived.RangeFuncLeaves
import Derived.DeepKeys4
set_option linter.unusedSimpArgs false
set_option linter.unusedVariables false
set_option linter.unnecessarySimpa false
namespace Go.Proofs.Ytikmdkicccfjpaa
open Go.RowKit
abbrev Gr (w w' : World) : Prop := Below w.heap.size w w'
theorem Gr.refl (w : World) : Gr w w := Below.refl _ _
theorem Gr.trans {a b c : World} (h : Gr a b) (k : Gr b c) : Gr a c := Below.trans h (k.mono h.size)
theorem Gr.drew (w : World) : Gr w w.drew := (Below.refl _ _).drew
theorem heap_lt {w : World} {b : Nat} {o : Obj} (h : w.heap[b]? = some o) : b < w.heap.size := by
 rcases Nat.lt_or_ge b w.heap.size with h' | h'
 ·exact h'
 ·simp [Array.getElem?_eq_none h'] at h
theorem cell_lt {w : World} {a : Addr} {v : Value} (h : w.cell? a = some v) : a.block < w.heap.size := by
 rcases Nat.lt_or_ge a.block w.heap.size with h' | h'
 ·exact h'
 ·simp [World.cell?, Array.getElem?_eq_none h'] at h
theorem Gr.cell' {w w' : World} (h : Gr w w') {a : Addr} {v : Value} (hc : w.cell? a = some v) : w'.cell? a = some v := by
 rw [Below.cell h (cell_lt hc)]; exact hc
theorem Gr.heap' {w w' : World} (h : Gr w w') {b : Nat} {o : Obj} (hc : w.heap[b]? = some o) : w'.heap[b]? = some o := by
 rw [h.block b (heap_lt hc)]; exact hc
theorem Gr.alloc (w : World) (o : Obj) : Gr w (w.alloc o) := (Below.refl _ _).alloc (Nat.le_refl _) _
theorem heap_new (w : World) (o : Obj) : (w.alloc o).heap[w.heap.size]? = some o := (MapKept.heap_alloc w o).1
theorem cell_of {w : World} {b : Nat} {c : Array Value} {t : TypeId} {fr : Nat × Nat} (h : w.heap[b]? = some (.cells c t fr)) (i : Nat) : w.cell? ⟨b, i, none⟩ = c[i]? := by
 simp [World.cell?, h]
abbrev Frag := List (Nat × Obj)
def keys (H : Frag) : List Nat := H.map (·.1)
def Holds (w : World) (H : Frag) : Prop := ∀ x ∈ H, w.heap[x.1]? = some x.2
theorem Holds.nil (w : World) : Holds w [] := by intro x hx; simp at hx
theorem Holds.gr {w w' : World} {H : Frag} (h : Holds w H) (g : Gr w w') : Holds w' H := fun x hx => g.heap' (h x hx)
theorem Holds.one {w : World} {b : Nat} {o : Obj} {H : Frag} (h : Holds w ((b, o) :: H)) : w.heap[b]? = some o := h (b, o) (by simp)
theorem Holds.tail {w : World} {x : Nat × Obj} {H : Frag} (h : Holds w (x :: H)) : Holds w H := fun y hy => h y (by simp [hy])
theorem Holds.app {w : World} {H K : Frag} : Holds w (H ++ K) ↔ Holds w H ∧ Holds w K := by
 constructor
 ·intro h; exact ⟨fun x hx => h x (by simp [hx]), fun x hx => h x (by simp [hx])⟩
 ·rintro ⟨h1, h2⟩ x hx
  rcases List.mem_append.1 hx with h | h
  ·exact h1 x h
  ·exact h2 x h
theorem Holds.lt {w : World} {H : Frag} (h : Holds w H) {b : Nat} (hb : b ∈ keys H) : b < w.heap.size := by
 obtain ⟨x, hx, rfl⟩ := List.mem_map.1 hb
 exact heap_lt (h x hx)
structure NewF (w w' : World) (H : Frag) : Prop where
 nd : (keys H).Nodup
 new : ∀ b ∈ keys H, w.heap.size ≤ b
 holds : Holds w' H
theorem NewF.nil (w w' : World) : NewF w w' [] := ⟨by simp [keys], by simp [keys], Holds.nil _⟩
theorem NewF.alloc (w : World) (o : Obj) : NewF w (w.alloc o) [(w.heap.size, o)] := ⟨by simp [keys], by simp [keys], by intro x hx; simp at hx; subst hx; exact heap_new w o⟩
theorem NewF.ahead {w0 w w' : World} {H : Frag} (h : NewF w w' H) (g : Gr w0 w) : NewF w0 w' H := ⟨h.nd, fun b hb => Nat.le_trans g.size (h.new b hb), h.holds⟩
theorem nodup_app {H K : List Nat} (h : H.Nodup) (k : K.Nodup) (d : ∀ b ∈ H, b ∉ K) : (H ++ K).Nodup := by
 rw [List.nodup_append]; exact ⟨h, k, fun a ha b hb e => d a ha (e ▸ hb)⟩
theorem keys_app (H K : Frag) : keys (H ++ K) = keys H ++ keys K := by simp [keys]
theorem NewF.app {w w' w'' : World} {H K : Frag} (h : NewF w w' H) (g0 : Gr w w') (k : NewF w' w'' K) (g : Gr w' w'') : NewF w w'' (K ++ H) where
 nd := by
  rw [keys_app]
  exact nodup_app k.nd h.nd (fun b hb hb' => by have := k.new b hb; have := h.holds.lt hb'; omega)
 new := by
  intro b hb
  rw [keys_app] at hb
  rcases List.mem_append.1 hb with e | e
  ·exact Nat.le_trans g0.size (k.new b e)
  ·exact h.new b e
 holds := Holds.app.2 ⟨k.holds, h.holds.gr g⟩
structure Kp (D : List Nat) (w0 w : World) : Prop where
 os : w.os = w0.os
 tape : w.tape = w0.tape
 output : w.output = w0.output
 size : w0.heap.size ≤ w.heap.size
 block : ∀ b, b < w0.heap.size → b ∉ D → w.heap[b]? = w0.heap[b]?
theorem Kp.refl (D : List Nat) (w : World) : Kp D w w := ⟨rfl, rfl, rfl, Nat.le_refl _, fun _ _ _ => rfl⟩
theorem Kp.gr {D : List Nat} {w0 w w' : World} (h : Kp D w0 w) (g : Gr w w') : Kp D w0 w' :=
 ⟨g.os.trans h.os, g.tape.trans h.tape, g.output.trans h.output, Nat.le_trans h.size g.size, fun b hb hd => by rw [g.block b (Nat.lt_of_lt_of_le hb h.size)]; exact h.block b hb hd⟩
theorem Kp.to_gr {w0 w : World} (h : Kp [] w0 w) : Gr w0 w := ⟨h.os, h.tape, h.output, h.size, fun b hb => h.block b hb (by simp)⟩
theorem Kp.heap' {D : List Nat} {w0 w : World} (h : Kp D w0 w) {b : Nat} {o : Obj} (hb : w0.heap[b]? = some o) (hd : b ∉ D) : w.heap[b]? = some o := by
 rw [h.block b (heap_lt hb) hd]; exact hb
theorem Kp.holds {D : List Nat} {w0 w : World} (h : Kp D w0 w) {H : Frag} (hH : Holds w0 H) (hd : ∀ b ∈ keys H, b ∉ D) : Holds w H :=
 fun x hx => h.heap' (hH x hx) (hd x.1 (List.mem_map_of_mem hx))
def setB (w : World) (b : Nat) (o : Obj) : World := { w with heap := w.heap.setIfInBounds b o }
theorem setB_same {w : World} {b : Nat} (o : Obj) (h : b < w.heap.size) : (setB w b o).heap[b]? = some o := by simp [setB, h]
theorem setB_other {w : World} {b c : Nat} (o : Obj) (h : b ≠ c) : (setB w b o).heap[c]? = w.heap[c]? := by
 simp [setB, Array.getElem?_setIfInBounds_ne h]
theorem setB_size (w : World) (b : Nat) (o : Obj) : (setB w b o).heap.size = w.heap.size := by simp [setB]
theorem setCell_eq {w : World} {b i : Nat} {c : Array Value} {t : TypeId} {fr : Nat × Nat} (h : w.heap[b]? = some (.cells c t fr)) (v : Value) : w.setCell ⟨b, i, none⟩ v = setB w b (.cells (c.setIfInBounds i v) t fr) := by
 unfold World.setCell setB
 congr 1
 apply Array.ext_getElem?
 intro j
 have hb := heap_lt h
 rw [Array.getElem?_modify, Array.getElem?_setIfInBounds]
 by_cases e : b = j
 ·subst e
  have hg : w.heap[b] = .cells c t fr := by rw [Array.getElem?_eq_getElem hb] at h; exact Option.some.inj h
  simp [hb, hg]
 ·simp [e]
structure St (D : List Nat) (w0 w : World) (H : Frag) : Prop where
 kp : Kp D w0 w
 nd : (keys H).Nodup
 own : ∀ b ∈ keys H, w0.heap.size ≤ b ∨ b ∈ D
 holds : Holds w H
theorem St.start {w : World} {H : Frag} (nd : (keys H).Nodup) (h : Holds w H) : St (keys H) w w H := ⟨Kp.refl _ _, nd, fun _ h => Or.inr h, h⟩
theorem St.none (w : World) : St [] w w [] := ⟨Kp.refl _ _, by simp [keys], by simp [keys], Holds.nil _⟩
theorem St.gr {D : List Nat} {w0 w w' : World} {H : Frag} (s : St D w0 w H) (g : Gr w w') : St D w0 w' H := ⟨s.kp.gr g, s.nd, s.own, s.holds.gr g⟩
theorem St.new {D : List Nat} {w0 w w' : World} {H K : Frag} (s : St D w0 w H) (g : Gr w w') (n : NewF w w' K) : St D w0 w' (K ++ H) where
 kp := s.kp.gr g
 nd := by
  rw [keys_app]
  exact nodup_app n.nd s.nd (fun b hb hb' => by have := n.new b hb; have := s.holds.lt hb'; omega)
 own := by
  intro b hb
  rw [keys_app] at hb
  rcases List.mem_append.1 hb with e | e
  ·exact Or.inl (Nat.le_trans s.kp.size (n.new b e))
  ·exact s.own b e
 holds := Holds.app.2 ⟨n.holds, s.holds.gr g⟩
theorem St.alloc {D : List Nat} {w0 w : World} {H : Frag} (s : St D w0 w H) (o : Obj) : St D w0 (w.alloc o) ((w.heap.size, o) :: H) := s.new (Gr.alloc w o) (NewF.alloc w o)
theorem St.perm {D : List Nat} {w0 w : World} {H K : Frag} (s : St D w0 w H) (p : H.Perm K) : St D w0 w K :=
 ⟨s.kp, (List.Perm.map (fun x : Nat × Obj => x.1) p).nodup_iff.1 s.nd, fun b hb => s.own b ((List.Perm.map (fun x : Nat × Obj => x.1) p).mem_iff.2 hb), fun x hx => s.holds x (p.mem_iff.2 hx)⟩
theorem St.app_right {D : List Nat} {w0 w : World} {H K : Frag} (s : St D w0 w (H ++ K)) : St D w0 w K :=
 ⟨s.kp, by have := s.nd; rw [keys_app] at this; exact (List.nodup_append.1 this).2.1, fun b hb => s.own b (by rw [keys_app]; exact List.mem_append.2 (Or.inr hb)), (Holds.app.1 s.holds).2⟩
theorem St.app_left {D : List Nat} {w0 w : World} {H K : Frag} (s : St D w0 w (H ++ K)) : St D w0 w H :=
 ⟨s.kp, by have := s.nd; rw [keys_app] at this; exact (List.nodup_append.1 this).1, fun b hb => s.own b (by rw [keys_app]; exact List.mem_append.2 (Or.inl hb)), (Holds.app.1 s.holds).1⟩
theorem St.set {D : List Nat} {w0 w : World} {b : Nat} {o : Obj} {H : Frag} (s : St D w0 w ((b, o) :: H)) (o' : Obj) : St D w0 (setB w b o') ((b, o') :: H) where
 kp := by
  refine ⟨s.kp.os, s.kp.tape, s.kp.output, by rw [setB_size]; exact s.kp.size, fun c hc hd => ?_⟩
  have hne : b ≠ c := by
   intro e; subst e
   rcases s.own b (by simp [keys]) with h | h
   ·omega
   ·exact hd h
  rw [setB_other o' hne]; exact s.kp.block c hc hd
 nd := s.nd
 own := s.own
 holds := by
  intro x hx
  rcases List.mem_cons.1 hx with e | e
  ·subst e; exact setB_same o' (heap_lt s.holds.one)
  ·have hne : b ≠ x.1 := by
    intro e2
    have := s.nd
    simp only [keys, List.map_cons, List.nodup_cons] at this
    exact this.1 (e2 ▸ List.mem_map_of_mem e)
   rw [setB_other o' hne]; exact s.holds.tail x e
theorem St.call {D D' : List Nat} {w0 w w' : World} {H R K : Frag} (s : St D w0 w (H ++ R)) (hD : D' = keys H) (t : St D' w w' K) : St D w0 w' (K ++ R) where
 kp := by
  refine ⟨t.kp.os.trans s.kp.os, t.kp.tape.trans s.kp.tape, t.kp.output.trans s.kp.output, Nat.le_trans s.kp.size t.kp.size, fun b hb hd => ?_⟩
  rw [t.kp.block b (Nat.lt_of_lt_of_le hb s.kp.size) ?_]
  ·exact s.kp.block b hb hd
  ·intro hb'
   rw [hD] at hb'
   rcases s.own b (by rw [keys_app]; exact List.mem_append.2 (Or.inl hb')) with h | h
   ·omega
   ·exact hd h
 nd := by
  rw [keys_app]
  have h1 := s.app_right
  refine nodup_app t.nd h1.nd (fun b hb hb' => ?_)
  rcases t.own b hb with h | h
  ·have := h1.holds.lt hb'; omega
  ·rw [hD] at h
   have := s.nd
   rw [keys_app] at this
   exact (List.nodup_append.1 this).2.2 b h b hb' rfl
 own := by
  intro b hb
  rw [keys_app] at hb
  rcases List.mem_append.1 hb with e | e
  ·rcases t.own b e with h | h
   ·exact Or.inl (Nat.le_trans s.kp.size h)
   ·rw [hD] at h; exact s.own b (by rw [keys_app]; exact List.mem_append.2 (Or.inl h))
  ·exact s.own b (by rw [keys_app]; exact List.mem_append.2 (Or.inr e))
 holds := Holds.app.2 ⟨t.holds, t.kp.holds s.app_right.holds (fun b hb hb' => by
  rw [hD] at hb'
  have := s.nd
  rw [keys_app] at this
  exact (List.nodup_append.1 this).2.2 b hb' b hb rfl)⟩
def RetN (w : World) (Φ : Value → Frag → Prop) : Ending → World → Prop := fun e w' => ∃ v, e = .returned v ∧ Gr w w' ∧ ∃ H, Φ v H ∧ NewF w w' H
structure Sl (n : Nat) (a : Act) (E : List (Nat × Value)) : Prop where
 size : a.tmps.size = n
 defers : a.defers = []
 at' : ∀ x ∈ E, a.eval (.tmp x.1) = x.2
theorem eval_put_same (a : Act) (d : Nat) (v : Value) (h : d < a.tmps.size) : (a.put (some d) v).eval (.tmp d) = v := by
 simp [Act.put, Act.eval, Array.getD, h]
theorem eval_put_other (a : Act) (d s : Nat) (v : Value) (h : d ≠ s) : (a.put (some d) v).eval (.tmp s) = a.eval (.tmp s) := by
 simp only [Act.put, Act.eval, Array.getD_eq_getD_getElem?, Array.getElem?_setIfInBounds, if_neg h]
theorem put_size (a : Act) (d : Option Tmp) (v : Value) : (a.put d v).tmps.size = a.tmps.size := by
 cases d <;> simp [Act.put]
theorem put_defers (a : Act) (d : Option Tmp) (v : Value) : (a.put d v).defers = a.defers := by
 cases d <;> simp [Act.put]
def argsE : List Value → Nat → List (Nat × Value)
 | [], _ => []
 | v :: r, i => (i, v) :: argsE r (i + 1)
theorem argsE_mem : ∀ (vs : List Value) (i : Nat) (x : Nat × Value), x ∈ argsE vs i → i ≤ x.1 ∧ vs[x.1 - i]? = some x.2 := by
 intro vs
 induction vs with
 | nil => intro i x hx; simp [argsE] at hx
 | cons v r ih =>
  intro i x hx
  simp only [argsE, List.mem_cons] at hx
  rcases hx with e | e
  ·subst e; simp
  ·obtain ⟨h1, h2⟩ := ih (i + 1) x e
   refine ⟨by omega, ?_⟩
   rw [show x.1 - i = (x.1 - (i + 1)) + 1 by omega]; simpa using h2
theorem enter {P : Program} {f : FuncId} {fn : Func} {c : Code} {args : List Value} {w : World} {R : Ending → World → Prop}
  (hf : P.funcs[f]? = some fn) (hb : fn.body = some c) {n : Nat} (hn : fn.ntmps = n) (hle : args.length ≤ n)
  (h : ∀ a, Sl n a (argsE args 0) → c.wp P (bodyPost P fn R) a w) : Calls P f args.toArray w R := by
 refine calls_of_wp hf hb (h _ ⟨?_, rfl, ?_⟩)
 ·simp; omega
 ·intro x hx
  obtain ⟨h1, h2⟩ := argsE_mem args 0 x hx
  simp only [Nat.sub_zero] at h2
  have hlt : x.1 < args.length := by
   rcases Nat.lt_or_ge x.1 args.length with h' | h'
   ·exact h'
   ·simp [List.getElem?_eq_none h'] at h2
  rw [List.getElem?_eq_getElem hlt] at h2
  simp [Act.eval, Array.getD_eq_getD_getElem?, Array.getElem?_append, hlt, Option.some.inj h2]
end Go.Proofs.Ytikmdkicccfjpaa
namespace Go.Proofs.Ytikmdkicccfjpaa
open Go.RowKit
def OpY (P : Program) (o : Oper) (ρ : Operand → Value) (w : World) (Φ : Value → World → Prop) : Prop :=
 match (execOp ρ o).run P w with
 | .ok (.value v) w' => Φ v w'
 | .ok .skip w' => Φ undef w'
 | .ok (.enter f args) w' => Calls P f args w' fun e w'' => ∃ v, e = .returned v ∧ Φ v w''
 | .ok (.round l f tmps assign body) w' => RoundIn Fence.wide 0 P l f tmps assign body w' fun e w'' => ∃ v, e = .returned v ∧ Φ v w''
 | _ => False
abbrev Fl (ro : Option Nat) : Fence := { Fence.wide with round := ro }
theorem callsIn_fl {ro : Option Nat} {n : Nat} {P : Program} {f : FuncId} {args : Array Value} {w : World} {R : Ending → World → Prop} (h : Calls P f args w R) : CallsIn (Fl ro) n P f args w R := (callsIn_wide (n := n)).2 h
theorem OpY.sem {ro : Option Nat} {P : Program} {o : Oper} {ρ : Operand → Value} {w : World} {Φ : Value → World → Prop} (h : OpY P o ρ w Φ) : (o.semAt ro ρ).run P w = (execOp ρ o).run P w := by
 rw [Oper.semAt_eq]
 intro c hc
 unfold OpY at h
 simp only [execOp, hc, Sem.run_bind] at h
 cases hr : (resolve ρ c o.type).run P w with
 | ok v w' => rw [hr] at h; simp at h
 | halt x w' => rw [hr] at h; simp [Result.andThen] at h
theorem OpY.wp {ro : Option Nat} {P : Program} {o : Oper} {a : Act} {w : World} {Φ : Value → World → Prop} {next : Act → World → Prop} {Q : Exit → Act → World → Prop}
  (h : OpY P o a.eval w Φ) (hn : ∀ v w', Φ v w' → next (a.put o.dst v) w') : o.wpIn (Fl ro) 0 P a w next Q := by
 refine ⟨fun _ _ => trivial, ?_⟩
 rw [show (Fl ro).round = ro from rfl, h.sem]
 unfold OpY at h
 generalize (execOp a.eval o).run P w = r at *
 cases r with
 | ok n w' =>
  cases n
  case value v => exact hn _ _ h
  case skip => exact hn _ _ h
  case enter f args =>
   refine ⟨fun hh => by simp [Fl, Fence.wide] at hh, callsIn_fl (Calls.mono h ?_)⟩
   rintro e w'' ⟨v, rfl, hv⟩
   exact hn _ _ hv
  case round l f tmps assign body =>
   refine ⟨fun hh => by simp [Fl, Fence.wide] at hh, ?_⟩
   have h' : RoundIn (Fl ro) 0 P l f tmps assign body w' fun e w'' => ∃ v, e = .returned v ∧ Φ v w'' := h
   refine RoundIn.mono h' ?_
   rintro e w'' ⟨v, rfl, hv⟩
   exact hn _ _ hv
  all_goals exact h.elim
 | halt x w' => exact h.elim
theorem OpY.pure {P : Program} {o : Oper} {ρ : Operand → Value} {w w' : World} {Φ : Value → World → Prop} {v : Value} (h : (execOp ρ o).run P w = .ok (.value v) w') (hv : Φ v w') : OpY P o ρ w Φ := by
 unfold OpY; rw [h]; exact hv
theorem OpY.skip {P : Program} {o : Oper} {ρ : Operand → Value} {w w' : World} {Φ : Value → World → Prop} (h : (execOp ρ o).run P w = .ok .skip w') (hv : Φ undef w') : OpY P o ρ w Φ := by
 unfold OpY; rw [h]; exact hv
theorem OpY.call {P : Program} {o : Oper} {ρ : Operand → Value} {w : World} {Φ : Value → World → Prop} {f : FuncId} {args : Array Value} (h : (execOp ρ o).run P w = .ok (.enter f args) w) (hv : Calls P f args w fun e w' => ∃ v, e = .returned v ∧ Φ v w') : OpY P o ρ w Φ := by
 unfold OpY; rw [h]; exact hv
theorem OpY.mono {P : Program} {o : Oper} {ρ : Operand → Value} {w : World} {Φ Ψ : Value → World → Prop} (h : OpY P o ρ w Φ) (hi : ∀ v w', Φ v w' → Ψ v w') : OpY P o ρ w Ψ := by
  unfold OpY at *
  generalize (execOp ρ o).run P w = r at *
  cases r with
  | ok n w' =>
    cases n <;> simp only at h ⊢ <;> first
      | exact hi _ _ h
      | (refine Calls.mono h ?_
         rintro e w'' ⟨v, rfl, hv⟩
         exact ⟨v, rfl, hi _ _ hv⟩)
      | (refine RoundIn.mono h ?_
         rintro e w'' ⟨v, rfl, hv⟩
         exact ⟨v, rfl, hi _ _ hv⟩)
  | halt x w' => exact h.elim
def dstOf (ops : Array Oper) (i : Nat) : Option Tmp := (ops[i]?).bind (·.dst)
abbrev pl (f : Value → Frag → Prop) : List Value → Value → Frag → Prop := fun _ => f
def blk (o : Obj) : Value → Frag → Prop := fun v H => ∃ b, v = .pointer (some ⟨b, 0, none⟩) ∧ H = [(b, o)]
def done (L : Array Bool) (i : Nat) : Prop := L.getD i true = true
variable {P : Program} {ops : Array Oper} {Q : Exit → Act → World → Prop} {ro : Option Nat}
theorem yielded_eq {a : Act} {j d : Nat} (hd : dstOf ops j = some d) (hs : d < a.tmps.size) : yielded ops a.tmps j = match a.eval (.tmp d) with | .bool b => some b | _ => none := by
 unfold yielded
 unfold dstOf at hd
 rw [hd]
 simp only [Option.bind_some, Act.eval, Array.getD_eq_getD_getElem?, Array.getElem?_eq_getElem hs, Option.getD_some]
 cases a.tmps[d] <;> rfl
def wpAnyR (ro : Option Nat) (P : Program) (ops : Array Oper) (Q : Exit → Act → World → Prop) (Rk : World → Prop) : Nat → Array Bool → Act → World → Prop
 | 0, L, a, w => Rk w ∧ Region.ready .any ops L = [] ∧ Q .normal a w
 | fuel + 1, L, a, w => Rk w ∧ (Region.ready .any ops L = [] → Q .normal a w) ∧ ∀ i ∈ Region.ready .any ops L, wpOpIn (Fl ro) 0 P ops Q i (wpAnyR ro P ops Q Rk fuel (L.setIfInBounds i true)) a w
theorem wpAnyR.rk {Rk : World → Prop} {fuel : Nat} {L : Array Bool} {a : Act} {w : World} (h : wpAnyR ro P ops Q Rk fuel L a w) : Rk w := by cases fuel <;> exact h.1
theorem wpAnyR.to {Rk : World → Prop} : ∀ {fuel : Nat} {L : Array Bool} {a : Act} {w : World}, wpAnyR ro P ops Q Rk fuel L a w → wpAnyIn (Fl ro) 0 P .any ops Q fuel L a w
 | 0, _, _, _, h => h.2
 | _ + 1, _, _, _, h => ⟨h.2.1, fun i hi => wpOpIn_mono (fun _ _ h => wpAnyR.to h) (h.2.2 i hi)⟩
theorem sem_val {o : Oper} {ρ : Operand → Value} {v : Value} {w w' : World} (h : (execOp ρ o).run P w = .ok (.value v) w') : (o.semAt ro ρ).run P w = .ok (.value v) w' := by rw [(OpY.pure (Φ := fun _ _ => True) h trivial).sem]; exact h
theorem semAt_put (o : Oper) (hs : ∀ cs b, o.op ≠ .select cs b) (a : Act) (dst : Option Tmp) (v : Value) (h : ∀ d, dst = some d → d ∉ o.looksAt ops) : o.semAt ro (a.put dst v).eval = o.semAt ro a.eval := by
 have e := execOp_put o hs a dst v h
 unfold Oper.semAt
 cases ro with
 | none => exact e
 | some l =>
  cases ho : o.op <;> first | exact e | skip
  rename_i c
  have e2 := resolve_congr (ρ := (a.put dst v).eval) (ρ' := a.eval) c o.type (fun x hx => Act.eval_put fun d hd hxd => h d hd (by
   subst hxd
   exact List.mem_append_left _ (List.mem_filterMap.2 ⟨.tmp d, by rw [ho]; simpa [Op.operands] using hx, rfl⟩)))
  simp only [e2]
theorem wpOp_behind {Y : Act → Prop} {j : Nat} {oi oj : Oper} {v : Value} (hj : ops[j]? = some oj) (hap : oi.apart ops oj = true) (hsj : ∀ cs b, oj.op ≠ .select cs b)
  (keep : ∀ a, Y a → ∀ u, Y (a.put oj.dst u)) (keepD : ∀ a d, Y a → Y { a with defers := d :: a.defers })
  (hQ : ∀ c a w, Q (.panic c) (a.put oi.dst v) w → Q (.panic c) a w) {K : Act → World → Prop} {a : Act} {w : World}
  (hy : Y a) (h : Go.wpOpIn (Fl ro) 0 P ops Q j K (a.put oi.dst v) w) : Go.wpOpIn (Fl ro) 0 P ops Q j (fun a' w' => Y a' ∧ K (a'.put oi.dst v) w') a w := by
 obtain ⟨h1, h2, h3⟩ := Oper.apart_spec hap
 unfold Go.wpOpIn at *
 simp only [hj] at *
 rw [wanted_put oj a oi.dst v h1] at h
 split
 ·rename_i hw
  simp only [hw, if_true] at h
  refine ⟨fun _ _ => trivial, ?_⟩
  replace h := h.2
  rw [semAt_put oj hsj a oi.dst v h1] at h
  generalize (oj.semAt (Fl ro).round a.eval).run P w = r at *
  cases r with
  | ok n w' =>
   cases n <;> simp only [Oper.uponIn] at h ⊢
   case value u => exact ⟨keep a hy u, by rw [← Act.put_comm a v u h2]; exact h⟩
   case skip => exact ⟨keep a hy _, by rw [← Act.put_comm a v undef h2]; exact h⟩
   case defer d =>
    refine ⟨keep _ (keepD a d hy) _, ?_⟩
    rw [← Act.put_comm _ v undef h2, ← Act.put_defers]
    exact h
   case enter f args =>
    refine ⟨h.1, CallsIn.mono h.2 fun e w'' he => ?_⟩
    cases e with
    | returned u => exact ⟨keep a hy u, by rw [← Act.put_comm a v u h2]; exact he⟩
    | panicked c => exact hQ _ _ _ he
    | outgrown => exact he
   case row row args => exact ⟨h.1, RowsIn.mono h.2 fun u w'' he => ⟨keep a hy u, by rw [← Act.put_comm a v u h2]; exact he⟩⟩
   case round l f tmps assign body =>
    refine ⟨h.1, RoundIn.mono h.2 fun e w'' he => ?_⟩
    cases e with
    | returned u => exact ⟨keep a hy u, by rw [← Act.put_comm a v u h2]; exact he⟩
    | panicked c => exact hQ _ _ _ he
    | outgrown => exact he
  | halt x w' =>
   cases x <;> simp only [Oper.uponIn] at h ⊢
   case panic u => exact hQ _ _ _ h
 ·rename_i hw
  simp only [hw] at h
  exact ⟨fun _ _ => trivial, keep a hy _, by rw [← Act.put_comm a v undef h2]; exact h.2⟩
def wpL (P : Program) (ops : Array Oper) (Q : Exit → Act → World → Prop) : List (Oper × Bool) → Act → World → Prop
 | [], a, w => Q .normal a w
 | (o, pu) :: r, a, w => bif pu then o.guard = none ∧ ∃ v, (∀ w', (execOp a.eval o).run P w' = .ok (.value v) w') ∧ wpL P ops Q r (a.put o.dst v) w
  else match o.guard with
   | none => OpY P o a.eval w (fun v w' => wpL P ops Q r (a.put o.dst v) w')
   | some (j, want) => (yielded ops a.tmps j = some want → OpY P o a.eval w (fun v w' => wpL P ops Q r (a.put o.dst v) w')) ∧ (yielded ops a.tmps j ≠ some want → wpL P ops Q r (a.put o.dst undef) w)
def pick (ops : Array Oper) : List (Nat × Bool) → List (Oper × Bool)
 | [] => []
 | (i, pu) :: r => match ops[i]? with
  | some o => (o, pu) :: pick ops r
  | none => pick ops r
theorem wpL_op {o : Oper} {pu : Bool} {r : List (Oper × Bool)} {i : Nat} (ho : ops[i]? = some o) {a : Act} {w : World} {K : Act → World → Prop} (hK : ∀ a w, wpL P ops Q r a w → K a w) (h : wpL P ops Q ((o, pu) :: r) a w) : wpOpIn (Fl ro) 0 P ops Q i K a w := by
 unfold wpOpIn
 simp only [ho]
 unfold wpL at h
 cases pu with
 | true =>
  simp only [cond_true] at h
  obtain ⟨hg, v, hv, h⟩ := h
  simp only [Region.wanted, hg, if_true]
  exact OpY.wp (Φ := fun v w' => wpL P ops Q r (a.put o.dst v) w') (OpY.pure (hv w) h) (fun v w' h => hK _ _ h)
 | false =>
  simp only [cond_false] at h
  cases hg : o.guard with
  | none =>
   rw [hg] at h
   simp only [Region.wanted, hg, if_true]
   exact OpY.wp h (fun v w' h => hK _ _ h)
  | some g =>
   obtain ⟨j, want⟩ := g
   rw [hg] at h
   simp only [Region.wanted, hg]
   by_cases hy : yielded ops a.tmps j = some want
   ·rw [if_pos (by simp [hy])]
    exact OpY.wp (h.1 hy) (fun v w' h => hK _ _ h)
   ·rw [if_neg (by simp [hy])]
    exact ⟨fun _ _ => trivial, hK _ _ (h.2 hy)⟩
theorem wpOps_seq : ∀ (l : List Nat) (os : List Oper) (a : Act) (w : World), l.map (fun i => ops[i]?) = os.map some → wpL P ops Q (os.map (·, false)) a w → wpOpsIn (Fl ro) 0 P ops Q l a w := by
 intro l
 induction l with
 | nil => intro os a w h hl; cases os with
  | nil => exact hl
  | cons => simp at h
 | cons i r ih =>
  intro os a w h hl
  cases os with
  | nil => simp at h
  | cons o os =>
   simp only [List.map_cons, List.cons.injEq] at h
   rw [wpOpsIn_cons]
   exact wpL_op h.1 (fun a w h' => ih os a w h.2 h') hl
theorem region_seqI {id : Nat} {a : Act} {w : World} (h : wpL P ops Q (ops.toList.map (·, false)) a w) : (Code.region id ops false).wpIn (Fl ro) 0 P Q a w := by
 refine wpIn_region (wpOps_seq _ ops.toList a w ?_ h)
 apply List.ext_getElem?
 intro i
 simp only [List.getElem?_map, Array.getElem?_toList]
 rcases Nat.lt_or_ge i ops.size with hi | hi
 ·simp [List.getElem?_range hi, hi]
 ·simp [hi]
end Go.Proofs.Ytikmdkicccfjpaa
namespace Go.Proofs.Ytikmdkicccfjpaa
open Go.Maps
section
variable {κ : Type} [DecidableEq κ]
def look (kvs : List (κ × Value)) (k : κ) : Option Value := (kvs.find? (fun x => decide (x.1 = k))).map (·.2)
def put (kvs : List (κ × Value)) (k : κ) (v : Value) : List (κ × Value) :=
 if kvs.any (fun x => decide (x.1 = k)) then kvs.map (fun x => if x.1 = k then (k, v) else x) else kvs ++ [(k, v)]
def drop (kvs : List (κ × Value)) (k : κ) : List (κ × Value) := kvs.filter (fun x => !decide (x.1 = k))
end
section
variable {κ : Type} [DecidableEq κ] {P : Program} {K e t : TypeId} {enc : κ → Value} {o : Obj} {kvs : List (κ × Value)} {w : World} {r : Nat}
omit [DecidableEq κ] in
end
end Go.Proofs.Ytikmdkicccfjpaa
namespace Go.Proofs.Ytikmdkicccfjpaa
open Go.RowKit
section
variable {P : Program} {ρ : Operand → Value} {w : World} {Φ : Value → World → Prop} {d : Option Tmp} {ty : TypeId} {pos : String} {aft : Array Edge} {gd : Option (Nat × Bool)}
theorem y_extract {x : Operand} {vs : Array Value} {i : Nat} {v : Value} (h : ρ x = .tuple vs) (hv : vs[i]? = some v) (hΦ : Φ v w) : OpY P ⟨d, .extract x i, ty, pos, aft, gd⟩ ρ w Φ :=
 .pure (v := v) (by simp only [execOp, h, Instr.extract, hv]; rfl) hΦ
def fieldOff (P : Program) (s : TypeId) (f : Nat) : Option Nat :=
 match P.underlying s with
 | some (.struct fs) => match fs[f]? with
  | some x => match P.info? x.type with
   | some i => if i.size = 0 then none else some x.offset
   | none => none
  | none => none
 | _ => none
theorem run_fieldAt {s : TypeId} {f off : Nat} (hf : fieldOff P s f = some off) (a : Addr) : (Instr.fieldAt s (.pointer (some a)) f).run P w = .ok (.pointer (some (a.add off))) w := by
 unfold fieldOff at hf
 cases hu : P.underlying s with
 | none => simp [hu] at hf
 | some u =>
  cases u <;> simp only [hu] at hf <;> try contradiction
  rename_i fs
  cases hx : fs[f]? with
  | none => simp [hx] at hf
  | some x =>
   simp only [hx] at hf
   cases hi : P.info? x.type with
   | none => simp [hi] at hf
   | some i =>
    simp only [hi] at hf
    split at hf
    ·contradiction
    ·rename_i hsz
     cases hf
     simp only [Instr.fieldAt, Sem.run_bind, run_underlying hu, Result.andThen_ok, hx, Instr.sureAddr, Sem.run_pure, fieldPlace, sizeOf, typeInfo, run_program, hi, hsz, if_false]
theorem add_eq (b i n : Nat) : (⟨b, i, none⟩ : Addr).add n = ⟨b, i + n, none⟩ := by
 unfold Addr.add; split
 ·rename_i h; subst h; rfl
 ·rfl
theorem r_move {x : Operand} {v : Value} (h : ρ x = v) : (execOp ρ ⟨d, .move x, ty, pos, aft, gd⟩).run P w = .ok (.value v) w := by subst h; rfl
theorem r_assign {x : Operand} {v : Value} (h : ρ x = v) : (execOp ρ ⟨d, .assign x, ty, pos, aft, gd⟩).run P w = .ok (.value v) w := by subst h; rfl
theorem r_nilCheck {x : Operand} {a : Addr} (h : ρ x = .pointer (some a)) : (execOp ρ ⟨d, .nilCheck x, ty, pos, aft, gd⟩).run P w = .ok (.value (.pointer (some a))) w := by simp only [execOp, h]; rfl
theorem r_extract {x : Operand} {vs : Array Value} {i : Nat} {v : Value} (h : ρ x = .tuple vs) (hv : vs[i]? = some v) : (execOp ρ ⟨d, .extract x i, ty, pos, aft, gd⟩).run P w = .ok (.value v) w := by simp only [execOp, h, Instr.extract, hv]; rfl
def scalar (P : Program) (t : TypeId) : Bool := match P.underlying t with | some (.struct _) => false | some (.array _ _) => false | some _ => true | none => false
theorem run_isAgg_scalar {t : TypeId} (h : scalar P t = true) : (isAgg t).run P w = .ok false w := by
 unfold scalar at h
 cases hu : P.underlying t with
 | none => simp [hu] at h
 | some u => cases u <;> simp [hu] at h <;> simp [isAgg, Sem.run_bind, run_underlying hu]
theorem run_loadAt_scalar {t : TypeId} {a : Addr} {v : Value} (ht : scalar P t = true) (hc : w.cell? a = some v) : (Instr.loadAt t (.pointer (some a))).run P w = .ok v w := by
 simp [Instr.loadAt, Instr.sureAddr, loadVar, Sem.run_bind, run_isAgg_scalar ht, load, Sem.run, hc]
def aggOf (P : Program) (t : TypeId) (n : Nat) : Bool := (match P.underlying t with | some (.struct _) => true | some (.array _ _) => true | _ => false) && (match P.info? t with | some i => i.size == n | none => false)
theorem run_loadCellsFrom {a : Addr} {vs : List Value} : ∀ (i : Nat) (acc : Array Value), (∀ j (hj : j < vs.length), w.cell? (a.add (i + j)) = some vs[j]) → (loadCellsFrom a i vs.length acc).run P w = .ok (acc ++ vs.toArray) w := by
 induction vs with
 | nil => intro i acc _; simp [loadCellsFrom]
 | cons v r ih =>
  intro i acc h
  have h0 := h 0 (by simp)
  simp only [Nat.add_zero, List.getElem_cons_zero] at h0
  have hl : (load (a.add i)).run P w = .ok v w := by simp [load, Sem.run, h0]
  simp only [List.length_cons, loadCellsFrom, Sem.run_bind, hl, Result.andThen_ok]
  rw [ih (i + 1) (acc.push v) (fun j hj => by have := h (j + 1) (by simp; omega); rw [show i + 1 + j = i + (j + 1) by omega]; simpa using this)]
  simp
theorem run_isAgg_agg {t : TypeId} {n : Nat} (h : aggOf P t n = true) : (isAgg t).run P w = .ok true w ∧ (sizeOf t).run P w = .ok n w := by
 unfold aggOf at h
 simp only [Bool.and_eq_true] at h
 constructor
 ·cases hu : P.underlying t with
  | none => simp [hu] at h
  | some u => cases u <;> simp [hu] at h <;> simp [isAgg, Sem.run_bind, run_underlying hu]
 ·cases hi : P.info? t with
  | none => simp [hi] at h
  | some i =>
   simp only [hi, beq_iff_eq] at h
   simp [sizeOf, typeInfo, Sem.run_bind, hi, h.2]
theorem run_loadAt_agg {t : TypeId} {a : Addr} {vs : List Value} (ht : aggOf P t vs.length = true) (hc : ∀ j (hj : j < vs.length), w.cell? (a.add j) = some vs[j]) : (Instr.loadAt t (.pointer (some a))).run P w = .ok (.agg vs.toArray) w := by
 have h := run_loadCellsFrom (P := P) (w := w) (a := a) (vs := vs) 0 #[] (by simpa using hc)
 simp [Instr.loadAt, Instr.sureAddr, loadVar, Sem.run_bind, (run_isAgg_agg (w := w) ht).1, (run_isAgg_agg (w := w) ht).2, loadCells, h]
theorem run_alloc' {t : TypeId} {z : Value} (hz : (zeroValue t).run P w = .ok z w) : (Instr.alloc t true (.tuple #[])).run P w = .ok (.pointer (some ⟨w.heap.size, 0, none⟩)) (w.alloc (.cells z.cells t)) := by
 simp [Instr.alloc, Sem.run_bind, hz, newVar, newRow, newObj, Sem.run]
theorem y_alloc {t : TypeId} {z : Value} (hz : (zeroValue t).run P w = .ok z w) (hΦ : Φ (.pointer (some ⟨w.heap.size, 0, none⟩)) (w.alloc (.cells z.cells t))) : OpY P ⟨d, .alloc t, ty, pos, aft, gd⟩ ρ w Φ :=
 .pure (by simp only [execOp, Sem.run_bind, run_alloc' hz, Result.andThen_ok, Sem.run_pure]) hΦ
theorem y_allocN {t : TypeId} {z : Value} (hz : (zeroValue t).run P w = .ok z w) (hΦ : ∀ b w', Gr w w' → NewF w w' [(b, .cells z.cells t)] → Φ (.pointer (some ⟨b, 0, none⟩)) w') : OpY P ⟨d, .alloc t, ty, pos, aft, gd⟩ ρ w Φ :=
 y_alloc hz (hΦ _ _ (Gr.alloc _ _) (NewF.alloc _ _))
theorem y_box {t : TypeId} {x : Operand} {v : Value} (h : ρ x = v) (hΦ : Φ (.pointer (some ⟨w.heap.size, 0, none⟩)) (w.alloc (.cells v.cells t))) : OpY P ⟨d, .box t x, ty, pos, aft, gd⟩ ρ w Φ :=
 .pure (v := .pointer (some ⟨w.heap.size, 0, none⟩)) (w' := w.alloc (.cells v.cells t)) (by simp [execOp, h, Instr.box, Sem.run_bind, newVar, newRow, newObj, Sem.run]) hΦ
theorem y_boxN {t : TypeId} {x : Operand} {v : Value} (h : ρ x = v) (hΦ : ∀ b w', Gr w w' → NewF w w' [(b, .cells v.cells t)] → Φ (.pointer (some ⟨b, 0, none⟩)) w') : OpY P ⟨d, .box t x, ty, pos, aft, gd⟩ ρ w Φ :=
 y_box h (hΦ _ _ (Gr.alloc _ _) (NewF.alloc _ _))
def oneC : Value → Bool
 | .agg _ | .tuple _ => false
 | _ => true
theorem run_store {b i : Nat} {c : Array Value} {t : TypeId} {v : Value} (hb : w.heap[b]? = some (.cells c t (0, 0))) (hi : i < c.size) (hv : oneC v = true) : (store ⟨b, i, none⟩ v).run P w = .ok () (setB w b (.cells (c.setIfInBounds i v) t (0, 0))) := by
 have hc : w.cell? ⟨b, i, none⟩ = some c[i] := by rw [cell_of hb]; simp [hi]
 have hf : w.frozen? ⟨b, i, none⟩ = false := by simp [World.frozen?, hb]
 rw [← setCell_eq hb]
 cases v <;> simp [oneC] at hv <;> simp [store, Sem.run, hc, hf]
def setCs (c : Array Value) : Nat → List Value → Array Value
 | _, [] => c
 | i, v :: r => setCs (c.setIfInBounds i v) (i + 1) r
theorem setCs_size (c : Array Value) (i : Nat) (vs : List Value) : (setCs c i vs).size = c.size := by
 induction vs generalizing c i with
 | nil => rfl
 | cons v r ih => rw [setCs, ih]; simp
theorem setB_setB (w : World) (b : Nat) (o o' : Obj) : setB (setB w b o) b o' = setB w b o' := by
 simp [setB]
theorem run_storeCells {b : Nat} {t : TypeId} : ∀ (vs : List Value) (w : World) (c : Array Value) (i j : Nat), w.heap[b]? = some (.cells c t (0, 0)) → i + j + vs.length ≤ c.size → (∀ v ∈ vs, oneC v = true) → (storeCells ⟨b, i, none⟩ vs j).run P w = .ok () (setB w b (.cells (setCs c (i + j) vs) t (0, 0)))
 | [], w, c, i, j, hb, _, _ => by
  have : setB w b (.cells c t (0, 0)) = w := by
   unfold setB
   have hlt := heap_lt hb
   have : w.heap.setIfInBounds b (.cells c t (0, 0)) = w.heap := by
    apply Array.ext_getElem?
    intro k
    rw [Array.getElem?_setIfInBounds]
    by_cases e : b = k
    ·subst e; simp [hlt]; rw [Array.getElem?_eq_getElem hlt] at hb; exact (Option.some.inj hb).symm
    ·simp [e]
   rw [this]
  simp [storeCells, setCs, this]
 | v :: r, w, c, i, j, hb, hl, hv => by
  simp only [List.length_cons] at hl
  have ha : (⟨b, i, none⟩ : Addr).add j = ⟨b, i + j, none⟩ := by
   unfold Addr.add; split
   ·rename_i h; subst h; rfl
   ·rfl
  have h1 := run_store (P := P) hb (show i + j < c.size by omega) (hv v (by simp))
  have h2 := run_storeCells r (setB w b (.cells (c.setIfInBounds (i + j) v) t (0, 0))) (c.setIfInBounds (i + j) v) i (j + 1) (setB_same _ (heap_lt hb)) (by simp; omega) (fun x hx => hv x (by simp [hx]))
  simp only [storeCells, Sem.run_bind, ha, h1, Result.andThen_ok, h2, setB_setB]
  rfl
theorem run_storeAt {b i : Nat} {c : Array Value} {t u : TypeId} {v : Value} {n : Nat} (hn : (P.info? u).map (·.size) = some n) (hb : w.heap[b]? = some (.cells c t (0, 0))) (hv : v.cells.size = n) (hi : i + n ≤ c.size) (hone : ∀ x ∈ v.cells.toList, oneC x = true) :
  (Instr.storeAt u (.pointer (some ⟨b, i, none⟩)) v).run P w = .ok () (setB w b (.cells (setCs c i v.cells.toList) t (0, 0))) := by
 cases hin : P.info? u with
 | none => simp [hin] at hn
 | some inf =>
  simp only [hin, Option.map_some, Option.some.injEq] at hn
  have hs : (sizeOf u).run P w = .ok n w := by simp [sizeOf, typeInfo, Sem.run_bind, hin, hn]
  have h := run_storeCells (P := P) v.cells.toList w c i 0 hb (by simp [hv]; omega) hone
  simp only [Instr.storeAt, Instr.sureAddr, Sem.run_bind, Sem.run_pure, Result.andThen_ok, storeVar, hs, hv, ne_eq, not_true_eq_false, if_false]
  simpa using h
theorem y_store {u : TypeId} {x y : Operand} {b i : Nat} {c : Array Value} {t : TypeId} {v : Value} (n : Nat) (hn : (P.info? u).map (·.size) = some n) (hx : ρ x = .pointer (some ⟨b, i, none⟩)) (hy : ρ y = v) (hb : w.heap[b]? = some (.cells c t (0, 0))) (hv : v.cells.size = n) (hi : i + n ≤ c.size) (hone : ∀ x ∈ v.cells.toList, oneC x = true)
  (hΦ : Φ undef (setB w b (.cells (setCs c i v.cells.toList) t (0, 0)))) : OpY P ⟨d, .store u x y, ty, pos, aft, gd⟩ ρ w Φ :=
 .skip (by simp only [execOp, hx, hy, Sem.run_bind, run_storeAt hn hb hv hi hone, Result.andThen_ok, Sem.run_pure]) hΦ
theorem run_callFunc {f : FuncId} {fn : Func} (hf : P.funcs[f]? = some fn) (hb : fn.body.isSome = true) (hn : (fn.name == "runtime.NumGoroutine") = false) (args : Array Value) : (callFunc f args).run P w = .ok (.enter f args) w := by
 have h1 : ¬ fn.body = none := by cases hx : fn.body <;> simp_all
 have h2 : ¬ fn.name = "runtime.NumGoroutine" := by simpa using hn
 simp [callFunc, Sem.run_bind, hf, h1, h2]
def callable (P : Program) (f : FuncId) : Bool := match P.funcs[f]? with | some fn => fn.body.isSome && !(fn.name == "runtime.NumGoroutine") | none => false
theorem run_call {f : FuncId} (h : callable P f = true) (args : Array Value) : (callFunc f args).run P w = .ok (.enter f args) w := by
 unfold callable at h
 cases hf : P.funcs[f]? with
 | none => simp [hf] at h
 | some fn => simp only [hf, Bool.and_eq_true, Bool.not_eq_true'] at h; exact run_callFunc hf h.1 h.2 args
theorem y_closure {g : Operand} {args : Array Operand} {tys : Array TypeId} {f : FuncId} {vs caps : Array Value} (hg : ρ g = .func (.func f) #[] caps) (hf : callable P f = true) (ha : args.map ρ = vs)
  (hΦ : Calls P f (vs ++ caps) w fun e w' => ∃ v, e = .returned v ∧ Φ v w') : OpY P ⟨d, .call ⟨.value g, args, tys⟩, ty, pos, aft, gd⟩ ρ w Φ :=
 .call (f := f) (args := vs ++ caps) (by simp [execOp, resolve, hg, ha, Deferred.ofValue, invoke, run_call hf]) hΦ
theorem y_eql {t t' : TypeId} {x y : Operand} {k : IntKind} {a b : Int} {c : Bool} (h : ρ x = .int k a) (h' : ρ y = .int k b) (hc : (a == b) = c) (hΦ : Φ (.bool c) w) : OpY P ⟨d, .binOp .eql t x y t', ty, pos, aft, gd⟩ ρ w Φ := by
 subst hc; exact .pure (v := .bool (a == b)) (by simp [execOp, h, h', eqGuard, binOp, Op.intCmp]) hΦ
theorem y_neq {t t' : TypeId} {x y : Operand} {k : IntKind} {a b : Int} {c : Bool} (h : ρ x = .int k a) (h' : ρ y = .int k b) (hc : (a != b) = c) (hΦ : Φ (.bool c) w) : OpY P ⟨d, .binOp .neq t x y t', ty, pos, aft, gd⟩ ρ w Φ := by
 subst hc; exact .pure (v := .bool (a != b)) (by simp [execOp, h, h', eqGuard, binOp, Op.intCmp]) hΦ
theorem y_lss {t t' : TypeId} {x y : Operand} {k : IntKind} {a b : Int} {c : Bool} (h : ρ x = .int k a) (h' : ρ y = .int k b) (hc : (decide (a < b)) = c) (hΦ : Φ (.bool c) w) : OpY P ⟨d, .binOp .lss t x y t', ty, pos, aft, gd⟩ ρ w Φ := by
 subst hc; exact .pure (v := .bool (decide (a < b))) (by simp [execOp, h, h', eqGuard, binOp, Op.intCmp]) hΦ
theorem y_leq {t t' : TypeId} {x y : Operand} {k : IntKind} {a b : Int} {c : Bool} (h : ρ x = .int k a) (h' : ρ y = .int k b) (hc : (decide (a ≤ b)) = c) (hΦ : Φ (.bool c) w) : OpY P ⟨d, .binOp .leq t x y t', ty, pos, aft, gd⟩ ρ w Φ := by
 subst hc; exact .pure (v := .bool (decide (a ≤ b))) (by simp [execOp, h, h', eqGuard, binOp, Op.intCmp]) hΦ
theorem y_gtr {t t' : TypeId} {x y : Operand} {k : IntKind} {a b : Int} {c : Bool} (h : ρ x = .int k a) (h' : ρ y = .int k b) (hc : (decide (b < a)) = c) (hΦ : Φ (.bool c) w) : OpY P ⟨d, .binOp .gtr t x y t', ty, pos, aft, gd⟩ ρ w Φ := by
 subst hc; exact .pure (v := .bool (decide (b < a))) (by simp [execOp, h, h', eqGuard, binOp, Op.intCmp]) hΦ
theorem y_geq {t t' : TypeId} {x y : Operand} {k : IntKind} {a b : Int} {c : Bool} (h : ρ x = .int k a) (h' : ρ y = .int k b) (hc : (decide (b ≤ a)) = c) (hΦ : Φ (.bool c) w) : OpY P ⟨d, .binOp .geq t x y t', ty, pos, aft, gd⟩ ρ w Φ := by
 subst hc; exact .pure (v := .bool (decide (b ≤ a))) (by simp [execOp, h, h', eqGuard, binOp, Op.intCmp]) hΦ
theorem y_add {t t' : TypeId} {x y : Operand} {k : IntKind} {a b c : Int} (h : ρ x = .int k a) (h' : ρ y = .int k b) (hc : k.wrap (a + b) = c) (hΦ : Φ (.int k c) w) : OpY P ⟨d, .binOp .add t x y t', ty, pos, aft, gd⟩ ρ w Φ := by
 subst hc; exact .pure (v := .int k (k.wrap (a + b))) (by simp [execOp, h, h', eqGuard, binOp, Op.intArith]) hΦ
theorem y_sub {t t' : TypeId} {x y : Operand} {k : IntKind} {a b c : Int} (h : ρ x = .int k a) (h' : ρ y = .int k b) (hc : k.wrap (a - b) = c) (hΦ : Φ (.int k c) w) : OpY P ⟨d, .binOp .sub t x y t', ty, pos, aft, gd⟩ ρ w Φ := by
 subst hc; exact .pure (v := .int k (k.wrap (a - b))) (by simp [execOp, h, h', eqGuard, binOp, Op.intArith]) hΦ
theorem y_min {t t' : TypeId} {x y : Operand} {k : IntKind} {a b c : Int} (h : ρ x = .int k a) (h' : ρ y = .int k b) (hc : min a b = c) (hΦ : Φ (.int k c) w) : OpY P ⟨d, .call ⟨.builtin .min, #[x, y], #[t, t']⟩, ty, pos, aft, gd⟩ ρ w Φ := by
 have : (if b < a then b else a) = c := by subst hc; split <;> omega
 subst this; exact .pure (v := .int k (if b < a then b else a)) (by simp [execOp, resolve, h, h', invoke, builtin, Builtin.min_, Builtin.min2]) hΦ
theorem y_max {t t' : TypeId} {x y : Operand} {k : IntKind} {a b c : Int} (h : ρ x = .int k a) (h' : ρ y = .int k b) (hc : max a b = c) (hΦ : Φ (.int k c) w) : OpY P ⟨d, .call ⟨.builtin .max, #[x, y], #[t, t']⟩, ty, pos, aft, gd⟩ ρ w Φ := by
 have : (if a < b then b else a) = c := by subst hc; split <;> omega
 subst this; exact .pure (v := .int k (if a < b then b else a)) (by simp [execOp, resolve, h, h', invoke, builtin, Builtin.max_, Builtin.max2]) hΦ
theorem y_not {t : TypeId} {x : Operand} {b c : Bool} (h : ρ x = .bool b) (hc : (!b) = c) (hΦ : Φ (.bool c) w) : OpY P ⟨d, .unOp .not t x, ty, pos, aft, gd⟩ ρ w Φ := by
 subst hc; exact .pure (v := .bool (!b)) (by simp [execOp, h, Op.unary]) hΦ
theorem y_pickT {c x y : Operand} {v : Value} (h : ρ c = .bool true) (hx : ρ x = v) (hΦ : Φ v w) : OpY P ⟨d, .pick c x y, ty, pos, aft, gd⟩ ρ w Φ :=
 .pure (by simp [execOp, h, hx, asBool]) hΦ
theorem y_pickF {c x y : Operand} {v : Value} (h : ρ c = .bool false) (hx : ρ y = v) (hΦ : Φ v w) : OpY P ⟨d, .pick c x y, ty, pos, aft, gd⟩ ρ w Φ :=
 .pure (by simp [execOp, h, hx, asBool]) hΦ
theorem y_pick {c x y : Operand} {b : Bool} {u v : Value} (h : ρ c = .bool b) (hx : ρ x = u) (hy : ρ y = v) (hΦ : Φ (if b then u else v) w) : OpY P ⟨d, .pick c x y, ty, pos, aft, gd⟩ ρ w Φ :=
 .pure (by simp [execOp, h, hx, hy, asBool]) hΦ
theorem y_lenS {x : Operand} {t e : TypeId} {a : Option Addr} {n c : Nat} (ht : P.underlying t = some (.slice e)) (h : ρ x = .slice a n c) (hΦ : Φ (.int .i64 n) w) : OpY P ⟨d, .call ⟨.builtin .len, #[x], #[t]⟩, ty, pos, aft, gd⟩ ρ w Φ :=
 .pure (v := .int .i64 n) (by simp [execOp, resolve, h, invoke, builtin, Builtin.len_, Sem.run_bind, run_underlying ht, goInt]) hΦ
theorem y_sliceNil {x : Operand} {t t' e : TypeId} {o : Option Addr} {n k : Nat} {c : Bool} (ht : P.underlying t = some (.slice e)) (h : ρ x = .slice o n k) (hn : ρ (.const (.slice none 0 0)) = .slice none 0 0) (hc : o.isNone = c) (hΦ : Φ (.bool c) w) : OpY P ⟨d, .binOp .eql t x (.const (.slice none 0 0)) t', ty, pos, aft, gd⟩ ρ w Φ := by
 subst hc
 refine .pure (v := .bool o.isNone) ?_ hΦ
 have : ∀ m, (Op.equalIn (m + 1) t (.slice o n k) (.slice none 0 0)).run P w = .ok o.isNone w := by
  intro m; cases o <;> simp [Op.equalIn, Sem.run_bind, run_underlying ht]
 simp [execOp, h, hn, eqGuard, binOp, Op.equal, Op.maxDepth, this 9999]
theorem y_ptrNil {x : Operand} {t t' : TypeId} {o : Option Addr} {c : Bool} (ht : P.underlying t = some (.pointer (P.pointee t))) (h : ρ x = .pointer o) (hn : ρ (.const (.pointer none)) = .pointer none) (hc : o.isNone = c) (hΦ : Φ (.bool c) w) : OpY P ⟨d, .binOp .eql t x (.const (.pointer none)) t', ty, pos, aft, gd⟩ ρ w Φ := by
 subst hc
 exact .pure (v := .bool o.isNone) (by simp [execOp, h, hn, eqGuard, binOp, Op.equal, Op.maxDepth, run_equalIn_pointer_nil w 9999 t o ht]) hΦ
end
section
variable {P : Program} {w : World} {a : Act}
def resOk (P : Program) (w : World) (a : Act) : List ResultVar → List Value → Prop
 | [], [] => True
 | .tmp t :: r, v :: vs => a.eval (.tmp t) = v ∧ resOk P w a r vs
 | .cell t ty :: r, v :: vs => (∃ ad, a.eval (.tmp t) = .pointer (some ad) ∧ (loadVar ty ad).run P w = .ok v w) ∧ resOk P w a r vs
 | _, _ => False
def resF (t : Array Value) : ResultVar → Sem Value
 | .tmp s => pure (t.getD s undef)
 | .cell s ty => do loadVar ty (← asAddr (t.getD s undef))
theorem res_list : ∀ (rs : List ResultVar) (vs : List Value), resOk P w a rs vs → (rs.mapM (resF a.tmps)).run P w = .ok vs w
 | [], [], _ => by simp
 | .tmp t :: r, v :: vs, h => by
  have h1 : a.tmps.getD t undef = v := h.1
  have ih := res_list r vs h.2
  simp only [List.mapM_cons, Sem.run_bind, resF, h1, Sem.run_pure, Result.andThen_ok, ih]
 | .cell t ty :: r, v :: vs, h => by
  obtain ⟨⟨ad, h1, h2⟩, h3⟩ := h
  have h1' : a.tmps.getD t undef = .pointer (some ad) := h1
  have ih := res_list r vs h3
  have h4 : (asAddr (.pointer (some ad))).run P w = .ok ad w := rfl
  simp only [List.mapM_cons, Sem.run_bind, resF, h1', h4, Sem.run_pure, Result.andThen_ok, h2, ih]
 | [], _ :: _, h => h.elim
 | .tmp _ :: _, [], h => h.elim
 | .cell _ _ :: _, [], h => h.elim
theorem res_run {fn : Func} {rs : List ResultVar} {vs : List Value} (hr : fn.results.toList = rs) (h : resOk P w a rs vs) : (results fn a.tmps).run P w = .ok (match vs with | [v] => v | vs => .tuple vs.toArray) w := by
 have hm := res_list rs vs h
 have he : results fn a.tmps = (do let vs ← fn.results.mapM (resF a.tmps); pure (if h : vs.size = 1 then vs[0] else .tuple vs)) := by
  unfold results
  congr 1
 rw [he]
 simp only [Sem.run_bind, Array.mapM_eq_mapM_toList, hr, Sem.run_map, hm, Result.andThen_ok, Sem.run_pure]
 match vs with
 | [] => simp
 | [v] => simp
 | _ :: _ :: _ => simp
end
theorem St.newF {w0 w : World} {H : Frag} (s : St [] w0 w H) : NewF w0 w H := ⟨s.nd, fun b hb => (s.own b hb).resolve_right (by simp), s.holds⟩
section
variable {P : Program} {ops : Array Oper} {Q : Exit → Act → World → Prop} {sz d : Nat} {E : List (Nat × Value)} {a : Act} {w : World} {x : Operand} {v : Value} {ty : TypeId} {pos : String} {aft : Array Edge} {r : List (Oper × Bool)}
end
end Go.Proofs.Ytikmdkicccfjpaa
namespace Go.Proofs.Ytikmdkicccfjpaa
open Go.RowKit
def SlRep (T : TypeId) (size : Nat) (v : Value) (n : Nat) (xs : List Value) (H : Frag) : Prop :=
 xs.length = n * size ∧ ((n = 0 ∧ H = [] ∧ ∃ a, v = .slice a 0 0) ∨
  ∃ b cap cs, v = .slice (some ⟨b, 0, none⟩) n cap ∧ H = [(b, .cells cs T (0, 0))] ∧ cs.size = cap * size ∧ n ≤ cap ∧ cs.toList.take (n * size) = xs)
theorem SlRep.nil (T : TypeId) (size : Nat) (a : Option Addr) : SlRep T size (.slice a 0 0) 0 [] [] := ⟨by simp, Or.inl ⟨rfl, rfl, a, rfl⟩⟩
theorem SlRep.len {T : TypeId} {size : Nat} {v : Value} {n : Nat} {xs : List Value} {H : Frag} (h : SlRep T size v n xs H) : ∃ a c, v = .slice a n c := by
 rcases h.2 with ⟨rfl, _, a, rfl⟩ | ⟨b, cap, cs, rfl, _⟩
 ·exact ⟨a, 0, rfl⟩
 ·exact ⟨_, _, rfl⟩
def Src (w : World) (size : Nat) (x : Value) (m : Nat) (X : List Value) : Prop :=
 X.length = m * size ∧ ((m = 0 ∧ ∃ a c, x = .slice a 0 c) ∨ ∃ a c, x = .slice (some a) m c ∧ ∀ j (hj : j < X.length), w.cell? (a.add j) = some X[j])
theorem Src.gr {w w' : World} {size : Nat} {x : Value} {m : Nat} {X : List Value} (h : Src w size x m X) (g : Gr w w') : Src w' size x m X := by
 refine ⟨h.1, ?_⟩
 rcases h.2 with h2 | ⟨a, c, h2, h3⟩
 ·exact Or.inl h2
 ·exact Or.inr ⟨a, c, h2, fun j hj => g.cell' (h3 j hj)⟩
variable {P : Program}
theorem run_loadCells {w : World} {a : Addr} {X : List Value} (h : ∀ j (hj : j < X.length), w.cell? (a.add j) = some X[j]) : (loadCells a X.length).run P w = .ok X.toArray w := by
 have := run_loadCellsFrom (P := P) (w := w) (a := a) (vs := X) 0 #[] (by simpa using h)
 simpa [loadCells] using this
theorem Src.first {w : World} {size : Nat} {x : Value} {m : Nat} {X : List Value} (h : Src w size x m X) : (Builtin.lenOf x).run P w = .ok m w ∧ (Builtin.firstCells size m x).run P w = .ok X.toArray w := by
 obtain ⟨hl, h⟩ := h
 rcases h with ⟨rfl, a, c, rfl⟩ | ⟨a, c, rfl, h⟩
 ·have : X = [] := List.eq_nil_of_length_eq_zero (by simpa using hl)
  subst this
  cases a with
  | none => simp [Builtin.lenOf, Builtin.firstCells]
  | some a => simp [Builtin.lenOf, Builtin.firstCells, loadCells, loadCellsFrom]
 ·refine ⟨by simp [Builtin.lenOf], ?_⟩
  simp only [Builtin.firstCells, ← hl]
  exact run_loadCells h
theorem growBy_le (need : Nat) (h256 : 256 ≤ need) : ∀ (r c : Nat), c ≤ need → Builtin.growBy need r c ≤ 2 * need + 0
 | 0, c, h => by simp [Builtin.growBy]; omega
 | r + 1, c, h => by
  unfold Builtin.growBy
  split
  ·omega
  ·by_cases h2 : c + (c + 768) / 4 ≤ need
   ·exact growBy_le need h256 r _ h2
   ·have key : ∀ r c', need < c' → Builtin.growBy need r c' = c' := by
     intro r; induction r with
     | zero => intro c' _; rfl
     | succ r ih => intro c' hc'; unfold Builtin.growBy; rw [if_pos (by omega)]
    rw [key r _ (by omega)]; omega
theorem next_le {need old : Nat} (h : old < need) : Builtin.nextslicecap need old ≤ 2 * need + 0 := by
 unfold Builtin.nextslicecap
 split
 ·omega
 ·split
  ·omega
  ·exact growBy_le need (by omega) 4 old (by omega)
structure AppOk (P : Program) (st T size bytes : Nat) (z : Value) : Prop where
 hst : P.underlying st = some (.slice T)
 hsize : (P.info? T).map (·.size) = some size
 hbytes : (P.info? T).map (·.bytes) = some bytes
 hzero : (P.info? T).bind (·.zero) = some z
 hzs : z.cells.size = size
theorem AppOk.info {st T size bytes : Nat} {z : Value} (h : AppOk P st T size bytes z) : ∃ i, P.info? T = some i ∧ i.size = size ∧ i.bytes = bytes ∧ i.zero = some z := by
 cases hi : P.info? T with
 | none => have := h.hsize; simp [hi] at this
 | some i =>
  have h1 := h.hsize; have h2 := h.hbytes; have h3 := h.hzero
  simp only [hi, Option.map_some, Option.some.injEq, Option.bind_some] at h1 h2 h3
  exact ⟨i, rfl, h1, h2, h3⟩
theorem zeroCells_size (z : Array Value) (n : Nat) : (Builtin.zeroCells z n).size = n * z.size := by simp [Builtin.zeroCells]
theorem setCs_toList (c : Array Value) : ∀ (vs : List Value) (i : Nat), i + vs.length ≤ c.size → ∀ (d : Array Value), d.size = c.size → (setCs d i vs).toList.take (i + vs.length) = d.toList.take i ++ vs := by
 intro vs
 induction vs with
 | nil => intro i h d hd; simp [setCs]
 | cons v r ih =>
  intro i h d hd
  simp only [List.length_cons] at h
  have := ih (i + 1) (by omega) (d.setIfInBounds i v) (by simp [hd])
  simp only [setCs, List.length_cons]
  rw [show i + (r.length + 1) = i + 1 + r.length by omega, this]
  have hi : i < d.toList.length := by simp [hd]; omega
  simp only [Array.toList_setIfInBounds]
  rw [List.take_succ_eq_append_getElem (by simpa using hi)]
  simp [List.take_set_of_le]
structure AppSrc (P : Program) (xt : TypeId) (w : World) (size : Nat) (u : Value) (m : Nat) (X : List Value) : Prop where
 len : X.length = m * size
 ty : (∃ e, P.underlying xt = some (.slice e)) ∨ P.underlying xt = some .string
 rd : ∀ w', Gr w w' → (Builtin.lenOf u).run P w' = .ok m w' ∧ (Builtin.firstCells size m u).run P w' = .ok X.toArray w'
theorem Src.app {xt e : TypeId} {w : World} {size : Nat} {u : Value} {m : Nat} {X : List Value} (h : Src w size u m X) (hxt : P.underlying xt = some (.slice e)) : AppSrc P xt w size u m X := ⟨h.1, .inl ⟨e, hxt⟩, fun _ g => (h.gr g).first⟩
theorem AppSrc.str {xt : TypeId} {w : World} {bs : List UInt8} (hxt : P.underlying xt = some .string) : AppSrc P xt w 1 (.string ⟨bs.toArray⟩) bs.length (bs.map fun b : UInt8 => Value.int .u8 (b.toNat : Int)) := by
 refine ⟨by simp, .inr hxt, fun w' _ => ?_⟩
 have e1 : (⟨bs.toArray⟩ : ByteArray).size = bs.length := by simp [ByteArray.size]
 refine ⟨by simp [Builtin.lenOf, e1], ?_⟩
 have e2 : ((⟨bs.toArray⟩ : ByteArray).extract 0 bs.length).data = bs.toArray := by simp [ByteArray.data_extract]
 simp [Builtin.firstCells, e2]
theorem y_appendG {st T size bytes : Nat} {z : Value} {ρ : Operand → Value} {w w0 : World} {D : List Nat} {Φ : Value → World → Prop} {d : Option Tmp} {ty xt : TypeId} {pos : String} {aft : Array Edge} {gd : Option (Nat × Bool)} {x y : Operand} {v u : Value} {n m : Nat} {xs X : List Value} {H R : Frag}
    (ok : AppOk P st T size bytes z) (hx : ρ x = v) (hy : ρ y = u) (S : St D w0 w (H ++ R)) (hv : SlRep T size v n xs H) (hu : AppSrc P xt w size u m X) (hone : ∀ q ∈ X, oneC q = true) (hroom : (2 * (n + m) + 0) * bytes ≤ 281474976710656) (hbig : n + m < 4611686018427387904)
    (hΦ : ∀ v' w' H', SlRep T size v' (n + m) (xs ++ X) H' → St D w0 w' (H' ++ R) → Φ v' w') : OpY P ⟨d, .call ⟨.builtin .append, #[x, y], #[st, xt]⟩, ty, pos, aft, gd⟩ ρ w Φ := by
  obtain ⟨i, hi, h1, h2, h3⟩ := ok.info
  obtain ⟨hlen, hfirst⟩ := hu.rd w (Gr.refl w)
  have hsz : ∀ w : World, (sizeOf T).run P w = .ok size w := fun w => by simp [sizeOf, typeInfo, Sem.run_bind, hi, h1]
  have hinfo : ∀ w : World, (typeInfo T).run P w = .ok i w := fun w => by simp [typeInfo, Sem.run_bind, hi]
  have hzero : ∀ w : World, (zeroValue T).run P w = .ok z w := fun w => by simp [zeroValue, Sem.run_bind, hinfo, h3]
  have hnx : n + m ≤ 9223372036854775807 := by omega
  have hexec : ∀ r : Result Value, (Builtin.append_ #[st, xt] ty #[v, u]).run P w = r → (execOp ρ ⟨d, .call ⟨.builtin .append, #[x, y], #[st, xt]⟩, ty, pos, aft, gd⟩).run P w = r.andThen fun v w' => .ok (.value v) w' := by
    intro r hr
    simp only [execOp, resolve, List.map_toArray, List.map, hx, hy, Sem.run_bind, Sem.run_pure, Result.andThen_ok, invoke, builtin, hr]
  have hplace : ∀ (a : Option Addr) (c : Nat) (w' : World), v = .slice a n c → n + m ≤ c → (match a with | some a => (storeCells (a.add (n * size)) X).run P w | none => .ok () w) = .ok () w' → (Builtin.append_ #[st, xt] ty #[v, u]).run P w = .ok (.slice a (n + m) c) w' := by
    intro a c w' hv hle hst
    subst hv
    rcases hu.ty with ⟨e, hxt⟩ | hxt <;>
    (unfold Builtin.append_
     simp only [List.getElem?_toArray, List.getElem?_cons_zero, List.getElem?_cons_succ, Sem.run_bind, run_underlying ok.hst, run_underlying hxt, Result.andThen_ok, hsz, Sem.run_pure, Bool.false_eq_true, if_false, hlen, hle, if_true, Bool.not_false, hfirst]
     cases a with
     | none => simp only at hst; cases hst; simp
     | some a => simp only at hst; simp [hst])
  have hgrow : ∀ (a : Option Addr) (c : Nat) (old : List Value), v = .slice a n c → c < n + m → (Builtin.firstCells size n v).run P w.drew = .ok old.toArray w.drew → old.length = n * size → ∃ k, n + m ≤ k ∧ (Builtin.append_ #[st, xt] ty #[v, u]).run P w = .ok (.slice (some ⟨w.heap.size, 0, none⟩) (n + m) k) (w.drew.alloc (.cells (old.toArray ++ X.toArray ++ Builtin.zeroCells z.cells (k - (n + m))) T)) := by
    intro a c old hv hlt hold holdl
    subst hv
    have hfirst' := hu.rd w.drew (Gr.drew w)
    have hnc : Builtin.nextslicecap (n + m) c * bytes ≤ 281474976710656 := Nat.le_trans (Nat.mul_le_mul_right _ (next_le hlt)) hroom
    refine ⟨(Question.appendCap (n + m) c T).cut (w.tape w.drawn (.appendCap (n + m) c T)), by simp [Question.cut], ?_⟩
    have hch : (choose (.appendCap (n + m) c T)).run P w = .ok ((Question.appendCap (n + m) c T).cut (w.tape w.drawn (.appendCap (n + m) c T))) w.drew := by
      simp [choose, Sem.run, Question.forced]
    have hask : ∀ (k : Nat) (w : World), (askRoom k).run P w = .ok () w := by
      intro k w; unfold askRoom; split <;> simp [mark, Sem.run]
    have hbig' : ¬ (((n + m : Nat) : Int) > IntKind.i64.max ∧ (False ∨ i.bytes = 0)) := by
      rintro ⟨h, _⟩
      simp [IntKind.max, IntKind.signed, IntKind.bits] at h
      omega
    have hnc' : ¬ (Builtin.nextslicecap (n + m) c * i.bytes > 2 ^ 48) := by rw [h2]; omega
    have hrow : ∀ (cs : Array Value) (w : World), (newRow T cs).run P w = .ok ⟨w.heap.size, 0, none⟩ (w.alloc (.cells cs T)) := by
      intro cs w; simp [newRow, newObj, Sem.run]
    rcases hu.ty with ⟨e, hxt⟩ | hxt <;>
    (unfold Builtin.append_
     simp only [List.getElem?_toArray, List.getElem?_cons_zero, List.getElem?_cons_succ, Sem.run_bind, run_underlying ok.hst, run_underlying hxt, Result.andThen_ok, hsz, Sem.run_pure, Bool.false_eq_true, if_false, hlen]
     rw [if_neg (by omega)]
     simp only [Sem.run_bind, hinfo, Result.andThen_ok]
     rw [if_neg hbig']
     simp only [Sem.run_bind, hinfo, Result.andThen_ok]
     rw [if_neg hnc']
     simp only [Sem.run_bind, hinfo, Result.andThen_ok, hch, hask, hold, Bool.not_false, if_true, hfirst'.2, hzero, hrow, Sem.run_pure]
     rfl)
  have hsize : w.drew.heap.size = w.heap.size := rfl
  have hnew : ∀ (old : List Value) (k : Nat), old.length = n * size → old = xs → n + m ≤ k → ∀ b cs, cs = old.toArray ++ X.toArray ++ Builtin.zeroCells z.cells (k - (n + m)) → SlRep T size (.slice (some ⟨b, 0, none⟩) (n + m) k) (n + m) (xs ++ X) [(b, .cells cs T (0, 0))] := by
    intro old k hol hox hk b cs hcs
    subst hcs
    have hXl := hu.len
    have e1 : (n + m) * size = n * size + m * size := Nat.add_mul n m size
    refine ⟨by rw [List.length_append, ← hox, hol, hXl, e1], Or.inr ⟨b, k, _, rfl, rfl, ?_, hk, ?_⟩⟩
    · simp only [Array.size_append, List.size_toArray, zeroCells_size, ok.hzs, hol, hXl]
      rw [← e1, ← Nat.add_mul]; congr 1; omega
    · simp only [Array.toList_append, ← hox]
      rw [List.take_append_of_le_length (by simp [hol, hXl, e1]), List.take_of_length_le (by simp [hol, hXl, e1])]
  have hstep : ∀ (old : List Value) (k : Nat), old.length = n * size → old = xs → n + m ≤ k → Φ (.slice (some ⟨w.heap.size, 0, none⟩) (n + m) k) (w.drew.alloc (.cells (old.toArray ++ X.toArray ++ Builtin.zeroCells z.cells (k - (n + m))) T)) := by
    intro old k hol hox hk
    exact hΦ _ _ _ (hnew old k hol hox hk w.heap.size _ rfl) ((S.app_right.gr (Gr.drew w)).alloc _)
  rcases hv.2 with ⟨rfl, rfl, a, rfl⟩ | ⟨b, cap, cs, rfl, rfl, hcs, hle, htake⟩
  · have hxs : xs = [] := List.eq_nil_of_length_eq_zero (by simpa using hv.1)
    by_cases hm : m = 0
    · have hX : X = [] := List.eq_nil_of_length_eq_zero (by rw [hu.len, hm]; simp)
      refine .pure (v := .slice a (0 + m) 0) (w' := w) (by rw [hexec _ (hplace a 0 w rfl (by omega) (by subst hX; cases a <;> simp [storeCells]))]; rfl) (hΦ _ _ [] ?_ S)
      subst hm; rw [hxs, hX]; exact SlRep.nil T size a
    · obtain ⟨k, hk, hrun⟩ := hgrow a 0 [] rfl (by omega) (by cases a <;> simp [Builtin.firstCells, loadCells, loadCellsFrom]) (by simp)
      exact .pure (by rw [hexec _ hrun]; rfl) (hstep [] k (by simp) hxs.symm hk)
  · have hb : w.heap[b]? = some (.cells cs T (0, 0)) := S.holds (b, _) (by simp)
    by_cases hm : n + m ≤ cap
    · have hsz2 : n * size + X.length ≤ cs.size := by rw [hu.len, hcs, ← Nat.add_mul]; exact Nat.mul_le_mul_right _ hm
      have hst := run_storeCells (P := P) X w cs (n * size) 0 hb (by omega) hone
      refine .pure (v := .slice (some ⟨b, 0, none⟩) (n + m) cap) (w' := setB w b (.cells (setCs cs (n * size) X) T (0, 0))) (by rw [hexec _ (hplace _ cap _ rfl hm (by simp only [add_eq, Nat.zero_add]; exact hst))]; rfl) (hΦ _ _ [(b, .cells (setCs cs (n * size) X) T (0, 0))] ?_ (S.set _))
      have e1 : (n + m) * size = n * size + m * size := Nat.add_mul n m size
      refine ⟨by rw [List.length_append, hv.1, hu.len, e1], Or.inr ⟨b, cap, _, rfl, rfl, by rw [setCs_size, hcs], hm, ?_⟩⟩
      have := setCs_toList cs X (n * size) hsz2 cs rfl
      rw [hu.len] at this
      rw [e1, this, htake]
    · have hold : (Builtin.firstCells size n (.slice (some ⟨b, 0, none⟩) n cap)).run P w.drew = .ok xs.toArray w.drew := by
        simp only [Builtin.firstCells, ← hv.1]
        refine run_loadCells (fun j hj => ?_)
        rw [add_eq, Nat.zero_add]
        have hb' : w.drew.heap[b]? = some (.cells cs T (0, 0)) := hb
        rw [cell_of hb']
        have : (cs.toList.take (n * size))[j]? = some xs[j] := by rw [htake]; simp [hj]
        rw [List.getElem?_take] at this
        split at this
        · simpa using this
        · simp at this
      obtain ⟨k, hk, hrun⟩ := hgrow (some ⟨b, 0, none⟩) cap xs rfl (by omega) hold hv.1
      exact .pure (by rw [hexec _ hrun]; rfl) (hstep xs k hv.1 rfl hk)
section
variable {ρ : Operand → Value} {w : World} {Φ : Value → World → Prop} {d : Option Tmp} {ty t e : TypeId} {pos : String} {aft : Array Edge} {gd : Option (Nat × Bool)} {x lo hi mx : Operand} {size l h m b o n c : Nat}
theorem run_bound {v : Nat} {y : Nat} {code : BoundsCode} (h : v ≤ y) : (Instr.sliceBound (.int .i64 v) y code).run P w = .ok v w := by
 simp only [Instr.sliceBound, Sem.run_bind, asIntOf, Sem.run_pure, Result.andThen_ok]
 rw [if_pos ⟨by omega, by omega⟩]; simp
theorem y_clearS {z : Value} {Z : List Value} (ht : P.underlying t = some (.slice e)) (hz : (zeroValue e).run P w = .ok z w) (hx : ρ x = .slice (some ⟨b, o, none⟩) (n + 1) c) {cs : Array Value} {T : TypeId} (hb : w.heap[b]? = some (.cells cs T (0, 0))) (hZ : (Builtin.zeroCells z.cells (n + 1)).toList = Z) (hl : o + Z.length ≤ cs.size) (hone : ∀ q ∈ Z, oneC q = true)
  (hΦ : Φ (.tuple #[]) (setB w b (.cells (setCs cs o Z) T (0, 0)))) : OpY P ⟨d, .call ⟨.builtin .clear, #[x], #[t]⟩, ty, pos, aft, gd⟩ ρ w Φ :=
 .pure (by
  have hst := run_storeCells (P := P) Z w cs o 0 hb (by omega) hone
  simp only [Nat.add_zero] at hst
  have : (Builtin.clear_ #[t] ty #[.slice (some ⟨b, o, none⟩) (n + 1) c]).run P w = .ok (.tuple #[]) (setB w b (.cells (setCs cs o Z) T (0, 0))) := by
   unfold Builtin.clear_
   simp only [List.getElem?_toArray, List.getElem?_cons_zero, Sem.run_bind, run_underlying ht, Result.andThen_ok, hz, hZ, hst, Sem.run_pure]
  simp only [execOp, resolve, List.map_toArray, List.map, hx, Sem.run_bind, Sem.run_pure, Result.andThen_ok, invoke, builtin, this]) hΦ
end
end Go.Proofs.Ytikmdkicccfjpaa
namespace Go.Proofs.Ytikmdkicccfjpaa
open Go.RowKit Go.Maps
section
variable {κ : Type} [DecidableEq κ]
end
section
variable {κ : Type} [DecidableEq κ] {P : Program} {K e t : TypeId} {enc : κ → Value} {o : Obj} {kvs : List (κ × Value)} {w : World} {r : Nat}
theorem run_getObj {es : Array MapEntry} {clock : Nat} (hb : w.heap[r]? = some (.map es clock)) : (getObj r).run P w = .ok (.map es clock) w := by simp [getObj, Sem.run, hb]
theorem run_setObj {es : Array MapEntry} {clock : Nat} {o' : Obj} (hb : w.heap[r]? = some (.map es clock)) : (setObj r o').run P w = .ok () (setB w r o') := by simp [setObj, Sem.run, hb, setB]
end
section
variable {P : Program} {ρ : Operand → Value} {w w' : World} {Φ : Value → World → Prop} {d : Option Tmp} {ty t u : TypeId} {pos : String} {aft : Array Edge} {gd : Option (Nat × Bool)} {x y z : Operand} {m k v r : Value}
theorem y_mapUpdate (hx : ρ x = m) (hy : ρ y = k) (hz : ρ z = v) (hr : (Instr.mapUpdate t m k v).run P w = .ok () w') (hΦ : Φ undef w') : OpY P ⟨d, .mapUpdate t x y z, ty, pos, aft, gd⟩ ρ w Φ :=
 .skip (by simp only [execOp, hx, hy, hz, Sem.run_bind, hr, Result.andThen_ok, Sem.run_pure]) hΦ
theorem y_delete (hx : ρ x = m) (hy : ρ y = k) (hr : (Builtin.delete_ #[t, u] ty #[m, k]).run P w = .ok r w') (hΦ : Φ r w') : OpY P ⟨d, .call ⟨.builtin .delete, #[x, y], #[t, u]⟩, ty, pos, aft, gd⟩ ρ w Φ :=
 .pure (by simp only [execOp, resolve, List.map_toArray, List.map, hx, hy, Sem.run_bind, Sem.run_pure, Result.andThen_ok, invoke, builtin, hr]) hΦ
end
end Go.Proofs.Ytikmdkicccfjpaa
namespace Go.Proofs.Ytikmdkicccfjpaa
open Go.RowKit Go.Maps
section
variable {P : Program} {ρ : Operand → Value} {w : World} {Φ : Value → World → Prop} {d : Option Tmp} {ty t e : TypeId} {pos : String} {aft : Array Edge} {gd : Option (Nat × Bool)} {x : Operand} {a : Addr} {b o n c size : Nat}
theorem y_makeMapN (hΦ : ∀ b w', Gr w w' → NewF w w' [(b, .map #[] 0)] → Φ (.map (some b)) w') : OpY P ⟨d, .makeMap t none, ty, pos, aft, gd⟩ ρ w Φ :=
 .pure (v := .map (some w.heap.size)) (w' := w.alloc (.map #[] 0)) (by simp [execOp, Instr.makeMap, Sem.run_bind, newObj, Sem.run]) (hΦ _ _ (Gr.alloc _ _) (NewF.alloc _ _))
end
theorem Addr.add_add' (a : Addr) (m n : Nat) : (a.add m).add n = a.add (m + n) := by
 unfold Addr.add
 split
 ·rename_i h; subst h; simp
 ·split
  ·rename_i h; subst h; simp; omega
  ·split
   ·omega
   ·cases a; simp; omega
theorem Src.row {w : World} {size m : Nat} {v : Value} {X : List Value} (h : Src w size v m X) {i : Nat} (hi : i < m) : ∃ a c, v = .slice (some a) m c ∧ ∀ j (hj : j < size) (hk : i * size + j < X.length), w.cell? ((a.add (i * size)).add j) = some X[i * size + j] := by
 rcases h.2 with ⟨h0, _⟩ | ⟨a, c, hv, hc⟩
 ·omega
 ·refine ⟨a, c, hv, fun j hj hk => ?_⟩
  rw [Addr.add_add']; exact hc _ hk
end Go.Proofs.Ytikmdkicccfjpaa
namespace Go.Proofs.Ytikmdkicccfjpaa
open Go.RowKit Go.Deep
theorem trodAll_gr {H : Type} {enc : TypeId × Value → H} {P : Program} (hl : laidOutB P = true) {W W' : World} (g : Gr W W') : ∀ {ts : List TypeId} {vs : List Value} {ds : List (DataW H)} {ps : List MemPlace}, (∀ t ∈ ts, P.readableRec t = true ∧ t < P.types.size) → DataW.TrodAll enc P W 0 (fun _ => true) true ts vs ds ps → (∀ x ∈ ps, x.block < W.heap.size) → DataW.TrodAll enc P W' 0 (fun b => decide (b < W.heap.size)) true ts vs ds ps
 | [], [], [], _, _, h, _ => h
 | [], _ :: _, _, _, _, h, _ => h.elim
 | [], [], _ :: _, _, _, h, _ => h.elim
 | _ :: _, [], _, _, _, h, _ => h.elim
 | _ :: _, _ :: _, [], _, _, h, _ => h.elim
 | t :: ts, v :: vs, d :: ds, ps, ht, h, hp => by
  obtain ⟨p, q, h1, h2, rfl⟩ := h
  refine ⟨p, q, Below.trod hl (ht t (by simp)).1 (ht t (by simp)).2 h1 g (fun x hx => hp x (by simp [hx])), trodAll_gr hl g (fun t' h' => ht t' (by simp [h'])) h2 (fun x hx => hp x (by simp [hx])), rfl⟩
theorem law_post {H : Type} {enc : TypeId × Value → H} {P : Program} {f : Func} {s : ChangeSpec} {W W' : World} {args : Array Value} {ds gs : List (DataW H)} {before : List MemPlace} {tb : TypeId} (hl : laidOutB P = true)
  (hp : f.params.toList.all (fun t => P.readableRec t && decide (t < P.types.size)) = true) (hr : f.resultTypes = #[tb]) (ht : P.underlying tb = some .bool) (hv : s.vars = [])
  (hW : DataW.Whole enc P f.params.toList s.vars false W args.toList ds gs before) (hfn : s.fn H (ds ++ gs) = { results := [.lit (.bool true)], args := ds }) (g : Gr W W') : s.post enc P f false true false false W args (.bool true) W' := by
 have hW' := hW
 have hlt := hW.lt
 obtain ⟨p, q, hA, hV, rfl, hfz, hnd⟩ := hW
 rw [hv] at hV
 match gs, hV with
 | [], hV =>
  cases hV
  refine ⟨ds, [], _, [], p, [], hW', ?_, ?_, ?_, ?_, fun h => by cases h⟩
  ·rw [hfn, hr]
   exact ⟨[], [], ⟨1, by simp [DataW.trod, ht, Value.cells]⟩, rfl, rfl⟩
  ·rw [hfn]
   refine trodAll_gr hl g (fun t h => ?_) hA (fun x hx => hlt x (by simp [hx]))
   have := List.all_eq_true.1 hp t h
   simpa using this
  ·rw [hfn, hv]; rfl
  ·exact Below.frame g _
def TR (P : Program) (w : World) (t : TypeId) (cs : List Value) : Prop := ∃ (H : Type) (enc : TypeId × Value → H) (base : Nat) (sp : Nat → Bool) (held : Bool) (fuel : Nat) (x : DataW H × List MemPlace), DataW.trod enc P w base sp held fuel t cs = some x
section
variable {P : Program} {w : World} {t e : TypeId} {cs : List Value}
theorem TR.int {k : IntKind} (ht : P.underlying t = some (.int k)) (h : TR P w t cs) : ∃ n, cs = [.int k n] ∧ (Lit.int k n).wf = true := by
 obtain ⟨H, enc, base, sp, held, fuel, x, h⟩ := h
 cases fuel with
 | zero => simp [DataW.trod] at h
 | succ fuel =>
  rw [DataW.trod_step] at h; unfold DataW.trodStep at h; simp only [ht] at h
  split at h <;> simp_all
theorem cells?_some {base : Nat} {a : Addr} {n : Nat} {X : List Value} (h : w.cells? base a n = some X) : X.length = n ∧ ∀ j (hj : j < X.length), w.cell? (a.add j) = some X[j] := by
 obtain ⟨_, h1, h2⟩ := World.cells?_some h
 exact ⟨h1, fun j hj => by rw [h2 j (by omega)]; exact List.getElem?_eq_getElem hj⟩
theorem mapM_each {α β : Type} {f : α → Option β} : ∀ {l : List α} {r : List β}, l.mapM f = some r → ∀ x ∈ l, ∃ y, f x = some y
 | [], _, _, x, hx => by simp at hx
 | z :: l, r, h, x, hx => by
  rw [List.mapM_cons] at h
  obtain ⟨y, h1, h2⟩ := Option.bind_eq_some_iff.1 h
  obtain ⟨ys, h3, _⟩ := Option.bind_eq_some_iff.1 h2
  rcases List.mem_cons.1 hx with rfl | hx
  ·exact ⟨y, h1⟩
  ·exact mapM_each h3 x hx
theorem flat_len {X : Nat → List Value} {c : Nat} : ∀ {n : Nat}, (∀ i, i < n → (X i).length = c) → ((List.range n).flatMap X).length = n * c
 | 0, _ => by simp
 | k + 1, h => by rw [List.range_succ, List.flatMap_append, List.length_append, flat_len (n := k) (fun i hi => h i (by omega))]; simp [h k (by omega), Nat.succ_mul]
theorem TR.struct {fs : Array Field} (ht : P.underlying t = some (.struct fs)) (h : TR P w t cs) : cs.length = P.cellsOf t ∧ ∀ f ∈ fs.toList, TR P w f.type ((cs.drop f.offset).take (P.cellsOf f.type)) := by
 obtain ⟨H, enc, base, sp, held, fuel, x, h⟩ := h
 cases fuel with
 | zero => simp [DataW.trod] at h
 | succ fuel =>
  rw [DataW.trod_step] at h; unfold DataW.trodStep at h; simp only [ht] at h
  split at h
  ·rename_i hlen
   refine ⟨hlen, fun f hf => ?_⟩
   obtain ⟨xs, h1, _⟩ := Option.map_eq_some_iff.1 h
   obtain ⟨y, hy⟩ := mapM_each h1 f hf
   exact ⟨H, enc, base, sp, held, fuel, _, hy⟩
  ·simp at h
end
end Go.Proofs.Ytikmdkicccfjpaa
namespace Go.Proofs.Ytikmdkicccfjpaa
open Go.RowKit
section
variable {P : Program} {ρ : Operand → Value} {w : World} {d : Option Tmp} {ty : TypeId} {pos : String} {aft : Array Edge} {gd : Option (Nat × Bool)}
theorem r_load {t : TypeId} {x : Operand} {a : Addr} {v : Value} (ht : scalar P t = true) (h : ρ x = .pointer (some a)) (hc : w.cell? a = some v) : (execOp ρ ⟨d, .load t x, ty, pos, aft, gd⟩).run P w = .ok (.value v) w := by
 simp only [execOp, h, Sem.run_bind, run_loadAt_scalar ht hc, Result.andThen_ok, Sem.run_pure]
theorem r_loadAgg {t : TypeId} {x : Operand} {a : Addr} (vs : List Value) (ht : aggOf P t vs.length = true) (h : ρ x = .pointer (some a)) (hc : ∀ j (hj : j < vs.length), w.cell? (a.add j) = some vs[j]) : (execOp ρ ⟨d, .load t x, ty, pos, aft, gd⟩).run P w = .ok (.value (.agg vs.toArray)) w := by
 simp only [execOp, h, Sem.run_bind, run_loadAt_agg ht hc, Result.andThen_ok, Sem.run_pure]
end
end Go.Proofs.Ytikmdkicccfjpaa
namespace Go.Proofs.Ytikmdkicccfjpaa
open Go.RowKit
section
variable {P : Program} {ro : Option Nat} {ops : Array Oper} {Q : Exit → Act → World → Prop}
theorem wpAnyR_weak {Rk Rk' : World → Prop} (h : ∀ w, Rk' w → Rk w) : ∀ {fuel : Nat} {L : Array Bool} {a : Act} {w : World}, wpAnyR ro P ops Q Rk' fuel L a w → wpAnyR ro P ops Q Rk fuel L a w
 | 0, _, _, _, k => ⟨h _ k.1, k.2⟩
 | _ + 1, _, _, _, k => ⟨h _ k.1, k.2.1, fun i hi => wpOpIn_mono (fun _ _ k => wpAnyR_weak h k) (k.2.2 i hi)⟩
variable {Rk : World → Prop} {sz d j s : Nat} {E : List (Nat × Value)} {a : Act} {w : World} {o : Oper} {r : List (Oper × Bool)} {want : Bool}
end
end Go.Proofs.Ytikmdkicccfjpaa
namespace Go.Proofs.Ytikmdkicccfjpaa
open Go.RowKit
inductive TU where
 | pl
 | it (k : IntKind)
 | st
 | sr (offs tys : List Nat)
 | sl (e : Nat)
 | ar (n e : Nat)
 | mp (k e : Nat)
structure TI where
 u : TU
 size : Nat
 bytes : Nat
 zero : List Value
abbrev Tab := List (Nat × TI)
def Tab.at (T : Tab) (t : Nat) : Option TI :=
 match T with
 | [] => none
 | (k, v) :: r => bif k.beq t then some v else Tab.at r t
def bytesQ : List UInt8 → List UInt8 → Bool
 | [], [] => true
 | a :: r, b :: s => a.toNat.beq b.toNat && bytesQ r s
 | _, _ => false
theorem bytesQ_eq : ∀ {a b : List UInt8}, bytesQ a b = true → a = b
 | [], [], _ => rfl
 | a :: r, b :: s, h => by simp only [bytesQ, Bool.and_eq_true] at h; rw [UInt8.toNat_inj.1 (Nat.eq_of_beq_eq_true h.1), bytesQ_eq h.2]
 | [], _ :: _, h => by simp [bytesQ] at h
 | _ :: _, [], h => by simp [bytesQ] at h
def zeroB : Value → Value → Bool
 | .bool a, .bool b => a == b
 | .int k a, .int k' b => decide (k = k') && a == b
 | .string a, .string b => bytesQ a.data.toList b.data.toList
 | .pointer none, .pointer none => true
 | .slice none a b, .slice none c d => a == c && b == d
 | .map none, .map none => true
 | .nilFunc, .nilFunc => true
 | .nilIface, .nilIface => true
 | _, _ => false
theorem zeroB_eq {a b : Value} (h : zeroB a b = true) : a = b := by
 unfold zeroB at h
 split at h
 ·simp only [beq_iff_eq] at h; rw [h]
 ·simp only [Bool.and_eq_true, decide_eq_true_eq, beq_iff_eq] at h; rw [h.1, h.2]
 ·rename_i a b
  have ha : a = b := by
   cases a with | mk a => cases b with | mk b =>
   have e : a = b := Array.toList_inj.1 (bytesQ_eq h)
   rw [e]
  rw [ha]
 ·rfl
 ·simp only [Bool.and_eq_true, beq_iff_eq] at h; rw [h.1, h.2]
 ·rfl
 ·rfl
 ·rfl
 ·simp at h
def zerosB : List Value → List Value → Bool
 | [], [] => true
 | a :: r, b :: s => zeroB a b && zerosB r s
 | _, _ => false
theorem zerosB_eq : ∀ {a b : List Value}, zerosB a b = true → a = b
 | [], [], _ => rfl
 | [], _ :: _, h => by simp [zerosB] at h
 | _ :: _, [], h => by simp [zerosB] at h
 | a :: r, b :: s, h => by
  simp only [zerosB, Bool.and_eq_true] at h
  rw [zeroB_eq h.1, zerosB_eq h.2]
def offsB (P : Program) (t : Nat) : List Nat → Nat → Bool
 | [], _ => true
 | o :: r, i => (match fieldOff P t i with | some o' => o == o' | none => false) && offsB P t r (i + 1)
theorem offsB_at {P : Program} {t : Nat} : ∀ {l : List Nat} {i : Nat}, offsB P t l i = true → ∀ (f : Nat) off, l[f]? = some off → fieldOff P t (i + f) = some off
 | [], _, _, _, _, h => by simp at h
 | o :: r, i, hb, f, off, h => by
  simp only [offsB, Bool.and_eq_true] at hb
  cases f with
  | zero =>
   simp only [List.getElem?_cons_zero, Option.some.injEq] at h; subst h
   rw [Nat.add_zero]
   have := hb.1
   split at this
   ·rename_i o' ho; simp only [beq_iff_eq] at this; rw [ho, this]
   ·simp at this
  | succ f =>
   simp only [List.getElem?_cons_succ] at h
   have := offsB_at hb.2 f off h
   rw [← this]; congr 1; omega
def placesP (P : Program) : List Field → Option (List (Nat × Nat))
 | [] => some []
 | f :: r => (match P.info? f.type, placesP P r with | some i, some l => some ((f.offset, i.size) :: l) | _, _ => none)
def placesT : List Nat → Nat → List (Nat × Nat)
 | [], _ => []
 | [o], n => [(o, n - o)]
 | o :: o' :: r, n => (o, o' - o) :: placesT (o' :: r) n
def tiB (P : Program) (t : Nat) (x : TI) : Bool :=
 (match P.info? t with
 | some i => i.size == x.size && i.bytes == x.bytes && (match i.zero with | some z => zerosB z.cells.toList x.zero | none => false)
 | none => false) &&
 (match x.u, P.underlying t with
 | .pl, some _ => scalar P t
 | .it k, some (.int k') => decide (k = k')
 | .st, some .string => true
 | .sr offs tys, some (.struct fs) => (fs.toList.map (·.type) == tys) && offs.length == fs.size && (placesP P fs.toList == some (placesT offs x.size)) && offsB P t offs 0
 | .sl e, some (.slice e') => e == e'
 | .ar n e, some (.array n' e') => n == n' && e == e'
 | .mp k e, some (.map k' e') => k == k' && e == e'
 | _, _ => false)
def tabB (P : Program) : Tab → Bool
 | [] => true
 | (t, x) :: r => tiB P t x && tabB P r
variable {P : Program} {T : Tab}
theorem tab_at (hT : tabB P T = true) {t : Nat} {x : TI} (h : T.at t = some x) : tiB P t x = true := by
 induction T with
 | nil => simp [Tab.at] at h
 | cons y r ih =>
  obtain ⟨k, v⟩ := y
  simp only [tabB, Bool.and_eq_true] at hT
  unfold Tab.at at h
  cases hk : k.beq t with
  | true => simp only [hk, cond_true, Option.some.injEq] at h; subst h; rw [← Nat.eq_of_beq_eq_true hk]; exact hT.1
  | false => simp only [hk, cond_false] at h; exact ih hT.2 h
theorem tab_info (hT : tabB P T = true) {t : Nat} {x : TI} (h : T.at t = some x) : ∃ i z, P.info? t = some i ∧ i.size = x.size ∧ i.bytes = x.bytes ∧ i.zero = some z ∧ z.cells.toList = x.zero := by
 have := tab_at hT h
 simp only [tiB, Bool.and_eq_true] at this
 have h1 := this.1
 cases hi : P.info? t with
 | none => simp [hi] at h1
 | some i =>
  simp only [hi, Bool.and_eq_true, beq_iff_eq] at h1
  obtain ⟨⟨ha, hb⟩, hc⟩ := h1
  cases hz : i.zero with
  | none => simp [hz] at hc
  | some z => simp only [hz] at hc; exact ⟨i, z, rfl, ha, hb, hz, zerosB_eq hc⟩
def tSize (T : Tab) (t : Nat) : Option Nat := match T.at t with | some x => some x.size | none => none
theorem tSize_ok (hT : tabB P T = true) {t n : Nat} (h : tSize T t = some n) : (P.info? t).map (·.size) = some n := by
 unfold tSize at h
 split at h
 ·rename_i x hx
  obtain ⟨i, z, h1, h2, -⟩ := tab_info hT hx
  simp only [Option.some.injEq] at h; rw [h1, Option.map_some, h2, h]
 ·simp at h
def tZero (T : Tab) (t : Nat) : Option (List Value) := match T.at t with | some x => some x.zero | none => none
theorem tZero_ok (hT : tabB P T = true) {t : Nat} {l : List Value} (h : tZero T t = some l) : ∃ z, z.cells = l.toArray ∧ ∀ w : World, (zeroValue t).run P w = .ok z w := by
 unfold tZero at h
 split at h
 ·rename_i x hx
  obtain ⟨i, z, h1, -, -, h2, h3⟩ := tab_info hT hx
  simp only [Option.some.injEq] at h; subst h
  exact ⟨z, by rw [← h3], fun w => by simp [zeroValue, typeInfo, Sem.run_bind, h1, h2]⟩
 ·simp at h
inductive LdK where
 | one
 | many (n : Nat)
def tLd (T : Tab) (t : Nat) : Option LdK := match T.at t with
 | some x => (match x.u with | .sr _ _ => some (.many x.size) | .ar _ _ => some (.many x.size) | _ => some .one)
 | none => none
theorem tLd_one (hT : tabB P T = true) {t : Nat} (h : tLd T t = some .one) : scalar P t = true := by
 unfold tLd at h
 cases hx : T.at t with
 | none => simp [hx] at h
 | some x =>
  simp only [hx] at h
  have := tab_at hT hx
  simp only [tiB, Bool.and_eq_true] at this
  have h2 := this.2
  unfold scalar
  cases hu : x.u <;> simp only [hu, Option.some.injEq, reduceCtorEq] at h h2 <;> cases hP : P.underlying t <;> simp only [hP, Bool.false_eq_true] at h2
  ·rename_i u; unfold scalar at h2; rw [hP] at h2; exact h2
  all_goals (rename_i u; cases u <;> simp_all)
theorem tLd_many (hT : tabB P T = true) {t n : Nat} (h : tLd T t = some (.many n)) : aggOf P t n = true := by
 unfold tLd at h
 cases hx : T.at t with
 | none => simp [hx] at h
 | some x =>
  simp only [hx] at h
  obtain ⟨i, z, h1, hs, -⟩ := tab_info hT hx
  have := tab_at hT hx
  simp only [tiB, Bool.and_eq_true] at this
  have h2 := this.2
  unfold aggOf
  cases hu : x.u <;> simp only [hu, Option.some.injEq, reduceCtorEq, LdK.many.injEq] at h h2 <;> cases hP : P.underlying t <;> simp only [hP, Bool.false_eq_true] at h2 <;> rename_i u <;> cases u <;> simp_all
def tOff (T : Tab) (t f : Nat) : Option Nat := match T.at t with | some ⟨.sr offs _, _, _, _⟩ => offs[f]? | _ => none
theorem tOff_ok (hT : tabB P T = true) {t f off : Nat} (h : tOff T t f = some off) : fieldOff P t f = some off := by
 unfold tOff at h
 split at h
 ·rename_i offs _ _ _ _ hx
  have := tab_at hT hx
  simp only [tiB, Bool.and_eq_true] at this
  have h2 := this.2
  cases hP : P.underlying t with
  | none => simp [hP] at h2
  | some u =>
   simp only [hP] at h2
   cases u <;> simp only [Bool.false_eq_true, Bool.and_eq_true] at h2
   simpa using offsB_at h2.2 f off h
 ·simp at h
def tPl (T : Tab) (t : Nat) : Option (List (Nat × Nat)) := match T.at t with | some ⟨.sr offs _, n, _, _⟩ => some (placesT offs n) | _ => none
theorem tPl_ok (hT : tabB P T = true) {t : Nat} {pl : List (Nat × Nat)} (h : tPl T t = some pl) : ∃ fs, P.underlying t = some (.struct fs) ∧ placesP P fs.toList = some pl := by
 unfold tPl at h
 split at h
 ·rename_i offs _ n _ _ hx
  have := tab_at hT hx
  simp only [tiB, Bool.and_eq_true] at this
  have h2 := this.2
  simp only [Option.some.injEq] at h
  cases hP : P.underlying t with
  | none => simp [hP] at h2
  | some u =>
   simp only [hP] at h2
   cases u <;> simp only [Bool.false_eq_true, Bool.and_eq_true, beq_iff_eq] at h2
   rename_i fs
   exact ⟨fs, rfl, by rw [h2.1.2, h]⟩
 ·simp at h
def tFt (T : Tab) (t f : Nat) : Option (Nat × Nat) := match T.at t with | some ⟨.sr offs tys, _, _, _⟩ => (match offs[f]?, tys[f]? with | some o, some ty => some (o, ty) | _, _ => none) | _ => none
theorem tFt_ok (hT : tabB P T = true) {t f o ty : Nat} (h : tFt T t f = some (o, ty)) : ∃ fs x, P.underlying t = some (.struct fs) ∧ fs[f]? = some x ∧ x.offset = o ∧ x.type = ty := by
 unfold tFt at h
 split at h
 ·rename_i offs tys _ _ _ hx
  have := tab_at hT hx
  simp only [tiB, Bool.and_eq_true] at this
  have h2 := this.2
  split at h
  ·rename_i o' ty' h3 h4
   simp only [Option.some.injEq, Prod.mk.injEq] at h; obtain ⟨rfl, rfl⟩ := h
   cases hP : P.underlying t with
   | none => simp [hP] at h2
   | some u =>
    simp only [hP] at h2
    cases u <;> simp only [Bool.false_eq_true, Bool.and_eq_true, beq_iff_eq] at h2
    rename_i fs
    have ho := offsB_at h2.2 f _ h3
    rw [Nat.zero_add] at ho
    rw [← h2.1.1.1, List.getElem?_map, Option.map_eq_some_iff] at h4
    obtain ⟨x, hx, rfl⟩ := h4
    have hx' : fs[f]? = some x := by rw [← Array.getElem?_toList]; exact hx
    refine ⟨fs, x, rfl, hx', ?_, rfl⟩
    unfold fieldOff at ho
    rw [hP] at ho
    simp only [hx'] at ho
    split at ho
    ·split at ho
     ·simp at ho
     ·simpa using ho
    ·simp at ho
  ·simp at h
 ·simp at h
inductive UnK where
 | sl (e : Nat)
 | ar (n e : Nat)
 | mp (k e : Nat)
 | it (k : IntKind)
 | st
 | ot
def tUn (T : Tab) (t : Nat) : Option UnK := match T.at t with
 | some x => (match x.u with | .sl e => some (.sl e) | .ar n e => some (.ar n e) | .mp k e => some (.mp k e) | .it k => some (.it k) | .st => some .st | _ => some .ot)
 | none => none
theorem tUn_ok (hT : tabB P T = true) {t : Nat} {k : UnK} (h : tUn T t = some k) : match k with | .sl e => P.underlying t = some (.slice e) | .ar n e => P.underlying t = some (.array n e) | .mp k e => P.underlying t = some (.map k e) | .it k => P.underlying t = some (.int k) | .st => P.underlying t = some .string | .ot => (P.underlying t).isSome = true := by
 unfold tUn at h
 cases hx : T.at t with
 | none => simp [hx] at h
 | some x =>
  simp only [hx] at h
  have := tab_at hT hx
  simp only [tiB, Bool.and_eq_true] at this
  have h2 := this.2
  cases hu : x.u <;> simp only [hu, Option.some.injEq] at h h2 <;> subst h <;> cases hP : P.underlying t <;> simp only [hP, Bool.false_eq_true] at h2 <;> rename_i u <;> cases u <;> simp_all
theorem tUn_some (hT : tabB P T = true) {t : Nat} {k : UnK} (h : tUn T t = some k) : (P.underlying t).isSome = true := by
 have := tUn_ok hT h
 cases k <;> simp_all
end Go.Proofs.Ytikmdkicccfjpaa
namespace Go.Proofs.Ytikmdkicccfjpaa
open Go.RowKit
inductive DV where
 | v (x : Value)
 | ro (k : Nat) (rows : List (List DV))
 | em (T k : Nat) (rows : List (List DV))
 | ag (l : List DV)
 | tu (l : List DV)
 | pb (T : Nat) (cells : List DV)
 | jk
inductive MK where
 | i (k : IntKind) (n : Int)
 | a (l : List (IntKind × Int))
deriving DecidableEq
def MK.val : MK → Value
 | .i k n => .int k n
 | .a l => .agg (l.map fun x => .int x.1 x.2).toArray
structure RF where
 ps : Array Tmp
 asg : Code
 body : Code
inductive AV where
 | d (x : DV)
 | sl (u n : Nat)
 | sb (u k o n : Nat)
 | sf (u k o n : Nat) (q : Option Nat)
 | pt (u o : Nat)
 | mv (u : Nat)
 | yl (u : Nat)
 | ep (u k i o : Nat)
 | rp (row : List DV) (o : Nat)
 | bt (bs : List UInt8)
 | uk
 | fn (f : Nat) (caps : List AV)
 | fm (f : Nat) (first : List AV)
 | ag (l : List AV)
 | tu (l : List AV)
abbrev DV.u (n : Nat) : DV := .v (.int .u64 ((n : Nat) : Int))
abbrev DV.n (n : Nat) : DV := .v (.int .i64 ((n : Nat) : Int))
abbrev DV.z (n : Int) : DV := .v (.int .i64 n)
abbrev AV.u (n : Nat) : AV := .d (.u n)
abbrev AV.n (n : Nat) : AV := .d (.n n)
abbrev AV.z (n : Int) : AV := .d (.z n)
inductive LS where
 | ready
 | busy
 | left
def LS.state : LS → LoopState
 | .ready => .ready
 | .busy => .busy
 | .left => .done
def LS.pend : LS → Option Code
 | .left => some .ret
 | _ => none
inductive Blk where
 | bx (T : Nat) (cells : List AV)
 | rw (T k : Nat) (rows : List (List DV))
 | tw (a : Option Addr) (c T k : Nat) (rows : List (List DV))
 | mp (T c : Nat) (es : List (Nat × MK × DV))
 | it (um : Option Nat) (since : Nat) (seen : List Nat) (c : Nat)
 | mu (T c : Nat) (es : List (MK × DV))
 | fl (T k m : Nat) (cells : List AV)
 | mf (T c : Nat) (es : List (Nat × MK × AV))
 | il (um : Option Nat) (since last c : Nat)
 | lp (s : LS) (f sz : Nat) (E : List (Nat × AV)) (c : RF)
 | nm (u b : Nat)
 | gw (g : Nat) (row : List DV)
 | dead
def lay (n : Nat) (X : Nat → List Value) : List Value := (List.range n).flatMap X
def layF (n k : Nat) (F : Nat → Nat → Frag) : Frag := (List.range n).flatMap fun i => (List.range k).flatMap (F i)
inductive DRel (K : World → Prop) : DV → Value → Frag → Prop where
 | v (x : Value) : DRel K (.v x) x []
 | jk (x : Value) : DRel K .jk x []
 | ro {k : Nat} {rows : List (List DV)} {y : Value} (X : Nat → List Value) (hl : ∀ (i : Nat) r, rows[i]? = some r → r.length = k ∧ (X i).length = k)
   (hy : ∃ a c, y = .slice a rows.length c ∧ rows.length ≤ c) (hs : ∀ w, K w → Src w k y rows.length (lay rows.length X))
   (hr : ∀ (i : Nat) (r : List DV) (j : Nat) c x, rows[i]? = some r → r[j]? = some c → (X i)[j]? = some x → DRel K c x []) : DRel K (.ro k rows) y []
 | em {T k : Nat} {rows : List (List DV)} {y : Value} {H0 : Frag} (X : Nat → List Value) (F : Nat → Nat → Frag) (hl : ∀ (i : Nat) r, rows[i]? = some r → r.length = k ∧ (X i).length = k)
   (hs : SlRep T k y rows.length (lay rows.length X) H0)
   (hr : ∀ (i : Nat) (r : List DV) (j : Nat) c x, rows[i]? = some r → r[j]? = some c → (X i)[j]? = some x → DRel K c x (F i j)) : DRel K (.em T k rows) y (H0 ++ layF rows.length k F)
 | ag {l : List DV} (ys : List Value) (F : Nat → Frag) (hl : ys.length = l.length) (hr : ∀ (j : Nat) c y, l[j]? = some c → ys[j]? = some y → DRel K c y (F j)) : DRel K (.ag l) (.agg ys.toArray) ((List.range l.length).flatMap F)
 | tu {l : List DV} (ys : List Value) (F : Nat → Frag) (hl : ys.length = l.length) (hr : ∀ (j : Nat) c y, l[j]? = some c → ys[j]? = some y → DRel K c y (F j)) : DRel K (.tu l) (.tuple ys.toArray) ((List.range l.length).flatMap F)
 | pb {T b : Nat} {l : List DV} (ys : List Value) (F : Nat → Frag) (hl : ys.length = l.length) (hr : ∀ (j : Nat) c y, l[j]? = some c → ys[j]? = some y → DRel K c y (F j)) : DRel K (.pb T l) (.pointer (some ⟨b, 0, none⟩)) ((b, .cells ys.toArray T (0, 0)) :: (List.range l.length).flatMap F)
abbrev Beta := List (Option Addr × Nat)
inductive ARel (K : World → Prop) (β : Beta) : AV → Value → Prop where
 | d {x : DV} {y : Value} (h : DRel K x y []) : ARel K β (.d x) y
 | sl {u n c : Nat} {a : Option Addr} (h : β[u]? = some (a, c)) : ARel K β (.sl u n) (.slice a n c)
 | sb {u k o n b c c' : Nat} (h : β[u]? = some (some ⟨b, 0, none⟩, c)) : ARel K β (.sb u k o n) (.slice (some ⟨b, o * k, none⟩) n c')
 | sf {u k o n b c cap : Nat} {q : Option Nat} (h : β[u]? = some (some ⟨b, 0, none⟩, c)) (hc : o + cap ≤ c) (hn : n ≤ cap) (hq : match q with | none => o + cap = c | some q => cap = q) : ARel K β (.sf u k o n q) (.slice (some ⟨b, o * k, none⟩) n cap)
 | mv {u b c : Nat} (h : β[u]? = some (some ⟨b, 0, none⟩, c)) : ARel K β (.mv u) (.map (some b))
 | yl {u b c : Nat} (h : β[u]? = some (some ⟨b, 0, none⟩, c)) : ARel K β (.yl u) (.func (.yield b) #[] #[])
 | pt {u o b c : Nat} (h : β[u]? = some (some ⟨b, 0, none⟩, c)) : ARel K β (.pt u o) (.pointer (some ⟨b, o, none⟩))
 | ep {u k i o b c : Nat} (h : β[u]? = some (some ⟨b, 0, none⟩, c)) : ARel K β (.ep u k i o) (.pointer (some ⟨b, i * k + o, none⟩))
 | rp {row : List DV} {o : Nat} (a : Addr) (X : List Value) (hl : X.length = row.length) (hc : ∀ w, K w → ∀ (j : Nat) x, X[j]? = some x → w.cell? (a.add j) = some x)
   (hr : ∀ (j : Nat) c x, row[j]? = some c → X[j]? = some x → DRel K c x []) : ARel K β (.rp row o) (.pointer (some (a.add o)))
 | bt {bs : List UInt8} {y : Value} (h : DRel K (.ro 1 (bs.map fun b => [DV.v (.int .u8 b.toNat)])) y []) (hn : bs.length ≤ 1048576) : ARel K β (.bt bs) y
 | uk {y : Value} (h : oneC y = true) : ARel K β .uk y
 | fn {f : Nat} {caps : List AV} (ys : List Value) (hl : ys.length = caps.length) (hr : ∀ (j : Nat) c y, caps[j]? = some c → ys[j]? = some y → ARel K β c y) : ARel K β (.fn f caps) (.func (.func f) #[] ys.toArray)
 | fm {f : Nat} {first : List AV} (ys : List Value) (hl : ys.length = first.length) (hr : ∀ (j : Nat) c y, first[j]? = some c → ys[j]? = some y → ARel K β c y) : ARel K β (.fm f first) (.func (.func f) ys.toArray #[])
 | ag {l : List AV} (ys : List Value) (hl : ys.length = l.length) (hr : ∀ (j : Nat) c y, l[j]? = some c → ys[j]? = some y → ARel K β c y) : ARel K β (.ag l) (.agg ys.toArray)
 | tu {l : List AV} (ys : List Value) (hl : ys.length = l.length) (hr : ∀ (j : Nat) c y, l[j]? = some c → ys[j]? = some y → ARel K β c y) : ARel K β (.tu l) (.tuple ys.toArray)
theorem DRel.mono {K K' : World → Prop} (h : ∀ w, K' w → K w) : ∀ {x : DV} {y : Value} {H : Frag}, DRel K x y H → DRel K' x y H := by
 intro x y H r
 induction r with
 | v x => exact .v x
 | jk x => exact .jk x
 | ro X hl hy hs hr ih => exact .ro X hl hy (fun w hw => hs w (h w hw)) (fun i r j c x h1 h2 h3 => ih i r j c x h1 h2 h3)
 | em X F hl hs hr ih => exact .em X F hl hs (fun i r j c x h1 h2 h3 => ih i r j c x h1 h2 h3)
 | ag ys F hl hr ih => exact .ag ys F hl ih
 | tu ys F hl hr ih => exact .tu ys F hl ih
 | pb ys F hl hr ih => exact .pb ys F hl ih
theorem DRel.slice {K : World → Prop} {x : DV} {y : Value} {H : Frag} (r : DRel K x y H) (h : (∃ k rows, x = .ro k rows) ∨ ∃ T k rows, x = .em T k rows) : ∃ a n c, y = .slice a n c := by
 cases r with
 | v => simp at h
 | jk => simp at h
 | ro X hl hy hs hr => obtain ⟨a, c, rfl, -⟩ := hy; exact ⟨_, _, _, rfl⟩
 | em X F hl hs hr => obtain ⟨a, c, rfl⟩ := hs.len; exact ⟨_, _, _, rfl⟩
 | ag => simp at h
 | tu => simp at h
 | pb => simp at h
def Ext (β β' : Beta) : Prop := ∀ (u : Nat) x, β[u]? = some x → β'[u]? = some x
theorem Ext.refl (β : Beta) : Ext β β := fun _ _ h => h
theorem Ext.app (β γ : Beta) : Ext β (β ++ γ) := fun u x h => by
 obtain ⟨hu, -⟩ := List.getElem?_eq_some_iff.1 h
 rw [List.getElem?_append_left hu]; exact h
theorem ARel.mono {K K' : World → Prop} {β β' : Beta} (h : ∀ w, K' w → K w) (e : Ext β β') : ∀ {x : AV} {y : Value}, ARel K β x y → ARel K' β' x y := by
 intro x y r
 induction r with
 | d hd => exact .d (hd.mono h)
 | sl hb => exact .sl (e _ _ hb)
 | sb hb => exact .sb (e _ _ hb)
 | sf hb hc hn hq => exact .sf (e _ _ hb) hc hn hq
 | mv hb => exact .mv (e _ _ hb)
 | yl hb => exact .yl (e _ _ hb)
 | pt hb => exact .pt (e _ _ hb)
 | ep hb => exact .ep (e _ _ hb)
 | rp a X hl hc hr => exact .rp a X hl (fun w hw => hc w (h w hw)) (fun j c x h1 h2 => (hr j c x h1 h2).mono h)
 | bt hd hn => exact .bt (hd.mono h) hn
 | uk hu => exact .uk hu
 | fn ys hl hr ih => exact .fn ys hl ih
 | fm ys hl hr ih => exact .fm ys hl ih
 | ag ys hl hr ih => exact .ag ys hl ih
 | tu ys hl hr ih => exact .tu ys hl ih
def mEs (es : List (Nat × MK × DV)) (vs : List Value) : List MapEntry := (es.zip vs).map fun x => { key := x.1.2.1.val, val := x.2, born := x.1.1 }
def mEsA (es : List (Nat × MK × AV)) (vs : List Value) : List MapEntry := (es.zip vs).map fun x => { key := x.1.2.1.val, val := x.2, born := x.1.1 }
theorem mEsA_map (g : Nat × MK × AV → Nat × MK × AV) (h : ∀ e, (g e).1 = e.1 ∧ (g e).2.1 = e.2.1) : ∀ (es : List (Nat × MK × AV)) (vs : List Value), mEsA (es.map g) vs = mEsA es vs
 | [], _ => rfl
 | e :: r, [] => rfl
 | e :: r, v :: vs => by have := mEsA_map g h r vs; simp only [mEsA, List.map_cons, List.zip_cons_cons] at this ⊢; rw [this, (h e).1, (h e).2]
inductive BRel (K : World → Prop) (β : Beta) : Nat → Blk → Frag → Prop where
 | dead (u : Nat) : BRel K β u .dead []
 | nm {u v b c : Nat} (hb : β[v]? = some (some ⟨b, 0, none⟩, c)) : BRel K β u (.nm v b) []
 | gw {u g : Nat} {row : List DV} (X : List Value) (hl : X.length = row.length) (hc : ∀ w, K w → ∀ (j : Nat) x, X[j]? = some x → w.cell? ((⟨g, 0, none⟩ : Addr).add j) = some x)
   (hr : ∀ (j : Nat) c x, row[j]? = some c → X[j]? = some x → DRel K c x []) : BRel K β u (.gw g row) []
 | bx {u b c T : Nat} {cells : List AV} (hb : β[u]? = some (some ⟨b, 0, none⟩, c)) (ys : List Value) (hl : ys.length = cells.length) (hr : ∀ (j : Nat) c y, cells[j]? = some c → ys[j]? = some y → ARel K β c y) :
   BRel K β u (.bx T cells) [(b, .cells ys.toArray T (0, 0))]
 | rw {u c T k : Nat} {a : Option Addr} {rows : List (List DV)} {H0 : Frag} (hb : β[u]? = some (a, c)) (X : Nat → List Value) (F : Nat → Nat → Frag) (hl : ∀ (i : Nat) r, rows[i]? = some r → r.length = k ∧ (X i).length = k)
   (hs : SlRep T k (.slice a rows.length c) rows.length (lay rows.length X) H0)
   (hr : ∀ (i : Nat) (r : List DV) (j : Nat) c x, rows[i]? = some r → r[j]? = some c → (X i)[j]? = some x → DRel K c x (F i j)) :
   BRel K β u (.rw T k rows) (H0 ++ layF rows.length k F)
 | tw {u c T k : Nat} {a : Option Addr} {rows : List (List DV)} {H0 : Frag} (hb : β[u]? = some (a, c)) (X : Nat → List Value) (F : Nat → Nat → Frag) (hl : ∀ (i : Nat) r, rows[i]? = some r → r.length = k ∧ (X i).length = k)
   (hs : SlRep T k (.slice a rows.length c) rows.length (lay rows.length X) H0)
   (hr : ∀ (i : Nat) (r : List DV) (j : Nat) c x, rows[i]? = some r → r[j]? = some c → (X i)[j]? = some x → DRel K c x (F i j)) :
   BRel K β u (.tw a c T k rows) (H0 ++ layF rows.length k F)
 | mp {u b c T ck : Nat} {es : List (Nat × MK × DV)} (hb : β[u]? = some (some ⟨b, 0, none⟩, c)) (vs : List Value) (G : Nat → Frag) (hl : vs.length = es.length) (hr : ∀ (j : Nat) e y, es[j]? = some e → vs[j]? = some y → DRel K e.2.2 y (G j)) :
   BRel K β u (.mp T ck es) ((b, .map (mEs es vs).toArray ck) :: (List.range es.length).flatMap G)
 | it {u b bm c since ck : Nat} {um : Option Nat} {seen : List Nat} (hb : β[u]? = some (some ⟨b, 0, none⟩, c)) (hm : ∀ v, um = some v → ∃ c', β[v]? = some (some ⟨bm, 0, none⟩, c')) :
   BRel K β u (.it um since seen ck) [(b, .mapIter (some bm) since seen.toArray ck)]
 | mu {u b c T ck : Nat} {es : List (MK × DV)} (es' : List (Nat × MK × DV)) (hp : (es'.map fun e => e.2).Perm es) (hn : (es'.map fun e => e.1).Nodup) (hlt : ∀ e ∈ es', e.1 < ck) (hb : β[u]? = some (some ⟨b, 0, none⟩, c)) (vs : List Value) (G : Nat → Frag) (hl : vs.length = es'.length) (hr : ∀ (j : Nat) e y, es'[j]? = some e → vs[j]? = some y → DRel K e.2.2 y (G j)) :
   BRel K β u (.mu T ck es) ((b, .map (mEs es' vs).toArray ck) :: (List.range es'.length).flatMap G)
 | fl {u b c T k m : Nat} {cells : List AV} (hb : β[u]? = some (some ⟨b, 0, none⟩, c)) (ys : List Value) (hl : ys.length = c * k) (hm : cells.length = m * k) (hc : m ≤ c) (hr : ∀ (j : Nat) c y, cells[j]? = some c → ys[j]? = some y → ARel K β c y) :
   BRel K β u (.fl T k m cells) [(b, .cells ys.toArray T (0, 0))]
 | mf {u b c T ck : Nat} {es : List (Nat × MK × AV)} (hb : β[u]? = some (some ⟨b, 0, none⟩, c)) (vs : List Value) (hl : vs.length = es.length) (hr : ∀ (j : Nat) e y, es[j]? = some e → vs[j]? = some y → ARel K β e.2.2 y) :
   BRel K β u (.mf T ck es) [(b, .map (mEsA es vs).toArray ck)]
 | il {u b bm c since last ck : Nat} {um : Option Nat} {seen : List Nat} (hb : β[u]? = some (some ⟨b, 0, none⟩, c)) (hm : ∀ v, um = some v → ∃ c', β[v]? = some (some ⟨bm, 0, none⟩, c')) :
   BRel K β u (.il um since last ck) [(b, .mapIter (some bm) since (seen ++ [last]).toArray ck)]
 | lp {u b c f sz dfr : Nat} {bz : LS} {E : List (Nat × AV)} {rf : RF} {tmps : Array Value} (hb : β[u]? = some (some ⟨b, 0, none⟩, c)) (hsz : tmps.size = sz) (hr : ∀ x ∈ E, ARel K β x.2 (tmps.getD x.1 undef)) :
   BRel K β u (.lp bz f sz E rf) [(b, .loop { state := bz.state, pending := bz.pend, fn := f, tmps, params := rf.ps, assign := rf.asg, body := rf.body, defers := dfr })]
structure AS where
 E : List (Nat × AV)
 M : List Blk
structure RM (D : List Nat) (w0 : World) (K0 : World → Prop) (M : List Blk) (β : Beta) (F : Nat → Frag) (I : Frag) (w : World) : Prop where
 len : β.length = M.length
 blk : ∀ (u : Nat) blk, M[u]? = some blk → BRel (fun w => K0 w ∧ Holds w I) β u blk (F u)
 st : St D w0 w ((List.range M.length).flatMap F ++ I)
def RE (D : List Nat) (w0 : World) (K0 : World → Prop) (sz : Nat) (s : AS) (a : Act) (w : World) : Prop :=
 a.tmps.size = sz ∧ a.defers = [] ∧ ∃ β F I, RM D w0 K0 s.M β F I w ∧ ∀ x ∈ s.E, ARel (fun w => K0 w ∧ Holds w I) β x.2 (a.eval (.tmp x.1))
end Go.Proofs.Ytikmdkicccfjpaa
namespace Go.Proofs.Ytikmdkicccfjpaa
open Go.RowKit
section
variable {P : Program} {ρ : Operand → Value} {w : World} {Φ : Value → World → Prop} {d : Option Tmp} {ty t t' e : TypeId} {pos : String} {aft : Array Edge} {gd : Option (Nat × Bool)} {x y : Operand}
theorem y_bytesConst {b n k : Nat} {c : Array Value} (ht : P.underlying t = some (.slice e)) (he : P.underlying e = some (.int .u8)) (hx : ρ x = .slice (some ⟨b, 0, none⟩) n k) (hb : w.heap[b]? = some (.cells c e (0, 0)))
  (hΦ : Φ (.slice (some ⟨b, 0, none⟩) n k) (setB w b (.cells c e (c.size, c.size + 1)))) : OpY P ⟨d, .convert t t x, ty, pos, aft, gd⟩ ρ w Φ := by
 refine .pure (v := .slice (some ⟨b, 0, none⟩) n k) (w' := setB w b (.cells c e (c.size, c.size + 1))) ?_ hΦ
 have hsh : w.shape? b = some (e, c.size) := by simp [World.shape?, hb]
 have hfr : w.freeze ⟨b, c.size, none⟩ 1 = setB w b (.cells c e (c.size, c.size + 1)) := by
  unfold World.freeze setB
  rw [if_neg (by decide)]
  congr 1
  apply Array.ext_getElem?
  intro j
  have hlt := heap_lt hb
  rw [Array.getElem?_modify, Array.getElem?_setIfInBounds]
  by_cases e' : b = j
  ·subst e'
   have hg : w.heap[b] = .cells c e (0, 0) := by rw [Array.getElem?_eq_getElem hlt] at hb; exact Option.some.inj hb
   simp [hlt, hg]
  ·simp [e']
 simp [execOp, hx, convert, Sem.run_bind, run_underlying ht, run_underlying he, markStringish, hsh, hfr]
theorem y_bytesStr {v : Value} {l : List UInt8} (ht : P.underlying t = some (.slice e)) (he : P.underlying e = some (.int .u8)) (hd : P.underlying t' = some .string) (hx : ρ x = v) (hs : Src w 1 v l.length (l.map fun b : UInt8 => .int .u8 b.toNat)) (hΦ : Φ (.string ⟨l.toArray⟩) w) : OpY P ⟨d, .convert t t' x, ty, pos, aft, gd⟩ ρ w Φ := by
 refine .pure (v := .string ⟨l.toArray⟩) (w' := w) ?_ hΦ
 have key : (convert t t' v).run P w = .ok (.string ⟨l.toArray⟩) w := by
  rcases hs.2 with ⟨h0, a, c, rfl⟩ | ⟨a, c, rfl, h⟩
  ·have hl : l = [] := List.eq_nil_of_length_eq_zero h0
   subst hl
   cases a with
   | none => rw [run_convert_bytes_string w t t' e none 0 c ht he hd]; simp [Conv.bytesToString]; rfl
   | some a => exact run_convert_bytes_back w t t' e a c [] ht he hd (by simp)
  ·exact run_convert_bytes_back w t t' e a c l ht he hd (fun j hj => by rw [h j (by simpa using hj)]; simp)
 simp only [execOp, hx, Sem.run_bind, key, Result.andThen_ok, Sem.run_pure]
theorem y_eqlStr {a b : List UInt8} {c : Bool} (h : ρ x = .string ⟨a.toArray⟩) (h' : ρ y = .string ⟨b.toArray⟩) (hc : (a == b) = c) (hΦ : Φ (.bool c) w) : OpY P ⟨d, .binOp .eql t x y t', ty, pos, aft, gd⟩ ρ w Φ := by
 subst hc; exact .pure (v := .bool (a == b)) (by simp [execOp, h, h', eqGuard, binOp, Op.stringOp]) hΦ
theorem y_neqStr {a b : List UInt8} {c : Bool} (h : ρ x = .string ⟨a.toArray⟩) (h' : ρ y = .string ⟨b.toArray⟩) (hc : (a != b) = c) (hΦ : Φ (.bool c) w) : OpY P ⟨d, .binOp .neq t x y t', ty, pos, aft, gd⟩ ρ w Φ := by
 subst hc; exact .pure (v := .bool (a != b)) (by simp [execOp, h, h', eqGuard, binOp, Op.stringOp, bne]) hΦ
end
end Go.Proofs.Ytikmdkicccfjpaa
namespace Go.Proofs.Ytikmdkicccfjpaa
open Go.RowKit
section
variable {P : Program} {ρ : Operand → Value} {w : World} {Φ : Value → World → Prop} {d : Option Tmp} {ty t t' : TypeId} {pos : String} {aft : Array Edge} {gd : Option (Nat × Bool)} {x y : Operand} {k yk : IntKind} {a b c : Int}
theorem y_quo (h : ρ x = .int k a) (h' : ρ y = .int k b) (hb : b ≠ 0) (hc : k.wrap (a.tdiv b) = c) (hΦ : Φ (.int k c) w) : OpY P ⟨d, .binOp .quo t x y t', ty, pos, aft, gd⟩ ρ w Φ := by
 subst hc; exact .pure (v := .int k (k.wrap (a.tdiv b))) (by simp [execOp, h, h', eqGuard, binOp, Op.intDiv, hb]) hΦ
theorem y_rem (h : ρ x = .int k a) (h' : ρ y = .int k b) (hb : b ≠ 0) (hc : a.tmod b = c) (hΦ : Φ (.int k c) w) : OpY P ⟨d, .binOp .rem t x y t', ty, pos, aft, gd⟩ ρ w Φ := by
 subst hc; exact .pure (v := .int k (a.tmod b)) (by simp [execOp, h, h', eqGuard, binOp, Op.intDiv, hb]) hΦ
theorem y_shl (h : ρ x = .int k a) (h' : ρ y = .int yk b) (hb : 0 ≤ b) (hc : k.wrap (a * 2 ^ (min b.toNat k.bits)) = c) (hΦ : Φ (.int k c) w) : OpY P ⟨d, .binOp .shl t x y t', ty, pos, aft, gd⟩ ρ w Φ := by
 subst hc; exact .pure (v := .int k (k.wrap (a * 2 ^ (min b.toNat k.bits)))) (by simp [execOp, h, h', eqGuard, binOp, Op.shift, show ¬ b < 0 by omega]) hΦ
theorem y_xor (h : ρ x = .int k a) (h' : ρ y = .int k b) (hc : k.wrap ((BitVec.ofInt k.bits a ^^^ BitVec.ofInt k.bits b).toNat : Int) = c) (hΦ : Φ (.int k c) w) : OpY P ⟨d, .binOp .xor t x y t', ty, pos, aft, gd⟩ ρ w Φ := by
 subst hc; exact .pure (v := .int k (k.wrap ((BitVec.ofInt k.bits a ^^^ BitVec.ofInt k.bits b).toNat : Int))) (by simp [execOp, h, h', eqGuard, binOp, Op.intBits]) hΦ
end
end Go.Proofs.Ytikmdkicccfjpaa
namespace Go.Proofs.Ytikmdkicccfjpaa
open Go.RowKit
section
variable {P : Program} {ρ : Operand → Value} {w : World} {Φ : Value → World → Prop} {d : Option Tmp} {ty t t' : TypeId} {pos : String} {aft : Array Edge} {gd : Option (Nat × Bool)} {x y : Operand} {k k' yk : IntKind} {a b c : Int}
theorem y_com (h : ρ x = .int k a) (hc : k.wrap ((BitVec.ofInt k.bits (if k.signed then -1 else k.max) ^^^ BitVec.ofInt k.bits a).toNat : Int) = c) (hΦ : Φ (.int k c) w) : OpY P ⟨d, .unOp .xor t x, ty, pos, aft, gd⟩ ρ w Φ := by
 subst hc; exact .pure (v := .int k (k.wrap ((BitVec.ofInt k.bits (if k.signed then -1 else k.max) ^^^ BitVec.ofInt k.bits a).toNat : Int))) (by simp [execOp, h, Op.unary, Op.intBits]) hΦ
theorem y_or (h : ρ x = .int k a) (h' : ρ y = .int k b) (hc : k.wrap ((BitVec.ofInt k.bits a ||| BitVec.ofInt k.bits b).toNat : Int) = c) (hΦ : Φ (.int k c) w) : OpY P ⟨d, .binOp .or t x y t', ty, pos, aft, gd⟩ ρ w Φ := by
 subst hc; exact .pure (v := .int k (k.wrap ((BitVec.ofInt k.bits a ||| BitVec.ofInt k.bits b).toNat : Int))) (by simp [execOp, h, h', eqGuard, binOp, Op.intBits]) hΦ
theorem y_and (h : ρ x = .int k a) (h' : ρ y = .int k b) (hc : k.wrap ((BitVec.ofInt k.bits a &&& BitVec.ofInt k.bits b).toNat : Int) = c) (hΦ : Φ (.int k c) w) : OpY P ⟨d, .binOp .and t x y t', ty, pos, aft, gd⟩ ρ w Φ := by
 subst hc; exact .pure (v := .int k (k.wrap ((BitVec.ofInt k.bits a &&& BitVec.ofInt k.bits b).toNat : Int))) (by simp [execOp, h, h', eqGuard, binOp, Op.intBits]) hΦ
theorem y_shr (h : ρ x = .int k a) (h' : ρ y = .int yk b) (hb : 0 ≤ b) (hc : a.fdiv (2 ^ (min b.toNat k.bits)) = c) (hΦ : Φ (.int k c) w) : OpY P ⟨d, .binOp .shr t x y t', ty, pos, aft, gd⟩ ρ w Φ := by
 subst hc; exact .pure (v := .int k (a.fdiv (2 ^ (min b.toNat k.bits)))) (by simp [execOp, h, h', eqGuard, binOp, Op.shift, show ¬ b < 0 by omega]) hΦ
theorem y_mul (h : ρ x = .int k a) (h' : ρ y = .int k b) (hc : k.wrap (a * b) = c) (hΦ : Φ (.int k c) w) : OpY P ⟨d, .binOp .mul t x y t', ty, pos, aft, gd⟩ ρ w Φ := by
 subst hc; exact .pure (v := .int k (k.wrap (a * b))) (by simp [execOp, h, h', eqGuard, binOp, Op.intArith]) hΦ
theorem y_convInt (hs : (P.underlying t).isSome = true) (hd : P.underlying t' = some (.int k)) (h : ρ x = .int k' a) (hc : k.wrap a = c) (hΦ : Φ (.int k c) w) : OpY P ⟨d, .convert t t' x, ty, pos, aft, gd⟩ ρ w Φ := by
 obtain ⟨u, hu⟩ := Option.isSome_iff_exists.1 hs
 subst hc; exact .pure (v := .int k (k.wrap a)) (w' := w) (by simp [execOp, h, convert, Sem.run_bind, run_underlying hu, run_underlying hd, Conv.intToInt]) hΦ
theorem y_lenStr {l : List UInt8} (ht : P.underlying t = some .string) (h : ρ x = .string ⟨l.toArray⟩) (hΦ : Φ (.int .i64 l.length) w) : OpY P ⟨d, .call ⟨.builtin .len, #[x], #[t]⟩, ty, pos, aft, gd⟩ ρ w Φ := by
 obtain ⟨s, hs, hsz⟩ : ∃ s : ByteArray, s = ⟨l.toArray⟩ ∧ s.size = l.length := ⟨_, rfl, by simp [ByteArray.size]⟩
 rw [← hs] at h
 exact .pure (v := .int .i64 l.length) (w' := w) (by simp [execOp, resolve, h, invoke, builtin, Builtin.len_, Sem.run_bind, run_underlying ht, goInt, hsz]) hΦ
end
end Go.Proofs.Ytikmdkicccfjpaa
namespace Go.Proofs.Ytikmdkicccfjpaa
open Go.RowKit
theorem SlRep.block {T size n : Nat} {v : Value} {xs : List Value} {H : Frag} (h : SlRep T size v n xs H) (hn : 0 < n) : ∃ b cap cs, v = .slice (some ⟨b, 0, none⟩) n cap ∧ H = [(b, .cells cs T (0, 0))] ∧ cs.size = cap * size ∧ n ≤ cap ∧ cs.toList.take (n * size) = xs := by
 rcases h.2 with ⟨h0, _⟩ | h
 ·omega
 ·exact h
inductive Orc where
 | b (c : Bool)
 | z (n : Int)
 | ix (i : Nat) (row : List DV)
 | n (i : Nat)
 | n2 (i j : Nat)
 | res (x : DV)
 | call (args : List AV) (x : DV)
 | into (n : Nat) (tb : List (Nat × List (Nat × Orc)))
 | con (x : DV)
 | stay (args : List AV) (x : DV)
 | mem (l : List Nat) (x : AV) (M' : List Blk)
 | mk (j : Nat) (k : MK) (x : DV)
 | mkp (j : Nat) (k : MK) (x : DV) (i : Nat)
 | may (c : Bool) (o : Orc)
def lookA : List (Nat × AV) → Nat → Option AV
 | [], _ => none
 | (k, v) :: r, s => bif k.beq s then some v else lookA r s
theorem lookA_mem : ∀ {E : List (Nat × AV)} {s : Nat} {v : AV}, lookA E s = some v → (s, v) ∈ E
 | [], _, _, h => by simp [lookA] at h
 | (k, u) :: r, s, v, h => by
  unfold lookA at h
  cases hk : k.beq s with
  | true => simp only [hk, cond_true, Option.some.injEq] at h; subst h; rw [Nat.eq_of_beq_eq_true hk]; exact List.mem_cons_self
  | false => simp only [hk, cond_false] at h; exact List.mem_cons_of_mem _ (lookA_mem h)
def evA (E : List (Nat × AV)) : Operand → Option AV
 | .tmp t => lookA E t
 | .const v => some (.d (.v v))
 | .func f => some (.fn f [])
 | .global _ => none
def AllP : List Prop → Prop
 | [] => True
 | p :: r => p ∧ AllP r
structure Out where
 vc : List Prop
 av : AV
 M : List Blk
 tc : List Nat
 mv : List Nat
 rd : Option (List Nat)
structure Ctx (D : List Nat) (w0 : World) (K0 : World → Prop) (E : List (Nat × AV)) (M : List Blk) (β : Beta) (F : Nat → Frag) (I : Frag) (ρ : Operand → Value) (w : World) : Prop where
 rm : RM D w0 K0 M β F I w
 sl : ∀ t v, lookA E t = some v → ARel (fun w => K0 w ∧ Holds w I) β v (ρ (.tmp t))
 const : ∀ v, ρ (.const v) = v
 func : ∀ f, ρ (.func f) = .func (.func f) #[] #[]
 glob : ∀ g, ρ (.global g) = .pointer (some ⟨g, 0, none⟩)
 k : ∀ w, Kp D w0 w → K0 w
variable {P : Program} {T : Tab} {D : List Nat} {w0 : World} {K0 : World → Prop} {E : List (Nat × AV)} {M : List Blk} {β : Beta} {F : Nat → Frag} {I : Frag} {ρ : Operand → Value} {w : World}
theorem Ctx.now (C : Ctx D w0 K0 E M β F I ρ w) : K0 w ∧ Holds w I := ⟨C.k w C.rm.st.kp, (Holds.app.1 C.rm.st.holds).2⟩
theorem Ctx.ev (C : Ctx D w0 K0 E M β F I ρ w) {x : Operand} {v : AV} (h : evA E x = some v) : ARel (fun w => K0 w ∧ Holds w I) β v (ρ x) := by
 cases x with
 | tmp t => exact C.sl _ _ h
 | const c => simp only [evA, Option.some.injEq] at h; subst h; rw [C.const]; exact .d (.v c)
 | global g => simp [evA] at h
 | func f => simp only [evA, Option.some.injEq] at h; subst h; rw [C.func]; exact .fn [] rfl (by simp)
theorem Ctx.ev' (C : Ctx D w0 K0 E M β F I ρ w) {x : Operand} {v : AV} (h : evA E x = some v) : ∃ y, ρ x = y ∧ ARel (fun w => K0 w ∧ Holds w I) β v y := ⟨_, rfl, C.ev h⟩
def Sees (K0 : World → Prop) (I : Frag) (F : Nat → Frag) (rd : List Nat) (w : World) : Prop := (K0 w ∧ Holds w I) ∧ ∀ u ∈ rd, Holds w (F u)
def Pur (P : Program) (o : Oper) (E : List (Nat × AV)) (M : List Blk) (vc : List Prop) (av : AV) (rd : List Nat) : Prop :=
 ∀ {D : List Nat} {w0 : World} {K0 : World → Prop} {β : Beta} {F : Nat → Frag} {I : Frag} {ρ : Operand → Value} {w : World}, Ctx D w0 K0 E M β F I ρ w → AllP vc →
  ∃ v, ARel (fun w => K0 w ∧ Holds w I) β av v ∧ ∀ w', Sees K0 I F rd w' → (execOp ρ o).run P w' = .ok (.value v) w'
def Grows (I I' : Frag) : Prop := ∃ J, I' = J ++ I
theorem Grows.refl (I : Frag) : Grows I I := ⟨[], rfl⟩
theorem Grows.holds {I I' : Frag} (h : Grows I I') : ∀ w, Holds w I' → Holds w I := by obtain ⟨J, rfl⟩ := h; exact fun w hw => (Holds.app.1 hw).2
theorem Grows.trans {A B C : Frag} (h : Grows A B) (k : Grows B C) : Grows A C := by obtain ⟨J, rfl⟩ := h; obtain ⟨L, rfl⟩ := k; exact ⟨L ++ J, by rw [List.append_assoc]⟩
def ExtB (mv : List Nat) (β β' : Beta) : Prop := ∀ (u : Nat) x, u ∉ mv → β[u]? = some x → β'[u]? = some x
def Eff (P : Program) (o : Oper) (E : List (Nat × AV)) (M : List Blk) (out : Out) : Prop :=
 ∀ {D : List Nat} {w0 : World} {K0 : World → Prop} {β : Beta} {F : Nat → Frag} {I : Frag} {ρ : Operand → Value} {w : World}, Ctx D w0 K0 E M β F I ρ w → AllP out.vc →
  OpY P o ρ w fun v w' => ∃ β' F' I', RM D w0 K0 out.M β' F' I' w' ∧ ExtB out.mv β β' ∧ Grows I I' ∧ (∀ u, u < M.length → u ∉ out.tc → F' u = F u) ∧ ARel (fun w => K0 w ∧ Holds w I') β' out.av v
def Does (P : Program) (o : Oper) (E : List (Nat × AV)) (M : List Blk) (out : Out) : Prop :=
 match out.rd with
 | some rd => Pur P o E M out.vc out.av rd ∧ out.M = M ∧ out.mv = [] ∧ ∀ u ∈ rd, u < M.length
 | none => Eff P o E M out
theorem Ext.b {β β' : Beta} (h : Ext β β') (mv : List Nat) : ExtB mv β β' := fun u x _ hx => h u x hx
theorem RM.holdsF (R : RM D w0 K0 M β F I w) {u : Nat} {blk : Blk} (h : M[u]? = some blk) : Holds w (F u) := by
 intro x hx
 obtain ⟨hu, -⟩ := List.getElem?_eq_some_iff.1 h
 exact R.st.holds x (List.mem_append_left _ (List.mem_flatMap.2 ⟨u, List.mem_range.2 hu, hx⟩))
theorem RM.at (R : RM D w0 K0 M β F I w) {u : Nat} {blk : Blk} (h : M[u]? = some blk) : ∃ H, F u = H ∧ BRel (fun w => K0 w ∧ Holds w I) β u blk H ∧ Holds w H := ⟨_, rfl, R.blk u _ h, R.holdsF h⟩
theorem Ctx.sees (C : Ctx D w0 K0 E M β F I ρ w) {rd : List Nat} (h : ∀ u ∈ rd, u < M.length) : Sees K0 I F rd w := ⟨C.now, fun u hu => C.rm.holdsF (List.getElem?_eq_getElem (h u hu))⟩
theorem Pur.eff {o : Oper} {vc : List Prop} {av : AV} {rd : List Nat} (h : Pur P o E M vc av rd) (hr : ∀ u ∈ rd, u < M.length) : Eff P o E M ⟨vc, av, M, [], [], some rd⟩ := by
 intro D w0 K0 β F I ρ w C hv
 obtain ⟨v, h1, h2⟩ := h C hv
 exact OpY.pure (h2 w (C.sees hr)) ⟨β, F, I, C.rm, (Ext.refl β).b _, Grows.refl _, fun _ _ _ => rfl, h1⟩
theorem Does.eff {o : Oper} {out : Out} (h : Does P o E M out) : Eff P o E M out := by
 obtain ⟨vc, av, M', tc, mv, rd⟩ := out
 unfold Does at h
 cases rd with
 | none => exact h
 | some rd =>
  obtain ⟨h1, rfl, rfl, h2⟩ := h
  intro D w0 K0 β F I ρ w C hv
  refine OpY.mono (h1.eff h2 C hv) fun v w' ⟨β', F', I', R, e, hI, hF, hr⟩ => ⟨β', F', I', R, e, hI, fun u hu _ => hF u hu (by simp), hr⟩
theorem Does.look {o : Oper} {vc : List Prop} {av : AV} {rd : List Nat} (h : Pur P o E M vc av rd) (hr : ∀ u ∈ rd, u < M.length) : Does P o E M ⟨vc, av, M, [], [], some rd⟩ := ⟨h, rfl, rfl, hr⟩
theorem Does.same {o : Oper} {vc : List Prop} {av : AV} (h : ∀ {D : List Nat} {w0 : World} {K0 : World → Prop} {β : Beta} {F : Nat → Frag} {I : Frag} {ρ : Operand → Value} {w : World}, Ctx D w0 K0 E M β F I ρ w → AllP vc → ∃ v, (∀ w', K0 w' ∧ Holds w' I → (execOp ρ o).run P w' = .ok (.value v) w') ∧ ARel (fun w => K0 w ∧ Holds w I) β av v) : Does P o E M ⟨vc, av, M, [], [], some []⟩ :=
 Does.look (fun C hv => let ⟨v, h1, h2⟩ := h C hv; ⟨v, h2, fun w' hs => h1 w' hs.1⟩) (by simp)
section
variable {d : Option Tmp} {ty : TypeId} {pos : String} {aft : Array Edge} {gd : Option (Nat × Bool)} {oc : Option Orc} {out : Out}
def lk (vc : List Prop) (av : AV) (M : List Blk) : Out := ⟨vc, av, M, [], [], some []⟩
def sMove (E : List (Nat × AV)) (M : List Blk) (x : Operand) : Option Out := match evA E x with | some v => some (lk [] v M) | none => none
theorem sMove_ok {x : Operand} (h : sMove E M x = some out) : Does P ⟨d, .move x, ty, pos, aft, gd⟩ E M out ∧ Does P ⟨d, .assign x, ty, pos, aft, gd⟩ E M out := by
 unfold sMove at h
 split at h
 ·rename_i v hv
  simp only [Option.some.injEq] at h; subst h
  exact ⟨Does.same fun C _ => ⟨_, fun _ _ => r_move rfl, C.ev hv⟩, Does.same fun C _ => ⟨_, fun _ _ => r_assign rfl, C.ev hv⟩⟩
 ·simp at h
def sNil (E : List (Nat × AV)) (M : List Blk) (x : Operand) : Option Out :=
 match evA E x with | some (.pt u o) => some (lk [] (.pt u o) M) | some (.ep u k i o) => some (lk [] (.ep u k i o) M) | some (.rp r o) => some (lk [] (.rp r o) M) | _ => none
theorem ptr_of {K : World → Prop} {v : AV} {y : Value} (h : ARel K β v y) (hv : (∃ u o, v = .pt u o) ∨ (∃ u k i o, v = .ep u k i o) ∨ ∃ r o, v = .rp r o) : ∃ a, y = .pointer (some a) := by
 cases h with
 | pt h => exact ⟨_, rfl⟩
 | ep h => exact ⟨_, rfl⟩
 | rp a X hl hc hr => exact ⟨_, rfl⟩
 | _ => simp at hv
theorem sNil_ok {x : Operand} (h : sNil E M x = some out) : Does P ⟨d, .nilCheck x, ty, pos, aft, gd⟩ E M out := by
 unfold sNil at h
 split at h <;> simp only [Option.some.injEq, reduceCtorEq] at h <;> subst h <;> rename_i hv <;>
  refine Does.same fun C _ => ?_ <;> obtain ⟨a, ha⟩ := ptr_of (C.ev hv) (by simp) <;> exact ⟨_, fun _ _ => r_nilCheck ha, ha ▸ C.ev hv⟩
def sExtract (E : List (Nat × AV)) (M : List Blk) (x : Operand) (i : Nat) : Option Out :=
 match evA E x with | some (.tu l) => (match l[i]? with | some v => some (lk [] v M) | none => none) | _ => none
theorem rel_at {R : AV → Value → Prop} {l : List AV} {ys : List Value} (hl : ys.length = l.length) (hr : ∀ (j : Nat) c y, l[j]? = some c → ys[j]? = some y → R c y) {i : Nat} {v : AV} (hv : l[i]? = some v) : ∃ y, ys[i]? = some y ∧ R v y := by
 obtain ⟨hi, -⟩ := List.getElem?_eq_some_iff.1 hv
 exact ⟨_, List.getElem?_eq_getElem (by omega), hr i _ _ hv (List.getElem?_eq_getElem (by omega))⟩
theorem sExtract_ok {x : Operand} {i : Nat} (h : sExtract E M x i = some out) : Does P ⟨d, .extract x i, ty, pos, aft, gd⟩ E M out := by
 unfold sExtract at h
 split at h
 ·rename_i l hv
  split at h
  ·rename_i v hi
   simp only [Option.some.injEq] at h; subst h
   refine Does.same fun C _ => ?_
   obtain ⟨y, ρ_eq, r⟩ := C.ev' hv
   cases r with
   | tu ys hl hr =>
    obtain ⟨y, h1, h2⟩ := rel_at hl hr hi
    exact ⟨y, fun _ _ => r_extract ρ_eq (by simpa using h1), h2⟩
  ·simp at h
 ·simp at h
theorem r_fieldA {s : TypeId} {x : Operand} {f off : Nat} {a : Addr} (hf : fieldOff P s f = some off) (h : ρ x = .pointer (some a)) : (execOp ρ ⟨d, .fieldAddr s x f, ty, pos, aft, gd⟩).run P w = .ok (.value (.pointer (some (a.add off)))) w := by
 simp only [execOp, h, Sem.run_bind, run_fieldAt hf, Result.andThen_ok, Sem.run_pure]
def sField (T : Tab) (E : List (Nat × AV)) (M : List Blk) (s : TypeId) (x : Operand) (f : Nat) : Option Out :=
 match tOff T s f with
 | some off => (match evA E x with | some (.pt u o) => some (lk [] (.pt u (o + off)) M) | some (.ep u k i o) => some (lk [] (.ep u k i (o + off)) M) | some (.rp r o) => some (lk [] (.rp r (o + off)) M) | _ => none)
 | none => none
theorem sField_ok (hT : tabB P T = true) {s : TypeId} {x : Operand} {f : Nat} (h : sField T E M s x f = some out) : Does P ⟨d, .fieldAddr s x f, ty, pos, aft, gd⟩ E M out := by
 unfold sField at h
 split at h
 ·rename_i off ho
  have hoff := tOff_ok hT ho
  split at h <;> simp only [Option.some.injEq, reduceCtorEq] at h <;> subst h <;> rename_i hv <;> refine Does.same fun C _ => ?_ <;> obtain ⟨y, ρ_eq, r⟩ := C.ev' hv
  ·cases r with | pt hb => exact ⟨_, fun _ _ => r_fieldA hoff ρ_eq, by rw [add_eq]; exact .pt hb⟩
  ·cases r with | ep hb => exact ⟨_, fun _ _ => r_fieldA hoff ρ_eq, by rw [add_eq, Nat.add_assoc]; exact .ep hb⟩
  ·cases r with | rp a X hl hc hr => exact ⟨_, fun _ _ => r_fieldA hoff ρ_eq, by rw [Addr.add_add']; exact .rp a X hl hc hr⟩
 ·simp at h
def DV.cp : DV → Bool
 | .v _ => true
 | .ro _ _ => true
 | .jk => true
 | .em _ _ _ => false
 | .ag _ => false
 | .tu _ => false
 | .pb _ _ => false
theorem DRel.cp {K : World → Prop} {x : DV} {y : Value} {H : Frag} (h : DRel K x y H) (hc : x.cp = true) : DRel K x y [] := by
 cases h with
 | v => exact .v _
 | jk => exact .jk _
 | ro X hl hy hs hr => exact .ro X hl hy hs hr
 | em => simp [DV.cp] at hc
 | ag => simp [DV.cp] at hc
 | tu => simp [DV.cp] at hc
 | pb => simp [DV.cp] at hc
def cutA (l : List AV) (o n : Nat) : Option AV := bif (o + n).ble l.length then some (.ag ((l.drop o).take n)) else none
def ldA (T : Tab) (t : TypeId) (l : List AV) (o : Nat) : Option AV :=
 match tLd T t with | some .one => l[o]? | some (.many n) => cutA l o n | none => none
theorem ldA_ok (hT : tabB P T = true) {t : TypeId} {l : List AV} {o : Nat} {v : AV} {x : Operand} {a : Addr} {R : AV → Value → Prop} {ys : List Value} (hR : ∀ (l : List AV) (ys : List Value), ys.length = l.length → (∀ (j : Nat) c y, l[j]? = some c → ys[j]? = some y → R c y) → R (.ag l) (.agg ys.toArray))
  (h : ldA T t l o = some v) (hx : ρ x = .pointer (some (a.add o))) (hl : ys.length = l.length) (hr : ∀ (j : Nat) c y, l[j]? = some c → ys[j]? = some y → R c y) :
  ∃ y, R v y ∧ ∀ w : World, (∀ (j : Nat) y, ys[j]? = some y → w.cell? (a.add j) = some y) → (execOp ρ ⟨d, .load t x, ty, pos, aft, gd⟩).run P w = .ok (.value y) w := by
 unfold ldA at h
 split at h
 ·rename_i ht
  obtain ⟨y, h1, h2⟩ := rel_at hl hr h
  exact ⟨y, h2, fun w hc => r_load (tLd_one hT ht) hx (hc _ _ h1)⟩
 ·rename_i n ht
  have ha := tLd_many hT ht
  simp only [cutA] at h
  cases hb : (o + n).ble l.length with
  | false => simp [hb] at h
  | true =>
   simp only [hb, cond_true, Option.some.injEq] at h
   have hle : o + n ≤ l.length := Nat.le_of_ble_eq_true hb
   subst h
   have hlen : ((ys.drop o).take n).length = n := by simp; omega
   refine ⟨.agg ((ys.drop o).take n).toArray, hR _ _ (by simp; omega) ?_, fun w hc => r_loadAgg ((ys.drop o).take n) (by rw [hlen]; exact ha) hx (fun j hj => ?_)⟩
   ·intro j c y h1 h2
    rw [List.getElem?_take, List.getElem?_drop] at h1 h2
    split at h1
    ·rename_i hj; rw [if_pos hj] at h2; exact hr _ _ _ h1 h2
    ·simp at h1
   ·rw [Addr.add_add']
    refine hc (o + j) _ ?_
    rw [List.getElem_take, List.getElem_drop]; exact List.getElem?_eq_getElem _
 ·simp at h
def sLoad (T : Tab) (E : List (Nat × AV)) (M : List Blk) (oc : Option Orc) (t : TypeId) (x : Operand) : Option Out :=
 match evA E x with
 | some (.pt u o) => (match M[u]? with | some (.bx _ cells) => (match ldA T t cells o with | some v => some ⟨[], v, M, [], [], some [u]⟩ | none => none) | _ => none)
 | some (.rp row o) => (match ldA T t (row.map .d) o with | some v => some (lk [] v M) | none => none)
 | some (.ep u k i o) => (match oc with
  | some (.ix _ row) => (match M[u]? with | some (.rw _ k' rows) => bif k.beq k' && row.all DV.cp then (match ldA T t (row.map .d) o with | some v => some ⟨[rows[i]? = some row], v, M, [], [], some [u]⟩ | none => none) else none | _ => none)
  | _ => none)
 | _ => none
theorem lay_get {n k : Nat} {X : Nat → List Value} (hX : ∀ i, i < n → (X i).length = k) {i j : Nat} (hi : i < n) (hj : j < k) : (lay n X)[i * k + j]? = (X i)[j]? := by
 induction n with
 | zero => omega
 | succ n ih =>
  have hl : (lay n X).length = n * k := by
   have : ∀ m, m ≤ n → (lay m X).length = m * k := by
    intro m hm
    induction m with
    | zero => simp [lay]
    | succ m ihm =>
     have := ihm (by omega)
     simp only [lay, List.range_succ, List.flatMap_append, List.length_append, List.flatMap_cons, List.flatMap_nil, List.append_nil] at this ⊢
     rw [this, hX m (by omega), Nat.succ_mul]
   exact this n (Nat.le_refl _)
  have hs : lay (n + 1) X = lay n X ++ X n := by simp [lay, List.range_succ, List.flatMap_append]
  rw [hs]
  rcases Nat.lt_or_ge i n with h | h
  ·have : i * k + j < n * k := by
    have := Nat.mul_le_mul_right k (show i + 1 ≤ n from h); rw [Nat.succ_mul] at this; omega
   rw [List.getElem?_append_left (by rw [hl]; exact this)]
   exact ih (fun i hi => hX i (by omega)) h
  ·obtain rfl : i = n := by omega
   rw [List.getElem?_append_right (by rw [hl]; omega), hl]
   congr 1; omega
theorem lt_of_some {l : List Blk} {u : Nat} {b : Blk} (h : l[u]? = some b) : u < l.length := (List.getElem?_eq_some_iff.1 h).1
theorem sLoad_ok (hT : tabB P T = true) {t : TypeId} {x : Operand} (h : sLoad T E M oc t x = some out) : Does P ⟨d, .load t x, ty, pos, aft, gd⟩ E M out := by
 unfold sLoad at h
 split at h
 ·rename_i u o hv
  split at h
  ·rename_i Tt cells hM
   split at h
   ·rename_i v hld
    simp only [Option.some.injEq] at h; subst h
    refine Does.look (fun C _ => ?_) (by simpa using lt_of_some hM)
    obtain ⟨y, hy, r⟩ := C.ev' hv
    cases r with
    | pt hb =>
     obtain ⟨H, hF, hB, hH⟩ := C.rm.at hM
     cases hB with
     | bx hb' ys hl hr =>
      rw [hb] at hb'; cases hb'
      obtain ⟨y', h1, h2⟩ := ldA_ok hT (a := ⟨_, 0, none⟩) (fun l ys => ARel.ag ys) hld (hy.trans (by rw [add_eq, Nat.zero_add])) hl hr
      refine ⟨y', h1, fun w' hs => h2 w' fun j z hj => ?_⟩
      have hw : Holds w' _ := hs.2 u (by simp)
      rw [hF] at hw
      rw [add_eq, cell_of hw.one, Nat.zero_add]; simpa using hj
   ·simp at h
  ·simp at h
 ·rename_i row o hv
  split at h
  ·rename_i v hld
   simp only [Option.some.injEq] at h; subst h
   refine Does.same ?_
   intro D w0 K0 β F I ρ w C _
   obtain ⟨y, hy, r⟩ := C.ev' hv
   cases r with
   | rp a X hl hc hr =>
    have hl' : X.length = (row.map AV.d).length := by rw [List.length_map]; exact hl
    obtain ⟨y', h1, h2⟩ := ldA_ok hT (a := a) (R := ARel (fun w => K0 w ∧ Holds w I) β) (fun l ys => ARel.ag ys) hld hy hl' (fun j c z h1 h2 => by
     simp only [List.getElem?_map, Option.map_eq_some_iff] at h1
     obtain ⟨c', h1, rfl⟩ := h1
     exact .d (hr j c' z h1 h2))
    exact ⟨y', fun w' hs => h2 w' fun j z hj => hc w' hs j z hj, h1⟩
  ·simp at h
 ·rename_i u k i o hv
  split at h
  ·rename_i i0 row
   split at h
   rotate_left
   ·simp at h
   rename_i Tt k' rows hM
   cases hk : (k.beq k' && row.all DV.cp) with
   | false => simp [hk] at h
   | true =>
    simp only [hk, cond_true] at h
    simp only [Bool.and_eq_true] at hk
    obtain ⟨hk, hcp⟩ := hk
    obtain rfl := Nat.eq_of_beq_eq_true hk
    split at h
    ·rename_i v hld
     simp only [Option.some.injEq] at h; subst h
     refine Does.look ?_ (by simpa using lt_of_some hM)
     intro D w0 K0 β F I ρ w C hvc
     obtain ⟨hrow, -⟩ := hvc
     obtain ⟨y, hy, r⟩ := C.ev' hv
     cases r with
     | ep hb =>
      obtain ⟨H, hF, hB, hH⟩ := C.rm.at hM
      cases hB with
      | rw hb' X G hl hs hr =>
       rw [hb] at hb'; cases hb'
       obtain ⟨hlr, hlX⟩ := hl i row hrow
       obtain ⟨hi, -⟩ := List.getElem?_eq_some_iff.1 hrow
       obtain ⟨b', cap, cs, he, rfl, hcs, hn, ht⟩ := hs.block (by omega)
       cases he
       have hl' : (X i).length = (row.map AV.d).length := by rw [List.length_map]; omega
       obtain ⟨y', h1, h2⟩ := ldA_ok hT (a := ⟨_, i * k, none⟩) (R := ARel (fun w => K0 w ∧ Holds w I) β) (fun l ys => ARel.ag ys) hld (hy.trans (by rw [add_eq])) hl' (fun j c z h1 h2 => by
        simp only [List.getElem?_map, Option.map_eq_some_iff] at h1
        obtain ⟨c', h1, rfl⟩ := h1
        exact .d ((hr i row j c' z hrow h1 h2).cp (List.all_eq_true.1 hcp c' (List.mem_of_getElem? h1))))
       refine ⟨y', h1, fun w' hse => h2 w' fun j z hj => ?_⟩
       have hw' : Holds w' _ := hse.2 u (by simp)
       rw [hF] at hw'
       have hw := (Holds.app.1 hw').1.one
       obtain ⟨hj', -⟩ := List.getElem?_eq_some_iff.1 hj
       rw [add_eq, cell_of hw, ← hj, ← lay_get (fun i hi => (hl i _ (List.getElem?_eq_getElem hi)).2) hi (by omega), ← ht, List.getElem?_take, if_pos, Array.getElem?_toList]
       have := Nat.mul_le_mul_right k (show i + 1 ≤ rows.length from hi); rw [Nat.succ_mul] at this; omega
    ·simp at h
  ·simp at h
 ·simp at h
theorem r_indexG {e size n c : Nat} {t : TypeId} {x ix : Operand} {a : Addr} {k : IntKind} {i : Int} (ht : P.underlying t = some (.slice e)) (hs : (P.info? e).map (·.size) = some size) (hx : ρ x = .slice (some a) n c) (hi : ρ ix = .int k i) (h0 : 0 ≤ i) (h1 : i < n) :
  (execOp ρ ⟨d, .indexAddr t x ix, ty, pos, aft, gd⟩).run P w = .ok (.value (.pointer (some (a.add (i.toNat * size))))) w := by
 cases hin : P.info? e with
 | none => simp [hin] at hs
 | some inf =>
  simp only [hin, Option.map_some, Option.some.injEq] at hs
  have hsz : (sizeOf e).run P w = .ok size w := by simp [sizeOf, typeInfo, Sem.run_bind, hin, hs]
  simp [execOp, hx, hi, Instr.indexAt, asIntOf, Sem.run_bind, run_underlying ht, h0, h1, hsz]
theorem r_indexPG {e size n : Nat} {t : TypeId} {x ix : Operand} {a : Addr} {k : IntKind} {i : Int} (ht : P.underlying t = some (.array n e)) (hs : (P.info? e).map (·.size) = some size) (hx : ρ x = .pointer (some a)) (hi : ρ ix = .int k i) (h0 : 0 ≤ i) (h1 : i < n) :
  (execOp ρ ⟨d, .indexAddr t x ix, ty, pos, aft, gd⟩).run P w = .ok (.value (.pointer (some (a.add (i.toNat * size))))) w := by
 cases hin : P.info? e with
 | none => simp [hin] at hs
 | some inf =>
  simp only [hin, Option.map_some, Option.some.injEq] at hs
  have hsz : (sizeOf e).run P w = .ok size w := by simp [sizeOf, typeInfo, Sem.run_bind, hin, hs]
  simp [execOp, hx, hi, Instr.indexAt, Instr.sureAddr, asIntOf, Sem.run_bind, run_underlying ht, h0, h1, hsz]
def intA : Option AV → Option (IntKind × Int)
 | some (.d (.v (.int k z))) => some (k, z)
 | _ => none
theorem Ctx.int (C : Ctx D w0 K0 E M β F I ρ w) {x : Operand} {k : IntKind} {z : Int} (h : intA (evA E x) = some (k, z)) : ρ x = .int k z := by
 unfold intA at h
 split at h
 ·rename_i k' z' hv
  simp only [Option.some.injEq, Prod.mk.injEq] at h; obtain ⟨rfl, rfl⟩ := h
  obtain ⟨y, hy, r⟩ := C.ev' hv
  cases r with | d h => cases h; exact hy
 ·simp at h
def sIndex (T : Tab) (E : List (Nat × AV)) (M : List Blk) (oc : Option Orc) (t : TypeId) (x ix : Operand) : Option Out :=
 match intA (evA E ix) with
 | none => none
 | some (_, z) =>
  match tUn T t with
  | some (.sl e) => (match tSize T e with
   | none => none
   | some k => (match oc with
    | some (.ix i row) => (match evA E x with | some (.d (.ro k' rows)) => (bif k.beq k' then some (lk [z = (i : Int), rows[i]? = some row] (.rp row 0) M) else none) | _ => none)
    | some (.n i) => (match evA E x with | some (.sl u n) => (match M[u]? with | some (.rw _ _ rows) => some ⟨[z = (i : Int), i < n, n ≤ rows.length], .ep u k i 0, M, [], [], some []⟩ | _ => none) | _ => none)
    | _ => none))
  | some (.ar n e) => (match tSize T e with
   | none => none
   | some k => (match oc with
    | some (.n i) => (match evA E x with | some (.pt u o) => some (lk [z = (i : Int), i < n] (.pt u (o + i * k)) M) | some (.ep u k' j o) => some (lk [z = (i : Int), i < n] (.ep u k' j (o + i * k)) M) | some (.rp r o) => some (lk [z = (i : Int), i < n] (.rp r (o + i * k)) M) | _ => none)
    | _ => none))
  | _ => none
theorem add_zero' (a : Addr) : a.add 0 = a := by unfold Addr.add; simp
theorem sIndex_ok (hT : tabB P T = true) {t : TypeId} {x ix : Operand} (h : sIndex T E M oc t x ix = some out) : Does P ⟨d, .indexAddr t x ix, ty, pos, aft, gd⟩ E M out := by
 unfold sIndex at h
 split at h
 ·simp at h
 rename_i kk z hz
 split at h
 ·rename_i e ht
  replace ht := tUn_ok hT ht
  split at h
  ·simp at h
  rename_i k hk
  replace hk := tSize_ok hT hk
  split at h
  ·rename_i i row
   split at h
   ·rename_i k' rows hv
    cases hkk : k.beq k' with
    | false => simp [hkk] at h
    | true =>
     simp only [hkk, cond_true, Option.some.injEq] at h; subst h
     obtain rfl := Nat.eq_of_beq_eq_true hkk
     refine Does.same fun C hvc => ?_
     obtain ⟨rfl, hrow, -⟩ := hvc
     obtain ⟨y, hy, r⟩ := C.ev' hv
     cases r with | d r =>
     cases r with
     | ro X hl hys hs hr =>
      obtain ⟨hi, -⟩ := List.getElem?_eq_some_iff.1 hrow
      obtain ⟨a, c, hya, -⟩ := (hs _ C.now).row hi
      refine ⟨_, fun _ _ => r_indexG ht hk (hy.trans hya) (C.int hz) (by omega) (by omega), ?_⟩
      have e0 : a.add (((i : Nat) : Int).toNat * k) = (a.add (i * k)).add 0 := by rw [add_zero']; simp
      rw [e0]
      refine .rp _ (X i) (by have := hl i row hrow; omega) (fun w' hw' j x hj => ?_) (fun j c x h1 h2 => hr i row j c x hrow h1 h2)
      obtain ⟨a', c', hya', hcell⟩ := (hs w' hw').row hi
      rw [hya] at hya'; simp only [Value.slice.injEq, Option.some.injEq] at hya'; obtain ⟨rfl, -⟩ := hya'
      have hXl := (hl i row hrow).2
      obtain ⟨hj', -⟩ := List.getElem?_eq_some_iff.1 hj
      have hg := lay_get (fun i hi => (hl i _ (List.getElem?_eq_getElem hi)).2) hi (show j < k by omega)
      rw [hj] at hg
      obtain ⟨hlt, hval⟩ := List.getElem?_eq_some_iff.1 hg
      rw [hcell j (by omega) hlt, hval]
   ·simp at h
  ·rename_i i
   split at h
   ·rename_i u n hv
    split at h
    ·rename_i Tt k' rows hM
     simp only [Option.some.injEq] at h; subst h
     refine Does.look (fun C hvc => ?_) (by simp)
     obtain ⟨rfl, hi, hnr, -⟩ := hvc
     obtain ⟨y, hy, r⟩ := C.ev' hv
     cases r with
     | sl hb =>
      obtain ⟨H, -, hB, -⟩ := C.rm.at hM
      cases hB with
      | rw hb' X G hl hs hr =>
       rw [hb] at hb'; cases hb'
       obtain ⟨b', cap, cs, he, -⟩ := hs.block (by omega)
       cases he
       exact ⟨_, by rw [add_eq]; simpa using ARel.ep (k := k) (i := i) (o := 0) hb, fun _ _ => r_indexG ht hk hy (C.int hz) (by omega) (by omega)⟩
    ·simp at h
   ·simp at h
  ·simp at h
 ·rename_i n e ht
  replace ht := tUn_ok hT ht
  split at h
  ·simp at h
  rename_i k hk
  replace hk := tSize_ok hT hk
  split at h
  ·rename_i i
   split at h <;> simp only [Option.some.injEq, reduceCtorEq] at h <;> subst h <;> rename_i hv <;> refine Does.same fun C hvc => ?_ <;> obtain ⟨rfl, hi, -⟩ := hvc <;> obtain ⟨y, hy, r⟩ := C.ev' hv
   ·cases r with | pt hb => exact ⟨_, fun _ _ => r_indexPG ht hk hy (C.int hz) (by omega) (by omega), by rw [add_eq]; exact .pt hb⟩
   ·cases r with | ep hb => exact ⟨_, fun _ _ => r_indexPG ht hk hy (C.int hz) (by omega) (by omega), by rw [add_eq, Nat.add_assoc]; exact .ep hb⟩
   ·cases r with | rp a X hl hc hr => exact ⟨_, fun _ _ => r_indexPG ht hk hy (C.int hz) (by omega) (by omega), by rw [Addr.add_add']; exact .rp a X hl hc hr⟩
  ·simp at h
 ·simp at h
end
end Go.Proofs.Ytikmdkicccfjpaa
namespace Go.Proofs.Ytikmdkicccfjpaa
open Go.RowKit
variable {P : Program} {T : Tab} {D : List Nat} {w0 : World} {K0 : World → Prop} {E : List (Nat × AV)} {M : List Blk} {β : Beta} {F : Nat → Frag} {I : Frag} {ρ : Operand → Value} {w : World}
variable {d : Option Tmp} {ty : TypeId} {pos : String} {aft : Array Edge} {gd : Option (Nat × Bool)} {oc : Option Orc} {out : Out}
def AV.i (k : IntKind) (z : Int) : AV := .d (.v (.int k z))
def AV.b (c : Bool) : AV := .d (.v (.bool c))
def boolA : Option AV → Option Bool
 | some (.d (.v (.bool c))) => some c
 | _ => none
theorem Ctx.bool (C : Ctx D w0 K0 E M β F I ρ w) {x : Operand} {c : Bool} (h : boolA (evA E x) = some c) : ρ x = .bool c := by
 unfold boolA at h
 split at h
 ·rename_i c' hv
  simp only [Option.some.injEq] at h; subst h
  obtain ⟨y, hy, r⟩ := C.ev' hv
  cases r with | d h => cases h; exact hy
 ·simp at h
def strA : Option AV → Option (List UInt8)
 | some (.d (.v (.string s))) => some s.data.toList
 | _ => none
theorem Ctx.str (C : Ctx D w0 K0 E M β F I ρ w) {x : Operand} {l : List UInt8} (h : strA (evA E x) = some l) : ρ x = .string ⟨l.toArray⟩ := by
 unfold strA at h
 split at h
 ·rename_i s hv
  simp only [Option.some.injEq] at h; subst h
  obtain ⟨y, hy, r⟩ := C.ev' hv
  cases r with | d h => cases h; rw [hy]
 ·simp at h
def cmpB : BinOp → Int → Int → Option Bool
 | .eql, a, b => some (a == b)
 | .neq, a, b => some (a != b)
 | .lss, a, b => some (decide (a < b))
 | .leq, a, b => some (decide (a ≤ b))
 | .gtr, a, b => some (decide (b < a))
 | .geq, a, b => some (decide (b ≤ a))
 | _, _, _ => none
def arI : BinOp → IntKind → Int → Int → Option (List Prop × Int)
 | .add, k, a, b => some ([], k.wrap (a + b))
 | .sub, k, a, b => some ([], k.wrap (a - b))
 | .mul, k, a, b => some ([], k.wrap (a * b))
 | .quo, k, a, b => some ([b ≠ 0], k.wrap (a.tdiv b))
 | .rem, _, a, b => some ([b ≠ 0], a.tmod b)
 | .and, k, a, b => some ([], k.wrap ((BitVec.ofInt k.bits a &&& BitVec.ofInt k.bits b).toNat : Int))
 | .or, k, a, b => some ([], k.wrap ((BitVec.ofInt k.bits a ||| BitVec.ofInt k.bits b).toNat : Int))
 | .xor, k, a, b => some ([], k.wrap ((BitVec.ofInt k.bits a ^^^ BitVec.ofInt k.bits b).toNat : Int))
 | _, _, _, _ => none
def shI : BinOp → IntKind → Int → Int → Option Int
 | .shl, k, a, b => some (k.wrap (a * 2 ^ (min b.toNat k.bits)))
 | .shr, k, a, b => some (a.fdiv (2 ^ (min b.toNat k.bits)))
 | _, _, _, _ => none
def tellB (oc : Option Orc) (c0 : Bool) (M : List Blk) : Out := match oc with | some (.b c) => lk [c0 = c] (.b c) M | _ => lk [] (.b c0) M
def tellZ (oc : Option Orc) (vc : List Prop) (k : IntKind) (z0 : Int) (M : List Blk) : Out := match oc with | some (.z z) => lk ((z0 = z) :: vc) (.i k z) M | _ => lk vc (.i k z0) M
def Val (P : Program) (o : Oper) : Prop := ∀ (ρ : Operand → Value) (w : World), (∃ v w', (execOp ρ o).run P w = .ok (.value v) w') ∨ ∃ h w', (execOp ρ o).run P w = .halt h w'
theorem Val.of {o : Oper} (h : ∀ ρ : Operand → Value, ∃ s : Sem Value, execOp ρ o = (do pure (Next.value (← s)))) : Val P o := by
 intro ρ w
 obtain ⟨s, hs⟩ := h ρ
 rw [hs]
 simp only [Sem.run_bind]
 cases hr : s.run P w with
 | ok v' w' => exact Or.inl ⟨v', w', by simp⟩
 | halt x w' => exact Or.inr ⟨x, w', rfl⟩
theorem run_of_y {o : Oper} {ρ : Operand → Value} {w : World} {v : Value} (hk : Val P o) (h : OpY P o ρ w fun v' w' => v' = v ∧ w' = w) : (execOp ρ o).run P w = .ok (.value v) w := by
 unfold OpY at h
 rcases hk ρ w with ⟨v', w', hr⟩ | ⟨x, w', hr⟩ <;> rw [hr] at h ⊢
 ·obtain ⟨rfl, rfl⟩ := h; rfl
 ·exact h.elim
theorem val_ok {o : Oper} {vc : List Prop} {av : AV} (hk : Val P o) (h : ∀ {D : List Nat} {w0 : World} {K0 : World → Prop} {β : Beta} {F : Nat → Frag} {I : Frag} {ρ : Operand → Value} {w : World}, Ctx D w0 K0 E M β F I ρ w → AllP vc → ∃ v, ARel (fun w => K0 w ∧ Holds w I) β av v ∧ ∀ (w : World) (Φ : Value → World → Prop), Φ v w → OpY P o ρ w Φ) : Does P o E M (lk vc av M) :=
 Does.same fun C hv => let ⟨v, h1, h2⟩ := h C hv; ⟨v, fun w' _ => run_of_y hk (h2 w' _ ⟨rfl, rfl⟩), h1⟩
theorem tellB_ok {o : Oper} {c0 : Bool} (hk : Val P o) (h : ∀ {D : List Nat} {w0 : World} {K0 : World → Prop} {β : Beta} {F : Nat → Frag} {I : Frag} {ρ : Operand → Value} {w : World}, Ctx D w0 K0 E M β F I ρ w → ∀ (w : World) (Φ : Value → World → Prop), Φ (.bool c0) w → OpY P o ρ w Φ) : Does P o E M (tellB oc c0 M) := by
 unfold tellB
 split
 ·refine val_ok hk fun C hv => ?_
  obtain ⟨rfl, -⟩ := hv
  exact ⟨_, .d (.v _), h C⟩
 ·exact val_ok hk fun C _ => ⟨_, .d (.v _), h C⟩
theorem tellZ_ok {o : Oper} {vc : List Prop} {k : IntKind} {z0 : Int} (hk : Val P o) (h : ∀ {D : List Nat} {w0 : World} {K0 : World → Prop} {β : Beta} {F : Nat → Frag} {I : Frag} {ρ : Operand → Value} {w : World}, Ctx D w0 K0 E M β F I ρ w → AllP vc → ∀ (w : World) (Φ : Value → World → Prop), Φ (.int k z0) w → OpY P o ρ w Φ) : Does P o E M (tellZ oc vc k z0 M) := by
 unfold tellZ
 split
 ·refine val_ok hk fun C hv => ?_
  obtain ⟨rfl, hv⟩ := hv
  exact ⟨_, .d (.v _), h C hv⟩
 ·exact val_ok hk fun C hv => ⟨_, .d (.v _), h C hv⟩
def sBinI (E : List (Nat × AV)) (M : List Blk) (oc : Option Orc) (op : BinOp) (x y : Operand) : Option Out :=
 match intA (evA E x), intA (evA E y) with
 | some (k, a), some (k', b) => (match shI op k a b with
  | some z0 => some (tellZ oc [0 ≤ b] k z0 M)
  | none => bif decide (k = k') then (match cmpB op a b with
   | some c0 => some (tellB oc c0 M)
   | none => match arI op k a b with | some (vc, z0) => some (tellZ oc vc k z0 M) | none => none) else none)
 | _, _ => none
theorem sBinI_ok {op : BinOp} {x y : Operand} {t t' : TypeId} (h : sBinI E M oc op x y = some out) : Does P ⟨d, .binOp op t x y t', ty, pos, aft, gd⟩ E M out := by
 unfold sBinI at h
 split at h
 ·rename_i k a k' b hx hy
  split at h
  ·rename_i z0 hz
   simp only [Option.some.injEq] at h; subst h
   refine tellZ_ok (.of fun _ => ⟨_, rfl⟩) fun C hv w Φ hΦ => ?_
   obtain ⟨hb, -⟩ := hv
   cases op <;> simp only [shI, Option.some.injEq, reduceCtorEq] at hz
   ·exact y_shl (C.int hx) (C.int hy) hb hz hΦ
   ·exact y_shr (C.int hx) (C.int hy) hb hz hΦ
  ·cases hk : decide (k = k') with
   | false => simp [hk] at h
   | true =>
    simp only [hk, cond_true] at h
    obtain rfl := of_decide_eq_true hk
    split at h
    ·rename_i c0 hc
     simp only [Option.some.injEq] at h; subst h
     refine tellB_ok (.of fun _ => ⟨_, rfl⟩) fun C w Φ hΦ => ?_
     cases op <;> simp only [cmpB, Option.some.injEq, reduceCtorEq] at hc
     ·exact y_eql (C.int hx) (C.int hy) hc hΦ
     ·exact y_neq (C.int hx) (C.int hy) hc hΦ
     ·exact y_lss (C.int hx) (C.int hy) hc hΦ
     ·exact y_leq (C.int hx) (C.int hy) hc hΦ
     ·exact y_gtr (C.int hx) (C.int hy) hc hΦ
     ·exact y_geq (C.int hx) (C.int hy) hc hΦ
    ·split at h
     ·rename_i vc z0 hz
      simp only [Option.some.injEq] at h; subst h
      refine tellZ_ok (.of fun _ => ⟨_, rfl⟩) fun C hv w Φ hΦ => ?_
      cases op <;> simp only [arI, Option.some.injEq, Prod.mk.injEq, reduceCtorEq] at hz <;> obtain ⟨rfl, hz⟩ := hz
      ·exact y_add (C.int hx) (C.int hy) hz hΦ
      ·exact y_sub (C.int hx) (C.int hy) hz hΦ
      ·exact y_mul (C.int hx) (C.int hy) hz hΦ
      ·exact y_quo (C.int hx) (C.int hy) hv.1 hz hΦ
      ·exact y_rem (C.int hx) (C.int hy) hv.1 hz hΦ
      ·exact y_and (C.int hx) (C.int hy) hz hΦ
      ·exact y_or (C.int hx) (C.int hy) hz hΦ
      ·exact y_xor (C.int hx) (C.int hy) hz hΦ
     ·simp at h
 ·simp at h
end Go.Proofs.Ytikmdkicccfjpaa
namespace Go.Proofs.Ytikmdkicccfjpaa
open Go.RowKit
variable {P : Program} {T : Tab} {D : List Nat} {w0 : World} {K0 : World → Prop} {E : List (Nat × AV)} {M : List Blk} {β : Beta} {F : Nat → Frag} {I : Frag} {ρ : Operand → Value} {w : World}
variable {d : Option Tmp} {ty : TypeId} {pos : String} {aft : Array Edge} {gd : Option (Nat × Bool)} {oc : Option Orc} {out : Out}
theorem setCs_get (vs : List Value) : ∀ (c : Array Value) (i j : Nat), i + vs.length ≤ c.size → (setCs c i vs)[j]? = if i ≤ j ∧ j < i + vs.length then vs[j - i]? else c[j]? := by
 induction vs with
 | nil => intro c i j h; simp [setCs]; intro h1 h2; omega
 | cons v r ih =>
  intro c i j h
  simp only [List.length_cons] at h
  simp only [setCs]
  rw [ih _ _ _ (by simp; omega)]
  by_cases h1 : i + 1 ≤ j ∧ j < i + 1 + r.length
  ·rw [if_pos h1, if_pos (by simp; omega)]
   rw [show j - i = (j - (i + 1)) + 1 by omega]; simp
  ·rw [if_neg h1, Array.getElem?_setIfInBounds]
   by_cases h2 : i = j
   ·subst h2; simp; omega
   ·rw [if_neg h2, if_neg (by simp; omega)]
theorem BRel.mono {K K' : World → Prop} {β β' : Beta} (h : ∀ w, K' w → K w) (e : Ext β β') {u : Nat} {blk : Blk} {H : Frag} (r : BRel K β u blk H) : BRel K' β' u blk H := by
 cases r with
 | dead => exact .dead u
 | bx hb ys hl hr => exact .bx (e _ _ hb) ys hl (fun j c y h1 h2 => (hr j c y h1 h2).mono h e)
 | rw hb X G hl hs hr => exact .rw (e _ _ hb) X G hl hs (fun i r j c x h1 h2 h3 => (hr i r j c x h1 h2 h3).mono h)
 | tw hb X G hl hs hr => exact .tw (e _ _ hb) X G hl hs (fun i r j c x h1 h2 h3 => (hr i r j c x h1 h2 h3).mono h)
 | nm hb => exact .nm (e _ _ hb)
 | gw X hl hc hr => exact .gw X hl (fun w hw => hc w (h w hw)) (fun j c x h1 h2 => (hr j c x h1 h2).mono h)
 | il hb hm => exact .il (e _ _ hb) (fun v hv => let ⟨c', h'⟩ := hm v hv; ⟨c', e _ _ h'⟩)
 | fl hb ys hl hm hc hr => exact .fl (e _ _ hb) ys hl hm hc (fun j c y h1 h2 => (hr j c y h1 h2).mono h e)
 | mf hb vs hl hr => exact .mf (e _ _ hb) vs hl (fun j c y h1 h2 => (hr j c y h1 h2).mono h e)
 | mp hb vs G hl hr => exact .mp (e _ _ hb) vs G hl (fun j c y h1 h2 => (hr j c y h1 h2).mono h)
 | mu es' hp hn hlt hb vs G hl hr => exact .mu es' hp hn hlt (e _ _ hb) vs G hl (fun j c y h1 h2 => (hr j c y h1 h2).mono h)
 | lp hb hsz hr => exact .lp (e _ _ hb) hsz (fun x hx => (hr x hx).mono h e)
 | it hb hm => exact .it (e _ _ hb) (fun v hv => let ⟨c', h'⟩ := hm v hv; ⟨c', e _ _ h'⟩)
def updF (F : Nat → Frag) (u : Nat) (H : Frag) : Nat → Frag := fun v => if v = u then H else F v
theorem updF_ne (F : Nat → Frag) (H : Frag) {n : Nat} {tc : List Nat} : ∀ u, u < n → u ∉ tc → updF F n H u = F u := fun u hu _ => by simp [updF]; omega
theorem flat_updF (F : Nat → Frag) (H : Frag) (n : Nat) : (List.range (n + 1)).flatMap (updF F n H) = (List.range n).flatMap F ++ H := by
 rw [List.range_succ, List.flatMap_append]
 have : (List.range n).flatMap (updF F n H) = (List.range n).flatMap F := by
  rw [List.flatMap_def, List.flatMap_def]; congr 1
  apply List.map_congr_left; intro a ha; have := List.mem_range.1 ha; simp [updF]; omega
 rw [this]; simp [updF]
theorem RM.new (R : RM D w0 K0 M β F I w) {w' : World} (g : Gr w w') {q : Option Addr × Nat} {H : Frag} {blk : Blk} (n : NewF w w' H) (hb : BRel (fun w => K0 w ∧ Holds w I) (β ++ [q]) M.length blk H) :
  RM D w0 K0 (M ++ [blk]) (β ++ [q]) (updF F M.length H) I w' where
 len := by simp [R.len]
 blk := by
  intro u bl hu
  rcases Nat.lt_or_ge u M.length with h | h
  ·rw [List.getElem?_append_left h] at hu
   have : updF F M.length H u = F u := by simp [updF]; omega
   rw [this]; exact (R.blk u bl hu).mono (fun _ h => h) (Ext.app _ _)
  ·rw [List.getElem?_append_right h] at hu
   have h0 : u - M.length = 0 := by
    rcases Nat.eq_zero_or_pos (u - M.length) with h0 | h0
    ·exact h0
    ·rw [List.getElem?_eq_none (by simp; omega)] at hu; simp at hu
   obtain rfl : u = M.length := by omega
   simp at hu; subst hu
   simpa [updF] using hb
 st := by
  have := R.st.new g n
  rw [List.length_append, List.length_singleton, flat_updF]
  refine this.perm ?_
  rw [← List.append_assoc]
  exact List.Perm.append_right I List.perm_append_comm
theorem RM.gr (R : RM D w0 K0 M β F I w) {w' : World} (g : Gr w w') : RM D w0 K0 M β F I w' := ⟨R.len, R.blk, R.st.gr g⟩
theorem new_at (R : RM D w0 K0 M β F I w) (x : Option Addr × Nat) : (β ++ [x])[M.length]? = some x := by rw [← R.len]; simp
def AV.one : AV → Bool
 | .d (.v x) => oneC x
 | .d .jk => false
 | .d (.ag _) => false
 | .d (.tu _) => false
 | .ag _ => false
 | .tu _ => false
 | _ => true
theorem AV.one_ok {K : World → Prop} {c : AV} {y : Value} (h : ARel K β c y) (ho : c.one = true) : oneC y = true := by
 cases h with
 | d h =>
  rename_i x
  cases x with
  | v x => cases h; exact ho
  | jk => simp [AV.one] at ho
  | ro k rows => obtain ⟨a, n, c, rfl⟩ := h.slice (by simp); rfl
  | em T k rows => obtain ⟨a, n, c, rfl⟩ := h.slice (by simp); rfl
  | ag l => simp [AV.one] at ho
  | tu l => simp [AV.one] at ho
  | pb T l => cases h
 | sl => rfl
 | sb => rfl
 | sf => rfl
 | mv => rfl
 | yl => rfl
 | pt => rfl
 | ep => rfl
 | rp => rfl
 | uk hu => exact hu
 | bt h hn => obtain ⟨a, n, c, rfl⟩ := h.slice (by simp); rfl
 | fn => rfl
 | fm => rfl
 | ag => simp [AV.one] at ho
 | tu => simp [AV.one] at ho
theorem one_cells {y : Value} (h : oneC y = true) : y.cells = #[y] := by cases y <;> first | rfl | simp [oneC] at h
def cellsA : AV → Option (List AV)
 | .ag l => bif l.all AV.one then some l else none
 | c => bif c.one then some [c] else none
theorem cellsA_ok {K : World → Prop} {v : AV} {y : Value} {l : List AV} (h : cellsA v = some l) (r : ARel K β v y) : ∃ ys : List Value, y.cells = ys.toArray ∧ ys.length = l.length ∧ (∀ (j : Nat) c z, l[j]? = some c → ys[j]? = some z → ARel K β c z) ∧ ∀ q ∈ ys, oneC q = true := by
 have single : ∀ c : AV, (bif c.one then some [c] else none) = some l → ARel K β c y → ∃ ys : List Value, y.cells = ys.toArray ∧ ys.length = l.length ∧ (∀ (j : Nat) c z, l[j]? = some c → ys[j]? = some z → ARel K β c z) ∧ ∀ q ∈ ys, oneC q = true := by
  intro c hc rc
  cases ho : c.one with
  | false => simp [ho] at hc
  | true =>
   simp only [ho, cond_true, Option.some.injEq] at hc; subst hc
   have h1 := AV.one_ok rc ho
   refine ⟨[y], one_cells h1, rfl, ?_, by simpa using h1⟩
   intro j c' z h2 h3
   cases j with
   | zero => simp at h2 h3; subst h2 h3; exact rc
   | succ j => simp at h2
 cases v with
 | ag l' =>
  simp only [cellsA] at h
  cases ho : l'.all AV.one with
  | false => simp [ho] at h
  | true =>
   simp only [ho, cond_true, Option.some.injEq] at h; subst h
   cases r with
   | ag ys hl hr =>
    refine ⟨ys, rfl, hl, hr, ?_⟩
    intro q hq
    obtain ⟨j, hj, rfl⟩ := List.getElem_of_mem hq
    have hj' : j < l'.length := by omega
    exact AV.one_ok (hr j _ _ (List.getElem?_eq_getElem hj') (List.getElem?_eq_getElem hj)) (List.all_eq_true.1 ho _ (List.getElem_mem hj'))
 | _ => (refine single _ ?_ r; exact h)
def sBox (E : List (Nat × AV)) (M : List Blk) (t : TypeId) (x : Operand) : Option Out :=
 match evA E x with
 | some v => (match cellsA v with | some l => some ⟨[], .pt M.length 0, M ++ [.bx t l], [], [], none⟩ | none => none)
 | none => none
theorem sBox_ok {t : TypeId} {x : Operand} (h : sBox E M t x = some out) : Does P ⟨d, .box t x, ty, pos, aft, gd⟩ E M out := by
 unfold sBox at h
 split at h
 ·rename_i v hv
  split at h
  ·rename_i l hl
   simp only [Option.some.injEq] at h; subst h
   intro D w0 K0 β F I ρ w C _
   obtain ⟨y, hy, r⟩ := C.ev' hv
   obtain ⟨ys, h1, h2, h3, h4⟩ := cellsA_ok hl r
   refine y_boxN hy fun b w' g n => ?_
   rw [h1] at n
   exact ⟨_, _, I, C.rm.new (q := (some ⟨b, 0, none⟩, 0)) g n (.bx (new_at C.rm _) ys h2 fun j c z e1 e2 => (h3 j c z e1 e2).mono (fun _ h => h) (Ext.app _ _)), (Ext.app _ _).b _, Grows.refl _, updF_ne _ _, .pt (new_at C.rm _)⟩
  ·simp at h
 ·simp at h
def plainA (l : List Value) : List AV := l.map fun x => .d (.v x)
theorem plainA_ok {K : World → Prop} (l : List Value) : l.length = (plainA l).length ∧ ∀ (j : Nat) c z, (plainA l)[j]? = some c → l[j]? = some z → ARel K β c z := by
 refine ⟨by simp [plainA], ?_⟩
 intro j c z h1 h2
 simp only [plainA, List.getElem?_map, h2, Option.map_some, Option.some.injEq] at h1
 subst h1; exact .d (.v _)
def sAlloc (T : Tab) (M : List Blk) (t : TypeId) : Option Out :=
 match tZero T t with
 | some l => some ⟨[], .pt M.length 0, M ++ [.bx t (plainA l)], [], [], none⟩
 | none => none
theorem sAlloc_ok (hT : tabB P T = true) {t : TypeId} (h : sAlloc T M t = some out) : Does P ⟨d, .alloc t, ty, pos, aft, gd⟩ E M out := by
 unfold sAlloc at h
 split at h
 ·rename_i l hz
  simp only [Option.some.injEq] at h; subst h
  obtain ⟨z, hzc, hzr⟩ := tZero_ok hT hz
  intro D w0 K0 β F I ρ w C _
  refine y_allocN (hzr w) fun b w' g n => ?_
  rw [hzc] at n
  obtain ⟨h1, h2⟩ := plainA_ok (K := fun w => K0 w ∧ Holds w I) (β := β ++ [(some ⟨b, 0, none⟩, 0)]) l
  exact ⟨_, _, I, C.rm.new (q := (some ⟨b, 0, none⟩, 0)) g n (.bx (new_at C.rm _) l h1 h2), (Ext.app _ _).b _, Grows.refl _, updF_ne _ _, .pt (new_at C.rm _)⟩
 ·simp at h
theorem RM.set (R : RM D w0 K0 M β F I w) {u b : Nat} {o o' : Obj} {G : Frag} {blk blk' : Blk} (hu : M[u]? = some blk) (hF : F u = (b, o) :: G) (hb : BRel (fun w => K0 w ∧ Holds w I) β u blk' ((b, o') :: G)) :
  RM D w0 K0 (M.set u blk') β (updF F u ((b, o') :: G)) I (setB w b o') where
 len := by rw [List.length_set]; exact R.len
 blk := by
  intro v bl hv
  rw [List.getElem?_set] at hv
  by_cases e : u = v
  ·subst e
   obtain ⟨hlt, -⟩ := List.getElem?_eq_some_iff.1 hu
   simp only [hlt, if_pos, Option.some.injEq] at hv; subst hv
   simpa [updF] using hb
  ·rw [if_neg e] at hv
   have : updF F u ((b, o') :: G) v = F v := by simp only [updF]; rw [if_neg (fun h => e h.symm)]
   rw [this]; exact R.blk v bl hv
 st := by
  obtain ⟨hlt, -⟩ := List.getElem?_eq_some_iff.1 hu
  have split : ∀ (f : Nat → Frag), (List.range M.length).flatMap f ++ I = (List.range u).flatMap f ++ (f u ++ ((List.range' (u + 1) (M.length - (u + 1))).flatMap f ++ I)) := by
   intro f
   have hr : List.range M.length = List.range u ++ u :: List.range' (u + 1) (M.length - (u + 1)) := by
    rw [List.range_eq_range', List.range_eq_range']
    have h1 : M.length = u + (1 + (M.length - (u + 1))) := by omega
    conv => lhs; rw [h1]
    rw [← List.range'_append_1, ← List.range'_append_1]
    simp
   rw [hr]; simp [List.flatMap_append]
  have other : ∀ v, v ≠ u → updF F u ((b, o') :: G) v = F v := fun v h => by simp [updF, h]
  have c1 : (List.range u).flatMap (updF F u ((b, o') :: G)) = (List.range u).flatMap F := by
   rw [List.flatMap_def, List.flatMap_def]; congr 1; apply List.map_congr_left; intro a ha; have := List.mem_range.1 ha; exact other a (by omega)
  have c2 : (List.range' (u + 1) (M.length - (u + 1))).flatMap (updF F u ((b, o') :: G)) = (List.range' (u + 1) (M.length - (u + 1))).flatMap F := by
   rw [List.flatMap_def, List.flatMap_def]; congr 1; apply List.map_congr_left; intro a ha; have := (List.mem_range'_1.1 ha).1; exact other a (by omega)
  have hs := R.st
  rw [split, hF] at hs
  have hs2 : St D w0 w ((b, o) :: (G ++ ((List.range u).flatMap F ++ ((List.range' (u + 1) (M.length - (u + 1))).flatMap F ++ I)))) := hs.perm (by classical rw [List.perm_iff_count]; intro x; simp only [List.count_append, List.count_cons] <;> omega)
  rw [List.length_set, split, c1, c2]
  have hu' : updF F u ((b, o') :: G) u = (b, o') :: G := by simp [updF]
  rw [hu']
  exact (hs2.set o').perm (by classical rw [List.perm_iff_count]; intro x; simp only [List.count_append, List.count_cons] <;> omega)
def sStoreP (T : Tab) (E : List (Nat × AV)) (M : List Blk) (t : TypeId) (x y : Operand) : Option Out :=
 match evA E x, evA E y, tSize T t with
 | some (.pt u o), some v, some n => (match cellsA v, M[u]? with
  | some l, some (.bx T cells) => bif l.length.beq n && (o + n).ble cells.length then some ⟨[], .d .jk, M.set u (.bx T (cells.take o ++ (l ++ cells.drop (o + n)))), [u], [], none⟩ else none
  | _, _ => none)
 | _, _, _ => none
theorem sStoreP_ok (hT : tabB P T = true) {t : TypeId} {x y : Operand} (h : sStoreP T E M t x y = some out) : Does P ⟨d, .store t x y, ty, pos, aft, gd⟩ E M out := by
 unfold sStoreP at h
 split at h
 ·rename_i u o v n hx hy hn
  split at h
  ·rename_i l Tt cells hl hM
   cases hc : (l.length.beq n && (o + n).ble cells.length) with
   | false => simp [hc] at h
   | true =>
    simp only [hc, cond_true, Option.some.injEq] at h; subst h
    simp only [Bool.and_eq_true] at hc
    have hln := Nat.eq_of_beq_eq_true hc.1
    have hle := Nat.le_of_ble_eq_true hc.2
    intro D w0 K0 β F I ρ w C _
    obtain ⟨yx, hyx, rx⟩ := C.ev' hx
    obtain ⟨yy, hyy, ry⟩ := C.ev' hy
    obtain ⟨zs, h1, h2, h3, h4⟩ := cellsA_ok hl ry
    cases rx with
    | pt hb =>
     obtain ⟨H, hF, hB, hH⟩ := C.rm.at hM
     cases hB with
     | bx hb' ys hyl hr =>
      rw [hb] at hb'; cases hb'
      have hw := hH.one
      have hn' := tSize_ok hT hn
      refine y_store n hn' hyx hyy hw (by rw [h1]; simp; omega) (by simp; omega) (by rw [h1]; simpa using h4) ?_
      rw [h1]
      refine ⟨β, _, I, C.rm.set hM hF (o' := .cells (setCs ys.toArray o zs) Tt (0, 0)) (?_ : BRel _ β u (.bx Tt (cells.take o ++ (l ++ cells.drop (o + n)))) _), (Ext.refl β).b _, Grows.refl _, fun v hv hn => by simp only [updF]; rw [if_neg (by simpa using hn)], .d (.jk _)⟩
      have he : (setCs ys.toArray o zs) = (setCs ys.toArray o zs).toList.toArray := by simp
      rw [he]
      refine .bx hb _ (by rw [Array.length_toList, setCs_size]; simp; omega) ?_
      intro j c z e1 e2
      rw [Array.getElem?_toList, setCs_get _ _ _ _ (by simp; omega)] at e2
      by_cases hj : o ≤ j ∧ j < o + zs.length
      ·rw [if_pos hj] at e2
       rw [List.getElem?_append_right (by simp; omega), List.getElem?_append_left (by simp; omega)] at e1
       refine h3 (j - o) c z ?_ e2
       rw [← e1]; congr 1; simp; omega
      ·rw [if_neg hj] at e2
       rw [List.getElem?_toArray] at e2
       refine hr j c z ?_ e2
       rcases Nat.lt_or_ge j o with hjo | hjo
       ·rw [List.getElem?_append_left (by simp; omega), List.getElem?_take, if_pos hjo] at e1; exact e1
       ·rw [List.getElem?_append_right (by simp; omega), List.getElem?_append_right (by simp; omega), List.getElem?_drop] at e1
        rw [← e1]; congr 1; simp; omega
  ·simp at h
 ·simp at h
end Go.Proofs.Ytikmdkicccfjpaa
namespace Go.Proofs.Ytikmdkicccfjpaa
open Go.RowKit
variable {P : Program} {T : Tab} {D : List Nat} {w0 : World} {K0 : World → Prop} {E : List (Nat × AV)} {M : List Blk} {β : Beta} {F : Nat → Frag} {I : Frag} {ρ : Operand → Value} {w : World}
variable {d : Option Tmp} {ty : TypeId} {pos : String} {aft : Array Edge} {gd : Option (Nat × Bool)} {oc : Option Orc} {out : Out}
def sNot (E : List (Nat × AV)) (M : List Blk) (oc : Option Orc) (x : Operand) : Option Out := match boolA (evA E x) with | some c => some (tellB oc (!c) M) | none => none
theorem sNot_ok {x : Operand} {t : TypeId} (h : sNot E M oc x = some out) : Does P ⟨d, .unOp .not t x, ty, pos, aft, gd⟩ E M out := by
 unfold sNot at h
 split at h
 ·rename_i c hc
  simp only [Option.some.injEq] at h; subst h
  exact tellB_ok (.of fun _ => ⟨_, rfl⟩) fun C w Φ hΦ => y_not (C.bool hc) rfl hΦ
 ·simp at h
def sCom (E : List (Nat × AV)) (M : List Blk) (oc : Option Orc) (x : Operand) : Option Out := match intA (evA E x) with | some (k, a) => some (tellZ oc [] k (k.wrap ((BitVec.ofInt k.bits (if k.signed then -1 else k.max) ^^^ BitVec.ofInt k.bits a).toNat : Int)) M) | none => none
theorem sCom_ok {x : Operand} {t : TypeId} (h : sCom E M oc x = some out) : Does P ⟨d, .unOp .xor t x, ty, pos, aft, gd⟩ E M out := by
 unfold sCom at h
 split at h
 ·rename_i k a hc
  simp only [Option.some.injEq] at h; subst h
  exact tellZ_ok (.of fun _ => ⟨_, rfl⟩) fun C _ w Φ hΦ => y_com (C.int hc) rfl hΦ
 ·simp at h
def sPick (E : List (Nat × AV)) (M : List Blk) (oc : Option Orc) (c x y : Operand) : Option Out :=
 match boolA (evA E c), oc with
 | some c0, some (.b b) => (match evA E (bif b then x else y) with | some v => some (lk [c0 = b] v M) | none => none)
 | some true, _ => (match evA E x with | some v => some (lk [] v M) | none => none)
 | some false, _ => (match evA E y with | some v => some (lk [] v M) | none => none)
 | none, _ => none
theorem val_pick {c x y : Operand} : Val P ⟨d, .pick c x y, ty, pos, aft, gd⟩ := by
 intro ρ w
 simp only [execOp]
 cases hc : ρ c <;> first | exact Or.inl ⟨_, _, rfl⟩ | exact Or.inr ⟨_, _, rfl⟩
theorem sPick_ok {c x y : Operand} (h : sPick E M oc c x y = some out) : Does P ⟨d, .pick c x y, ty, pos, aft, gd⟩ E M out := by
 unfold sPick at h
 split at h
 ·rename_i c0 b hc
  split at h
  ·rename_i v hv
   simp only [Option.some.injEq] at h; subst h
   refine val_ok val_pick fun C hvc => ?_
   obtain ⟨rfl, -⟩ := hvc
   cases c0 with
   | true => exact ⟨_, C.ev hv, fun w Φ hΦ => y_pickT (C.bool hc) rfl hΦ⟩
   | false => exact ⟨_, C.ev hv, fun w Φ hΦ => y_pickF (C.bool hc) rfl hΦ⟩
  ·simp at h
 ·rename_i hc _
  split at h
  ·rename_i v hv
   simp only [Option.some.injEq] at h; subst h
   exact val_ok val_pick fun C _ => ⟨_, C.ev hv, fun w Φ hΦ => y_pickT (C.bool hc) rfl hΦ⟩
  ·simp at h
 ·rename_i hc _
  split at h
  ·rename_i v hv
   simp only [Option.some.injEq] at h; subst h
   exact val_ok val_pick fun C _ => ⟨_, C.ev hv, fun w Φ hΦ => y_pickF (C.bool hc) rfl hΦ⟩
  ·simp at h
 ·simp at h
def lenA : Option AV → Option Nat
 | some (.d (.ro _ rows)) => some rows.length
 | some (.d (.v (.slice _ n _))) => some n
 | some (.sl _ n) => some n
 | some (.sb _ _ _ n) => some n
 | _ => none
theorem Ctx.len (C : Ctx D w0 K0 E M β F I ρ w) {x : Operand} {n : Nat} (h : lenA (evA E x) = some n) : ∃ a c, ρ x = .slice a n c := by
 unfold lenA at h
 split at h
 ·rename_i k rows hv
  simp only [Option.some.injEq] at h; subst h
  obtain ⟨y, hy, r⟩ := C.ev' hv
  cases r with | d r => cases r with | ro X hl hys hs hr => obtain ⟨a, c, rfl, -⟩ := hys; exact ⟨a, c, hy⟩
 ·rename_i a n' c hv
  simp only [Option.some.injEq] at h; subst h
  obtain ⟨y, hy, r⟩ := C.ev' hv
  cases r with | d r => cases r; exact ⟨_, _, hy⟩
 ·rename_i u n' hv
  simp only [Option.some.injEq] at h; subst h
  obtain ⟨y, hy, r⟩ := C.ev' hv
  cases r; exact ⟨_, _, hy⟩
 ·rename_i n' hv
  simp only [Option.some.injEq] at h; subst h
  obtain ⟨y, hy, r⟩ := C.ev' hv
  cases r; exact ⟨_, _, hy⟩
 ·simp at h
def sLen (T : Tab) (E : List (Nat × AV)) (M : List Blk) (oc : Option Orc) (t : TypeId) (x : Operand) : Option Out :=
 match tUn T t with
 | some (.sl _) => (match lenA (evA E x) with | some n => some (tellZ oc [] .i64 n M) | none => none)
 | some .st => (match strA (evA E x) with | some l => some (tellZ oc [] .i64 l.length M) | none => none)
 | _ => none
theorem sLen_ok (hT : tabB P T = true) {x : Operand} {t : TypeId} (h : sLen T E M oc t x = some out) : Does P ⟨d, .call ⟨.builtin .len, #[x], #[t]⟩, ty, pos, aft, gd⟩ E M out := by
 unfold sLen at h
 split at h
 ·rename_i e ht
  replace ht := tUn_ok hT ht
  split at h
  ·rename_i n hn
   simp only [Option.some.injEq] at h; subst h
   refine tellZ_ok (.of fun _ => ⟨_, rfl⟩) fun C _ w Φ hΦ => ?_
   obtain ⟨a, c, hx⟩ := C.len hn
   exact y_lenS ht hx hΦ
  ·simp at h
 ·rename_i ht
  replace ht := tUn_ok hT ht
  split at h
  ·rename_i l hl
   simp only [Option.some.injEq] at h; subst h
   exact tellZ_ok (.of fun _ => ⟨_, rfl⟩) fun C _ w Φ hΦ => y_lenStr ht (C.str hl) hΦ
  ·simp at h
 ·simp at h
def sBinS (E : List (Nat × AV)) (M : List Blk) (oc : Option Orc) (op : BinOp) (x y : Operand) : Option Out :=
 match strA (evA E x), strA (evA E y) with
 | some a, some b => (match op with | .eql => some (tellB oc (a == b) M) | .neq => some (tellB oc (a != b) M) | _ => none)
 | _, _ => none
theorem sBinS_ok {op : BinOp} {x y : Operand} {t t' : TypeId} (h : sBinS E M oc op x y = some out) : Does P ⟨d, .binOp op t x y t', ty, pos, aft, gd⟩ E M out := by
 unfold sBinS at h
 split at h
 ·rename_i a b ha hb
  split at h <;> simp only [Option.some.injEq, reduceCtorEq] at h <;> subst h
  ·exact tellB_ok (.of fun _ => ⟨_, rfl⟩) fun C w Φ hΦ => y_eqlStr (C.str ha) (C.str hb) rfl hΦ
  ·exact tellB_ok (.of fun _ => ⟨_, rfl⟩) fun C w Φ hΦ => y_neqStr (C.str ha) (C.str hb) rfl hΦ
 ·simp at h
def sConvI (T : Tab) (E : List (Nat × AV)) (M : List Blk) (oc : Option Orc) (t t' : TypeId) (x : Operand) : Option Out :=
 match tUn T t, tUn T t', intA (evA E x) with
 | some _, some (.it k), some (_, a) => some (tellZ oc [] k (k.wrap a) M)
 | _, _, _ => none
theorem sConvI_ok (hT : tabB P T = true) {x : Operand} {t t' : TypeId} (h : sConvI T E M oc t t' x = some out) : Does P ⟨d, .convert t t' x, ty, pos, aft, gd⟩ E M out := by
 unfold sConvI at h
 split at h
 ·rename_i u k k' a hu hk ha
  replace hk := tUn_ok hT hk
  simp only [Option.some.injEq] at h; subst h
  exact tellZ_ok (.of fun _ => ⟨_, rfl⟩) fun C _ w Φ hΦ => y_convInt (tUn_some hT hu) hk (C.int ha) rfl hΦ
 ·simp at h
def mmI : Builtin → Int → Int → Option Int
 | .min, a, b => some (min a b)
 | .max, a, b => some (max a b)
 | _, _, _ => none
def sMM (E : List (Nat × AV)) (M : List Blk) (oc : Option Orc) (bi : Builtin) (x y : Operand) : Option Out :=
 match intA (evA E x), intA (evA E y) with
 | some (k, a), some (k', b) => bif decide (k = k') then (match mmI bi a b with | some z => some (tellZ oc [] k z M) | none => none) else none
 | _, _ => none
theorem sMM_ok {bi : Builtin} {x y : Operand} {t t' : TypeId} (h : sMM E M oc bi x y = some out) : Does P ⟨d, .call ⟨.builtin bi, #[x, y], #[t, t']⟩, ty, pos, aft, gd⟩ E M out := by
 unfold sMM at h
 split at h
 ·rename_i k a k' b hx hy
  cases hk : decide (k = k') with
  | false => simp [hk] at h
  | true =>
   simp only [hk, cond_true] at h
   obtain rfl := of_decide_eq_true hk
   split at h
   ·rename_i z hz
    simp only [Option.some.injEq] at h; subst h
    cases bi <;> simp only [mmI, Option.some.injEq, reduceCtorEq] at hz
    ·exact tellZ_ok (.of fun _ => ⟨_, rfl⟩) fun C _ w Φ hΦ => y_max (C.int hx) (C.int hy) hz hΦ
    ·exact tellZ_ok (.of fun _ => ⟨_, rfl⟩) fun C _ w Φ hΦ => y_min (C.int hx) (C.int hy) hz hΦ
   ·simp at h
 ·simp at h
end Go.Proofs.Ytikmdkicccfjpaa
namespace Go.Proofs.Ytikmdkicccfjpaa
open Go.RowKit
variable {P : Program} {T : Tab} {D : List Nat} {w0 : World} {K0 : World → Prop} {E : List (Nat × AV)} {M : List Blk} {β : Beta} {F : Nat → Frag} {I : Frag} {ρ : Operand → Value} {w : World}
variable {d : Option Tmp} {ty : TypeId} {pos : String} {aft : Array Edge} {gd : Option (Nat × Bool)} {oc : Option Orc} {out : Out}
def evsA (E : List (Nat × AV)) : List Operand → Option (List AV)
 | [] => some []
 | x :: r => match evA E x, evsA E r with | some v, some l => some (v :: l) | _, _ => none
theorem Ctx.evs (C : Ctx D w0 K0 E M β F I ρ w) : ∀ {xs : List Operand} {l : List AV}, evsA E xs = some l → (xs.map ρ).length = l.length ∧ ∀ (j : Nat) c y, l[j]? = some c → (xs.map ρ)[j]? = some y → ARel (fun w => K0 w ∧ Holds w I) β c y
 | [], l, h => by simp only [evsA, Option.some.injEq] at h; subst h; simp
 | x :: r, l, h => by
  unfold evsA at h
  split at h
  ·rename_i v l' hv hl
   simp only [Option.some.injEq] at h; subst h
   obtain ⟨h1, h2⟩ := Ctx.evs C hl
   refine ⟨by simpa using h1, ?_⟩
   intro j c y hc hy
   cases j with
   | zero => simp at hc hy; subst hc hy; exact C.ev hv
   | succ j => simp at hc hy; exact h2 j c y hc (by simpa using hy)
  ·simp at h
def sFunc (E : List (Nat × AV)) (M : List Blk) (fn : Fn) (first caps : Array Operand) : Option Out :=
 match fn, first with
 | .func f, ⟨[]⟩ => (match evsA E caps.toList with | some l => some (lk [] (.fn f l) M) | none => none)
 | _, _ => none
theorem sFunc_ok {fn : Fn} {first caps : Array Operand} (h : sFunc E M fn first caps = some out) : Does P ⟨d, .makeFunc fn first caps, ty, pos, aft, gd⟩ E M out := by
 unfold sFunc at h
 split at h
 ·rename_i f
  split at h
  ·rename_i l hl
   simp only [Option.some.injEq] at h; subst h
   refine Does.same ?_
   intro D w0 K0 β F I ρ w C _
   obtain ⟨h1, h2⟩ := C.evs hl
   have hm : (caps.toList.map ρ).toArray = caps.map ρ := by rw [← Array.toList_map]
   refine ⟨_, fun w' _ => ?_, ARel.fn _ h1 h2⟩
   simp [execOp, Instr.makeFunc, hm]
  ·simp at h
 ·simp at h
structure RMx (D : List Nat) (w0 : World) (K0 : World → Prop) (M : List Blk) (β : Beta) (F : Nat → Frag) (I X : Frag) (w : World) : Prop where
 len : β.length = M.length
 blk : ∀ (u : Nat) blk, M[u]? = some blk → BRel (fun w => K0 w ∧ Holds w I) β u blk (F u)
 st : St D w0 w ((List.range M.length).flatMap F ++ (I ++ X))
theorem RMx.nil {X : Frag} (R : RMx D w0 K0 M β F I X w) (h : X = []) : RM D w0 K0 M β F I w := ⟨R.len, R.blk, by have := R.st; rw [h, List.append_nil] at this; exact this⟩
theorem RM.x (R : RM D w0 K0 M β F I w) : RMx D w0 K0 M β F I [] w := ⟨R.len, R.blk, by rw [List.append_nil]; exact R.st⟩
theorem RMx.perm {X Y : Frag} (R : RMx D w0 K0 M β F I X w) (p : X.Perm Y) : RMx D w0 K0 M β F I Y w := ⟨R.len, R.blk, R.st.perm (List.Perm.append_left _ (List.Perm.append_left _ p))⟩
theorem RMx.drop {X Y : Frag} (R : RMx D w0 K0 M β F I (X ++ Y) w) : RMx D w0 K0 M β F I X w := ⟨R.len, R.blk, by have := R.st; rw [← List.append_assoc, ← List.append_assoc] at this; have := this.app_left; rw [List.append_assoc] at this; exact this⟩
theorem RMx.take {X Y : Frag} (R : RMx D w0 K0 M β F I (X ++ Y) w) {q : Option Addr × Nat} {blk : Blk} (hb : BRel (fun w => K0 w ∧ Holds w I) (β ++ [q]) M.length blk X) :
  RMx D w0 K0 (M ++ [blk]) (β ++ [q]) (updF F M.length X) I Y w where
 len := by simp [R.len]
 blk := by
  intro u bl hu
  rcases Nat.lt_or_ge u M.length with h | h
  ·rw [List.getElem?_append_left h] at hu
   have : updF F M.length X u = F u := by simp [updF]; omega
   rw [this]; exact (R.blk u bl hu).mono (fun _ h => h) (Ext.app _ _)
  ·rw [List.getElem?_append_right h] at hu
   have h0 : u - M.length = 0 := by
    rcases Nat.eq_zero_or_pos (u - M.length) with h0 | h0
    ·exact h0
    ·rw [List.getElem?_eq_none (by simp; omega)] at hu; simp at hu
   obtain rfl : u = M.length := by omega
   simp at hu; subst hu
   simpa [updF] using hb
 st := by
  rw [List.length_append, List.length_singleton, flat_updF]
  exact R.st.perm (by classical rw [List.perm_iff_count]; intro x; simp only [List.count_append]; omega)
inductive DRelL (K : World → Prop) : List DV → List Value → Frag → Prop where
 | nil : DRelL K [] [] []
 | cons {c : DV} {y : Value} {l : List DV} {ys : List Value} {H G : Frag} (h : DRel K c y H) (r : DRelL K l ys G) : DRelL K (c :: l) (y :: ys) (H ++ G)
theorem flat_shift {n : Nat} (F : Nat → Frag) : (List.range (n + 1)).flatMap F = F 0 ++ (List.range n).flatMap fun i => F (i + 1) := by
 rw [List.range_succ_eq_map, List.flatMap_cons, List.flatMap_map]
theorem DRelL.of {K : World → Prop} : ∀ {l : List DV} {ys : List Value} {F : Nat → Frag}, ys.length = l.length → (∀ (j : Nat) c y, l[j]? = some c → ys[j]? = some y → DRel K c y (F j)) → DRelL K l ys ((List.range l.length).flatMap F)
 | [], ys, F, hl, _ => by have : ys = [] := List.eq_nil_of_length_eq_zero hl; subst this; exact .nil
 | c :: l, [], F, hl, _ => by simp at hl
 | c :: l, y :: ys, F, hl, hr => by
  rw [List.length_cons, flat_shift]
  exact .cons (hr 0 c y rfl rfl) (DRelL.of (by simpa using hl) fun j c' y' h1 h2 => hr (j + 1) c' y' (by simpa using h1) (by simpa using h2))
theorem DRelL.len {K : World → Prop} {l : List DV} {ys : List Value} {H : Frag} (h : DRelL K l ys H) : ys.length = l.length := by
 induction h with
 | nil => rfl
 | cons h r ih => simp [ih]
def unp1 (M : List Blk) : DV → AV × List Blk
 | .em T k rows => (.sl M.length rows.length, M ++ [.rw T k rows])
 | x => (.d x, M)
def unpL (M : List Blk) : List DV → List AV × List Blk
 | [] => ([], M)
 | c :: r => ((unp1 M c).1 :: (unpL (unp1 M c).2 r).1, (unpL (unp1 M c).2 r).2)
def flat1 : DV → Bool
 | .pb _ _ => false
 | .ag _ => false
 | .tu _ => false
 | _ => true
def unp2 (M : List Blk) : DV → AV × List Blk
 | .ag l => bif l.all flat1 then (.ag (unpL M l).1, (unpL M l).2) else (.d .jk, M)
 | x => unp1 M x
def unp2L (M : List Blk) : List DV → List AV × List Blk
 | [] => ([], M)
 | c :: r => ((unp2 M c).1 :: (unp2L (unp2 M c).2 r).1, (unp2L (unp2 M c).2 r).2)
def unp (M : List Blk) : DV → AV × List Blk
 | .tu l => (.tu (unp2L M l).1, (unp2L M l).2)
 | x => unp2 M x
def Nicely (D : List Nat) (w0 : World) (K0 : World → Prop) (M : List Blk) (β : Beta) (F : Nat → Frag) (I : Frag) (w : World) (av : AV) (M' : List Blk) (y : Value) (Y : Frag) : Prop :=
 ∃ β' F', RMx D w0 K0 M' β' F' I Y w ∧ Ext β β' ∧ (∀ u, u < M.length → F' u = F u) ∧ M.length ≤ M'.length ∧ ARel (fun w => K0 w ∧ Holds w I) β' av y
theorem unp1_ok {x : DV} (hx : flat1 x = true) {y : Value} {H Y : Frag} (R : RMx D w0 K0 M β F I (H ++ Y) w) (h : DRel (fun w => K0 w ∧ Holds w I) x y H) : Nicely D w0 K0 M β F I w (unp1 M x).1 (unp1 M x).2 y Y := by
 cases h with
 | v x => exact ⟨β, F, R, Ext.refl _, fun _ _ => rfl, Nat.le_refl _, .d (.v _)⟩
 | jk x => exact ⟨β, F, R, Ext.refl _, fun _ _ => rfl, Nat.le_refl _, .d (.jk _)⟩
 | ro X hl hy hs hr => exact ⟨β, F, R, Ext.refl _, fun _ _ => rfl, Nat.le_refl _, .d (.ro X hl hy hs hr)⟩
 | pb ys F hl hr => simp [flat1] at hx
 | ag ys F hl hr => simp [flat1] at hx
 | tu ys F hl hr => simp [flat1] at hx
 | em X G hl hs hr =>
  obtain ⟨a, c, rfl⟩ := hs.len
  have hnew : (β ++ [(a, c)])[M.length]? = some (a, c) := by rw [← R.len]; simp
  refine ⟨_, _, R.take (.rw hnew X G hl hs hr), Ext.app _ _, fun u hu => by simp [updF]; omega, by simp [unp1], .sl hnew⟩
theorem unpL_ok : ∀ {l : List DV} {M : List Blk} {β : Beta} {F : Nat → Frag} {ys : List Value} {H Y : Frag}, l.all flat1 = true → RMx D w0 K0 M β F I (H ++ Y) w → DRelL (fun w => K0 w ∧ Holds w I) l ys H →
  ∃ β' F', RMx D w0 K0 (unpL M l).2 β' F' I Y w ∧ Ext β β' ∧ (∀ u, u < M.length → F' u = F u) ∧ M.length ≤ (unpL M l).2.length ∧ ys.length = (unpL M l).1.length ∧ ∀ (j : Nat) c y, (unpL M l).1[j]? = some c → ys[j]? = some y → ARel (fun w => K0 w ∧ Holds w I) β' c y := by
 intro l
 induction l with
 | nil =>
  intro M β F ys H Y _ R h
  cases h
  exact ⟨β, F, R, Ext.refl _, fun _ _ => rfl, Nat.le_refl _, rfl, by simp [unpL]⟩
 | cons x r ih =>
  intro M β F ys H Y hf R h
  simp only [List.all_cons, Bool.and_eq_true] at hf
  cases h with
  | cons h hr =>
   rw [List.append_assoc] at R
   obtain ⟨β1, F1, R1, e1, f1, l1, a1⟩ := unp1_ok hf.1 R h
   obtain ⟨β2, F2, R2, e2, f2, l2, n2, a2⟩ := ih hf.2 R1 hr
   refine ⟨β2, F2, R2, fun u x hx => e2 u x (e1 u x hx), fun u hu => (f2 u (by omega)).trans (f1 u hu), by simp only [unpL]; omega, by simp [unpL, n2], ?_⟩
   intro j c y hc hy
   cases j with
   | zero => simp [unpL] at hc hy; subst hc hy; exact a1.mono (fun _ h => h) e2
   | succ j => simp [unpL] at hc hy; exact a2 j c y hc hy
def flat2 : DV → Bool
 | .pb _ _ => false
 | .ag l => l.all flat1
 | .tu _ => false
 | _ => true
theorem unp2_ok {x : DV} (hx : flat2 x = true) {y : Value} {H Y : Frag} (R : RMx D w0 K0 M β F I (H ++ Y) w) (h : DRel (fun w => K0 w ∧ Holds w I) x y H) : Nicely D w0 K0 M β F I w (unp2 M x).1 (unp2 M x).2 y Y := by
 cases x with
 | ag l =>
  cases h with
  | ag ys G hl hr =>
   have hx' : l.all flat1 = true := hx
   obtain ⟨β2, F2, R2, e2, f2, l2, n2, a2⟩ := unpL_ok hx' R (DRelL.of hl hr)
   simp only [unp2, hx', cond_true]
   exact ⟨β2, F2, R2, e2, f2, l2, .ag ys n2 a2⟩
 | tu l => simp [flat2] at hx
 | v x => exact unp1_ok rfl R h
 | jk => exact unp1_ok rfl R h
 | ro k rows => exact unp1_ok rfl R h
 | em T k rows => exact unp1_ok rfl R h
 | pb T l => simp [flat2] at hx
theorem unp2L_ok : ∀ {l : List DV} {M : List Blk} {β : Beta} {F : Nat → Frag} {ys : List Value} {H Y : Frag}, l.all flat2 = true → RMx D w0 K0 M β F I (H ++ Y) w → DRelL (fun w => K0 w ∧ Holds w I) l ys H →
  ∃ β' F', RMx D w0 K0 (unp2L M l).2 β' F' I Y w ∧ Ext β β' ∧ (∀ u, u < M.length → F' u = F u) ∧ M.length ≤ (unp2L M l).2.length ∧ ys.length = (unp2L M l).1.length ∧ ∀ (j : Nat) c y, (unp2L M l).1[j]? = some c → ys[j]? = some y → ARel (fun w => K0 w ∧ Holds w I) β' c y := by
 intro l
 induction l with
 | nil =>
  intro M β F ys H Y _ R h
  cases h
  exact ⟨β, F, R, Ext.refl _, fun _ _ => rfl, Nat.le_refl _, rfl, by simp [unp2L]⟩
 | cons x r ih =>
  intro M β F ys H Y hf R h
  simp only [List.all_cons, Bool.and_eq_true] at hf
  cases h with
  | cons h hr =>
   rw [List.append_assoc] at R
   obtain ⟨β1, F1, R1, e1, f1, l1, a1⟩ := unp2_ok hf.1 R h
   obtain ⟨β2, F2, R2, e2, f2, l2, n2, a2⟩ := ih hf.2 R1 hr
   refine ⟨β2, F2, R2, fun u x hx => e2 u x (e1 u x hx), fun u hu => (f2 u (by omega)).trans (f1 u hu), by simp only [unp2L]; omega, by simp [unp2L, n2], ?_⟩
   intro j c y hc hy
   cases j with
   | zero => simp [unp2L] at hc hy; subst hc hy; exact a1.mono (fun _ h => h) e2
   | succ j => simp [unp2L] at hc hy; exact a2 j c y hc hy
def flat3 : DV → Bool
 | .tu l => l.all flat2
 | x => flat2 x
theorem unp_ok {x : DV} (hx : flat3 x = true) {y : Value} {H Y : Frag} (R : RMx D w0 K0 M β F I (H ++ Y) w) (h : DRel (fun w => K0 w ∧ Holds w I) x y H) : Nicely D w0 K0 M β F I w (unp M x).1 (unp M x).2 y Y := by
 cases x with
 | tu l =>
  cases h with
  | tu ys G hl hr =>
   have hx' : l.all flat2 = true := hx
   obtain ⟨β2, F2, R2, e2, f2, l2, n2, a2⟩ := unp2L_ok hx' R (DRelL.of hl hr)
   exact ⟨β2, F2, R2, e2, f2, l2, .tu ys n2 a2⟩
 | ag l => exact unp2_ok (x := .ag l) hx R h
 | v x => exact unp2_ok rfl R h
 | jk => exact unp2_ok rfl R h
 | ro k rows => exact unp2_ok rfl R h
 | em T k rows => exact unp2_ok rfl R h
 | pb T l => simp [flat3, flat2] at hx
end Go.Proofs.Ytikmdkicccfjpaa
namespace Go.Proofs.Ytikmdkicccfjpaa
open Go.RowKit
def Con (P : Program) (f : FuncId) (args : List AV) (x : DV) : Prop :=
 callable P f = true ∧ ∀ (w : World) (K : World → Prop) (ys : List Value), (∀ w', Gr w w' → K w') → ys.length = args.length → (∀ (j : Nat) c y, args[j]? = some c → ys[j]? = some y → ARel K [] c y) →
  Calls P f ys.toArray w (RetN w fun r H => ∃ Ho Hi, H = Ho ++ Hi ∧ DRel (fun w => K w ∧ Holds w Hi) x r Ho)
def Ind (x : DV) : Prop := ∀ (K K' : World → Prop) (y : Value) (H : Frag), DRel K x y H → DRel K' x y H
mutual
def froz : DV → DV
 | .v x => .v x
 | .jk => .jk
 | .ro k rows => .ro k rows
 | .em _ k rows => .ro k (frozR rows)
 | .ag l => .ag (frozL l)
 | .tu l => .tu (frozL l)
 | .pb _ _ => .jk
def frozL : List DV → List DV
 | [] => []
 | c :: r => froz c :: frozL r
def frozR : List (List DV) → List (List DV)
 | [] => []
 | l :: r => frozL l :: frozR r
end
theorem frozL_map (l : List DV) : frozL l = l.map froz := by induction l with | nil => rfl | cons c r ih => rw [frozL, ih]; rfl
theorem frozR_map (l : List (List DV)) : frozR l = l.map fun r => r.map froz := by induction l with | nil => rfl | cons c r ih => rw [frozR, ih, frozL_map]; rfl
theorem SlRep.src {T size n : Nat} {v : Value} {xs : List Value} {H : Frag} (h : SlRep T size v n xs H) {w : World} (hw : Holds w H) : Src w size v n xs := by
 refine ⟨h.1, ?_⟩
 rcases h.2 with ⟨rfl, rfl, a, rfl⟩ | ⟨b, cap, cs, rfl, rfl, hcs, hle, ht⟩
 ·exact Or.inl ⟨rfl, a, 0, rfl⟩
 ·refine Or.inr ⟨_, cap, rfl, fun j hj => ?_⟩
  rw [add_eq, Nat.zero_add, cell_of hw.one]
  have : (cs.toList.take (n * size))[j]? = some xs[j] := by rw [ht]; simp [hj]
  rw [List.getElem?_take] at this
  split at this
  ·simpa using this
  ·simp at this
theorem SlRep.lenCap {T : TypeId} {size : Nat} {v : Value} {n : Nat} {xs : List Value} {H : Frag} (h : SlRep T size v n xs H) : ∃ a c, v = .slice a n c ∧ n ≤ c := by
 rcases h.2 with ⟨rfl, _, a, rfl⟩ | ⟨b, cap, cs, rfl, _, _, hc, _⟩
 ·exact ⟨a, 0, rfl, Nat.le_refl _⟩
 ·exact ⟨_, _, rfl, hc⟩
theorem froz_ok {K K' : World → Prop} {c : DV} {x : Value} {H : Frag} (h : DRel K c x H) : (∀ w, K' w → K w ∧ Holds w H) → DRel K' (froz c) x [] := by
 have hsub : ∀ {n : Nat} {G : Nat → Frag} {w : World}, Holds w ((List.range n).flatMap G) → ∀ j, j < n → Holds w (G j) := by
  intro n G w hw j hj x hx
  exact hw x (List.mem_flatMap.2 ⟨j, List.mem_range.2 hj, hx⟩)
 have hflat : ∀ n : Nat, (List.range n).flatMap (fun _ => ([] : Frag)) = [] := by intro n; simp
 induction h with
 | v x => intro _; rw [froz]; exact .v x
 | jk x => intro _; rw [froz]; exact .jk x
 | pb ys F hl hr ih => intro _; rw [froz]; exact .jk _
 | ro X hl hy hs hr ih => intro hk; rw [froz]; exact .ro X hl hy (fun w hw => hs w (hk w hw).1) fun i r j c x h1 h2 h3 => (hr i r j c x h1 h2 h3).mono fun w hw => (hk w hw).1
 | em X F hl hs hr ih =>
  intro hk
  rename_i T k rows y H0
  rw [froz, frozR_map]
  obtain ⟨a, cp, hy, hcp⟩ : ∃ a cp, y = .slice a rows.length cp ∧ rows.length ≤ cp := hs.lenCap
  refine .ro X (fun i r hi => ?_) ⟨a, cp, by rw [List.length_map]; exact ⟨hy, hcp⟩⟩ (fun w hw => ?_) fun i r j c x h1 h2 h3 => ?_
  ·rw [List.getElem?_map, Option.map_eq_some_iff] at hi
   obtain ⟨r', h1, rfl⟩ := hi
   rw [List.length_map]; exact hl i r' h1
  ·rw [List.length_map]; exact hs.src (Holds.app.1 (hk w hw).2).1
  ·rw [List.getElem?_map, Option.map_eq_some_iff] at h1
   obtain ⟨r', h1, rfl⟩ := h1
   rw [List.getElem?_map, Option.map_eq_some_iff] at h2
   obtain ⟨c', h2, rfl⟩ := h2
   refine ih i r' j c' x h1 h2 h3 fun w hw => ⟨(hk w hw).1, ?_⟩
   have := (Holds.app.1 (hk w hw).2).2
   obtain ⟨hi, -⟩ := List.getElem?_eq_some_iff.1 h1
   obtain ⟨hj, -⟩ := List.getElem?_eq_some_iff.1 h2
   have h4 := hsub this i hi
   exact hsub h4 j (by have := (hl i r' h1).1; omega)
 | ag ys F hl hr ih =>
  intro hk
  rename_i l
  rw [froz, frozL_map]
  have := DRel.ag (K := K') (l := l.map froz) ys (fun _ => []) (by rw [List.length_map]; exact hl) (fun j c y h1 h2 => by
   rw [List.getElem?_map, Option.map_eq_some_iff] at h1
   obtain ⟨c', h1, rfl⟩ := h1
   obtain ⟨hj, -⟩ := List.getElem?_eq_some_iff.1 h1
   exact ih j c' y h1 h2 fun w hw => ⟨(hk w hw).1, hsub (hk w hw).2 j hj⟩)
  rwa [hflat] at this
 | tu ys F hl hr ih =>
  intro hk
  rename_i l
  rw [froz, frozL_map]
  have := DRel.tu (K := K') (l := l.map froz) ys (fun _ => []) (by rw [List.length_map]; exact hl) (fun j c y h1 h2 => by
   rw [List.getElem?_map, Option.map_eq_some_iff] at h1
   obtain ⟨c', h1, rfl⟩ := h1
   obtain ⟨hj, -⟩ := List.getElem?_eq_some_iff.1 h1
   exact ih j c' y h1 h2 fun w hw => ⟨(hk w hw).1, hsub (hk w hw).2 j hj⟩)
  rwa [hflat] at this
variable {P : Program} {T : Tab} {D : List Nat} {w0 : World} {K0 : World → Prop} {E : List (Nat × AV)} {M : List Blk} {β : Beta} {F : Nat → Frag} {I : Frag} {ρ : Operand → Value} {w : World}
variable {d : Option Tmp} {ty : TypeId} {pos : String} {aft : Array Edge} {gd : Option (Nat × Bool)} {oc : Option Orc} {out : Out}
def lend1 (M : List Blk) : AV → AV → Option (List Prop × List Nat)
 | .d x, .d x' => some ([x = x'], [])
 | .sl u n, .d (.ro k' rows') => (match M[u]? with | some (.rw _ k rows) => some ([k = k', n = rows.length, frozR rows = rows'], [u]) | _ => none)
 | .pt u o, .rp row o' => (match M[u]? with | some (.bx _ cells) => some ([o = o', cells = row.map .d], [u]) | _ => none)
 | _, _ => none
def lendL (M : List Blk) : List AV → List AV → Option (List Prop × List Nat)
 | [], [] => some ([], [])
 | c :: r, c' :: r' => (match lend1 M c c', lendL M r r' with | some (v, b), some (v', b') => some (v ++ v', b ++ b') | _, _ => none)
 | _, _ => none
def lend2 (M : List Blk) : AV → AV → Option (List Prop × List Nat)
 | .ag l, .ag l' => lendL M l l'
 | .ag l, .d (.ag l') => lendL M l (l'.map .d)
 | .fn f l, .fn f' l' => (match lendL M l l' with | some (v, b) => some ((f = f') :: v, b) | none => none)
 | c, c' => lend1 M c c'
def lend2L (M : List Blk) : List AV → List AV → Option (List Prop × List Nat)
 | [], [] => some ([], [])
 | c :: r, c' :: r' => (match lend2 M c c', lend2L M r r' with | some (v, b), some (v', b') => some (v ++ v', b ++ b') | _, _ => none)
 | _, _ => none
theorem AllP.app {a b : List Prop} : AllP (a ++ b) ↔ AllP a ∧ AllP b := by
 induction a with
 | nil => simp [AllP]
 | cons p r ih => simp only [List.cons_append, AllP, ih, and_assoc]
theorem lend1_ok (R : RM D w0 K0 M β F I w) {K' : World → Prop} {c c' : AV} {vc : List Prop} {b : List Nat} (h : lend1 M c c' = some (vc, b)) (hv : AllP vc) (hK : ∀ w, K' w → Sees K0 I F b w) {y : Value} (r : ARel (fun w => K0 w ∧ Holds w I) β c y) : ARel K' [] c' y := by
 unfold lend1 at h
 split at h
 ·simp only [Option.some.injEq, Prod.mk.injEq] at h; obtain ⟨rfl, rfl⟩ := h
  obtain ⟨rfl, -⟩ := hv
  cases r with | d r => exact .d (r.mono fun w hw => (hK w hw).1)
 ·rename_i u n k' rows'
  split at h
  ·rename_i Tt k rows hM
   simp only [Option.some.injEq, Prod.mk.injEq] at h; obtain ⟨rfl, rfl⟩ := h
   obtain ⟨rfl, rfl, rfl, -⟩ := hv
   cases r with
   | sl hb =>
    obtain ⟨H, hF, hB, -⟩ := R.at hM
    cases hB with
    | rw hb' X G hl hs hr =>
     rw [hb] at hb'; cases hb'
     have := froz_ok (K' := K') (DRel.em X G hl hs hr) fun w hw => ⟨(hK w hw).1, by have := (hK w hw).2 u (by simp); rw [hF] at this; exact this⟩
     rw [froz] at this
     exact .d this
  ·simp at h
 ·rename_i u o row o'
  split at h
  ·rename_i Tt cells hM
   simp only [Option.some.injEq, Prod.mk.injEq] at h; obtain ⟨rfl, rfl⟩ := h
   obtain ⟨rfl, rfl, -⟩ := hv
   cases r with
   | pt hb =>
    obtain ⟨H, hF, hB, -⟩ := R.at hM
    cases hB with
    | bx hb' ys hl hr =>
     rw [hb] at hb'; cases hb'
     have ha : ∀ (b : Nat), (⟨b, o, none⟩ : Addr) = (⟨b, 0, none⟩ : Addr).add o := fun b => by rw [add_eq, Nat.zero_add]
     rw [ha]
     refine .rp _ ys (by rw [hl, List.length_map]) (fun w' hw' j x hj => ?_) fun j c x h1 h2 => ?_
     ·have := (hK w' hw').2 u (by simp)
      rw [hF] at this
      rw [add_eq, Nat.zero_add, cell_of this.one]; simpa using hj
     ·have := hr j (.d c) x (by rw [List.getElem?_map, h1]; rfl) h2
      cases this with | d h => exact h.mono fun w hw => (hK w hw).1
  ·simp at h
 ·simp at h
theorem lendL_ok (R : RM D w0 K0 M β F I w) {K' : World → Prop} : ∀ {l l' : List AV} {vc : List Prop} {b : List Nat}, lendL M l l' = some (vc, b) → AllP vc → (∀ w, K' w → Sees K0 I F b w) → ∀ {ys : List Value}, ys.length = l.length → (∀ (j : Nat) c y, l[j]? = some c → ys[j]? = some y → ARel (fun w => K0 w ∧ Holds w I) β c y) →
  ys.length = l'.length ∧ ∀ (j : Nat) c y, l'[j]? = some c → ys[j]? = some y → ARel K' [] c y
 | [], [], vc, b, h, _, _, ys, hl, _ => by simp at hl; subst hl; simp
 | [], _ :: _, _, _, h, _, _, _, _, _ => by simp [lendL] at h
 | _ :: _, [], _, _, h, _, _, _, _, _ => by simp [lendL] at h
 | c :: r, c' :: r', vc, b, h, hv, hK, ys, hl, hr => by
  unfold lendL at h
  split at h
  ·rename_i v b1 v' b' h1 h2
   simp only [Option.some.injEq, Prod.mk.injEq] at h; obtain ⟨rfl, rfl⟩ := h
   rw [AllP.app] at hv
   cases ys with
   | nil => simp at hl
   | cons y ys =>
    obtain ⟨e1, e2⟩ := lendL_ok R h2 hv.2 (fun w hw => ⟨(hK w hw).1, fun u hu => (hK w hw).2 u (List.mem_append_right _ hu)⟩) (ys := ys) (by simpa using hl) (fun j c y h3 h4 => hr (j + 1) c y (by simpa using h3) (by simpa using h4))
    refine ⟨by simp [e1], ?_⟩
    intro j a z h3 h4
    cases j with
    | zero => simp at h3 h4; subst h3 h4; exact lend1_ok R h1 hv.1 (fun w hw => ⟨(hK w hw).1, fun u hu => (hK w hw).2 u (List.mem_append_left _ hu)⟩) (hr 0 _ _ rfl rfl)
    | succ j => simp at h3 h4; exact e2 j a z h3 h4
  ·simp at h
theorem lend2_ok (R : RM D w0 K0 M β F I w) {K' : World → Prop} {c c' : AV} {vc : List Prop} {b : List Nat} (h : lend2 M c c' = some (vc, b)) (hv : AllP vc) (hK : ∀ w, K' w → Sees K0 I F b w) {y : Value} (r : ARel (fun w => K0 w ∧ Holds w I) β c y) : ARel K' [] c' y := by
 unfold lend2 at h
 split at h
 ·cases r with
  | ag ys hl hr =>
   obtain ⟨e1, e2⟩ := lendL_ok R h hv hK hl hr
   exact .ag ys e1 e2
 ·rename_i l l'
  cases r with
  | ag ys hl hr =>
   obtain ⟨e1, e2⟩ := lendL_ok R h hv hK hl hr
   have := DRel.ag (K := K') (l := l') ys (fun _ => []) (by rw [e1, List.length_map]) (fun j c y h1 h2 => by
    have := e2 j (.d c) y (by rw [List.getElem?_map, h1]; rfl) h2
    cases this with | d h => exact h)
   have hflat : ∀ n : Nat, (List.range n).flatMap (fun _ => ([] : Frag)) = [] := by intro n; simp
   rw [hflat] at this
   exact .d this
 ·rename_i f l f' l'
  split at h
  ·rename_i v b1 h1
   simp only [Option.some.injEq, Prod.mk.injEq] at h; obtain ⟨rfl, rfl⟩ := h
   obtain ⟨rfl, hv⟩ := hv
   cases r with
   | fn ys hl hr =>
    obtain ⟨e1, e2⟩ := lendL_ok R h1 hv hK hl hr
    exact .fn ys e1 e2
  ·simp at h
 ·exact lend1_ok R h hv hK r
theorem lend2L_ok (R : RM D w0 K0 M β F I w) {K' : World → Prop} : ∀ {l l' : List AV} {vc : List Prop} {b : List Nat}, lend2L M l l' = some (vc, b) → AllP vc → (∀ w, K' w → Sees K0 I F b w) → ∀ {ys : List Value}, ys.length = l.length → (∀ (j : Nat) c y, l[j]? = some c → ys[j]? = some y → ARel (fun w => K0 w ∧ Holds w I) β c y) →
  ys.length = l'.length ∧ ∀ (j : Nat) c y, l'[j]? = some c → ys[j]? = some y → ARel K' [] c y
 | [], [], vc, b, h, _, _, ys, hl, _ => by simp at hl; subst hl; simp
 | [], _ :: _, _, _, h, _, _, _, _, _ => by simp [lend2L] at h
 | _ :: _, [], _, _, h, _, _, _, _, _ => by simp [lend2L] at h
 | c :: r, c' :: r', vc, b, h, hv, hK, ys, hl, hr => by
  unfold lend2L at h
  split at h
  ·rename_i v b1 v' b' h1 h2
   simp only [Option.some.injEq, Prod.mk.injEq] at h; obtain ⟨rfl, rfl⟩ := h
   rw [AllP.app] at hv
   cases ys with
   | nil => simp at hl
   | cons y ys =>
    obtain ⟨e1, e2⟩ := lend2L_ok R h2 hv.2 (fun w hw => ⟨(hK w hw).1, fun u hu => (hK w hw).2 u (List.mem_append_right _ hu)⟩) (ys := ys) (by simpa using hl) (fun j c y h3 h4 => hr (j + 1) c y (by simpa using h3) (by simpa using h4))
    refine ⟨by simp [e1], ?_⟩
    intro j a z h3 h4
    cases j with
    | zero => simp at h3 h4; subst h3 h4; exact lend2_ok R h1 hv.1 (fun w hw => ⟨(hK w hw).1, fun u hu => (hK w hw).2 u (List.mem_append_left _ hu)⟩) (hr 0 _ _ rfl rfl)
    | succ j => simp at h3 h4; exact e2 j a z h3 h4
  ·simp at h
def idsOk (M : List Blk) : List Nat → Bool
 | [] => true
 | u :: r => (Nat.ble (u + 1) M.length) && idsOk M r
theorem idsOk_lt : ∀ {b : List Nat}, idsOk M b = true → ∀ u ∈ b, u < M.length
 | [], _, u, hu => by simp at hu
 | v :: r, h, u, hu => by
  simp only [idsOk, Bool.and_eq_true] at h
  rcases List.mem_cons.1 hu with e | e
  ·subst e; exact Nat.le_of_ble_eq_true h.1
  ·exact idsOk_lt h.2 u e
def indP (x : DV) : List Nat → List Prop
 | [] => []
 | _ :: _ => [Ind x]
def sCall (P : Program) (E : List (Nat × AV)) (M : List Blk) (oc : Option Orc) (g : Operand) (args : Array Operand) : Option Out :=
 match evA E g, evsA E args.toList, oc with
 | some (.fn f caps), some l, some (.call told x) => (match lend2L M (l ++ caps) told with
  | some (vc, b) => bif flat3 x && idsOk M b then some ⟨Con P f told x :: (indP x b ++ vc), (unp M x).1, (unp M x).2, [], [], none⟩ else none
  | none => none)
 | _, _, _ => none
theorem Con.now {f : FuncId} {args : List AV} {x : DV} (h : Con P f args x) (R : RM D w0 K0 M β F I w) (hk : ∀ w, Kp D w0 w → K0 w) {b : List Nat} (hb : ∀ u ∈ b, u < M.length) {ys : List Value} (hl : ys.length = args.length)
  (hr : ∀ (j : Nat) c y, args[j]? = some c → ys[j]? = some y → ARel (Sees K0 I F b) [] c y) (hi : b ≠ [] → Ind x) :
  Calls P f ys.toArray w fun e w' => ∃ v, e = .returned v ∧ ∃ I' X, RMx D w0 K0 M β F I' X w' ∧ Grows I I' ∧ DRel (fun w => K0 w ∧ Holds w I') x v X := by
 have hnow : ∀ w', Gr w w' → Sees K0 I F b w' := fun w' g => ⟨⟨hk _ (R.st.kp.gr g), (Holds.app.1 (R.st.gr g).holds).2⟩, fun u hu => (RM.holdsF ⟨R.len, R.blk, R.st.gr g⟩ (List.getElem?_eq_getElem (hb u hu)))⟩
 refine (h.2 w (Sees K0 I F b) ys hnow hl hr).mono ?_
 rintro e w' ⟨v, rfl, g, H, ⟨Ho, Hi, rfl, hd⟩, n⟩
 have hst := R.st.new g n
 refine ⟨v, rfl, Hi ++ I, Ho, ⟨R.len, fun u bl hu => (R.blk u bl hu).mono (fun w hw => ⟨hw.1, (Holds.app.1 hw.2).2⟩) (Ext.refl _), ?_⟩, ⟨Hi, rfl⟩, ?_⟩
 ·exact hst.perm (by classical rw [List.perm_iff_count]; intro z; simp only [List.count_append]; omega)
 ·by_cases hbn : b = []
  ·subst hbn
   exact hd.mono fun w hw => ⟨⟨⟨hw.1, (Holds.app.1 hw.2).2⟩, by simp⟩, (Holds.app.1 hw.2).1⟩
  ·exact hi hbn _ _ _ _ hd
theorem sCall_ok {g : Operand} {args : Array Operand} {tys : Array TypeId} (h : sCall P E M oc g args = some out) : Does P ⟨d, .call ⟨.value g, args, tys⟩, ty, pos, aft, gd⟩ E M out := by
 unfold sCall at h
 split at h
 ·rename_i f caps l told x hg hl
  split at h
  ·rename_i vc b hlend
   cases hfl : (flat3 x && idsOk M b) with
   | false => simp [hfl] at h
   | true =>
    simp only [hfl, cond_true, Option.some.injEq] at h; subst h
    simp only [Bool.and_eq_true] at hfl
    have hb := idsOk_lt hfl.2
    intro D w0 K0 β F I ρ w C hv
    obtain ⟨hcon, hv⟩ := hv
    rw [AllP.app] at hv
    obtain ⟨hind, hv⟩ := hv
    obtain ⟨y, hy, r⟩ := C.ev' hg
    cases r with
    | fn cs hcl hcr =>
     obtain ⟨hal, har⟩ := C.evs hl
     have hall : (args.toList.map ρ ++ cs).length = (l ++ caps).length := by rw [List.length_append, List.length_append, hal, hcl]
     have har2 : ∀ (j : Nat) c y, (l ++ caps)[j]? = some c → (args.toList.map ρ ++ cs)[j]? = some y → ARel (fun w => K0 w ∧ Holds w I) β c y := by
      intro j c y h1 h2
      rcases Nat.lt_or_ge j l.length with hj | hj
      ·rw [List.getElem?_append_left hj] at h1
       rw [List.getElem?_append_left (by omega)] at h2
       exact har j c y h1 h2
      ·rw [List.getElem?_append_right hj] at h1
       rw [List.getElem?_append_right (by omega), hal] at h2
       exact hcr _ c y h1 h2
     obtain ⟨e1, e2⟩ := lend2L_ok C.rm (K' := Sees K0 I F b) hlend hv (fun _ h => h) hall har2
     have hm : args.map ρ = (args.toList.map ρ).toArray := by rw [← Array.toList_map]
     refine y_closure hy hcon.1 hm ?_
     have hcat : ((args.toList.map ρ).toArray ++ cs.toArray : Array Value) = (args.toList.map ρ ++ cs).toArray := by simp
     rw [hcat]
     refine (hcon.now C.rm C.k hb e1 e2 (fun hn => by cases b with | nil => exact absurd rfl hn | cons u r => exact hind.1)).mono ?_
     rintro e w' ⟨v, rfl, I', X, R, hI, hd⟩
     refine ⟨v, rfl, ?_⟩
     have R' : RMx D w0 K0 M β F I' (X ++ []) w' := by rw [List.append_nil]; exact R
     obtain ⟨β', F', R2, e, f2, -, a2⟩ := unp_ok hfl.1 R' hd
     exact ⟨β', F', I', R2.nil rfl, e.b _, hI, fun u hu _ => f2 u hu, a2⟩
  ·simp at h
 ·simp at h
def cl1 : AV → Bool
 | .d _ => true
 | .rp _ _ => true
 | _ => false
def cl2 : AV → Bool
 | .ag l => l.all cl1
 | .fn _ l => l.all cl1
 | c => cl1 c
theorem cl1_ok {K : World → Prop} {c : AV} (h : cl1 c = true) {y : Value} (r : ARel K β c y) : ARel K [] c y := by
 cases r with
 | d r => exact .d r
 | rp a X hl hc hr => exact .rp a X hl hc hr
 | _ => simp [cl1] at h
theorem cl2_ok {K : World → Prop} {c : AV} (h : cl2 c = true) {y : Value} (r : ARel K β c y) : ARel K [] c y := by
 cases r with
 | d r => exact .d r
 | rp a X hl hc hr => exact .rp a X hl hc hr
 | ag ys hl hr => exact .ag ys hl fun j c y h1 h2 => cl1_ok (List.all_eq_true.1 h c (List.mem_of_getElem? h1)) (hr j c y h1 h2)
 | fn ys hl hr => exact .fn ys hl fun j c y h1 h2 => cl1_ok (List.all_eq_true.1 h c (List.mem_of_getElem? h1)) (hr j c y h1 h2)
 | _ => simp [cl2, cl1] at h
def sCon (P : Program) (E : List (Nat × AV)) (M : List Blk) (oc : Option Orc) (g : Operand) (args : Array Operand) : Option Out :=
 match evA E g, evsA E args.toList, oc with
 | some (.fn f caps), some l, some (.con x) => bif flat3 x && (l ++ caps).all cl2 then some ⟨[Con P f (l ++ caps) x], (unp M x).1, (unp M x).2, [], [], none⟩ else none
 | _, _, _ => none
theorem sCon_ok {g : Operand} {args : Array Operand} {tys : Array TypeId} (h : sCon P E M oc g args = some out) : Does P ⟨d, .call ⟨.value g, args, tys⟩, ty, pos, aft, gd⟩ E M out := by
 unfold sCon at h
 split at h
 ·rename_i f caps l x hg hl
  cases hfl : (flat3 x && (l ++ caps).all cl2) with
  | false => simp only [hfl, cond_false, reduceCtorEq] at h
  | true =>
   simp only [hfl, cond_true, Option.some.injEq] at h; subst h
   simp only [Bool.and_eq_true] at hfl
   intro D w0 K0 β F I ρ w C hv
   obtain ⟨hcon, -⟩ := hv
   obtain ⟨y, hy, r⟩ := C.ev' hg
   cases r with
   | fn cs hcl hcr =>
    obtain ⟨hal, har⟩ := C.evs hl
    have hall : (args.toList.map ρ ++ cs).length = (l ++ caps).length := by rw [List.length_append, List.length_append, hal, hcl]
    have har2 : ∀ (j : Nat) c y, (l ++ caps)[j]? = some c → (args.toList.map ρ ++ cs)[j]? = some y → ARel (fun w => K0 w ∧ Holds w I) β c y := by
     intro j c y h1 h2
     rcases Nat.lt_or_ge j l.length with hj | hj
     ·rw [List.getElem?_append_left hj] at h1
      rw [List.getElem?_append_left (by omega)] at h2
      exact har j c y h1 h2
     ·rw [List.getElem?_append_right hj] at h1
      rw [List.getElem?_append_right (by omega), hal] at h2
      exact hcr _ c y h1 h2
    have hm : args.map ρ = (args.toList.map ρ).toArray := by rw [← Array.toList_map]
    refine y_closure hy hcon.1 hm ?_
    have hcat : ((args.toList.map ρ).toArray ++ cs.toArray : Array Value) = (args.toList.map ρ ++ cs).toArray := by simp
    rw [hcat]
    refine (hcon.now C.rm C.k (b := []) (by simp) hall (fun j c y h1 h2 => (cl2_ok (List.all_eq_true.1 hfl.2 c (List.mem_of_getElem? h1)) (har2 j c y h1 h2)).mono (fun w hw => hw.1) (Ext.refl _)) (fun hn => absurd rfl hn)).mono ?_
    rintro e w' ⟨v, rfl, I', X, R, hI, hd⟩
    refine ⟨v, rfl, ?_⟩
    have R' : RMx D w0 K0 M β F I' (X ++ []) w' := by rw [List.append_nil]; exact R
    obtain ⟨β', F', R2, e, f2, -, a2⟩ := unp_ok hfl.1 R' hd
    exact ⟨β', F', I', R2.nil rfl, e.b _, hI, fun u hu _ => f2 u hu, a2⟩
 ·simp at h
end Go.Proofs.Ytikmdkicccfjpaa
namespace Go.Proofs.Ytikmdkicccfjpaa
open Go.RowKit
variable {P : Program} {T : Tab} {w : World} {D : List Nat} {w0 : World} {K0 : World → Prop} {M : List Blk} {β : Beta} {F : Nat → Frag} {I X : Frag}
theorem range_split {n u : Nat} (h : u < n) (f : Nat → Frag) : (List.range n).flatMap f = (List.range u).flatMap f ++ (f u ++ (List.range' (u + 1) (n - (u + 1))).flatMap f) := by
 have hr : List.range n = List.range u ++ u :: List.range' (u + 1) (n - (u + 1)) := by
  rw [List.range_eq_range', List.range_eq_range']
  have h1 : n = u + (1 + (n - (u + 1))) := by omega
  conv => lhs; rw [h1]
  rw [← List.range'_append_1, ← List.range'_append_1]
  simp
 rw [hr]; simp [List.flatMap_append]
theorem flat_ext {l : List Nat} {f g : Nat → Frag} (h : ∀ a ∈ l, f a = g a) : l.flatMap f = l.flatMap g := by
 rw [List.flatMap_def, List.flatMap_def]; congr 1; exact List.map_congr_left h
theorem RMx.give (R : RMx D w0 K0 M β F I X w) {u : Nat} {blk : Blk} (hu : M[u]? = some blk) : RMx D w0 K0 (M.set u .dead) β (updF F u []) I (X ++ F u) w where
 len := by rw [List.length_set]; exact R.len
 blk := by
  intro v bl hv
  rw [List.getElem?_set] at hv
  by_cases e : u = v
  ·subst e
   obtain ⟨hlt, -⟩ := List.getElem?_eq_some_iff.1 hu
   simp only [hlt, if_pos, Option.some.injEq] at hv; subst hv
   simpa [updF] using BRel.dead u
  ·rw [if_neg e] at hv
   have : updF F u [] v = F v := by simp only [updF]; rw [if_neg (fun h => e h.symm)]
   rw [this]; exact R.blk v bl hv
 st := by
  obtain ⟨hlt, -⟩ := List.getElem?_eq_some_iff.1 hu
  have hs := R.st
  rw [List.length_set, range_split hlt]
  rw [range_split hlt] at hs
  have c1 : (List.range u).flatMap (updF F u []) = (List.range u).flatMap F := flat_ext fun a ha => by have := List.mem_range.1 ha; simp [updF]; omega
  have c2 : (List.range' (u + 1) (M.length - (u + 1))).flatMap (updF F u []) = (List.range' (u + 1) (M.length - (u + 1))).flatMap F := flat_ext fun a ha => by have := (List.mem_range'_1.1 ha).1; simp [updF]; omega
  have hu' : updF F u [] u = [] := by simp [updF]
  rw [c1, c2, hu']
  exact hs.perm (by classical rw [List.perm_iff_count]; intro z; simp only [List.count_append, List.count_nil]; omega)
def pack1 (M : List Blk) : AV → Option (List Prop × DV × List Blk)
 | .d x => some ([], x, M)
 | .sl u n => (match M[u]? with | some (.rw T k rows) => some ([n = rows.length], .em T k rows, M.set u .dead) | _ => none)
 | _ => none
def packL (M : List Blk) : List AV → Option (List Prop × List DV × List Blk)
 | [] => some ([], [], M)
 | c :: r => (match pack1 M c with
  | some (v, x, M') => (match packL M' r with | some (v', l, M'') => some (v ++ v', x :: l, M'') | none => none)
  | none => none)
def pack2 (M : List Blk) : AV → Option (List Prop × DV × List Blk)
 | .ag l => (match packL M l with | some (v, l', M') => some (v, .ag l', M') | none => none)
 | c => pack1 M c
def pack2L (M : List Blk) : List AV → Option (List Prop × List DV × List Blk)
 | [] => some ([], [], M)
 | c :: r => (match pack2 M c with
  | some (v, x, M') => (match pack2L M' r with | some (v', l, M'') => some (v ++ v', x :: l, M'') | none => none)
  | none => none)
def Packs (D : List Nat) (w0 : World) (K0 : World → Prop) (β : Beta) (I X : Frag) (w : World) (y : Value) (x : DV) (M' : List Blk) : Prop :=
 ∃ F' H, RMx D w0 K0 M' β F' I (X ++ H) w ∧ DRel (fun w => K0 w ∧ Holds w I) x y H
theorem pack1_ok (R : RMx D w0 K0 M β F I X w) {c : AV} {vc : List Prop} {x : DV} {M' : List Blk} (h : pack1 M c = some (vc, x, M')) (hv : AllP vc) {y : Value} (r : ARel (fun w => K0 w ∧ Holds w I) β c y) : Packs D w0 K0 β I X w y x M' := by
 unfold pack1 at h
 split at h
 ·simp only [Option.some.injEq, Prod.mk.injEq] at h; obtain ⟨rfl, rfl, rfl⟩ := h
  cases r with | d r => exact ⟨F, [], by rw [List.append_nil]; exact R, r⟩
 ·rename_i u n
  split at h
  ·rename_i Tt k rows hM
   simp only [Option.some.injEq, Prod.mk.injEq] at h; obtain ⟨rfl, rfl, rfl⟩ := h
   obtain ⟨rfl, -⟩ := hv
   cases r with
   | sl hb =>
    have R' := R.give hM
    have hB := R.blk u _ hM
    refine ⟨_, F u, R', ?_⟩
    generalize F u = G0 at hB ⊢
    cases hB with
    | rw hb' X G hl hs hr => rw [hb] at hb'; cases hb'; exact .em X G hl hs hr
  ·simp at h
 ·simp at h
theorem packL_ok : ∀ {l : List AV} {M : List Blk} {F : Nat → Frag} {X : Frag} {vc : List Prop} {xs : List DV} {M' : List Blk}, RMx D w0 K0 M β F I X w → packL M l = some (vc, xs, M') → AllP vc → ∀ {ys : List Value}, ys.length = l.length → (∀ (j : Nat) c y, l[j]? = some c → ys[j]? = some y → ARel (fun w => K0 w ∧ Holds w I) β c y) →
  ∃ F' H, RMx D w0 K0 M' β F' I (X ++ H) w ∧ DRelL (fun w => K0 w ∧ Holds w I) xs ys H
 | [], M, F, X, vc, xs, M', R, h, _, ys, hl, _ => by
  simp only [packL, Option.some.injEq, Prod.mk.injEq] at h; obtain ⟨rfl, rfl, rfl⟩ := h
  have : ys = [] := List.eq_nil_of_length_eq_zero hl
  subst this
  exact ⟨F, [], by rw [List.append_nil]; exact R, .nil⟩
 | c :: r, M, F, X, vc, xs, M', R, h, hv, ys, hl, hr => by
  unfold packL at h
  split at h
  ·rename_i v x M1 h1
   split at h
   ·rename_i v' l' M2 h2
    simp only [Option.some.injEq, Prod.mk.injEq] at h; obtain ⟨rfl, rfl, rfl⟩ := h
    rw [AllP.app] at hv
    cases ys with
    | nil => simp at hl
    | cons y ys =>
     obtain ⟨F1, H1, R1, d1⟩ := pack1_ok R h1 hv.1 (hr 0 c y rfl rfl)
     obtain ⟨F2, H2, R2, d2⟩ := packL_ok R1 h2 hv.2 (ys := ys) (by simpa using hl) (fun j c' y' e1 e2 => hr (j + 1) c' y' (by simpa using e1) (by simpa using e2))
     exact ⟨F2, H1 ++ H2, by rw [← List.append_assoc]; exact R2, .cons d1 d2⟩
   ·simp at h
  ·simp at h
theorem DRelL.to {K : World → Prop} {l : List DV} {ys : List Value} {H : Frag} (h : DRelL K l ys H) : ∃ F : Nat → Frag, H = (List.range l.length).flatMap F ∧ ∀ (j : Nat) c y, l[j]? = some c → ys[j]? = some y → DRel K c y (F j) := by
 induction h with
 | nil => exact ⟨fun _ => [], by simp, by simp⟩
 | cons h r ih =>
  rename_i c y l ys H G
  obtain ⟨F, hF, hr⟩ := ih
  refine ⟨fun i => match i with | 0 => H | i + 1 => F i, ?_, ?_⟩
  ·rw [List.length_cons, flat_shift, hF]
  ·intro j c' y' h1 h2
   cases j with
   | zero => simp at h1 h2; subst h1 h2; exact h
   | succ j => simp at h1 h2; exact hr j c' y' h1 h2
theorem pack2_ok (R : RMx D w0 K0 M β F I X w) {c : AV} {vc : List Prop} {x : DV} {M' : List Blk} (h : pack2 M c = some (vc, x, M')) (hv : AllP vc) {y : Value} (r : ARel (fun w => K0 w ∧ Holds w I) β c y) : Packs D w0 K0 β I X w y x M' := by
 unfold pack2 at h
 split at h
 ·split at h
  ·rename_i v l' M1 h1
   simp only [Option.some.injEq, Prod.mk.injEq] at h; obtain ⟨rfl, rfl, rfl⟩ := h
   cases r with
   | ag ys hl hr =>
    obtain ⟨F1, H1, R1, d1⟩ := packL_ok R h1 hv hl hr
    obtain ⟨G, rfl, hG⟩ := d1.to
    exact ⟨F1, _, R1, .ag ys G d1.len hG⟩
  ·simp at h
 ·exact pack1_ok R h hv r
theorem pack2L_ok : ∀ {l : List AV} {M : List Blk} {F : Nat → Frag} {X : Frag} {vc : List Prop} {xs : List DV} {M' : List Blk}, RMx D w0 K0 M β F I X w → pack2L M l = some (vc, xs, M') → AllP vc → ∀ {ys : List Value}, ys.length = l.length → (∀ (j : Nat) c y, l[j]? = some c → ys[j]? = some y → ARel (fun w => K0 w ∧ Holds w I) β c y) →
  ∃ F' H, RMx D w0 K0 M' β F' I (X ++ H) w ∧ DRelL (fun w => K0 w ∧ Holds w I) xs ys H
 | [], M, F, X, vc, xs, M', R, h, _, ys, hl, _ => by
  simp only [pack2L, Option.some.injEq, Prod.mk.injEq] at h; obtain ⟨rfl, rfl, rfl⟩ := h
  have : ys = [] := List.eq_nil_of_length_eq_zero hl
  subst this
  exact ⟨F, [], by rw [List.append_nil]; exact R, .nil⟩
 | c :: r, M, F, X, vc, xs, M', R, h, hv, ys, hl, hr => by
  unfold pack2L at h
  split at h
  ·rename_i v x M1 h1
   split at h
   ·rename_i v' l' M2 h2
    simp only [Option.some.injEq, Prod.mk.injEq] at h; obtain ⟨rfl, rfl, rfl⟩ := h
    rw [AllP.app] at hv
    cases ys with
    | nil => simp at hl
    | cons y ys =>
     obtain ⟨F1, H1, R1, d1⟩ := pack2_ok R h1 hv.1 (hr 0 c y rfl rfl)
     obtain ⟨F2, H2, R2, d2⟩ := pack2L_ok R1 h2 hv.2 (ys := ys) (by simpa using hl) (fun j c' y' e1 e2 => hr (j + 1) c' y' (by simpa using e1) (by simpa using e2))
     exact ⟨F2, H1 ++ H2, by rw [← List.append_assoc]; exact R2, .cons d1 d2⟩
   ·simp at h
  ·simp at h
end Go.Proofs.Ytikmdkicccfjpaa
namespace Go.Proofs.Ytikmdkicccfjpaa
open Go.RowKit
variable {P : Program} {T : Tab} {D : List Nat} {w0 : World} {K0 : World → Prop} {E : List (Nat × AV)} {M : List Blk} {β : Beta} {F : Nat → Frag} {I : Frag} {ρ : Operand → Value} {w : World}
variable {d : Option Tmp} {ty : TypeId} {pos : String} {aft : Array Edge} {gd : Option (Nat × Bool)} {oc : Option Orc} {out : Out}
def valsA : List AV → Option (List Value)
 | [] => some []
 | .d (.v x) :: r => (match valsA r with | some l => some (x :: l) | none => none)
 | _ => none
theorem valsA_ok {K : World → Prop} {β : Beta} : ∀ {l : List AV} {xs ys : List Value}, valsA l = some xs → ys.length = l.length → (∀ (j : Nat) c y, l[j]? = some c → ys[j]? = some y → ARel K β c y) → ys = xs
 | [], xs, ys, h, hl, _ => by simp only [valsA, Option.some.injEq] at h; subst h; exact List.eq_nil_of_length_eq_zero hl
 | c :: r, xs, [], _, hl, _ => by simp at hl
 | c :: r, xs, y :: ys, h, hl, hr => by
  unfold valsA at h
  split at h
  ·simp_all
  ·rename_i x r' heq
   simp only [List.cons.injEq] at heq
   obtain ⟨rfl, rfl⟩ := heq
   split at h
   ·rename_i l' hl'
    simp only [Option.some.injEq] at h; subst h
    have h0 := hr 0 _ y rfl rfl
    have h1 := valsA_ok (ys := ys) hl' (by simpa using hl) (fun j c y e1 e2 => hr (j + 1) c y (by simpa using e1) (by simpa using e2))
    cases h0 with | d h0 => cases h0; rw [h1]
   ·simp at h
  ·simp at h
def EqAgg (P : Program) (t : TypeId) (xs ys : List Value) (c : Bool) : Prop := P.eqGuardType P.depth t = false ∧ ∀ w : World, (Op.equal t (.agg xs.toArray) (.agg ys.toArray)).run P w = .ok c w
def sEqA (P : Program) (E : List (Nat × AV)) (M : List Blk) (oc : Option Orc) (op : BinOp) (t : TypeId) (x y : Operand) : Option Out :=
 match op, evA E x, evA E y, oc with
 | .eql, some (.ag l), some (.ag l'), some (.b c) => (match valsA l, valsA l' with | some xs, some ys => some (lk [EqAgg P t xs ys c] (.b c) M) | _, _ => none)
 | .neq, some (.ag l), some (.ag l'), some (.b c) => (match valsA l, valsA l' with | some xs, some ys => some (lk [EqAgg P t xs ys c] (.b (!c)) M) | _, _ => none)
 | _, _, _, _ => none
theorem sEqA_ok {op : BinOp} {t t' : TypeId} {x y : Operand} (h : sEqA P E M oc op t x y = some out) : Does P ⟨d, .binOp op t x y t', ty, pos, aft, gd⟩ E M out := by
 unfold sEqA at h
 split at h
 ·rename_i l l' c hx hy
  split at h
  ·rename_i xs ys h1 h2
   simp only [Option.some.injEq] at h; subst h
   refine Does.same ?_
   intro D w0 K0 β F I ρ w C hv
   obtain ⟨⟨hg, hr⟩, -⟩ := hv
   obtain ⟨u, hu, r⟩ := C.ev' hx
   obtain ⟨u', hu', r'⟩ := C.ev' hy
   cases r with | ag zs hl hz =>
   cases r' with | ag zs' hl' hz' =>
   obtain rfl := valsA_ok h1 hl hz
   obtain rfl := valsA_ok h2 hl' hz'
   exact ⟨.bool c, fun w' _ => by simp [execOp, hu, hu', eqGuard, hg, binOp, hr], .d (.v _)⟩
  ·simp at h
 ·rename_i l l' c hx hy
  split at h
  ·rename_i xs ys h1 h2
   simp only [Option.some.injEq] at h; subst h
   refine Does.same ?_
   intro D w0 K0 β F I ρ w C hv
   obtain ⟨⟨hg, hr⟩, -⟩ := hv
   obtain ⟨u, hu, r⟩ := C.ev' hx
   obtain ⟨u', hu', r'⟩ := C.ev' hy
   cases r with | ag zs hl hz =>
   cases r' with | ag zs' hl' hz' =>
   obtain rfl := valsA_ok h1 hl hz
   obtain rfl := valsA_ok h2 hl' hz'
   exact ⟨.bool (!c), fun w' _ => by simp [execOp, hu, hu', eqGuard, hg, binOp, hr], .d (.v _)⟩
  ·simp at h
 ·simp at h
def placeT (l : List (Nat × Nat)) (i : Nat) : Option (Nat × Nat) := l[i]?
def fillA (E : List (Nat × AV)) (place : Nat → Option (Nat × Nat)) (cells : List AV) : List (Nat × Operand) → Option (List AV)
 | [] => some cells
 | (i, x) :: r => (match place i, evA E x with
  | some (off, size), some v => (match cellsA v with
   | some l => bif l.length.beq size && (off + size).ble cells.length then fillA E place (cells.take off ++ (l ++ cells.drop (off + size))) r else none
   | none => none)
  | _, _ => none)
theorem zip_setCs : ∀ (vs : List Value) (off j : Nat) (cs : Array Value), (vs.zipIdx j).foldl (fun cs (cj : Value × Nat) => cs.setIfInBounds (off + cj.2) cj.1) cs = setCs cs (off + j) vs := by
 intro vs
 induction vs with
 | nil => intro off j cs; simp [setCs]
 | cons v r ih => intro off j cs; rw [List.zipIdx_cons, List.foldl_cons, ih, setCs, Nat.add_assoc]
theorem fillA_ok {place : Nat → Option (Nat × Nat)} (C : Ctx D w0 K0 E M β F I ρ w) : ∀ {parts : List (Nat × Operand)} {cells l : List AV} {cs : Array Value}, fillA E place cells parts = some l → cs.size = cells.length → (∀ (j : Nat) c y, cells[j]? = some c → cs[j]? = some y → ARel (fun w => K0 w ∧ Holds w I) β c y) →
  ∃ cs' : Array Value, Instr.fill place cs (parts.map fun p => (p.1, ρ p.2)) = some cs' ∧ cs'.size = l.length ∧ ∀ (j : Nat) c y, l[j]? = some c → cs'[j]? = some y → ARel (fun w => K0 w ∧ Holds w I) β c y
 | [], cells, l, cs, h, hl, hr => by simp only [fillA, Option.some.injEq] at h; subst h; exact ⟨cs, rfl, hl, hr⟩
 | (i, x) :: r, cells, l, cs, h, hl, hr => by
  unfold fillA at h
  split at h
  ·rename_i off size v hp hx
   split at h
   ·rename_i lv hlv
    cases hb : (lv.length.beq size && (off + size).ble cells.length) with
    | false => simp [hb] at h
    | true =>
     simp only [hb, cond_true] at h
     simp only [Bool.and_eq_true] at hb
     have h1 := Nat.eq_of_beq_eq_true hb.1
     have h2 := Nat.le_of_ble_eq_true hb.2
     obtain ⟨y, hy, ry⟩ := C.ev' hx
     obtain ⟨zs, e1, e2, e3, -⟩ := cellsA_ok hlv ry
     have hsize : (setCs cs off zs).size = (cells.take off ++ (lv ++ cells.drop (off + size))).length := by rw [setCs_size]; simp; omega
     obtain ⟨cs', g1, g2, g3⟩ := fillA_ok C (cs := setCs cs off zs) h hsize (by
      intro j c z f1 f2
      rw [setCs_get _ _ _ _ (by omega)] at f2
      by_cases hj : off ≤ j ∧ j < off + zs.length
      ·rw [if_pos hj] at f2
       rw [List.getElem?_append_right (by simp; omega), List.getElem?_append_left (by simp; omega)] at f1
       refine e3 (j - off) c z ?_ f2
       rw [← f1]; congr 1; simp; omega
      ·rw [if_neg hj] at f2
       refine hr j c z ?_ f2
       rcases Nat.lt_or_ge j off with hjo | hjo
       ·rw [List.getElem?_append_left (by simp; omega), List.getElem?_take, if_pos hjo] at f1; exact f1
       ·rw [List.getElem?_append_right (by simp; omega), List.getElem?_append_right (by simp; omega), List.getElem?_drop] at f1
        rw [← f1]; congr 1; simp; omega)
     refine ⟨cs', ?_, g2, g3⟩
     rw [List.map_cons, Instr.fill]
     simp only [hp, hy, e1]
     rw [if_neg (by simp; omega)]
     have hz := zip_setCs zs off 0 cs
     have hz2 : zs.toArray.zipIdx.foldl (fun cs (cj : Value × Nat) => cs.setIfInBounds (off + cj.2) cj.1) cs = setCs cs off zs := by
      rw [← Array.foldl_toList, Array.toList_zipIdx]; simpa using hz
     rw [← g1]; congr 1
   ·simp at h
  ·simp at h
def sBuild (T : Tab) (E : List (Nat × AV)) (M : List Blk) (t : TypeId) (parts : Array (Nat × Operand)) : Option Out :=
 match tPl T t, tZero T t with
 | some pl, some z => (match fillA E (placeT pl) (plainA z) parts.toList with
  | some l => some (lk [] (.ag l) M)
  | none => none)
 | _, _ => none
theorem places_run : ∀ {fs : List Field} {pl : List (Nat × Nat)} (w : World), placesP P fs = some pl → (fs.mapM fun f => (do pure (f.offset, ← sizeOf f.type) : Sem (Nat × Nat))).run P w = .ok pl w
 | [], pl, w, h => by simp only [placesP, Option.some.injEq] at h; subst h; simp
 | f :: r, pl, w, h => by
  unfold placesP at h
  split at h
  ·rename_i i l hi hl
   simp only [Option.some.injEq] at h; subst h
   have ih := places_run w hl
   have hs : (sizeOf f.type).run P w = .ok i.size w := by simp [sizeOf, typeInfo, Sem.run_bind, hi]
   simp only [List.mapM_cons, Sem.run_bind, hs, Result.andThen_ok, Sem.run_pure, ih]
  ·simp at h
theorem sBuild_ok (hT : tabB P T = true) {t : TypeId} {parts : Array (Nat × Operand)} (h : sBuild T E M t parts = some out) : Does P ⟨d, .build t parts, ty, pos, aft, gd⟩ E M out := by
 unfold sBuild at h
 split at h
 ·rename_i pl z hpl hz
  split at h
  ·rename_i l hl
   simp only [Option.some.injEq] at h; subst h
   obtain ⟨fs, hu, hfs⟩ := tPl_ok hT hpl
   obtain ⟨zv, hzc, hzr⟩ := tZero_ok hT hz
   refine Does.same ?_
   intro D w0 K0 β F I ρ w C _
   obtain ⟨p1, p2⟩ := plainA_ok (K := fun w => K0 w ∧ Holds w I) (β := β) z
   obtain ⟨cs', g1, g2, g3⟩ := fillA_ok C (cs := z.toArray) hl (by simpa using p1) (by intro j c y e1 e2; exact p2 j c y e1 (by simpa using e2))
   refine ⟨.agg cs', fun w' _ => ?_, ?_⟩
   ·have hpr := places_run w' hfs
    have hpa : (fs.mapM fun f => (do pure (f.offset, ← sizeOf f.type) : Sem (Nat × Nat))).run P w' = .ok pl.toArray w' := by
     rw [Array.mapM_eq_mapM_toList, Sem.run_map, hpr]; rfl
    have hpm : (parts.map fun (p : Nat × Operand) => (p.1, ρ p.2)).toList = parts.toList.map fun p => (p.1, ρ p.2) := by simp
    have hplace : (fun i => pl.toArray[i]?) = placeT pl := by funext i; simp [placeT]
    have hb : (Instr.build t (parts.map fun (p : Nat × Operand) => (p.1, ρ p.2))).run P w' = .ok (.agg cs') w' := by
     simp only [Instr.build, Sem.run_bind, hzr, Result.andThen_ok, run_underlying hu, hpa, hzc, hpm, hplace, g1, Sem.run_pure]
    simp only [execOp, Sem.run_bind]
    have : (parts.map fun (i, x) => (i, ρ x)) = parts.map fun (p : Nat × Operand) => (p.1, ρ p.2) := rfl
    rw [this, hb]; rfl
   ·have : (ARel (fun w => K0 w ∧ Holds w I) β (.ag l) (.agg cs'.toList.toArray)) := .ag cs'.toList (by simpa using g2) (by intro j c y e1 e2; exact g3 j c y e1 (by simpa using e2))
    simpa using this
  ·simp at h
 ·simp at h
end Go.Proofs.Ytikmdkicccfjpaa
namespace Go.Proofs.Ytikmdkicccfjpaa
open Go.RowKit
variable {P : Program} {T : Tab} {D : List Nat} {w0 : World} {K0 : World → Prop} {E : List (Nat × AV)} {M : List Blk} {β : Beta} {F : Nat → Frag} {I : Frag} {ρ : Operand → Value} {w : World}
variable {d : Option Tmp} {ty : TypeId} {pos : String} {aft : Array Edge} {gd : Option (Nat × Bool)} {oc : Option Orc} {out : Out}
def tEl (T : Tab) (t : Nat) : Option (Nat × Nat × Nat × List Value) := match tUn T t with
 | some (.sl e) => (match T.at e with | some x => bif x.zero.length.beq x.size then some (e, x.size, x.bytes, x.zero) else none | none => none)
 | _ => none
theorem tEl_ok (hT : tabB P T = true) {t e k b : Nat} {z : List Value} (h : tEl T t = some (e, k, b, z)) : ∃ zv, AppOk P t e k b zv ∧ zv.cells = z.toArray ∧ z.length = k := by
 unfold tEl at h
 split at h
 ·rename_i e' hu
  split at h
  ·rename_i x hx
   cases hz : x.zero.length.beq x.size with
   | false => simp [hz] at h
   | true =>
    simp only [hz, cond_true, Option.some.injEq, Prod.mk.injEq] at h
    obtain ⟨rfl, rfl, rfl, rfl⟩ := h
    obtain ⟨i, zv, h1, h2, h3, h4, h5⟩ := tab_info hT hx
    have hc : zv.cells = x.zero.toArray := by rw [← h5]
    exact ⟨zv, ⟨tUn_ok hT hu, by rw [h1, Option.map_some, h2], by rw [h1, Option.map_some, h3], by rw [h1, Option.bind_some, h4], by rw [hc]; simpa using Nat.eq_of_beq_eq_true hz⟩, hc, Nat.eq_of_beq_eq_true hz⟩
  ·simp at h
 ·simp at h
theorem lay_len {n k : Nat} {X : Nat → List Value} (hX : ∀ i, i < n → (X i).length = k) : (lay n X).length = n * k := by
 induction n with
 | zero => simp [lay]
 | succ n ih =>
  have := ih (fun i hi => hX i (by omega))
  simp only [lay, List.range_succ, List.flatMap_append, List.length_append, List.flatMap_cons, List.flatMap_nil, List.append_nil] at this ⊢
  rw [this, hX n (by omega), Nat.succ_mul]
theorem lay_zero (z : List Value) (n k : Nat) (hz : z.length = k) : ((Array.range (n * k)).map fun i => z.toArray[i % z.toArray.size]!).toList = lay n fun _ => z := by
 subst hz
 apply List.ext_getElem?
 intro p
 have hl := lay_len (n := n) (k := z.length) (X := fun _ => z) (fun _ _ => rfl)
 rcases Nat.lt_or_ge p (n * z.length) with hp | hp
 ·have hk : 0 < z.length := by
   rcases Nat.eq_zero_or_pos z.length with h0 | h0
   ·rw [h0] at hp; simp at hp
   ·exact h0
  have hd : p / z.length < n := Nat.div_lt_of_lt_mul (by rw [Nat.mul_comm]; exact hp)
  have hm : p % z.length < z.length := Nat.mod_lt _ hk
  have hg := lay_get (n := n) (k := z.length) (X := fun _ => z) (fun _ _ => rfl) hd hm
  rw [Nat.mul_comm, Nat.div_add_mod] at hg
  rw [hg]
  have hz2 : z[p % z.length]? = some z[p % z.length] := List.getElem?_eq_getElem hm
  rw [hz2, Array.toList_map, List.getElem?_map, Array.toList_range, List.getElem?_range hp, Option.map_some]
  congr 1
  have : (z.toArray)[p % z.toArray.size]? = some z[p % z.length] := by rw [List.getElem?_toArray]; exact hz2
  rw [getElem!_def, this]
 ·rw [List.getElem?_eq_none (by simpa using hp), List.getElem?_eq_none (by omega)]
set_option maxRecDepth 20000 in
theorem run_makeSlice {t e k b : Nat} {z : List Value} {zv : Value} (ok : AppOk P t e k b zv) (hz : zv.cells = z.toArray) (hzl : z.length = k) {m : Nat} (hb : b * m ≤ 281474976710656) (hm : m < 4611686018427387904) :
  (Instr.makeSlice t (.int .i64 m) (.int .i64 m)).run P w = .ok (.slice (some ⟨w.heap.size, 0, none⟩) m m) (w.alloc (.cells (lay m fun _ => z).toArray e)) := by
 obtain ⟨i, hi, h1, h2, h3⟩ := ok.info
 have hw : IntKind.i64.wrap (m : Int) = m := by
  simp [IntKind.wrap, IntKind.signed, IntKind.bits]; omega
 have hsz : ∀ w : World, (sizeOf e).run P w = .ok k w := fun w => by simp [sizeOf, typeInfo, Sem.run_bind, hi, h1]
 have hinfo : ∀ w : World, (typeInfo e).run P w = .ok i w := fun w => by simp [typeInfo, Sem.run_bind, hi]
 have hzero : ∀ w : World, (zeroValue e).run P w = .ok zv w := fun w => by simp [zeroValue, Sem.run_bind, hinfo, h3]
 have hask : ∀ (k : Nat) (w : World), (askRoom k).run P w = .ok () w := by
  intro k w; unfold askRoom; split <;> simp [mark, Sem.run]
 have hai : ∀ n : Int, asInt (.int .i64 n) = pure n := fun n => rfl
 have hrow : ∀ (cs : Array Value) (w : World), (newRow e cs).run P w = .ok ⟨w.heap.size, 0, none⟩ (w.alloc (.cells cs e)) := by
  intro cs w; simp [newRow, newObj, Sem.run]
 have hnl : ¬ ((i.bytes : Int) * (m : Int) > 2 ^ 48) := by
  rw [h2]
  have e : ((b * m : Nat) : Int) = (b : Int) * (m : Int) := Int.natCast_mul b m
  rw [← e]
  generalize b * m = q at hb
  omega
 have hcells : ∀ n, n = m * k → (if n = 0 then ((Array.range n).map fun i => (#[] : Array Value)[i % (#[] : Array Value).size]!) else ((Array.range n).map fun i => z.toArray[i % z.toArray.size]!)) = (lay m fun _ => z).toArray := by
  intro n hn
  subst hn
  rw [← lay_zero z m k hzl]
  by_cases h0 : m * k = 0
  ·rw [if_pos h0, h0]; simp
  ·rw [if_neg h0]
 unfold Instr.makeSlice
 simp only [Sem.run_bind, run_underlying ok.hst, Result.andThen_ok, hai, Sem.run_pure, hinfo, hw, hsz]
 have hcond : ¬ ((((m : Int) < 0 : Bool) || decide ((i.bytes : Int) * (m : Int) > 2 ^ 48)) = true ∨ (m : Int) < 0 ∨ (m : Int) > m) := by
  simp only [Bool.or_eq_true, decide_eq_true_eq]
  omega
 rw [if_neg (by simpa using hcond)]
 simp only [Sem.run_bind, Result.andThen_ok, hask, hsz, Int.toNat_natCast]
 have := hcells (m * k) rfl
 by_cases h0 : m * k = 0
 ·rw [if_pos h0] at this ⊢
  simp only [Sem.run_pure, Result.andThen_ok, Sem.run_bind, hrow, this]
 ·rw [if_neg h0] at this ⊢
  simp only [Sem.run_pure, Result.andThen_ok, Sem.run_bind, hzero, hz, hrow, this]
def sMake (T : Tab) (E : List (Nat × AV)) (M : List Blk) (oc : Option Orc) (t : TypeId) (x y : Operand) : Option Out :=
 match tEl T t, intA (evA E x), intA (evA E y), oc with
 | some (e, k, b, z), some (.i64, n), some (.i64, n'), some (.n m) => some ⟨[n = (m : Int), n' = (m : Int), b * m ≤ 281474976710656, m < 4611686018427387904], .sl M.length m, M ++ [.rw e k (List.replicate m (z.map .v))], [], [], none⟩
 | _, _, _, _ => none
theorem plain_cell {K : World → Prop} {z : List Value} {j : Nat} {c : DV} {x : Value} (h1 : (z.map DV.v)[j]? = some c) (h2 : z[j]? = some x) : DRel K c x [] := by
 rw [List.getElem?_map, h2, Option.map_some, Option.some.injEq] at h1
 subst h1; exact .v x
theorem layF_nil (n k : Nat) : layF n k (fun _ _ => []) = [] := by simp [layF]
theorem sMake_ok (hT : tabB P T = true) {t : TypeId} {x y : Operand} (h : sMake T E M oc t x y = some out) : Does P ⟨d, .makeSlice t x y, ty, pos, aft, gd⟩ E M out := by
 unfold sMake at h
 split at h
 ·rename_i e k b z n n' m he hx hy
  simp only [Option.some.injEq] at h; subst h
  obtain ⟨zv, ok, hz, hzl⟩ := tEl_ok hT he
  intro D w0 K0 β F I ρ w C hv
  obtain ⟨rfl, rfl, hb, hm, -⟩ := hv
  refine OpY.pure (v := .slice (some ⟨w.heap.size, 0, none⟩) m m) (w' := w.alloc (.cells (lay m fun _ => z).toArray e)) (by simp only [execOp, C.int hx, C.int hy, Sem.run_bind, run_makeSlice ok hz hzl hb hm, Result.andThen_ok, Sem.run_pure]) ?_
  have hll := lay_len (n := m) (k := k) (X := fun _ => z) (fun _ _ => hzl)
  refine ⟨_, _, I, C.rm.new (q := (some ⟨w.heap.size, 0, none⟩, m)) (Gr.alloc w _) (NewF.alloc w _) ?_, (Ext.app _ _).b _, Grows.refl _, updF_ne _ _, .sl (new_at C.rm _)⟩
  have := BRel.rw (K := fun w => K0 w ∧ Holds w I) (β := β ++ [(some ⟨w.heap.size, 0, none⟩, m)]) (u := M.length) (T := e) (k := k) (rows := List.replicate m (z.map .v)) (H0 := [(w.heap.size, .cells (lay m fun _ => z).toArray e (0, 0))]) (new_at C.rm _) (fun _ => z) (fun _ _ => []) (fun i r hi => by
   rw [List.getElem?_replicate] at hi
   split at hi
   ·simp only [Option.some.injEq] at hi; subst hi; rw [List.length_map]; exact ⟨hzl, hzl⟩
   ·simp at hi) (by
    rw [List.length_replicate]
    exact ⟨hll, Or.inr ⟨w.heap.size, m, _, rfl, rfl, by simpa using hll, Nat.le_refl _, by rw [← hll]; simp⟩⟩) (fun i r j c x hi h1 h2 => by
    rw [List.getElem?_replicate] at hi
    split at hi
    ·simp only [Option.some.injEq] at hi; subst hi; exact plain_cell h1 h2
    ·simp at hi)
  rw [layF_nil, List.append_nil] at this
  exact this
 ·simp at h
theorem lay_ext {n : Nat} {X Y : Nat → List Value} (h : ∀ i, i < n → X i = Y i) : lay n X = lay n Y := by
 simp only [lay, List.flatMap_def]; congr 1
 exact List.map_congr_left fun i hi => h i (List.mem_range.1 hi)
theorem lay_app (n m : Nat) (X Y : Nat → List Value) : lay (n + m) (fun i => if i < n then X i else Y (i - n)) = lay n X ++ lay m Y := by
 simp only [lay]
 rw [List.range_add, List.flatMap_append, List.flatMap_map]
 congr 1
 ·simp only [List.flatMap_def]; congr 1; exact List.map_congr_left fun i hi => by have := List.mem_range.1 hi; simp [this]
 ·simp only [List.flatMap_def]; congr 1; exact List.map_congr_left fun i hi => by
   show (if n + i < n then X (n + i) else Y (n + i - n)) = Y i
   rw [if_neg (by omega), Nat.add_sub_cancel_left]
theorem layF_app (n m k : Nat) (X Y : Nat → Nat → Frag) : layF (n + m) k (fun i => if i < n then X i else Y (i - n)) = layF n k X ++ layF m k Y := by
 simp only [layF]
 rw [List.range_add, List.flatMap_append, List.flatMap_map]
 congr 1
 ·simp only [List.flatMap_def]; congr 1; exact List.map_congr_left fun i hi => by have := List.mem_range.1 hi; simp [this]
 ·simp only [List.flatMap_def]; congr 1; exact List.map_congr_left fun i hi => by
   show (List.range k).flatMap (if n + i < n then X (n + i) else Y (n + i - n)) = (List.range k).flatMap (Y i)
   rw [if_neg (by omega), Nat.add_sub_cancel_left]
structure RowsAt (K : World → Prop) (k : Nat) (rows : List (List DV)) (X : Nat → List Value) (G : Nat → Nat → Frag) : Prop where
 hl : ∀ (i : Nat) r, rows[i]? = some r → r.length = k ∧ (X i).length = k
 hr : ∀ (i : Nat) (r : List DV) (j : Nat) c x, rows[i]? = some r → r[j]? = some c → (X i)[j]? = some x → DRel K c x (G i j)
theorem RowsAt.app {K : World → Prop} {k : Nat} {r1 r2 : List (List DV)} {X Y : Nat → List Value} {G H : Nat → Nat → Frag} (h1 : RowsAt K k r1 X G) (h2 : RowsAt K k r2 Y H) : RowsAt K k (r1 ++ r2) (fun i => if i < r1.length then X i else Y (i - r1.length)) (fun i => if i < r1.length then G i else H (i - r1.length)) := by
 constructor
 ·intro i r hi
  rcases Nat.lt_or_ge i r1.length with h | h
  ·rw [List.getElem?_append_left h] at hi; simpa [h] using h1.hl i r hi
  ·rw [List.getElem?_append_right h] at hi; have h' : ¬ i < r1.length := by omega
   simpa [h'] using h2.hl _ r hi
 ·intro i r j c x hi hj hx
  rcases Nat.lt_or_ge i r1.length with h | h
  ·rw [List.getElem?_append_left h] at hi; simp only [h, if_true] at hx ⊢; exact h1.hr i r j c x hi hj hx
  ·rw [List.getElem?_append_right h] at hi; have h' : ¬ i < r1.length := by omega
   simp only [h', if_false] at hx ⊢; exact h2.hr _ r j c x hi hj hx
theorem RowsAt.one {K : World → Prop} {k : Nat} {rows : List (List DV)} {X : Nat → List Value} {G : Nat → Nat → Frag} (h : RowsAt K k rows X G) (ho : (rows.all fun r => r.all fun c => AV.one (.d c)) = true) : ∀ q ∈ lay rows.length X, oneC q = true := by
 intro q hq
 simp only [lay, List.mem_flatMap, List.mem_range] at hq
 obtain ⟨i, hi, hq⟩ := hq
 obtain ⟨j, hj, rfl⟩ := List.getElem_of_mem hq
 have hrow := List.getElem?_eq_getElem hi
 obtain ⟨e1, e2⟩ := h.hl i _ hrow
 have hc : rows[i][j]? = some rows[i][j] := List.getElem?_eq_getElem (by omega)
 have hd := h.hr i _ j _ _ hrow hc (List.getElem?_eq_getElem hj)
 have hone := List.all_eq_true.1 (List.all_eq_true.1 ho _ (List.mem_of_getElem? hrow)) _ (List.mem_of_getElem? hc)
 generalize rows[i][j] = c at hd hone
 generalize G i j = GG at hd
 cases c with
 | v x => cases hd; exact hone
 | jk => simp [AV.one] at hone
 | ro k rows => obtain ⟨a, n, c, hx⟩ := hd.slice (by simp); rw [hx]; rfl
 | em T k rows => obtain ⟨a, n, c, hx⟩ := hd.slice (by simp); rw [hx]; rfl
 | ag l => simp [AV.one] at hone
 | tu l => simp [AV.one] at hone
 | pb T l => generalize (X i)[j] = z at hd; cases hd; rfl
def OneR (rows : List (List DV)) : Prop := (rows.all fun r => r.all fun c => AV.one (.d c)) = true
def dstA (M : List Blk) (e k : Nat) : AV → Option (Option Nat × Nat × List (List DV))
 | .sl u n => (match M[u]? with | some (.rw e' k' rows) => bif e.beq e' && k.beq k' then some (some u, n, rows) else none | _ => none)
 | .d (.v (.slice none 0 0)) => some (none, 0, [])
 | _ => none
def srcA (M : List Blk) (k : Nat) : AV → Option (Option Nat × Nat × List (List DV))
 | .sl v m => (match M[v]? with | some (.rw _ k' rows) => bif k.beq k' then some (some v, m, rows) else none | _ => none)
 | .d (.ro k' rows) => bif k.beq k' then some (none, rows.length, rows) else none
 | .d (.v (.slice _ 0 _)) => some (none, 0, [])
 | _ => none
def clear1 (mv : List Nat) : AV → Bool
 | .d _ => true
 | .sl u _ => !(mv.elem u)
 | .sb u _ _ _ => !(mv.elem u)
 | .sf u _ _ _ _ => !(mv.elem u)
 | .pt u _ => !(mv.elem u)
 | .mv u => !(mv.elem u)
 | .yl u => !(mv.elem u)
 | .ep u _ _ _ => !(mv.elem u)
 | .rp _ _ => true
 | .bt _ => true
 | .uk => true
 | _ => false
def clear2 (mv : List Nat) : AV → Bool
 | .fn _ l => l.all (clear1 mv)
 | .fm _ l => l.all (clear1 mv)
 | .ag l => l.all (clear1 mv)
 | .tu l => l.all (clear1 mv)
 | c => clear1 mv c
theorem clear1_ok {K : World → Prop} {β β' : Beta} {mv : List Nat} (e : ExtB mv β β') {v : AV} (hc : clear1 mv v = true) {y : Value} (r : ARel K β v y) : ARel K β' v y := by
 cases r with
 | d h => exact .d h
 | sl h => refine .sl (e _ _ ?_ h); intro hm; simp [clear1, hm] at hc
 | sb h => refine .sb (e _ _ ?_ h); intro hm; simp [clear1, hm] at hc
 | sf h h1 h2 h3 => refine .sf (e _ _ ?_ h) h1 h2 h3; intro hm; simp [clear1, hm] at hc
 | pt h => refine .pt (e _ _ ?_ h); intro hm; simp [clear1, hm] at hc
 | mv h => refine .mv (e _ _ ?_ h); intro hm; simp [clear1, hm] at hc
 | yl h => refine .yl (e _ _ ?_ h); intro hm; simp [clear1, hm] at hc
 | ep h => refine .ep (e _ _ ?_ h); intro hm; simp [clear1, hm] at hc
 | rp a X hl hcc hr => exact .rp a X hl hcc hr
 | bt hd hn => exact .bt hd hn
 | uk hu => exact .uk hu
 | fn => simp [clear1] at hc
 | fm => simp [clear1] at hc
 | ag => simp [clear1] at hc
 | tu => simp [clear1] at hc
theorem clear2_ok {K : World → Prop} {β β' : Beta} {mv : List Nat} (e : ExtB mv β β') {v : AV} (hc : clear2 mv v = true) {y : Value} (r : ARel K β v y) : ARel K β' v y := by
 have key : ∀ {l : List AV} {ys : List Value}, l.all (clear1 mv) = true → (∀ (j : Nat) c y, l[j]? = some c → ys[j]? = some y → ARel K β c y) → ∀ (j : Nat) c y, l[j]? = some c → ys[j]? = some y → ARel K β' c y := by
  intro l ys ha h j c y h1 h2
  exact clear1_ok e (List.all_eq_true.1 ha c (List.mem_of_getElem? h1)) (h j c y h1 h2)
 cases r with
 | fn ys hl hr => exact .fn ys hl (key hc hr)
 | fm ys hl hr => exact .fm ys hl (key hc hr)
 | ag ys hl hr => exact .ag ys hl (key hc hr)
 | tu ys hl hr => exact .tu ys hl (key hc hr)
 | d h => exact .d h
 | sl h => exact clear1_ok (v := .sl _ _) e hc (.sl h)
 | sb h => exact clear1_ok (v := .sb _ _ _ _) e hc (.sb h)
 | sf h h1 h2 h3 => exact clear1_ok (v := .sf _ _ _ _ _) e hc (.sf h h1 h2 h3)
 | pt h => exact clear1_ok (v := .pt _ _) e hc (.pt h)
 | mv h => exact clear1_ok (v := .mv _) e hc (.mv h)
 | yl h => exact clear1_ok (v := .yl _) e hc (.yl h)
 | ep h => exact clear1_ok (v := .ep _ _ _ _) e hc (.ep h)
 | rp a X hl hcc hr => exact .rp a X hl hcc hr
 | bt hd hn => exact .bt hd hn
 | uk hu => exact .uk hu
def killB (mv : List Nat) : Blk → Blk
 | .bx T cs => .bx T (cs.map fun c => bif clear2 mv c then c else .d .jk)
 | .rw T k rows => .rw T k rows
 | .tw a c T k rows => .tw a c T k rows
 | .mp T c es => .mp T c es
 | .mu T c es => .mu T c es
 | .it (some v) a s c => bif mv.elem v then .it none a s c else .it (some v) a s c
 | .it none a s c => .it none a s c
 | .lp b f sz E rf => .lp b f sz (E.map fun x => (x.1, bif clear2 mv x.2 then x.2 else .d .jk)) rf
 | .nm v b => bif mv.elem v then .dead else .nm v b
 | .gw g row => .gw g row
 | .il (some v) s l c => bif mv.elem v then .il none s l c else .il (some v) s l c
 | .il none s l c => .il none s l c
 | .fl T k m cs => .fl T k m (cs.map fun c => bif clear2 mv c then c else .d .jk)
 | .mf T c es => .mf T c (es.map fun e => (e.1, e.2.1, bif clear2 mv e.2.2 then e.2.2 else .d .jk))
 | .dead => .dead
theorem BRel.kill {K : World → Prop} {β β' : Beta} {mv : List Nat} (e : ExtB mv β β') {u : Nat} (hu : u ∉ mv) {blk : Blk} {H : Frag} (r : BRel K β u blk H) : BRel K β' u (killB mv blk) H := by
 cases r with
 | dead => exact .dead u
 | bx hb ys hl hr =>
  refine .bx (e _ _ hu hb) ys (by rw [List.length_map]; exact hl) fun j c y h1 h2 => ?_
  rw [List.getElem?_map, Option.map_eq_some_iff] at h1
  obtain ⟨c', h1, rfl⟩ := h1
  cases hc : clear2 mv c' with
  | true => exact clear2_ok e hc (hr j c' y h1 h2)
  | false => exact .d (.jk _)
 | rw hb X G hl hs hr => exact .rw (e _ _ hu hb) X G hl hs hr
 | tw hb X G hl hs hr => exact .tw (e _ _ hu hb) X G hl hs hr
 | gw X hl hc hr => exact .gw X hl hc hr
 | @nm v b c hb =>
  cases hv : mv.elem v with
  | true => simp only [killB, hv, cond_true]; exact .dead u
  | false => simp only [killB, hv, cond_false]; exact .nm (e _ _ (by simpa using hv) hb)
 | fl hb ys hl hm hc0 hr =>
  refine .fl (e _ _ hu hb) ys hl (by rw [List.length_map]; exact hm) hc0 fun j c y h1 h2 => ?_
  rw [List.getElem?_map, Option.map_eq_some_iff] at h1
  obtain ⟨c', h1, rfl⟩ := h1
  cases hc : clear2 mv c' with
  | true => exact clear2_ok e hc (hr j c' y h1 h2)
  | false => exact .d (.jk _)
 | @mf _ _ Tm ck0 es0 hb vs hl hr =>
  have hh := BRel.mf (K := K) (T := Tm) (ck := ck0) (u := u) (e _ _ hu hb) vs (by rw [List.length_map]; exact hl) (es := List.map (fun (e : Nat × MK × AV) => (e.1, e.2.1, bif clear2 mv e.2.2 then e.2.2 else AV.d .jk)) es0) (fun j c y h1 h2 => by
   rw [List.getElem?_map, Option.map_eq_some_iff] at h1
   obtain ⟨c', h1, rfl⟩ := h1
   dsimp only
   cases hc : clear2 mv c'.2.2 with
   | true => exact clear2_ok e hc (hr j c' y h1 h2)
   | false => exact .d (.jk _))
  rw [mEsA_map (fun (e : Nat × MK × AV) => (e.1, e.2.1, bif clear2 mv e.2.2 then e.2.2 else AV.d .jk)) (fun _ => ⟨rfl, rfl⟩)] at hh
  exact hh
 | mp hb vs G hl hr => exact .mp (e _ _ hu hb) vs G hl hr
 | mu es' hp hn hlt hb vs G hl hr => exact .mu es' hp hn hlt (e _ _ hu hb) vs G hl hr
 | lp hb hsz hr =>
  refine .lp (e _ _ hu hb) hsz fun x hx => ?_
  obtain ⟨x0, hx0, rfl⟩ := List.mem_map.1 hx
  cases hc : clear2 mv x0.2 with
  | true => simp only [hc, cond_true]; exact clear2_ok e hc (hr x0 hx0)
  | false => simp only [hc, cond_false]; exact .d (.jk _)
 | @il b bm c since last ck um seen hb hm =>
  cases um with
  | none => exact .il (bm := bm) (seen := seen) (e _ _ hu hb) (fun v hv => by cases hv)
  | some v =>
   cases hv : mv.elem v with
   | true =>
    have e1 : killB mv (.il (some v) since last ck) = .il none since last ck := by simp only [killB, hv, cond_true]
    rw [e1]
    exact .il (bm := bm) (seen := seen) (e _ _ hu hb) (fun v hv => by cases hv)
   | false =>
    have e1 : killB mv (.il (some v) since last ck) = .il (some v) since last ck := by simp only [killB, hv, cond_false]
    rw [e1]
    refine .il (bm := bm) (seen := seen) (e _ _ hu hb) (fun v' hv' => ?_)
    cases hv'
    obtain ⟨c', h'⟩ := hm v rfl
    exact ⟨c', e _ _ (fun hm' => by simp [hm'] at hv) h'⟩
 | @it b bm c since ck um seen hb hm =>
  cases um with
  | none => exact .it (bm := bm) (e _ _ hu hb) (fun v hv => by cases hv)
  | some v =>
   cases hv : mv.elem v with
   | true =>
    have e1 : killB mv (.it (some v) since seen ck) = .it none since seen ck := by simp only [killB, hv, cond_true]
    rw [e1]
    exact .it (bm := bm) (e _ _ hu hb) (fun v hv => by cases hv)
   | false =>
    have e1 : killB mv (.it (some v) since seen ck) = .it (some v) since seen ck := by simp only [killB, hv, cond_false]
    rw [e1]
    refine .it (bm := bm) (e _ _ hu hb) (fun v' hv' => ?_)
    cases hv'
    obtain ⟨c', h'⟩ := hm v rfl
    exact ⟨c', e _ _ (fun hm' => by simp [hm'] at hv) h'⟩
theorem RMx.move {X Y : Frag} (R : RMx D w0 K0 M β F I X w) {w' : World} (st : St D w0 w' ((List.range M.length).flatMap F ++ (I ++ Y))) : RMx D w0 K0 M β F I Y w' := ⟨R.len, R.blk, st⟩
theorem extB_set (β : Beta) (u : Nat) (q : Option Addr × Nat) : ExtB [u] β (β.set u q) := by
 intro v x hv hx
 rw [List.getElem?_set, if_neg (fun e => hv (by simp [e]))]; exact hx
theorem RMx.renew {X Y : Frag} (R : RMx D w0 K0 M β F I (X ++ Y) w) {u : Nat} (hu : u < M.length) (hF : F u = []) {q : Option Addr × Nat} {blk : Blk} (hb : BRel (fun w => K0 w ∧ Holds w I) (β.set u q) u blk X) :
  RMx D w0 K0 ((M.map (killB [u])).set u blk) (β.set u q) (updF F u X) I Y w where
 len := by rw [List.length_set, List.length_set, List.length_map]; exact R.len
 blk := by
  intro v bl hv
  rw [List.getElem?_set] at hv
  by_cases e : u = v
  ·subst e
   simp only [List.length_map, hu, if_pos, Option.some.injEq] at hv; subst hv
   simpa [updF] using hb
  ·rw [if_neg e, List.getElem?_map, Option.map_eq_some_iff] at hv
   obtain ⟨b0, h1, rfl⟩ := hv
   have : updF F u X v = F v := by simp only [updF]; rw [if_neg (fun h => e h.symm)]
   rw [this]
   exact (R.blk v b0 h1).kill (extB_set β u q) (by simp; exact fun h => e h.symm)
 st := by
  have hs := R.st
  rw [List.length_set, List.length_map, range_split hu]
  rw [range_split hu, hF] at hs
  have c1 : (List.range u).flatMap (updF F u X) = (List.range u).flatMap F := flat_ext fun a ha => by have := List.mem_range.1 ha; simp [updF]; omega
  have c2 : (List.range' (u + 1) (M.length - (u + 1))).flatMap (updF F u X) = (List.range' (u + 1) (M.length - (u + 1))).flatMap F := flat_ext fun a ha => by have := (List.mem_range'_1.1 ha).1; simp [updF]; omega
  have hu' : updF F u X u = X := by simp [updF]
  rw [c1, c2, hu']
  exact hs.perm (by classical rw [List.perm_iff_count]; intro z; simp only [List.count_append, List.count_nil]; omega)
def numP (n m b : Nat) (rows2 : List (List DV)) : List Prop := [(2 * (n + m) + 0) * b ≤ 281474976710656, n + m < 4611686018427387904, OneR rows2]
def sApp (T : Tab) (E : List (Nat × AV)) (M : List Blk) (st xt : TypeId) (x y : Operand) : Option Out :=
 match tEl T st, tUn T xt, evA E x, evA E y with
 | some (e, k, b, _), some (.sl e'), some vx, some vy => bif e.beq e' then (match dstA M e k vx, srcA M k vy with
  | some (some u, n, rows), some (none, m, rows2) => some ⟨[n = rows.length] ++ numP n m b rows2, .sl u (n + m), (M.map (killB [u])).set u (.rw e k (rows ++ rows2)), [u], [u], none⟩
  | some (none, _, _), some (none, m, rows2) => some ⟨numP 0 m b rows2, .sl M.length m, M ++ [.rw e k rows2], [], [], none⟩
  | some (some u, n, rows), some (some v, m, rows2) => bif !(u.beq v) then some ⟨[n = rows.length, m = rows2.length] ++ numP n m b rows2, .sl u (n + m), ((M.set v .dead).map (killB [u])).set u (.rw e k (rows ++ rows2)), [u, v], [u], none⟩ else none
  | some (none, _, _), some (some v, m, rows2) => some ⟨[m = rows2.length] ++ numP 0 m b rows2, .sl M.length m, (M.set v .dead) ++ [.rw e k rows2], [v], [], none⟩
  | _, _ => none) else none
 | _, _, _, _ => none
theorem dstA_some {e k u n : Nat} {rows : List (List DV)} {v : AV} (h : dstA M e k v = some (some u, n, rows)) : v = .sl u n ∧ M[u]? = some (.rw e k rows) := by
 unfold dstA at h
 split at h
 ·rename_i u' n'
  split at h
  ·rename_i e' k' rows' hM
   cases hb : (e.beq e' && k.beq k') with
   | false => simp [hb] at h
   | true =>
    simp only [hb, cond_true, Option.some.injEq, Prod.mk.injEq] at h
    obtain ⟨rfl, rfl, rfl⟩ := h
    simp only [Bool.and_eq_true] at hb
    obtain rfl := Nat.eq_of_beq_eq_true hb.1
    obtain rfl := Nat.eq_of_beq_eq_true hb.2
    exact ⟨rfl, hM⟩
  ·simp at h
 ·simp at h
 ·simp at h
theorem dstA_none {e k n : Nat} {rows : List (List DV)} {v : AV} (h : dstA M e k v = some (none, n, rows)) : v = .d (.v (.slice none 0 0)) := by
 unfold dstA at h
 split at h
 ·split at h
  ·rename_i e' k' rows' hM
   cases hb : (e.beq e' && k.beq k') <;> simp [hb] at h
  ·simp at h
 ·rfl
 ·simp at h
theorem srcA_some {k u m : Nat} {rows : List (List DV)} {v : AV} (h : srcA M k v = some (some u, m, rows)) : v = .sl u m ∧ ∃ T, M[u]? = some (.rw T k rows) := by
 unfold srcA at h
 split at h
 ·split at h
  ·rename_i T k' rows' hM
   cases hb : k.beq k' with
   | false => simp [hb] at h
   | true =>
    simp only [hb, cond_true, Option.some.injEq, Prod.mk.injEq] at h
    obtain ⟨rfl, rfl, rfl⟩ := h
    obtain rfl := Nat.eq_of_beq_eq_true hb
    exact ⟨rfl, T, hM⟩
  ·simp at h
 ·rename_i k' rows'
  cases hb : k.beq k' <;> simp [hb] at h
 ·simp at h
 ·simp at h
theorem srcA_none {k m : Nat} {rows : List (List DV)} {v : AV} (h : srcA M k v = some (none, m, rows)) : (v = .d (.ro k rows) ∨ rows = [] ∧ ∃ a c, v = .d (.v (.slice a 0 c))) ∧ m = rows.length := by
 unfold srcA at h
 split at h
 ·split at h
  ·rename_i T k' rows' hM
   cases hb : k.beq k' <;> simp [hb] at h
  ·simp at h
 ·rename_i k' rows'
  cases hb : k.beq k' with
  | false => simp [hb] at h
  | true =>
   simp only [hb, cond_true, Option.some.injEq, Prod.mk.injEq] at h
   obtain ⟨-, rfl, rfl⟩ := h
   obtain rfl := Nat.eq_of_beq_eq_true hb
   exact ⟨Or.inl rfl, rfl⟩
 ·simp only [Option.some.injEq, Prod.mk.injEq] at h
  obtain ⟨-, rfl, rfl⟩ := h
  exact ⟨Or.inr ⟨rfl, _, _, rfl⟩, rfl⟩
 ·simp at h
theorem app_own (hT : tabB P T = true) {st xt e k b : Nat} {z : List Value} (he : tEl T st = some (e, k, b, z)) {x y : Operand} {v u' : Value} {n m u : Nat} {H0 L1 S : Frag} {rows rows2 : List (List DV)} {X1 X2 : Nat → List Value} {G1 G2 : Nat → Nat → Frag}
  (hvx : ρ x = v) (hvy : ρ y = u') (R : RMx D w0 K0 M β F I ((H0 ++ L1) ++ S) w) (hu : u < M.length) (hF : F u = [])
  (hs : SlRep e k v n (lay n X1) H0) (hn : n = rows.length) (hm : m = rows2.length) (a1 : RowsAt (fun w => K0 w ∧ Holds w I) k rows X1 G1) (hL : L1 = layF n k G1) (a2 : RowsAt (fun w => K0 w ∧ Holds w I) k rows2 X2 G2) (hS : S = layF m k G2) (hsrc : AppSrc P xt w k u' m (lay m X2))
  (hroom : (2 * (n + m) + 0) * b ≤ 281474976710656) (hbig : n + m < 4611686018427387904) (hone : OneR rows2) :
  OpY P ⟨d, .call ⟨.builtin .append, #[x, y], #[st, xt]⟩, ty, pos, aft, gd⟩ ρ w fun v' w' => ∃ β' F', RM D w0 K0 ((M.map (killB [u])).set u (.rw e k (rows ++ rows2))) β' F' I w' ∧ ExtB [u] β β' ∧ (∀ x, x ≠ u → F' x = F x) ∧ ARel (fun w => K0 w ∧ Holds w I) β' (.sl u (n + m)) v' := by
 obtain ⟨zv, ok, -, -⟩ := tEl_ok hT he
 subst hn hm
 have hst : St D w0 w (H0 ++ (L1 ++ (S ++ ((List.range M.length).flatMap F ++ I)))) := R.st.perm (by classical rw [List.perm_iff_count]; intro z; simp only [List.count_append]; omega)
 refine y_appendG ok hvx hvy hst hs hsrc (a2.one hone) hroom hbig fun v' w' H' hs' st' => ?_
 obtain ⟨a, c, rfl⟩ := hs'.len
 have aa := a1.app a2
 have hlay := lay_app rows.length rows2.length X1 X2
 rw [← hlay] at hs'
 have hlf := layF_app rows.length rows2.length k G1 G2
 have hq : (β.set u (a, c))[u]? = some (a, c) := by rw [List.getElem?_set]; simp [R.len, hu]
 have hb : BRel (fun w => K0 w ∧ Holds w I) (β.set u (a, c)) u (.rw e k (rows ++ rows2)) (H' ++ layF (rows ++ rows2).length k (fun i => if i < rows.length then G1 i else G2 (i - rows.length))) :=
  .rw hq _ _ aa.hl (by rw [List.length_append]; exact hs') aa.hr
 rw [List.length_append, hlf, ← hL, ← hS] at hb
 have R2 : RMx D w0 K0 M β F I ((H' ++ (L1 ++ S)) ++ []) w' := R.move (st'.perm (by classical rw [List.perm_iff_count]; intro z; simp only [List.count_append, List.count_nil]; omega))
 have R3 := R2.renew hu hF hb
 exact ⟨_, _, R3.nil rfl, extB_set β u _, fun x hx => by simp only [updF]; rw [if_neg hx], .sl hq⟩
theorem app_new (hT : tabB P T = true) {st xt e k b : Nat} {z : List Value} (he : tEl T st = some (e, k, b, z)) {x y : Operand} {u' : Value} {m : Nat} {S : Frag} {rows2 : List (List DV)} {X2 : Nat → List Value} {G2 : Nat → Nat → Frag}
  (hvx : ρ x = .slice none 0 0) (hvy : ρ y = u') (R : RMx D w0 K0 M β F I S w) (hm : m = rows2.length) (a2 : RowsAt (fun w => K0 w ∧ Holds w I) k rows2 X2 G2) (hS : S = layF m k G2) (hsrc : AppSrc P xt w k u' m (lay m X2))
  (hroom : (2 * (0 + m) + 0) * b ≤ 281474976710656) (hbig : 0 + m < 4611686018427387904) (hone : OneR rows2) :
  OpY P ⟨d, .call ⟨.builtin .append, #[x, y], #[st, xt]⟩, ty, pos, aft, gd⟩ ρ w fun v' w' => ∃ β' F', RM D w0 K0 (M ++ [.rw e k rows2]) β' F' I w' ∧ Ext β β' ∧ (∀ x, x < M.length → F' x = F x) ∧ ARel (fun w => K0 w ∧ Holds w I) β' (.sl M.length m) v' := by
 obtain ⟨zv, ok, -, -⟩ := tEl_ok hT he
 subst hm
 have hst : St D w0 w ([] ++ (S ++ ((List.range M.length).flatMap F ++ I))) := R.st.perm (by classical rw [List.perm_iff_count]; intro z; simp only [List.count_append, List.nil_append]; omega)
 refine y_appendG ok hvx hvy hst (SlRep.nil e k none) hsrc (a2.one hone) hroom hbig fun v' w' H' hs' st' => ?_
 obtain ⟨a, c, rfl⟩ := hs'.len
 rw [List.nil_append, Nat.zero_add] at hs'
 rw [Nat.zero_add]
 have hq : (β ++ [(a, c)])[M.length]? = some (a, c) := by rw [← R.len]; simp
 have hb : BRel (fun w => K0 w ∧ Holds w I) (β ++ [(a, c)]) M.length (.rw e k rows2) (H' ++ layF rows2.length k G2) := .rw hq _ _ a2.hl hs' a2.hr
 rw [← hS] at hb
 have R2 : RMx D w0 K0 M β F I ((H' ++ S) ++ []) w' := R.move (st'.perm (by classical rw [List.perm_iff_count]; intro z; simp only [List.count_append, List.count_nil]; omega))
 have R3 := R2.take hb
 exact ⟨_, _, R3.nil rfl, Ext.app _ _, fun x hx => by simp [updF]; omega, .sl hq⟩
theorem set_map_set {u : Nat} {f : Blk → Blk} {b b' : Blk} : ((M.set u b).map f).set u b' = (M.map f).set u b' := by rw [List.map_set, List.set_set]
theorem rows_own (R : RM D w0 K0 M β F I w) {u n e k : Nat} {rows : List (List DV)} (hM : M[u]? = some (.rw e k rows)) (hn : n = rows.length) {y : Value} (r : ARel (fun w => K0 w ∧ Holds w I) β (.sl u n) y) :
  ∃ X G H0, F u = H0 ++ layF n k G ∧ SlRep e k y n (lay n X) H0 ∧ RowsAt (fun w => K0 w ∧ Holds w I) k rows X G ∧ Holds w H0 := by
 subst hn
 obtain ⟨H, hF, hB, hH⟩ := R.at hM
 cases r with
 | sl hb =>
  cases hB with
  | rw hb' X G hl hs hr =>
   rw [hb] at hb'; cases hb'
   exact ⟨X, G, _, hF, hs, ⟨hl, hr⟩, (Holds.app.1 hH).1⟩
theorem rows_ro {K : World → Prop} (hk : K w) {k : Nat} {rows : List (List DV)} {y : Value} (r : ARel K β (.d (.ro k rows)) y) : ∃ X, RowsAt K k rows X (fun _ _ => []) ∧ Src w k y rows.length (lay rows.length X) := by
 cases r with | d r => cases r with | ro X hl hy hs hr => exact ⟨X, ⟨hl, hr⟩, hs w hk⟩
theorem rows_src {K : World → Prop} (hk : K w) {k : Nat} {rows : List (List DV)} {v : AV} (hv : v = .d (.ro k rows) ∨ rows = [] ∧ ∃ a c, v = .d (.v (.slice a 0 c))) {y : Value} (r : ARel K β v y) : ∃ X, RowsAt K k rows X (fun _ _ => []) ∧ Src w k y rows.length (lay rows.length X) := by
 rcases hv with rfl | ⟨rfl, a, c, rfl⟩
 ·exact rows_ro hk r
 ·cases r with | d r => cases r; exact ⟨fun _ => [], ⟨by simp, by simp⟩, by simp [lay], Or.inl ⟨rfl, a, c, rfl⟩⟩
theorem sApp_ok (hT : tabB P T = true) {st xt : TypeId} {x y : Operand} (h : sApp T E M st xt x y = some out) : Does P ⟨d, .call ⟨.builtin .append, #[x, y], #[st, xt]⟩, ty, pos, aft, gd⟩ E M out := by
 unfold sApp at h
 split at h
 ·rename_i e k b z e' vx vy he hu hx hy
  cases hee : e.beq e' with
  | false => simp [hee] at h
  | true =>
   simp only [hee, cond_true] at h
   obtain rfl := Nat.eq_of_beq_eq_true hee
   split at h
   ·rename_i u n rows m rows2 hd hs
    simp only [Option.some.injEq] at h; subst h
    obtain ⟨rfl, hM⟩ := dstA_some hd
    obtain ⟨hsv, hm⟩ := srcA_none hs
    intro D w0 K0 β F I ρ w C hv
    obtain ⟨hn, h1, h2, h3, -⟩ := hv
    obtain ⟨X1, G1, H0, hF, hsl, a1, -⟩ := rows_own C.rm hM hn (C.ev hx)
    obtain ⟨X2, a2, hsrc⟩ := rows_src C.now hsv (C.ev hy)
    subst hm
    have R1 := C.rm.x.give hM
    rw [hF, List.nil_append] at R1
    have hlt : u < (M.set u .dead).length := by rw [List.length_set]; exact lt_of_some hM
    refine (app_own hT he rfl rfl (R1.perm (Y := (H0 ++ layF n k G1) ++ []) (by rw [List.append_nil])) hlt (by simp [updF]) hsl hn rfl a1 rfl a2 (by rw [layF_nil]) (hsrc.app (tUn_ok hT hu)) h1 h2 h3).mono ?_
    rintro v' w' ⟨β', F', R', hE, hFF, hr⟩
    rw [set_map_set] at R'
    exact ⟨β', F', I, R', hE, Grows.refl _, fun q _ hq => by have hq' : q ≠ u := (by simpa using hq); rw [hFF q hq']; simp only [updF]; rw [if_neg hq'], hr⟩
   ·rename_i n0 r0 m rows2 hd hs
    simp only [Option.some.injEq] at h; subst h
    obtain rfl := dstA_none hd
    obtain ⟨hsv, hm⟩ := srcA_none hs
    intro D w0 K0 β F I ρ w C hv
    obtain ⟨h1, h2, h3, -⟩ := hv
    obtain ⟨X2, a2, hsrc⟩ := rows_src C.now hsv (C.ev hy)
    subst hm
    have hvx : ρ x = .slice none 0 0 := by have := C.ev hx; generalize ρ x = q at this; cases this with | d r => cases r; rfl
    refine (app_new hT he hvx rfl C.rm.x rfl a2 (by rw [layF_nil]) (hsrc.app (tUn_ok hT hu)) h1 h2 h3).mono ?_
    rintro v' w' ⟨β', F', R', hE, hFF, hr⟩
    exact ⟨β', F', I, R', hE.b _, Grows.refl _, fun q hq _ => hFF q hq, hr⟩
   ·rename_i u n rows v m rows2 hd hs
    cases huv : u.beq v with
    | true => simp [huv] at h
    | false =>
     simp only [huv, Bool.not_false, cond_true, Option.some.injEq] at h; subst h
     have hne : u ≠ v := fun e => by subst e; simp at huv
     obtain ⟨rfl, hM⟩ := dstA_some hd
     obtain ⟨rfl, T2, hM2⟩ := srcA_some hs
     intro D w0 K0 β F I ρ w C hv
     obtain ⟨hn, hm, h1, h2, h3, -⟩ := hv
     obtain ⟨X1, G1, H0, hF, hsl, a1, -⟩ := rows_own C.rm hM hn (C.ev hx)
     obtain ⟨X2, G2, H2, hF2, hsl2, a2, hH2⟩ := rows_own C.rm hM2 hm (C.ev hy)
     have hsrc := hsl2.src hH2
     have R1 := C.rm.x.give hM2
     have hMu : (M.set v .dead)[u]? = some (.rw e k rows) := by rw [List.getElem?_set, if_neg (fun e => hne e.symm)]; exact hM
     have R2 := R1.give hMu
     have hFu : updF F v [] u = F u := by simp only [updF]; rw [if_neg hne]
     rw [hFu, hF, hF2, List.nil_append] at R2
     have R3 := (R2.perm (Y := (H0 ++ layF n k G1) ++ (layF m k G2) ++ H2) (by classical rw [List.perm_iff_count]; intro z; simp only [List.count_append]; omega)).drop
     have hlt : u < ((M.set v .dead).set u .dead).length := by rw [List.length_set, List.length_set]; exact lt_of_some hM
     refine (app_own hT he rfl rfl R3 hlt (by simp [updF]) hsl hn hm a1 rfl a2 rfl (hsrc.app (tUn_ok hT hu)) h1 h2 h3).mono ?_
     rintro v' w' ⟨β', F', R', hE, hFF, hr⟩
     rw [set_map_set] at R'
     refine ⟨β', F', I, R', hE, Grows.refl _, fun q _ hq => ?_, hr⟩
     simp only [List.mem_cons, List.not_mem_nil, or_false, not_or] at hq
     rw [hFF q hq.1]; simp only [updF]; rw [if_neg hq.1, if_neg hq.2]
   ·rename_i n0 r0 v m rows2 hd hs
    simp only [Option.some.injEq] at h; subst h
    obtain rfl := dstA_none hd
    obtain ⟨rfl, T2, hM2⟩ := srcA_some hs
    intro D w0 K0 β F I ρ w C hv
    obtain ⟨hm, h1, h2, h3, -⟩ := hv
    obtain ⟨X2, G2, H2, hF2, hsl2, a2, hH2⟩ := rows_own C.rm hM2 hm (C.ev hy)
    have hsrc := hsl2.src hH2
    have R1 := C.rm.x.give hM2
    rw [hF2, List.nil_append] at R1
    have R3 := (R1.perm (Y := layF m k G2 ++ H2) List.perm_append_comm).drop
    have hvx : ρ x = .slice none 0 0 := by have := C.ev hx; generalize ρ x = q at this; cases this with | d r => cases r; rfl
    refine (app_new hT he hvx rfl R3 hm a2 rfl (hsrc.app (tUn_ok hT hu)) h1 h2 h3).mono ?_
    rintro v' w' ⟨β', F', R', hE, hFF, hr⟩
    rw [List.length_set] at hr hFF
    refine ⟨β', F', I, R', hE.b _, Grows.refl _, fun q hq hqv => ?_, hr⟩
    rw [hFF q hq]; simp only [updF]; rw [if_neg (by simpa using hqv)]
   ·simp at h
 ·simp at h
end Go.Proofs.Ytikmdkicccfjpaa
namespace Go.Proofs.Ytikmdkicccfjpaa
open Go.RowKit
variable {P : Program} {T : Tab} {D : List Nat} {w0 : World} {K0 : World → Prop} {E : List (Nat × AV)} {M : List Blk} {β : Beta} {F : Nat → Frag} {I X : Frag} {ρ : Operand → Value} {w : World}
variable {d : Option Tmp} {ty : TypeId} {pos : String} {aft : Array Edge} {gd : Option (Nat × Bool)} {oc : Option Orc} {out : Out}
def ids1 : AV → List Nat
 | .sl u _ => [u]
 | _ => []
def idsL : List AV → List Nat
 | [] => []
 | c :: r => ids1 c ++ idsL r
theorem pack1_F (R : RMx D w0 K0 M β F I X w) {c : AV} {vc : List Prop} {x : DV} {M' : List Blk} (h : pack1 M c = some (vc, x, M')) (hv : AllP vc) {y : Value} (r : ARel (fun w => K0 w ∧ Holds w I) β c y) :
  M'.length = M.length ∧ ∃ F' H, RMx D w0 K0 M' β F' I (X ++ H) w ∧ DRel (fun w => K0 w ∧ Holds w I) x y H ∧ ∀ u, u ∉ ids1 c → F' u = F u := by
 unfold pack1 at h
 split at h
 ·simp only [Option.some.injEq, Prod.mk.injEq] at h; obtain ⟨rfl, rfl, rfl⟩ := h
  cases r with | d r => exact ⟨rfl, F, [], by rw [List.append_nil]; exact R, r, fun _ _ => rfl⟩
 ·rename_i u n
  split at h
  ·rename_i Tt k rows hM
   simp only [Option.some.injEq, Prod.mk.injEq] at h; obtain ⟨rfl, rfl, rfl⟩ := h
   obtain ⟨rfl, -⟩ := hv
   cases r with
   | sl hb =>
    have R' := R.give hM
    have hB := R.blk u _ hM
    refine ⟨by rw [List.length_set], _, F u, R', ?_, fun v hv => by simp only [updF]; rw [if_neg (by simpa [ids1] using hv)]⟩
    generalize F u = G0 at hB ⊢
    cases hB with
    | rw hb' X G hl hs hr => rw [hb] at hb'; cases hb'; exact .em X G hl hs hr
  ·simp at h
 ·simp at h
theorem packL_F : ∀ {l : List AV} {M : List Blk} {F : Nat → Frag} {X : Frag} {vc : List Prop} {xs : List DV} {M' : List Blk}, RMx D w0 K0 M β F I X w → packL M l = some (vc, xs, M') → AllP vc → ∀ {ys : List Value}, ys.length = l.length → (∀ (j : Nat) c y, l[j]? = some c → ys[j]? = some y → ARel (fun w => K0 w ∧ Holds w I) β c y) →
  M'.length = M.length ∧ ∃ F' H, RMx D w0 K0 M' β F' I (X ++ H) w ∧ DRelL (fun w => K0 w ∧ Holds w I) xs ys H ∧ ∀ u, u ∉ idsL l → F' u = F u
 | [], M, F, X, vc, xs, M', R, h, _, ys, hl, _ => by
  simp only [packL, Option.some.injEq, Prod.mk.injEq] at h; obtain ⟨rfl, rfl, rfl⟩ := h
  have : ys = [] := List.eq_nil_of_length_eq_zero hl
  subst this
  exact ⟨rfl, F, [], by rw [List.append_nil]; exact R, .nil, fun _ _ => rfl⟩
 | c :: r, M, F, X, vc, xs, M', R, h, hv, ys, hl, hr => by
  unfold packL at h
  split at h
  ·rename_i v x M1 h1
   split at h
   ·rename_i v' l' M2 h2
    simp only [Option.some.injEq, Prod.mk.injEq] at h; obtain ⟨rfl, rfl, rfl⟩ := h
    rw [AllP.app] at hv
    cases ys with
    | nil => simp at hl
    | cons y ys =>
     obtain ⟨l1, F1, H1, R1, d1, f1⟩ := pack1_F R h1 hv.1 (hr 0 c y rfl rfl)
     obtain ⟨l2, F2, H2, R2, d2, f2⟩ := packL_F R1 h2 hv.2 (ys := ys) (by simpa using hl) (fun j c' y' e1 e2 => hr (j + 1) c' y' (by simpa using e1) (by simpa using e2))
     refine ⟨by omega, F2, H1 ++ H2, by rw [← List.append_assoc]; exact R2, .cons d1 d2, fun u hu => ?_⟩
     simp only [idsL, List.mem_append, not_or] at hu
     exact (f2 u hu.2).trans (f1 u hu.1)
   ·simp at h
  ·simp at h
def chunk (k : Nat) : Nat → List DV → List (List DV)
 | 0, _ => []
 | n + 1, l => l.take k :: chunk k n (l.drop k)
theorem chunk_len (k : Nat) : ∀ (n : Nat) (l : List DV), (chunk k n l).length = n
 | 0, _ => rfl
 | n + 1, l => by simp [chunk, chunk_len k n]
theorem chunk_at (k : Nat) : ∀ (n : Nat) (l : List DV) (i : Nat), i < n → (chunk k n l)[i]? = some ((l.drop (i * k)).take k)
 | 0, _, _, h => by omega
 | n + 1, l, 0, _ => by simp [chunk]
 | n + 1, l, i + 1, h => by
  simp only [chunk, List.getElem?_cons_succ]
  rw [chunk_at k n _ i (by omega), List.drop_drop, Nat.succ_mul, Nat.add_comm]
theorem layF_flat (k : Nat) (G : Nat → Frag) : ∀ n, layF n k (fun i j => G (i * k + j)) = (List.range (n * k)).flatMap G := by
 intro n
 induction n with
 | zero => simp [layF]
 | succ n ih =>
  have : layF (n + 1) k (fun i j => G (i * k + j)) = layF n k (fun i j => G (i * k + j)) ++ (List.range k).flatMap fun j => G (n * k + j) := by simp [layF, List.range_succ, List.flatMap_append]
  rw [this, ih, Nat.succ_mul, List.range_add, List.flatMap_append, List.flatMap_map]
theorem lay_chunk (k : Nat) : ∀ (n : Nat) (ys : List Value), ys.length = n * k → lay n (fun i => (ys.drop (i * k)).take k) = ys := by
 intro n ys hl
 apply List.ext_getElem?
 intro p
 have hX : ∀ i, i < n → ((ys.drop (i * k)).take k).length = k := fun i hi => by
  have := Nat.mul_le_mul_right k (show i + 1 ≤ n from hi); rw [Nat.succ_mul] at this
  simp; omega
 have hll := lay_len hX
 rcases Nat.lt_or_ge p (n * k) with hp | hp
 ·have hk : 0 < k := by
   rcases Nat.eq_zero_or_pos k with h0 | h0
   ·subst h0; simp at hp
   ·exact h0
  have hd : p / k < n := Nat.div_lt_of_lt_mul (by rw [Nat.mul_comm]; exact hp)
  have hm : p % k < k := Nat.mod_lt _ hk
  have hg := lay_get hX hd hm
  have e : p / k * k + p % k = p := by rw [Nat.mul_comm, Nat.div_add_mod]
  rw [e] at hg
  rw [hg, List.getElem?_take, if_pos hm, List.getElem?_drop, e]
 ·rw [List.getElem?_eq_none (by omega), List.getElem?_eq_none (by omega)]
def repZ (z : List Value) : Nat → List Value
 | 0 => []
 | n + 1 => z ++ repZ z n
theorem repZ_lay (z : List Value) : ∀ n, repZ z n = lay n fun _ => z
 | 0 => by simp [repZ, lay]
 | n + 1 => by
  rw [repZ, repZ_lay z n]
  simp only [lay, List.range_succ_eq_map, List.flatMap_cons, List.flatMap_map]
def sBSl (T : Tab) (E : List (Nat × AV)) (M : List Blk) (t : TypeId) (len : Nat) (parts : Array (Nat × Operand)) : Option Out :=
 match tEl T t with
 | some (e, k, _, z) => bif Nat.ble (len * k) 16777216 then (match fillA E (fun i => some (i * k, k)) (plainA (repZ z len)) parts.toList with
  | some l => (match packL M l with
   | some (vc, xs, M') => some ⟨vc, .sl M.length len, M' ++ [.rw e k (chunk k len xs)], idsL l, [], none⟩
   | none => none)
  | none => none) else none
 | none => none
theorem sBSl_ok (hT : tabB P T = true) {t : TypeId} {len : Nat} {parts : Array (Nat × Operand)} (h : sBSl T E M t len parts = some out) : Does P ⟨d, .buildSlice t len parts, ty, pos, aft, gd⟩ E M out := by
 unfold sBSl at h
 split at h
 ·rename_i e k b z he
  cases hle : Nat.ble (len * k) 16777216 with
  | false => simp [hle] at h
  | true =>
   simp only [hle, cond_true] at h
   have hle := Nat.le_of_ble_eq_true hle
   split at h
   ·rename_i l hfill
    split at h
    ·rename_i vc xs M' hp
     simp only [Option.some.injEq] at h; subst h
     obtain ⟨zv, ok, hz, hzl⟩ := tEl_ok hT he
     intro D w0 K0 β F I ρ w C hv
     obtain ⟨p1, p2⟩ := plainA_ok (K := fun w => K0 w ∧ Holds w I) (β := β) (repZ z len)
     obtain ⟨cs', g1, g2, g3⟩ := fillA_ok C (cs := (repZ z len).toArray) hfill (by simpa using p1) (by intro j c y e1 e2; exact p2 j c y e1 (by simpa using e2))
     obtain ⟨lM, F', H, R', dd, hF⟩ := packL_F C.rm.x hp hv (ys := cs'.toList) (by simpa using g2) (by intro j c y e1 e2; exact g3 j c y e1 (by simpa using e2))
     have hrl : (repZ z len).length = len * k := by rw [repZ_lay]; exact lay_len fun _ _ => hzl
     have hfl : ∀ (parts : List (Nat × AV)) , True := fun _ => trivial
     have hxl : xs.length = len * k := by
      have h1 := dd.len
      have h2 : l.length = len * k := by
       have : ∀ {ps : List (Nat × Operand)} {cs r : List AV}, fillA E (fun i => some (i * k, k)) cs ps = some r → r.length = cs.length := by
        intro ps
        induction ps with
        | nil => intro cs r hh; simp only [fillA, Option.some.injEq] at hh; rw [hh]
        | cons q ps ih =>
         intro cs r hh
         obtain ⟨i, x⟩ := q
         unfold fillA at hh
         split at hh
         ·rename_i off size v hpp hx
          split at hh
          ·rename_i lv hlv
           cases hb : (lv.length.beq size && (off + size).ble cs.length) with
           | false => simp [hb] at hh
           | true =>
            simp only [hb, cond_true] at hh
            simp only [Bool.and_eq_true] at hb
            have e1 := Nat.eq_of_beq_eq_true hb.1
            have e2 := Nat.le_of_ble_eq_true hb.2
            rw [ih hh]; simp; omega
          ·simp at hh
         ·simp at hh
       rw [this hfill, ← p1, hrl]
      have h3 : cs'.toList.length = cs'.size := by simp
      omega
     have hcs : cs'.toList.length = len * k := by rw [← hxl]; exact dd.len
     have hcsz : cs'.size = len * k := by simpa using hcs
     have hsz : ∀ w : World, (sizeOf e).run P w = .ok k w := fun w => by obtain ⟨i, hi, h1, -⟩ := ok.info; simp [sizeOf, typeInfo, Sem.run_bind, hi, h1]
     have hzero : ∀ w : World, (zeroValue e).run P w = .ok zv w := fun w => by obtain ⟨i, hi, -, -, h3⟩ := ok.info; simp [zeroValue, typeInfo, Sem.run_bind, hi, h3]
     have hrow : ∀ (cs : Array Value) (w : World), (newRow e cs).run P w = .ok ⟨w.heap.size, 0, none⟩ (w.alloc (.cells cs e)) := by
      intro cs w; simp [newRow, newObj, Sem.run]
     have hpm : (parts.map fun (p : Nat × Operand) => (p.1, ρ p.2)).toList = parts.toList.map fun p => (p.1, ρ p.2) := by simp
     have hz0 : (Array.range (len * k)).map (fun i => z.toArray[i % z.toArray.size]!) = (repZ z len).toArray := by
      rw [repZ_lay, ← lay_zero z len k hzl]
     have hrun : (Instr.buildSlice t len (parts.map fun (p : Nat × Operand) => (p.1, ρ p.2))).run P w = .ok (.slice (some ⟨w.heap.size, 0, none⟩) len len) (w.alloc (.cells cs' e)) := by
      unfold Instr.buildSlice
      simp only [Sem.run_bind, run_underlying ok.hst, Result.andThen_ok, hsz]
      rw [if_neg (by omega)]
      by_cases h0 : len * k = 0
      ·have hnil : (repZ z len).toArray = #[] := by
        have : repZ z len = [] := List.eq_nil_of_length_eq_zero (by omega)
        rw [this]
       rw [hnil] at g1
       have hz00 : (Array.range (len * k)).map (fun i => (#[] : Array Value)[i % (#[] : Array Value).size]!) = #[] := by rw [h0]; apply Array.ext <;> simp
       rw [if_pos h0]
       simp only [Sem.run_bind, Sem.run_pure, Result.andThen_ok, hz00, hpm, g1, hrow]
      ·rw [if_neg h0]
       simp only [Sem.run_bind, Sem.run_pure, Result.andThen_ok, hzero, hz, hz0, hpm, g1, hrow]
     refine OpY.pure (v := .slice (some ⟨w.heap.size, 0, none⟩) len len) (w' := w.alloc (.cells cs' e)) ?_ ?_
     ·simp only [execOp, Sem.run_bind]
      have : (parts.map fun (i, x) => (i, ρ x)) = parts.map fun (p : Nat × Operand) => (p.1, ρ p.2) := rfl
      rw [this, hrun]; rfl
     ·obtain ⟨G, hG, hGr⟩ := dd.to
      have R1 : RMx D w0 K0 M' β F' I (([(w.heap.size, .cells cs' e (0, 0))] ++ H) ++ []) (w.alloc (.cells cs' e)) := by
       refine R'.move ?_
       have := R'.st.new (Gr.alloc w (.cells cs' e)) (NewF.alloc w (.cells cs' e))
       exact this.perm (by classical rw [List.perm_iff_count]; intro z; simp only [List.count_append, List.count_nil]; omega)
      have hlen' : M'.length = M.length := lM
      have hq : (β ++ [((some ⟨w.heap.size, 0, none⟩ : Option Addr), len)])[M'.length]? = some (some ⟨w.heap.size, 0, none⟩, len) := by rw [← R'.len]; simp
      have hrows : ∀ (i : Nat) r, (chunk k len xs)[i]? = some r → i < len ∧ r = (xs.drop (i * k)).take k := by
       intro i r hi
       have hlt : i < len := by have := (List.getElem?_eq_some_iff.1 hi).1; rwa [chunk_len] at this
       rw [chunk_at k len xs i hlt, Option.some.injEq] at hi
       exact ⟨hlt, hi.symm⟩
      have hb := BRel.rw (K := fun w => K0 w ∧ Holds w I) (u := M'.length) (T := e) (k := k) (rows := chunk k len xs) (H0 := [(w.heap.size, .cells cs' e (0, 0))]) hq (fun i => (cs'.toList.drop (i * k)).take k) (fun i j => G (i * k + j)) (fun i r hi => by
       obtain ⟨hlt, rfl⟩ := hrows i r hi
       have := Nat.mul_le_mul_right k (show i + 1 ≤ len from hlt); rw [Nat.succ_mul] at this
       constructor <;> simp <;> omega) (by
        rw [chunk_len, lay_chunk k len _ hcs]
        exact ⟨hcs, Or.inr ⟨w.heap.size, len, cs', rfl, rfl, by simpa using hcs, Nat.le_refl _, List.take_of_length_le (by omega)⟩⟩) (fun i r j c x hi h1 h2 => by
       obtain ⟨hlt, rfl⟩ := hrows i r hi
       rw [List.getElem?_take] at h1 h2
       split at h1
       ·rename_i hj
        rw [if_pos hj] at h2
        rw [List.getElem?_drop] at h1 h2
        exact hGr _ c x h1 h2
       ·simp at h1)
      rw [chunk_len, layF_flat, ← hxl, ← hG] at hb
      have R2 := (R1.take hb).nil rfl
      rw [hlen'] at R2 hq
      refine ⟨_, _, I, R2, (Ext.app _ _).b _, Grows.refl _, fun u hu hn => ?_, .sl hq⟩
      rw [show updF F' M.length _ u = F' u by simp [updF]; omega]
      exact hF u hn
    ·simp at h
   ·simp at h
 ·simp at h
end Go.Proofs.Ytikmdkicccfjpaa
