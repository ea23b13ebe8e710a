/-
  What single operations yield: one law each, for the rule of regions.
-/
import Derived.Test.YtaeidblipdjgnaaRegion
import Derived.Test.YtaeidblipdjgnaaMaps
namespace Go.Proofs.Ytaeidblipdjgnaa
open Go.RowKit

section
variable {P : Program} {ρ : Operand → Value} {w : World} {Φ : Value → World → Prop} {d : Option Tmp} {ty : TypeId} {pos : String} {aft : Array Edge} {gd : Option (Nat × Bool)}

theorem y_move {x : Operand} {v : Value} (h : ρ x = v) (hΦ : Φ v w) : OpY P ⟨d, .move x, ty, pos, aft, gd⟩ ρ w Φ := by
  subst h; exact hΦ
theorem y_assign {x : Operand} {v : Value} (h : ρ x = v) (hΦ : Φ v w) : OpY P ⟨d, .assign x, ty, pos, aft, gd⟩ ρ w Φ := by
  subst h; exact hΦ
theorem y_nilCheck {x : Operand} {a : Addr} (h : ρ x = .pointer (some a)) (hΦ : Φ (.pointer (some a)) w) : OpY P ⟨d, .nilCheck x, ty, pos, aft, gd⟩ ρ w Φ :=
  .pure (v := .pointer (some a)) (by simp only [execOp, h]; rfl) hΦ
theorem y_extract {x : Operand} {vs : Array Value} {i : Nat} {v : Value} (h : ρ x = .tuple vs) (hv : vs[i]? = some v) (hΦ : Φ v w) : OpY P ⟨d, .extract x i, ty, pos, aft, gd⟩ ρ w Φ :=
  .pure (v := v) (by simp only [execOp, h, Instr.extract, hv]; rfl) hΦ

/-- where a field lies: of a type that has a size -/
def fieldOff (P : Program) (s : TypeId) (f : Nat) : Option Nat :=
  match P.underlying s with
  | some (.struct fs) => match fs[f]? with
    | some x => match P.info? x.type with
      | some i => if i.size = 0 then none else some x.offset
      | none => none
    | none => none
  | _ => none
theorem run_fieldAt {s : TypeId} {f off : Nat} (hf : fieldOff P s f = some off) (a : Addr) : (Instr.fieldAt s (.pointer (some a)) f).run P w = .ok (.pointer (some (a.add off))) w := by
  unfold fieldOff at hf
  cases hu : P.underlying s with
  | none => simp [hu] at hf
  | some u =>
    cases u <;> simp only [hu] at hf <;> try contradiction
    rename_i fs
    cases hx : fs[f]? with
    | none => simp [hx] at hf
    | some x =>
      simp only [hx] at hf
      cases hi : P.info? x.type with
      | none => simp [hi] at hf
      | some i =>
        simp only [hi] at hf
        split at hf
        · contradiction
        · rename_i hsz
          cases hf
          simp only [Instr.fieldAt, Sem.run_bind, run_underlying hu, Result.andThen_ok, hx, Instr.sureAddr, Sem.run_pure, fieldPlace, sizeOf, typeInfo, run_program, hi, hsz, if_false]
theorem add_eq (b i n : Nat) : (⟨b, i, none⟩ : Addr).add n = ⟨b, i + n, none⟩ := by
  unfold Addr.add; split
  · rename_i h; subst h; rfl
  · rfl
theorem r_fieldAddr {s : TypeId} {x : Operand} {f off b i j : Nat} (hf : fieldOff P s f = some off) (h : ρ x = .pointer (some ⟨b, i, none⟩)) (hj : i + off = j) : (execOp ρ ⟨d, .fieldAddr s x f, ty, pos, aft, gd⟩).run P w = .ok (.value (.pointer (some ⟨b, j, none⟩))) w := by
  subst hj; simp only [execOp, h, Sem.run_bind, run_fieldAt hf, Result.andThen_ok, Sem.run_pure, add_eq]
theorem y_fieldAddr {s : TypeId} {x : Operand} {f off b i j : Nat} (hf : fieldOff P s f = some off) (h : ρ x = .pointer (some ⟨b, i, none⟩)) (hj : i + off = j) (hΦ : Φ (.pointer (some ⟨b, j, none⟩)) w) : OpY P ⟨d, .fieldAddr s x f, ty, pos, aft, gd⟩ ρ w Φ :=
  .pure (r_fieldAddr hf h hj) hΦ
theorem r_move {x : Operand} {v : Value} (h : ρ x = v) : (execOp ρ ⟨d, .move x, ty, pos, aft, gd⟩).run P w = .ok (.value v) w := by subst h; rfl
theorem r_assign {x : Operand} {v : Value} (h : ρ x = v) : (execOp ρ ⟨d, .assign x, ty, pos, aft, gd⟩).run P w = .ok (.value v) w := by subst h; rfl
theorem r_nilCheck {x : Operand} {a : Addr} (h : ρ x = .pointer (some a)) : (execOp ρ ⟨d, .nilCheck x, ty, pos, aft, gd⟩).run P w = .ok (.value (.pointer (some a))) w := by simp only [execOp, h]; rfl
theorem r_extract {x : Operand} {vs : Array Value} {i : Nat} {v : Value} (h : ρ x = .tuple vs) (hv : vs[i]? = some v) : (execOp ρ ⟨d, .extract x i, ty, pos, aft, gd⟩).run P w = .ok (.value v) w := by simp only [execOp, h, Instr.extract, hv]; rfl

/-- no struct, no array -/
def scalar (P : Program) (t : TypeId) : Bool := match P.underlying t with | some (.struct _) => false | some (.array _ _) => false | some _ => true | none => false
theorem run_isAgg_scalar {t : TypeId} (h : scalar P t = true) : (isAgg t).run P w = .ok false w := by
  unfold scalar at h
  cases hu : P.underlying t with
  | none => simp [hu] at h
  | some u => cases u <;> simp [hu] at h <;> simp [isAgg, Sem.run_bind, run_underlying hu]
theorem run_loadAt_scalar {t : TypeId} {a : Addr} {v : Value} (ht : scalar P t = true) (hc : w.cell? a = some v) : (Instr.loadAt t (.pointer (some a))).run P w = .ok v w := by
  simp [Instr.loadAt, Instr.sureAddr, loadVar, Sem.run_bind, run_isAgg_scalar ht, load, Sem.run, hc]
theorem y_load {t : TypeId} {x : Operand} {a : Addr} {v : Value} (ht : scalar P t = true) (h : ρ x = .pointer (some a)) (hc : w.cell? a = some v) (hΦ : Φ v w) : OpY P ⟨d, .load t x, ty, pos, aft, gd⟩ ρ w Φ :=
  .pure (by simp only [execOp, h, Sem.run_bind, run_loadAt_scalar ht hc, Result.andThen_ok, Sem.run_pure]) hΦ

/-- a struct or an array of n cells -/
def aggOf (P : Program) (t : TypeId) (n : Nat) : Bool := (match P.underlying t with | some (.struct _) => true | some (.array _ _) => true | _ => false) && (match P.info? t with | some i => i.size == n | none => false)
theorem run_loadCellsFrom {a : Addr} {vs : List Value} : ∀ (i : Nat) (acc : Array Value), (∀ j (hj : j < vs.length), w.cell? (a.add (i + j)) = some vs[j]) → (loadCellsFrom a i vs.length acc).run P w = .ok (acc ++ vs.toArray) w := by
  induction vs with
  | nil => intro i acc _; simp [loadCellsFrom]
  | cons v r ih =>
    intro i acc h
    have h0 := h 0 (by simp)
    simp only [Nat.add_zero, List.getElem_cons_zero] at h0
    have hl : (load (a.add i)).run P w = .ok v w := by simp [load, Sem.run, h0]
    simp only [List.length_cons, loadCellsFrom, Sem.run_bind, hl, Result.andThen_ok]
    rw [ih (i + 1) (acc.push v) (fun j hj => by have := h (j + 1) (by simp; omega); rw [show i + 1 + j = i + (j + 1) by omega]; simpa using this)]
    simp
theorem run_isAgg_agg {t : TypeId} {n : Nat} (h : aggOf P t n = true) : (isAgg t).run P w = .ok true w ∧ (sizeOf t).run P w = .ok n w := by
  unfold aggOf at h
  simp only [Bool.and_eq_true] at h
  constructor
  · cases hu : P.underlying t with
    | none => simp [hu] at h
    | some u => cases u <;> simp [hu] at h <;> simp [isAgg, Sem.run_bind, run_underlying hu]
  · cases hi : P.info? t with
    | none => simp [hi] at h
    | some i =>
      simp only [hi, beq_iff_eq] at h
      simp [sizeOf, typeInfo, Sem.run_bind, hi, h.2]
theorem run_loadAt_agg {t : TypeId} {a : Addr} {vs : List Value} (ht : aggOf P t vs.length = true) (hc : ∀ j (hj : j < vs.length), w.cell? (a.add j) = some vs[j]) : (Instr.loadAt t (.pointer (some a))).run P w = .ok (.agg vs.toArray) w := by
  have h := run_loadCellsFrom (P := P) (w := w) (a := a) (vs := vs) 0 #[] (by simpa using hc)
  simp [Instr.loadAt, Instr.sureAddr, loadVar, Sem.run_bind, (run_isAgg_agg (w := w) ht).1, (run_isAgg_agg (w := w) ht).2, loadCells, h]
theorem y_loadAgg {t : TypeId} {x : Operand} {a : Addr} (vs : List Value) (ht : aggOf P t vs.length = true) (h : ρ x = .pointer (some a)) (hc : ∀ j (hj : j < vs.length), w.cell? (a.add j) = some vs[j]) (hΦ : Φ (.agg vs.toArray) w) : OpY P ⟨d, .load t x, ty, pos, aft, gd⟩ ρ w Φ :=
  .pure (by simp only [execOp, h, Sem.run_bind, run_loadAt_agg ht hc, Result.andThen_ok, Sem.run_pure]) hΦ

theorem run_alloc' {t : TypeId} {z : Value} (hz : (zeroValue t).run P w = .ok z w) : (Instr.alloc t true (.tuple #[])).run P w = .ok (.pointer (some ⟨w.heap.size, 0, none⟩)) (w.alloc (.cells z.cells t)) := by
  simp [Instr.alloc, Sem.run_bind, hz, newVar, newRow, newObj, Sem.run]
theorem y_alloc {t : TypeId} {z : Value} (hz : (zeroValue t).run P w = .ok z w) (hΦ : Φ (.pointer (some ⟨w.heap.size, 0, none⟩)) (w.alloc (.cells z.cells t))) : OpY P ⟨d, .alloc t, ty, pos, aft, gd⟩ ρ w Φ :=
  .pure (by simp only [execOp, Sem.run_bind, run_alloc' hz, Result.andThen_ok, Sem.run_pure]) hΦ
/-- a new variable, whatever its address -/
theorem y_allocN {t : TypeId} {z : Value} (hz : (zeroValue t).run P w = .ok z w) (hΦ : ∀ b w', Gr w w' → NewF w w' [(b, .cells z.cells t)] → Φ (.pointer (some ⟨b, 0, none⟩)) w') : OpY P ⟨d, .alloc t, ty, pos, aft, gd⟩ ρ w Φ :=
  y_alloc hz (hΦ _ _ (Gr.alloc _ _) (NewF.alloc _ _))
theorem y_box {t : TypeId} {x : Operand} {v : Value} (h : ρ x = v) (hΦ : Φ (.pointer (some ⟨w.heap.size, 0, none⟩)) (w.alloc (.cells v.cells t))) : OpY P ⟨d, .box t x, ty, pos, aft, gd⟩ ρ w Φ :=
  .pure (v := .pointer (some ⟨w.heap.size, 0, none⟩)) (w' := w.alloc (.cells v.cells t)) (by simp [execOp, h, Instr.box, Sem.run_bind, newVar, newRow, newObj, Sem.run]) hΦ

theorem y_boxN {t : TypeId} {x : Operand} {v : Value} (h : ρ x = v) (hΦ : ∀ b w', Gr w w' → NewF w w' [(b, .cells v.cells t)] → Φ (.pointer (some ⟨b, 0, none⟩)) w') : OpY P ⟨d, .box t x, ty, pos, aft, gd⟩ ρ w Φ :=
  y_box h (hΦ _ _ (Gr.alloc _ _) (NewF.alloc _ _))

/-! stores -/
/-- the value of one cell -/
def oneC : Value → Bool
  | .agg _ | .tuple _ => false
  | _ => true
theorem run_store {b i : Nat} {c : Array Value} {t : TypeId} {v : Value} (hb : w.heap[b]? = some (.cells c t (0, 0))) (hi : i < c.size) (hv : oneC v = true) : (store ⟨b, i, none⟩ v).run P w = .ok () (setB w b (.cells (c.setIfInBounds i v) t (0, 0))) := by
  have hc : w.cell? ⟨b, i, none⟩ = some c[i] := by rw [cell_of hb]; simp [hi]
  have hf : w.frozen? ⟨b, i, none⟩ = false := by simp [World.frozen?, hb]
  rw [← setCell_eq hb]
  cases v <;> simp [oneC] at hv <;> simp [store, Sem.run, hc, hf]
/-- cells from i on are put anew -/
def setCs (c : Array Value) : Nat → List Value → Array Value
  | _, [] => c
  | i, v :: r => setCs (c.setIfInBounds i v) (i + 1) r
theorem setCs_size (c : Array Value) (i : Nat) (vs : List Value) : (setCs c i vs).size = c.size := by
  induction vs generalizing c i with
  | nil => rfl
  | cons v r ih => rw [setCs, ih]; simp
theorem setB_setB (w : World) (b : Nat) (o o' : Obj) : setB (setB w b o) b o' = setB w b o' := by
  simp [setB]
theorem run_storeCells {b : Nat} {t : TypeId} : ∀ (vs : List Value) (w : World) (c : Array Value) (i j : Nat), w.heap[b]? = some (.cells c t (0, 0)) → i + j + vs.length ≤ c.size → (∀ v ∈ vs, oneC v = true) → (storeCells ⟨b, i, none⟩ vs j).run P w = .ok () (setB w b (.cells (setCs c (i + j) vs) t (0, 0)))
  | [], w, c, i, j, hb, _, _ => by
    have : setB w b (.cells c t (0, 0)) = w := by
      unfold setB
      have hlt := heap_lt hb
      have : w.heap.setIfInBounds b (.cells c t (0, 0)) = w.heap := by
        apply Array.ext_getElem?
        intro k
        rw [Array.getElem?_setIfInBounds]
        by_cases e : b = k
        · subst e; simp [hlt]; rw [Array.getElem?_eq_getElem hlt] at hb; exact (Option.some.inj hb).symm
        · simp [e]
      rw [this]
    simp [storeCells, setCs, this]
  | v :: r, w, c, i, j, hb, hl, hv => by
    simp only [List.length_cons] at hl
    have ha : (⟨b, i, none⟩ : Addr).add j = ⟨b, i + j, none⟩ := by
      unfold Addr.add; split
      · rename_i h; subst h; rfl
      · rfl
    have h1 := run_store (P := P) hb (show i + j < c.size by omega) (hv v (by simp))
    have h2 := run_storeCells r (setB w b (.cells (c.setIfInBounds (i + j) v) t (0, 0))) (c.setIfInBounds (i + j) v) i (j + 1) (setB_same _ (heap_lt hb)) (by simp; omega) (fun x hx => hv x (by simp [hx]))
    simp only [storeCells, Sem.run_bind, ha, h1, Result.andThen_ok, h2, setB_setB]
    rfl
theorem run_storeAt {b i : Nat} {c : Array Value} {t u : TypeId} {v : Value} {n : Nat} (hn : (P.info? u).map (·.size) = some n) (hb : w.heap[b]? = some (.cells c t (0, 0))) (hv : v.cells.size = n) (hi : i + n ≤ c.size) (hone : ∀ x ∈ v.cells.toList, oneC x = true) :
    (Instr.storeAt u (.pointer (some ⟨b, i, none⟩)) v).run P w = .ok () (setB w b (.cells (setCs c i v.cells.toList) t (0, 0))) := by
  cases hin : P.info? u with
  | none => simp [hin] at hn
  | some inf =>
    simp only [hin, Option.map_some, Option.some.injEq] at hn
    have hs : (sizeOf u).run P w = .ok n w := by simp [sizeOf, typeInfo, Sem.run_bind, hin, hn]
    have h := run_storeCells (P := P) v.cells.toList w c i 0 hb (by simp [hv]; omega) hone
    simp only [Instr.storeAt, Instr.sureAddr, Sem.run_bind, Sem.run_pure, Result.andThen_ok, storeVar, hs, hv, ne_eq, not_true_eq_false, if_false]
    simpa using h
/-- a store: into a block that is one's own -/
theorem y_store {u : TypeId} {x y : Operand} {b i : Nat} {c : Array Value} {t : TypeId} {v : Value} (n : Nat) (hn : (P.info? u).map (·.size) = some n) (hx : ρ x = .pointer (some ⟨b, i, none⟩)) (hy : ρ y = v) (hb : w.heap[b]? = some (.cells c t (0, 0))) (hv : v.cells.size = n) (hi : i + n ≤ c.size) (hone : ∀ x ∈ v.cells.toList, oneC x = true)
    (hΦ : Φ undef (setB w b (.cells (setCs c i v.cells.toList) t (0, 0)))) : OpY P ⟨d, .store u x y, ty, pos, aft, gd⟩ ρ w Φ :=
  .skip (by simp only [execOp, hx, hy, Sem.run_bind, run_storeAt hn hb hv hi hone, Result.andThen_ok, Sem.run_pure]) hΦ

theorem run_callFunc {f : FuncId} {fn : Func} (hf : P.funcs[f]? = some fn) (hb : fn.body.isSome = true) (hn : (fn.name == "runtime.NumGoroutine") = false) (args : Array Value) : (callFunc f args).run P w = .ok (.enter f args) w := by
  have h1 : ¬ fn.body = none := by cases hx : fn.body <;> simp_all
  have h2 : ¬ fn.name = "runtime.NumGoroutine" := by simpa using hn
  simp [callFunc, Sem.run_bind, hf, h1, h2]
/-- may this function be called by its text? -/
def callable (P : Program) (f : FuncId) : Bool := match P.funcs[f]? with | some fn => fn.body.isSome && !(fn.name == "runtime.NumGoroutine") | none => false
theorem run_call {f : FuncId} (h : callable P f = true) (args : Array Value) : (callFunc f args).run P w = .ok (.enter f args) w := by
  unfold callable at h
  cases hf : P.funcs[f]? with
  | none => simp [hf] at h
  | some fn => simp only [hf, Bool.and_eq_true, Bool.not_eq_true'] at h; exact run_callFunc hf h.1 h.2 args
theorem y_call {g : Operand} {args : Array Operand} {tys : Array TypeId} {f : FuncId} {vs : Array Value} (hg : ρ g = .func (.func f) #[] #[]) (hf : callable P f = true) (ha : args.map ρ = vs)
    (hΦ : Calls P f vs w fun e w' => ∃ v, e = .returned v ∧ Φ v w') : OpY P ⟨d, .call ⟨.value g, args, tys⟩, ty, pos, aft, gd⟩ ρ w Φ :=
  .call (f := f) (args := vs) (by simp [execOp, resolve, hg, ha, Deferred.ofValue, invoke, run_call hf]) hΦ
theorem y_closure {g : Operand} {args : Array Operand} {tys : Array TypeId} {f : FuncId} {vs caps : Array Value} (hg : ρ g = .func (.func f) #[] caps) (hf : callable P f = true) (ha : args.map ρ = vs)
    (hΦ : Calls P f (vs ++ caps) w fun e w' => ∃ v, e = .returned v ∧ Φ v w') : OpY P ⟨d, .call ⟨.value g, args, tys⟩, ty, pos, aft, gd⟩ ρ w Φ :=
  .call (f := f) (args := vs ++ caps) (by simp [execOp, resolve, hg, ha, Deferred.ofValue, invoke, run_call hf]) hΦ
theorem y_build0 {t : TypeId} {v : Value}   (hr : (Instr.build t #[]).run P w = .ok v w) (hΦ : Φ v w) : OpY P ⟨d, .build t #[], ty, pos, aft, gd⟩ ρ w Φ := by
  exact .pure (by simp only [execOp, List.map_toArray, List.map, Sem.run_bind, hr, Result.andThen_ok, Sem.run_pure]) hΦ
theorem y_call0 {tys : Array TypeId} {f : FuncId}  (hf : callable P f = true) (hg : ρ (.func f) = .func (.func f) #[] #[])  (hΦ : Calls P f #[] w fun e w' => ∃ v, e = .returned v ∧ Φ v w') : OpY P ⟨d, .call ⟨.value (.func f), #[], tys⟩, ty, pos, aft, gd⟩ ρ w Φ := by
  exact y_call hg hf (by simp) hΦ
theorem y_build1 {t : TypeId} {v : Value} {i0 : Nat} {x0 : Operand} {v0 : Value} (h0 : ρ x0 = v0) (hr : (Instr.build t #[(i0, v0)]).run P w = .ok v w) (hΦ : Φ v w) : OpY P ⟨d, .build t #[(i0, x0)], ty, pos, aft, gd⟩ ρ w Φ := by
  subst h0; exact .pure (by simp only [execOp, List.map_toArray, List.map, Sem.run_bind, hr, Result.andThen_ok, Sem.run_pure]) hΦ
theorem y_buildSlice0 {t e : TypeId} {len : Nat} {c : Array Value} (hr : ∀ w : World, (Instr.buildSlice t len #[]).run P w = .ok (.slice (some ⟨w.heap.size, 0, none⟩) len len) (w.alloc (.cells c e))) (hΦ : ∀ b w', Gr w w' → NewF w w' [(b, .cells c e)] → Φ (.slice (some ⟨b, 0, none⟩) len len) w') : OpY P ⟨d, .buildSlice t len #[], ty, pos, aft, gd⟩ ρ w Φ := by
  exact .pure (by simp only [execOp, List.map_toArray, List.map, Sem.run_bind, hr, Result.andThen_ok, Sem.run_pure]) (hΦ _ _ (Gr.alloc _ _) (NewF.alloc _ _))
theorem y_buildSlice1 {t e : TypeId} {len : Nat} {c : Array Value} {i0 : Nat} {x0 : Operand} {v0 : Value} (h0 : ρ x0 = v0) (hr : ∀ w : World, (Instr.buildSlice t len #[(i0, v0)]).run P w = .ok (.slice (some ⟨w.heap.size, 0, none⟩) len len) (w.alloc (.cells c e))) (hΦ : ∀ b w', Gr w w' → NewF w w' [(b, .cells c e)] → Φ (.slice (some ⟨b, 0, none⟩) len len) w') : OpY P ⟨d, .buildSlice t len #[(i0, x0)], ty, pos, aft, gd⟩ ρ w Φ := by
  subst h0; exact .pure (by simp only [execOp, List.map_toArray, List.map, Sem.run_bind, hr, Result.andThen_ok, Sem.run_pure]) (hΦ _ _ (Gr.alloc _ _) (NewF.alloc _ _))
theorem y_call1 {tys : Array TypeId} {f : FuncId} {x0 : Operand} {v0 : Value} (hf : callable P f = true) (hg : ρ (.func f) = .func (.func f) #[] #[]) (h0 : ρ x0 = v0) (hΦ : Calls P f #[v0] w fun e w' => ∃ v, e = .returned v ∧ Φ v w') : OpY P ⟨d, .call ⟨.value (.func f), #[x0], tys⟩, ty, pos, aft, gd⟩ ρ w Φ := by
  subst h0; exact y_call hg hf (by simp) hΦ
theorem y_build2 {t : TypeId} {v : Value} {i0 : Nat} {x0 : Operand} {v0 : Value} {i1 : Nat} {x1 : Operand} {v1 : Value} (h0 : ρ x0 = v0) (h1 : ρ x1 = v1) (hr : (Instr.build t #[(i0, v0), (i1, v1)]).run P w = .ok v w) (hΦ : Φ v w) : OpY P ⟨d, .build t #[(i0, x0), (i1, x1)], ty, pos, aft, gd⟩ ρ w Φ := by
  subst h0 h1; exact .pure (by simp only [execOp, List.map_toArray, List.map, Sem.run_bind, hr, Result.andThen_ok, Sem.run_pure]) hΦ
theorem y_buildSlice2 {t e : TypeId} {len : Nat} {c : Array Value} {i0 : Nat} {x0 : Operand} {v0 : Value} {i1 : Nat} {x1 : Operand} {v1 : Value} (h0 : ρ x0 = v0) (h1 : ρ x1 = v1) (hr : ∀ w : World, (Instr.buildSlice t len #[(i0, v0), (i1, v1)]).run P w = .ok (.slice (some ⟨w.heap.size, 0, none⟩) len len) (w.alloc (.cells c e))) (hΦ : ∀ b w', Gr w w' → NewF w w' [(b, .cells c e)] → Φ (.slice (some ⟨b, 0, none⟩) len len) w') : OpY P ⟨d, .buildSlice t len #[(i0, x0), (i1, x1)], ty, pos, aft, gd⟩ ρ w Φ := by
  subst h0 h1; exact .pure (by simp only [execOp, List.map_toArray, List.map, Sem.run_bind, hr, Result.andThen_ok, Sem.run_pure]) (hΦ _ _ (Gr.alloc _ _) (NewF.alloc _ _))
theorem y_call2 {tys : Array TypeId} {f : FuncId} {x0 : Operand} {v0 : Value} {x1 : Operand} {v1 : Value} (hf : callable P f = true) (hg : ρ (.func f) = .func (.func f) #[] #[]) (h0 : ρ x0 = v0) (h1 : ρ x1 = v1) (hΦ : Calls P f #[v0, v1] w fun e w' => ∃ v, e = .returned v ∧ Φ v w') : OpY P ⟨d, .call ⟨.value (.func f), #[x0, x1], tys⟩, ty, pos, aft, gd⟩ ρ w Φ := by
  subst h0 h1; exact y_call hg hf (by simp) hΦ
theorem y_build3 {t : TypeId} {v : Value} {i0 : Nat} {x0 : Operand} {v0 : Value} {i1 : Nat} {x1 : Operand} {v1 : Value} {i2 : Nat} {x2 : Operand} {v2 : Value} (h0 : ρ x0 = v0) (h1 : ρ x1 = v1) (h2 : ρ x2 = v2) (hr : (Instr.build t #[(i0, v0), (i1, v1), (i2, v2)]).run P w = .ok v w) (hΦ : Φ v w) : OpY P ⟨d, .build t #[(i0, x0), (i1, x1), (i2, x2)], ty, pos, aft, gd⟩ ρ w Φ := by
  subst h0 h1 h2; exact .pure (by simp only [execOp, List.map_toArray, List.map, Sem.run_bind, hr, Result.andThen_ok, Sem.run_pure]) hΦ
theorem y_buildSlice3 {t e : TypeId} {len : Nat} {c : Array Value} {i0 : Nat} {x0 : Operand} {v0 : Value} {i1 : Nat} {x1 : Operand} {v1 : Value} {i2 : Nat} {x2 : Operand} {v2 : Value} (h0 : ρ x0 = v0) (h1 : ρ x1 = v1) (h2 : ρ x2 = v2) (hr : ∀ w : World, (Instr.buildSlice t len #[(i0, v0), (i1, v1), (i2, v2)]).run P w = .ok (.slice (some ⟨w.heap.size, 0, none⟩) len len) (w.alloc (.cells c e))) (hΦ : ∀ b w', Gr w w' → NewF w w' [(b, .cells c e)] → Φ (.slice (some ⟨b, 0, none⟩) len len) w') : OpY P ⟨d, .buildSlice t len #[(i0, x0), (i1, x1), (i2, x2)], ty, pos, aft, gd⟩ ρ w Φ := by
  subst h0 h1 h2; exact .pure (by simp only [execOp, List.map_toArray, List.map, Sem.run_bind, hr, Result.andThen_ok, Sem.run_pure]) (hΦ _ _ (Gr.alloc _ _) (NewF.alloc _ _))
theorem y_call3 {tys : Array TypeId} {f : FuncId} {x0 : Operand} {v0 : Value} {x1 : Operand} {v1 : Value} {x2 : Operand} {v2 : Value} (hf : callable P f = true) (hg : ρ (.func f) = .func (.func f) #[] #[]) (h0 : ρ x0 = v0) (h1 : ρ x1 = v1) (h2 : ρ x2 = v2) (hΦ : Calls P f #[v0, v1, v2] w fun e w' => ∃ v, e = .returned v ∧ Φ v w') : OpY P ⟨d, .call ⟨.value (.func f), #[x0, x1, x2], tys⟩, ty, pos, aft, gd⟩ ρ w Φ := by
  subst h0 h1 h2; exact y_call hg hf (by simp) hΦ
theorem y_build4 {t : TypeId} {v : Value} {i0 : Nat} {x0 : Operand} {v0 : Value} {i1 : Nat} {x1 : Operand} {v1 : Value} {i2 : Nat} {x2 : Operand} {v2 : Value} {i3 : Nat} {x3 : Operand} {v3 : Value} (h0 : ρ x0 = v0) (h1 : ρ x1 = v1) (h2 : ρ x2 = v2) (h3 : ρ x3 = v3) (hr : (Instr.build t #[(i0, v0), (i1, v1), (i2, v2), (i3, v3)]).run P w = .ok v w) (hΦ : Φ v w) : OpY P ⟨d, .build t #[(i0, x0), (i1, x1), (i2, x2), (i3, x3)], ty, pos, aft, gd⟩ ρ w Φ := by
  subst h0 h1 h2 h3; exact .pure (by simp only [execOp, List.map_toArray, List.map, Sem.run_bind, hr, Result.andThen_ok, Sem.run_pure]) hΦ
theorem y_buildSlice4 {t e : TypeId} {len : Nat} {c : Array Value} {i0 : Nat} {x0 : Operand} {v0 : Value} {i1 : Nat} {x1 : Operand} {v1 : Value} {i2 : Nat} {x2 : Operand} {v2 : Value} {i3 : Nat} {x3 : Operand} {v3 : Value} (h0 : ρ x0 = v0) (h1 : ρ x1 = v1) (h2 : ρ x2 = v2) (h3 : ρ x3 = v3) (hr : ∀ w : World, (Instr.buildSlice t len #[(i0, v0), (i1, v1), (i2, v2), (i3, v3)]).run P w = .ok (.slice (some ⟨w.heap.size, 0, none⟩) len len) (w.alloc (.cells c e))) (hΦ : ∀ b w', Gr w w' → NewF w w' [(b, .cells c e)] → Φ (.slice (some ⟨b, 0, none⟩) len len) w') : OpY P ⟨d, .buildSlice t len #[(i0, x0), (i1, x1), (i2, x2), (i3, x3)], ty, pos, aft, gd⟩ ρ w Φ := by
  subst h0 h1 h2 h3; exact .pure (by simp only [execOp, List.map_toArray, List.map, Sem.run_bind, hr, Result.andThen_ok, Sem.run_pure]) (hΦ _ _ (Gr.alloc _ _) (NewF.alloc _ _))
theorem y_call4 {tys : Array TypeId} {f : FuncId} {x0 : Operand} {v0 : Value} {x1 : Operand} {v1 : Value} {x2 : Operand} {v2 : Value} {x3 : Operand} {v3 : Value} (hf : callable P f = true) (hg : ρ (.func f) = .func (.func f) #[] #[]) (h0 : ρ x0 = v0) (h1 : ρ x1 = v1) (h2 : ρ x2 = v2) (h3 : ρ x3 = v3) (hΦ : Calls P f #[v0, v1, v2, v3] w fun e w' => ∃ v, e = .returned v ∧ Φ v w') : OpY P ⟨d, .call ⟨.value (.func f), #[x0, x1, x2, x3], tys⟩, ty, pos, aft, gd⟩ ρ w Φ := by
  subst h0 h1 h2 h3; exact y_call hg hf (by simp) hΦ
theorem y_build5 {t : TypeId} {v : Value} {i0 : Nat} {x0 : Operand} {v0 : Value} {i1 : Nat} {x1 : Operand} {v1 : Value} {i2 : Nat} {x2 : Operand} {v2 : Value} {i3 : Nat} {x3 : Operand} {v3 : Value} {i4 : Nat} {x4 : Operand} {v4 : Value} (h0 : ρ x0 = v0) (h1 : ρ x1 = v1) (h2 : ρ x2 = v2) (h3 : ρ x3 = v3) (h4 : ρ x4 = v4) (hr : (Instr.build t #[(i0, v0), (i1, v1), (i2, v2), (i3, v3), (i4, v4)]).run P w = .ok v w) (hΦ : Φ v w) : OpY P ⟨d, .build t #[(i0, x0), (i1, x1), (i2, x2), (i3, x3), (i4, x4)], ty, pos, aft, gd⟩ ρ w Φ := by
  subst h0 h1 h2 h3 h4; exact .pure (by simp only [execOp, List.map_toArray, List.map, Sem.run_bind, hr, Result.andThen_ok, Sem.run_pure]) hΦ
theorem y_buildSlice5 {t e : TypeId} {len : Nat} {c : Array Value} {i0 : Nat} {x0 : Operand} {v0 : Value} {i1 : Nat} {x1 : Operand} {v1 : Value} {i2 : Nat} {x2 : Operand} {v2 : Value} {i3 : Nat} {x3 : Operand} {v3 : Value} {i4 : Nat} {x4 : Operand} {v4 : Value} (h0 : ρ x0 = v0) (h1 : ρ x1 = v1) (h2 : ρ x2 = v2) (h3 : ρ x3 = v3) (h4 : ρ x4 = v4) (hr : ∀ w : World, (Instr.buildSlice t len #[(i0, v0), (i1, v1), (i2, v2), (i3, v3), (i4, v4)]).run P w = .ok (.slice (some ⟨w.heap.size, 0, none⟩) len len) (w.alloc (.cells c e))) (hΦ : ∀ b w', Gr w w' → NewF w w' [(b, .cells c e)] → Φ (.slice (some ⟨b, 0, none⟩) len len) w') : OpY P ⟨d, .buildSlice t len #[(i0, x0), (i1, x1), (i2, x2), (i3, x3), (i4, x4)], ty, pos, aft, gd⟩ ρ w Φ := by
  subst h0 h1 h2 h3 h4; exact .pure (by simp only [execOp, List.map_toArray, List.map, Sem.run_bind, hr, Result.andThen_ok, Sem.run_pure]) (hΦ _ _ (Gr.alloc _ _) (NewF.alloc _ _))
theorem y_call5 {tys : Array TypeId} {f : FuncId} {x0 : Operand} {v0 : Value} {x1 : Operand} {v1 : Value} {x2 : Operand} {v2 : Value} {x3 : Operand} {v3 : Value} {x4 : Operand} {v4 : Value} (hf : callable P f = true) (hg : ρ (.func f) = .func (.func f) #[] #[]) (h0 : ρ x0 = v0) (h1 : ρ x1 = v1) (h2 : ρ x2 = v2) (h3 : ρ x3 = v3) (h4 : ρ x4 = v4) (hΦ : Calls P f #[v0, v1, v2, v3, v4] w fun e w' => ∃ v, e = .returned v ∧ Φ v w') : OpY P ⟨d, .call ⟨.value (.func f), #[x0, x1, x2, x3, x4], tys⟩, ty, pos, aft, gd⟩ ρ w Φ := by
  subst h0 h1 h2 h3 h4; exact y_call hg hf (by simp) hΦ
theorem y_build6 {t : TypeId} {v : Value} {i0 : Nat} {x0 : Operand} {v0 : Value} {i1 : Nat} {x1 : Operand} {v1 : Value} {i2 : Nat} {x2 : Operand} {v2 : Value} {i3 : Nat} {x3 : Operand} {v3 : Value} {i4 : Nat} {x4 : Operand} {v4 : Value} {i5 : Nat} {x5 : Operand} {v5 : Value} (h0 : ρ x0 = v0) (h1 : ρ x1 = v1) (h2 : ρ x2 = v2) (h3 : ρ x3 = v3) (h4 : ρ x4 = v4) (h5 : ρ x5 = v5) (hr : (Instr.build t #[(i0, v0), (i1, v1), (i2, v2), (i3, v3), (i4, v4), (i5, v5)]).run P w = .ok v w) (hΦ : Φ v w) : OpY P ⟨d, .build t #[(i0, x0), (i1, x1), (i2, x2), (i3, x3), (i4, x4), (i5, x5)], ty, pos, aft, gd⟩ ρ w Φ := by
  subst h0 h1 h2 h3 h4 h5; exact .pure (by simp only [execOp, List.map_toArray, List.map, Sem.run_bind, hr, Result.andThen_ok, Sem.run_pure]) hΦ
theorem y_buildSlice6 {t e : TypeId} {len : Nat} {c : Array Value} {i0 : Nat} {x0 : Operand} {v0 : Value} {i1 : Nat} {x1 : Operand} {v1 : Value} {i2 : Nat} {x2 : Operand} {v2 : Value} {i3 : Nat} {x3 : Operand} {v3 : Value} {i4 : Nat} {x4 : Operand} {v4 : Value} {i5 : Nat} {x5 : Operand} {v5 : Value} (h0 : ρ x0 = v0) (h1 : ρ x1 = v1) (h2 : ρ x2 = v2) (h3 : ρ x3 = v3) (h4 : ρ x4 = v4) (h5 : ρ x5 = v5) (hr : ∀ w : World, (Instr.buildSlice t len #[(i0, v0), (i1, v1), (i2, v2), (i3, v3), (i4, v4), (i5, v5)]).run P w = .ok (.slice (some ⟨w.heap.size, 0, none⟩) len len) (w.alloc (.cells c e))) (hΦ : ∀ b w', Gr w w' → NewF w w' [(b, .cells c e)] → Φ (.slice (some ⟨b, 0, none⟩) len len) w') : OpY P ⟨d, .buildSlice t len #[(i0, x0), (i1, x1), (i2, x2), (i3, x3), (i4, x4), (i5, x5)], ty, pos, aft, gd⟩ ρ w Φ := by
  subst h0 h1 h2 h3 h4 h5; exact .pure (by simp only [execOp, List.map_toArray, List.map, Sem.run_bind, hr, Result.andThen_ok, Sem.run_pure]) (hΦ _ _ (Gr.alloc _ _) (NewF.alloc _ _))
theorem y_call6 {tys : Array TypeId} {f : FuncId} {x0 : Operand} {v0 : Value} {x1 : Operand} {v1 : Value} {x2 : Operand} {v2 : Value} {x3 : Operand} {v3 : Value} {x4 : Operand} {v4 : Value} {x5 : Operand} {v5 : Value} (hf : callable P f = true) (hg : ρ (.func f) = .func (.func f) #[] #[]) (h0 : ρ x0 = v0) (h1 : ρ x1 = v1) (h2 : ρ x2 = v2) (h3 : ρ x3 = v3) (h4 : ρ x4 = v4) (h5 : ρ x5 = v5) (hΦ : Calls P f #[v0, v1, v2, v3, v4, v5] w fun e w' => ∃ v, e = .returned v ∧ Φ v w') : OpY P ⟨d, .call ⟨.value (.func f), #[x0, x1, x2, x3, x4, x5], tys⟩, ty, pos, aft, gd⟩ ρ w Φ := by
  subst h0 h1 h2 h3 h4 h5; exact y_call hg hf (by simp) hΦ
theorem y_build7 {t : TypeId} {v : Value} {i0 : Nat} {x0 : Operand} {v0 : Value} {i1 : Nat} {x1 : Operand} {v1 : Value} {i2 : Nat} {x2 : Operand} {v2 : Value} {i3 : Nat} {x3 : Operand} {v3 : Value} {i4 : Nat} {x4 : Operand} {v4 : Value} {i5 : Nat} {x5 : Operand} {v5 : Value} {i6 : Nat} {x6 : Operand} {v6 : Value} (h0 : ρ x0 = v0) (h1 : ρ x1 = v1) (h2 : ρ x2 = v2) (h3 : ρ x3 = v3) (h4 : ρ x4 = v4) (h5 : ρ x5 = v5) (h6 : ρ x6 = v6) (hr : (Instr.build t #[(i0, v0), (i1, v1), (i2, v2), (i3, v3), (i4, v4), (i5, v5), (i6, v6)]).run P w = .ok v w) (hΦ : Φ v w) : OpY P ⟨d, .build t #[(i0, x0), (i1, x1), (i2, x2), (i3, x3), (i4, x4), (i5, x5), (i6, x6)], ty, pos, aft, gd⟩ ρ w Φ := by
  subst h0 h1 h2 h3 h4 h5 h6; exact .pure (by simp only [execOp, List.map_toArray, List.map, Sem.run_bind, hr, Result.andThen_ok, Sem.run_pure]) hΦ
theorem y_buildSlice7 {t e : TypeId} {len : Nat} {c : Array Value} {i0 : Nat} {x0 : Operand} {v0 : Value} {i1 : Nat} {x1 : Operand} {v1 : Value} {i2 : Nat} {x2 : Operand} {v2 : Value} {i3 : Nat} {x3 : Operand} {v3 : Value} {i4 : Nat} {x4 : Operand} {v4 : Value} {i5 : Nat} {x5 : Operand} {v5 : Value} {i6 : Nat} {x6 : Operand} {v6 : Value} (h0 : ρ x0 = v0) (h1 : ρ x1 = v1) (h2 : ρ x2 = v2) (h3 : ρ x3 = v3) (h4 : ρ x4 = v4) (h5 : ρ x5 = v5) (h6 : ρ x6 = v6) (hr : ∀ w : World, (Instr.buildSlice t len #[(i0, v0), (i1, v1), (i2, v2), (i3, v3), (i4, v4), (i5, v5), (i6, v6)]).run P w = .ok (.slice (some ⟨w.heap.size, 0, none⟩) len len) (w.alloc (.cells c e))) (hΦ : ∀ b w', Gr w w' → NewF w w' [(b, .cells c e)] → Φ (.slice (some ⟨b, 0, none⟩) len len) w') : OpY P ⟨d, .buildSlice t len #[(i0, x0), (i1, x1), (i2, x2), (i3, x3), (i4, x4), (i5, x5), (i6, x6)], ty, pos, aft, gd⟩ ρ w Φ := by
  subst h0 h1 h2 h3 h4 h5 h6; exact .pure (by simp only [execOp, List.map_toArray, List.map, Sem.run_bind, hr, Result.andThen_ok, Sem.run_pure]) (hΦ _ _ (Gr.alloc _ _) (NewF.alloc _ _))
theorem y_call7 {tys : Array TypeId} {f : FuncId} {x0 : Operand} {v0 : Value} {x1 : Operand} {v1 : Value} {x2 : Operand} {v2 : Value} {x3 : Operand} {v3 : Value} {x4 : Operand} {v4 : Value} {x5 : Operand} {v5 : Value} {x6 : Operand} {v6 : Value} (hf : callable P f = true) (hg : ρ (.func f) = .func (.func f) #[] #[]) (h0 : ρ x0 = v0) (h1 : ρ x1 = v1) (h2 : ρ x2 = v2) (h3 : ρ x3 = v3) (h4 : ρ x4 = v4) (h5 : ρ x5 = v5) (h6 : ρ x6 = v6) (hΦ : Calls P f #[v0, v1, v2, v3, v4, v5, v6] w fun e w' => ∃ v, e = .returned v ∧ Φ v w') : OpY P ⟨d, .call ⟨.value (.func f), #[x0, x1, x2, x3, x4, x5, x6], tys⟩, ty, pos, aft, gd⟩ ρ w Φ := by
  subst h0 h1 h2 h3 h4 h5 h6; exact y_call hg hf (by simp) hΦ
theorem y_build8 {t : TypeId} {v : Value} {i0 : Nat} {x0 : Operand} {v0 : Value} {i1 : Nat} {x1 : Operand} {v1 : Value} {i2 : Nat} {x2 : Operand} {v2 : Value} {i3 : Nat} {x3 : Operand} {v3 : Value} {i4 : Nat} {x4 : Operand} {v4 : Value} {i5 : Nat} {x5 : Operand} {v5 : Value} {i6 : Nat} {x6 : Operand} {v6 : Value} {i7 : Nat} {x7 : Operand} {v7 : Value} (h0 : ρ x0 = v0) (h1 : ρ x1 = v1) (h2 : ρ x2 = v2) (h3 : ρ x3 = v3) (h4 : ρ x4 = v4) (h5 : ρ x5 = v5) (h6 : ρ x6 = v6) (h7 : ρ x7 = v7) (hr : (Instr.build t #[(i0, v0), (i1, v1), (i2, v2), (i3, v3), (i4, v4), (i5, v5), (i6, v6), (i7, v7)]).run P w = .ok v w) (hΦ : Φ v w) : OpY P ⟨d, .build t #[(i0, x0), (i1, x1), (i2, x2), (i3, x3), (i4, x4), (i5, x5), (i6, x6), (i7, x7)], ty, pos, aft, gd⟩ ρ w Φ := by
  subst h0 h1 h2 h3 h4 h5 h6 h7; exact .pure (by simp only [execOp, List.map_toArray, List.map, Sem.run_bind, hr, Result.andThen_ok, Sem.run_pure]) hΦ
theorem y_buildSlice8 {t e : TypeId} {len : Nat} {c : Array Value} {i0 : Nat} {x0 : Operand} {v0 : Value} {i1 : Nat} {x1 : Operand} {v1 : Value} {i2 : Nat} {x2 : Operand} {v2 : Value} {i3 : Nat} {x3 : Operand} {v3 : Value} {i4 : Nat} {x4 : Operand} {v4 : Value} {i5 : Nat} {x5 : Operand} {v5 : Value} {i6 : Nat} {x6 : Operand} {v6 : Value} {i7 : Nat} {x7 : Operand} {v7 : Value} (h0 : ρ x0 = v0) (h1 : ρ x1 = v1) (h2 : ρ x2 = v2) (h3 : ρ x3 = v3) (h4 : ρ x4 = v4) (h5 : ρ x5 = v5) (h6 : ρ x6 = v6) (h7 : ρ x7 = v7) (hr : ∀ w : World, (Instr.buildSlice t len #[(i0, v0), (i1, v1), (i2, v2), (i3, v3), (i4, v4), (i5, v5), (i6, v6), (i7, v7)]).run P w = .ok (.slice (some ⟨w.heap.size, 0, none⟩) len len) (w.alloc (.cells c e))) (hΦ : ∀ b w', Gr w w' → NewF w w' [(b, .cells c e)] → Φ (.slice (some ⟨b, 0, none⟩) len len) w') : OpY P ⟨d, .buildSlice t len #[(i0, x0), (i1, x1), (i2, x2), (i3, x3), (i4, x4), (i5, x5), (i6, x6), (i7, x7)], ty, pos, aft, gd⟩ ρ w Φ := by
  subst h0 h1 h2 h3 h4 h5 h6 h7; exact .pure (by simp only [execOp, List.map_toArray, List.map, Sem.run_bind, hr, Result.andThen_ok, Sem.run_pure]) (hΦ _ _ (Gr.alloc _ _) (NewF.alloc _ _))
theorem y_call8 {tys : Array TypeId} {f : FuncId} {x0 : Operand} {v0 : Value} {x1 : Operand} {v1 : Value} {x2 : Operand} {v2 : Value} {x3 : Operand} {v3 : Value} {x4 : Operand} {v4 : Value} {x5 : Operand} {v5 : Value} {x6 : Operand} {v6 : Value} {x7 : Operand} {v7 : Value} (hf : callable P f = true) (hg : ρ (.func f) = .func (.func f) #[] #[]) (h0 : ρ x0 = v0) (h1 : ρ x1 = v1) (h2 : ρ x2 = v2) (h3 : ρ x3 = v3) (h4 : ρ x4 = v4) (h5 : ρ x5 = v5) (h6 : ρ x6 = v6) (h7 : ρ x7 = v7) (hΦ : Calls P f #[v0, v1, v2, v3, v4, v5, v6, v7] w fun e w' => ∃ v, e = .returned v ∧ Φ v w') : OpY P ⟨d, .call ⟨.value (.func f), #[x0, x1, x2, x3, x4, x5, x6, x7], tys⟩, ty, pos, aft, gd⟩ ρ w Φ := by
  subst h0 h1 h2 h3 h4 h5 h6 h7; exact y_call hg hf (by simp) hΦ

theorem y_clos0 {tys : Array TypeId} {g : Operand} {f : FuncId} {caps args : Array Value}  (hf : callable P f = true) (hg : ρ g = .func (.func f) #[] caps)  (hcat : (#[] ++ caps : Array Value) = args) (hΦ : Calls P f args w fun e w' => ∃ v, e = .returned v ∧ Φ v w') : OpY P ⟨d, .call ⟨.value g, #[], tys⟩, ty, pos, aft, gd⟩ ρ w Φ := by
  subst hcat; exact y_closure hg hf (by simp) hΦ
theorem y_clos1 {tys : Array TypeId} {g : Operand} {f : FuncId} {caps args : Array Value} {x0 : Operand} {v0 : Value} (hf : callable P f = true) (hg : ρ g = .func (.func f) #[] caps) (h0 : ρ x0 = v0) (hcat : (#[v0] ++ caps : Array Value) = args) (hΦ : Calls P f args w fun e w' => ∃ v, e = .returned v ∧ Φ v w') : OpY P ⟨d, .call ⟨.value g, #[x0], tys⟩, ty, pos, aft, gd⟩ ρ w Φ := by
  subst hcat; subst h0; exact y_closure hg hf (by simp) hΦ
theorem y_clos2 {tys : Array TypeId} {g : Operand} {f : FuncId} {caps args : Array Value} {x0 : Operand} {v0 : Value} {x1 : Operand} {v1 : Value} (hf : callable P f = true) (hg : ρ g = .func (.func f) #[] caps) (h0 : ρ x0 = v0) (h1 : ρ x1 = v1) (hcat : (#[v0, v1] ++ caps : Array Value) = args) (hΦ : Calls P f args w fun e w' => ∃ v, e = .returned v ∧ Φ v w') : OpY P ⟨d, .call ⟨.value g, #[x0, x1], tys⟩, ty, pos, aft, gd⟩ ρ w Φ := by
  subst hcat; subst h0 h1; exact y_closure hg hf (by simp) hΦ
theorem y_clos3 {tys : Array TypeId} {g : Operand} {f : FuncId} {caps args : Array Value} {x0 : Operand} {v0 : Value} {x1 : Operand} {v1 : Value} {x2 : Operand} {v2 : Value} (hf : callable P f = true) (hg : ρ g = .func (.func f) #[] caps) (h0 : ρ x0 = v0) (h1 : ρ x1 = v1) (h2 : ρ x2 = v2) (hcat : (#[v0, v1, v2] ++ caps : Array Value) = args) (hΦ : Calls P f args w fun e w' => ∃ v, e = .returned v ∧ Φ v w') : OpY P ⟨d, .call ⟨.value g, #[x0, x1, x2], tys⟩, ty, pos, aft, gd⟩ ρ w Φ := by
  subst hcat; subst h0 h1 h2; exact y_closure hg hf (by simp) hΦ
theorem y_clos4 {tys : Array TypeId} {g : Operand} {f : FuncId} {caps args : Array Value} {x0 : Operand} {v0 : Value} {x1 : Operand} {v1 : Value} {x2 : Operand} {v2 : Value} {x3 : Operand} {v3 : Value} (hf : callable P f = true) (hg : ρ g = .func (.func f) #[] caps) (h0 : ρ x0 = v0) (h1 : ρ x1 = v1) (h2 : ρ x2 = v2) (h3 : ρ x3 = v3) (hcat : (#[v0, v1, v2, v3] ++ caps : Array Value) = args) (hΦ : Calls P f args w fun e w' => ∃ v, e = .returned v ∧ Φ v w') : OpY P ⟨d, .call ⟨.value g, #[x0, x1, x2, x3], tys⟩, ty, pos, aft, gd⟩ ρ w Φ := by
  subst hcat; subst h0 h1 h2 h3; exact y_closure hg hf (by simp) hΦ
theorem y_makeFunc0 {fn : Fn}   (hΦ : Φ (.func fn #[] #[]) w) : OpY P ⟨d, .makeFunc fn #[] #[], ty, pos, aft, gd⟩ ρ w Φ := by
  exact .pure (by simp [execOp, Instr.makeFunc]) hΦ
theorem y_makeFunc1 {fn : Fn} {x0 : Operand} {v0 : Value} (h0 : ρ x0 = v0) (hΦ : Φ (.func fn #[] #[v0]) w) : OpY P ⟨d, .makeFunc fn #[] #[x0], ty, pos, aft, gd⟩ ρ w Φ := by
  subst h0; exact .pure (by simp [execOp, Instr.makeFunc]) hΦ
theorem y_makeFunc2 {fn : Fn} {x0 : Operand} {v0 : Value} {x1 : Operand} {v1 : Value} (h0 : ρ x0 = v0) (h1 : ρ x1 = v1) (hΦ : Φ (.func fn #[] #[v0, v1]) w) : OpY P ⟨d, .makeFunc fn #[] #[x0, x1], ty, pos, aft, gd⟩ ρ w Φ := by
  subst h0 h1; exact .pure (by simp [execOp, Instr.makeFunc]) hΦ
theorem y_makeFunc3 {fn : Fn} {x0 : Operand} {v0 : Value} {x1 : Operand} {v1 : Value} {x2 : Operand} {v2 : Value} (h0 : ρ x0 = v0) (h1 : ρ x1 = v1) (h2 : ρ x2 = v2) (hΦ : Φ (.func fn #[] #[v0, v1, v2]) w) : OpY P ⟨d, .makeFunc fn #[] #[x0, x1, x2], ty, pos, aft, gd⟩ ρ w Φ := by
  subst h0 h1 h2; exact .pure (by simp [execOp, Instr.makeFunc]) hΦ
theorem y_makeFunc4 {fn : Fn} {x0 : Operand} {v0 : Value} {x1 : Operand} {v1 : Value} {x2 : Operand} {v2 : Value} {x3 : Operand} {v3 : Value} (h0 : ρ x0 = v0) (h1 : ρ x1 = v1) (h2 : ρ x2 = v2) (h3 : ρ x3 = v3) (hΦ : Φ (.func fn #[] #[v0, v1, v2, v3]) w) : OpY P ⟨d, .makeFunc fn #[] #[x0, x1, x2, x3], ty, pos, aft, gd⟩ ρ w Φ := by
  subst h0 h1 h2 h3; exact .pure (by simp [execOp, Instr.makeFunc]) hΦ
theorem y_eql {t t' : TypeId} {x y : Operand} {k : IntKind} {a b : Int} {c : Bool} (h : ρ x = .int k a) (h' : ρ y = .int k b) (hc : (a == b) = c) (hΦ : Φ (.bool c) w) : OpY P ⟨d, .binOp .eql t x y t', ty, pos, aft, gd⟩ ρ w Φ := by
  subst hc; exact .pure (v := .bool (a == b)) (by simp [execOp, h, h', eqGuard, binOp, Op.intCmp]) hΦ
theorem y_neq {t t' : TypeId} {x y : Operand} {k : IntKind} {a b : Int} {c : Bool} (h : ρ x = .int k a) (h' : ρ y = .int k b) (hc : (a != b) = c) (hΦ : Φ (.bool c) w) : OpY P ⟨d, .binOp .neq t x y t', ty, pos, aft, gd⟩ ρ w Φ := by
  subst hc; exact .pure (v := .bool (a != b)) (by simp [execOp, h, h', eqGuard, binOp, Op.intCmp]) hΦ
theorem y_lss {t t' : TypeId} {x y : Operand} {k : IntKind} {a b : Int} {c : Bool} (h : ρ x = .int k a) (h' : ρ y = .int k b) (hc : (decide (a < b)) = c) (hΦ : Φ (.bool c) w) : OpY P ⟨d, .binOp .lss t x y t', ty, pos, aft, gd⟩ ρ w Φ := by
  subst hc; exact .pure (v := .bool (decide (a < b))) (by simp [execOp, h, h', eqGuard, binOp, Op.intCmp]) hΦ
theorem y_leq {t t' : TypeId} {x y : Operand} {k : IntKind} {a b : Int} {c : Bool} (h : ρ x = .int k a) (h' : ρ y = .int k b) (hc : (decide (a ≤ b)) = c) (hΦ : Φ (.bool c) w) : OpY P ⟨d, .binOp .leq t x y t', ty, pos, aft, gd⟩ ρ w Φ := by
  subst hc; exact .pure (v := .bool (decide (a ≤ b))) (by simp [execOp, h, h', eqGuard, binOp, Op.intCmp]) hΦ
theorem y_gtr {t t' : TypeId} {x y : Operand} {k : IntKind} {a b : Int} {c : Bool} (h : ρ x = .int k a) (h' : ρ y = .int k b) (hc : (decide (b < a)) = c) (hΦ : Φ (.bool c) w) : OpY P ⟨d, .binOp .gtr t x y t', ty, pos, aft, gd⟩ ρ w Φ := by
  subst hc; exact .pure (v := .bool (decide (b < a))) (by simp [execOp, h, h', eqGuard, binOp, Op.intCmp]) hΦ
theorem y_geq {t t' : TypeId} {x y : Operand} {k : IntKind} {a b : Int} {c : Bool} (h : ρ x = .int k a) (h' : ρ y = .int k b) (hc : (decide (b ≤ a)) = c) (hΦ : Φ (.bool c) w) : OpY P ⟨d, .binOp .geq t x y t', ty, pos, aft, gd⟩ ρ w Φ := by
  subst hc; exact .pure (v := .bool (decide (b ≤ a))) (by simp [execOp, h, h', eqGuard, binOp, Op.intCmp]) hΦ
theorem y_add {t t' : TypeId} {x y : Operand} {k : IntKind} {a b c : Int} (h : ρ x = .int k a) (h' : ρ y = .int k b) (hc : k.wrap (a + b) = c) (hΦ : Φ (.int k c) w) : OpY P ⟨d, .binOp .add t x y t', ty, pos, aft, gd⟩ ρ w Φ := by
  subst hc; exact .pure (v := .int k (k.wrap (a + b))) (by simp [execOp, h, h', eqGuard, binOp, Op.intArith]) hΦ
theorem y_sub {t t' : TypeId} {x y : Operand} {k : IntKind} {a b c : Int} (h : ρ x = .int k a) (h' : ρ y = .int k b) (hc : k.wrap (a - b) = c) (hΦ : Φ (.int k c) w) : OpY P ⟨d, .binOp .sub t x y t', ty, pos, aft, gd⟩ ρ w Φ := by
  subst hc; exact .pure (v := .int k (k.wrap (a - b))) (by simp [execOp, h, h', eqGuard, binOp, Op.intArith]) hΦ
theorem wrap64 {n : Int} (h : -9223372036854775808 ≤ n ∧ n ≤ 9223372036854775807) : IntKind.i64.wrap n = n := by
  unfold IntKind.wrap
  simp [IntKind.signed, IntKind.bits, IntKind.min, IntKind.max] at *
  omega
theorem y_min {t t' : TypeId} {x y : Operand} {k : IntKind} {a b c : Int} (h : ρ x = .int k a) (h' : ρ y = .int k b) (hc : min a b = c) (hΦ : Φ (.int k c) w) : OpY P ⟨d, .call ⟨.builtin .min, #[x, y], #[t, t']⟩, ty, pos, aft, gd⟩ ρ w Φ := by
  have : (if b < a then b else a) = c := by subst hc; split <;> omega
  subst this; exact .pure (v := .int k (if b < a then b else a)) (by simp [execOp, resolve, h, h', invoke, builtin, Builtin.min_, Builtin.min2]) hΦ
theorem y_max {t t' : TypeId} {x y : Operand} {k : IntKind} {a b c : Int} (h : ρ x = .int k a) (h' : ρ y = .int k b) (hc : max a b = c) (hΦ : Φ (.int k c) w) : OpY P ⟨d, .call ⟨.builtin .max, #[x, y], #[t, t']⟩, ty, pos, aft, gd⟩ ρ w Φ := by
  have : (if a < b then b else a) = c := by subst hc; split <;> omega
  subst this; exact .pure (v := .int k (if a < b then b else a)) (by simp [execOp, resolve, h, h', invoke, builtin, Builtin.max_, Builtin.max2]) hΦ
theorem y_not {t : TypeId} {x : Operand} {b c : Bool} (h : ρ x = .bool b) (hc : (!b) = c) (hΦ : Φ (.bool c) w) : OpY P ⟨d, .unOp .not t x, ty, pos, aft, gd⟩ ρ w Φ := by
  subst hc; exact .pure (v := .bool (!b)) (by simp [execOp, h, Op.unary]) hΦ
theorem y_pickT {c x y : Operand} {v : Value} (h : ρ c = .bool true) (hx : ρ x = v) (hΦ : Φ v w) : OpY P ⟨d, .pick c x y, ty, pos, aft, gd⟩ ρ w Φ :=
  .pure (by simp [execOp, h, hx, asBool]) hΦ
theorem y_pickF {c x y : Operand} {v : Value} (h : ρ c = .bool false) (hx : ρ y = v) (hΦ : Φ v w) : OpY P ⟨d, .pick c x y, ty, pos, aft, gd⟩ ρ w Φ :=
  .pure (by simp [execOp, h, hx, asBool]) hΦ
theorem y_pick {c x y : Operand} {b : Bool} {u v : Value} (h : ρ c = .bool b) (hx : ρ x = u) (hy : ρ y = v) (hΦ : Φ (if b then u else v) w) : OpY P ⟨d, .pick c x y, ty, pos, aft, gd⟩ ρ w Φ :=
  .pure (by simp [execOp, h, hx, hy, asBool]) hΦ
theorem y_lenS {x : Operand} {t e : TypeId} {a : Option Addr} {n c : Nat} (ht : P.underlying t = some (.slice e)) (h : ρ x = .slice a n c) (hΦ : Φ (.int .i64 n) w) : OpY P ⟨d, .call ⟨.builtin .len, #[x], #[t]⟩, ty, pos, aft, gd⟩ ρ w Φ :=
  .pure (v := .int .i64 n) (by simp [execOp, resolve, h, invoke, builtin, Builtin.len_, Sem.run_bind, run_underlying ht, goInt]) hΦ
theorem y_sliceNil {x : Operand} {t t' e : TypeId} {o : Option Addr} {n k : Nat} {c : Bool} (ht : P.underlying t = some (.slice e)) (h : ρ x = .slice o n k) (hn : ρ (.const (.slice none 0 0)) = .slice none 0 0) (hc : o.isNone = c) (hΦ : Φ (.bool c) w) : OpY P ⟨d, .binOp .eql t x (.const (.slice none 0 0)) t', ty, pos, aft, gd⟩ ρ w Φ := by
  subst hc
  refine .pure (v := .bool o.isNone) ?_ hΦ
  have : ∀ m, (Op.equalIn (m + 1) t (.slice o n k) (.slice none 0 0)).run P w = .ok o.isNone w := by
    intro m; cases o <;> simp [Op.equalIn, Sem.run_bind, run_underlying ht]
  simp [execOp, h, hn, eqGuard, binOp, Op.equal, Op.maxDepth, this 9999]
theorem y_ptrNil {x : Operand} {t t' : TypeId} {o : Option Addr} {c : Bool} (ht : P.underlying t = some (.pointer (P.pointee t))) (h : ρ x = .pointer o) (hn : ρ (.const (.pointer none)) = .pointer none) (hc : o.isNone = c) (hΦ : Φ (.bool c) w) : OpY P ⟨d, .binOp .eql t x (.const (.pointer none)) t', ty, pos, aft, gd⟩ ρ w Φ := by
  subst hc
  exact .pure (v := .bool o.isNone) (by simp [execOp, h, hn, eqGuard, binOp, Op.equal, Op.maxDepth, run_equalIn_pointer_nil w 9999 t o ht]) hΦ
end

theorem callN {P : Program} {f : FuncId} {args : Array Value} {w : World} {Ψ : Value → Frag → Prop} {Φ : Value → World → Prop} (h : Calls P f args w (RetN w Ψ)) (hi : ∀ v w' H, Gr w w' → NewF w w' H → Ψ v H → Φ v w') : Calls P f args w fun e w' => ∃ v, e = .returned v ∧ Φ v w' :=
  h.mono (by rintro e w' ⟨v, rfl, g, H, hf, n⟩; exact ⟨v, rfl, hi v w' H g n hf⟩)
theorem callW {P : Program} {f : FuncId} {args : Array Value} {w : World} {D : List Nat} {Ψ : Value → Frag → Prop} {Φ : Value → World → Prop} (h : Calls P f args w (RetW D w Ψ)) (hi : ∀ v w' H, St D w w' H → Ψ v H → Φ v w') : Calls P f args w fun e w' => ∃ v, e = .returned v ∧ Φ v w' :=
  h.mono (by rintro e w' ⟨v, H, rfl, hf, s⟩; exact ⟨v, rfl, hi v w' H s hf⟩)
theorem y_lookup {P : Program} {ρ : Operand → Value} {w : World} {Φ : Value → World → Prop} {d : Option Tmp} {ty t : TypeId} {pos : String} {aft : Array Edge} {gd : Option (Nat × Bool)} {x y : Operand} {m k v : Value} {ok : Bool} (h : ρ x = m) (h' : ρ y = k) (hr : (Instr.lookup t m k ok).run P w = .ok v w) (hΦ : Φ v w) : OpY P ⟨d, .lookup t x y ok, ty, pos, aft, gd⟩ ρ w Φ :=
  .pure (by simp only [execOp, h, h', Sem.run_bind, hr, Result.andThen_ok, Sem.run_pure]) hΦ
/-! the end of a call -/
section
variable {P : Program} {w : World} {a : Act}
def resOk (P : Program) (w : World) (a : Act) : List ResultVar → List Value → Prop
  | [], [] => True
  | .tmp t :: r, v :: vs => a.eval (.tmp t) = v ∧ resOk P w a r vs
  | .cell t ty :: r, v :: vs => (∃ ad, a.eval (.tmp t) = .pointer (some ad) ∧ (loadVar ty ad).run P w = .ok v w) ∧ resOk P w a r vs
  | _, _ => False
def resF (t : Array Value) : ResultVar → Sem Value
  | .tmp s => pure (t.getD s undef)
  | .cell s ty => do loadVar ty (← asAddr (t.getD s undef))
theorem res_list : ∀ (rs : List ResultVar) (vs : List Value), resOk P w a rs vs → (rs.mapM (resF a.tmps)).run P w = .ok vs w
  | [], [], _ => by simp
  | .tmp t :: r, v :: vs, h => by
    have h1 : a.tmps.getD t undef = v := h.1
    have ih := res_list r vs h.2
    simp only [List.mapM_cons, Sem.run_bind, resF, h1, Sem.run_pure, Result.andThen_ok, ih]
  | .cell t ty :: r, v :: vs, h => by
    obtain ⟨⟨ad, h1, h2⟩, h3⟩ := h
    have h1' : a.tmps.getD t undef = .pointer (some ad) := h1
    have ih := res_list r vs h3
    have h4 : (asAddr (.pointer (some ad))).run P w = .ok ad w := rfl
    simp only [List.mapM_cons, Sem.run_bind, resF, h1', h4, Sem.run_pure, Result.andThen_ok, h2, ih]
  | [], _ :: _, h => h.elim
  | .tmp _ :: _, [], h => h.elim
  | .cell _ _ :: _, [], h => h.elim
theorem res_run {fn : Func} {rs : List ResultVar} {vs : List Value} (hr : fn.results.toList = rs) (h : resOk P w a rs vs) : (results fn a.tmps).run P w = .ok (match vs with | [v] => v | vs => .tuple vs.toArray) w := by
  have hm := res_list rs vs h
  have he : results fn a.tmps = (do let vs ← fn.results.mapM (resF a.tmps); pure (if h : vs.size = 1 then vs[0] else .tuple vs)) := by
    unfold results
    congr 1
  rw [he]
  simp only [Sem.run_bind, Array.mapM_eq_mapM_toList, hr, Sem.run_map, hm, Result.andThen_ok, Sem.run_pure]
  match vs with
  | [] => simp
  | [v] => simp
  | _ :: _ :: _ => simp
theorem ld_agg {t : TypeId} {b i : Nat} {vs : List Value} {c : Array Value} {u : TypeId} {fr : Nat × Nat} (ht : aggOf P t vs.length = true) (hb : w.heap[b]? = some (.cells c u fr)) (hv : ∀ j (hj : j < vs.length), c[i + j]? = some vs[j]) : (loadVar t ⟨b, i, none⟩).run P w = .ok (.agg vs.toArray) w := by
  have h := run_loadAt_agg (P := P) (w := w) (a := ⟨b, i, none⟩) (vs := vs) ht (fun j hj => by rw [add_eq, cell_of hb]; exact hv j hj)
  simpa [Instr.loadAt, Instr.sureAddr] using h
end
theorem ld_all {c : Array Value} {i : Nat} {vs : List Value} (h : (c.extract i (i + vs.length)).toList = vs) : ∀ j (hj : j < vs.length), c[i + j]? = some vs[j] := by
  intro j hj
  have : (c.extract i (i + vs.length)).toList[j]? = some vs[j] := by rw [h]; simp [hj]
  simp only [Array.getElem?_toList, Array.getElem?_extract] at this
  split at this
  · exact this
  · simp at this
theorem St.get {D : List Nat} {w0 w : World} {H : Frag} (s : St D w0 w H) (i : Nat) {b : Nat} {o : Obj} (h : H[i]? = some (b, o)) : w.heap[b]? = some o := s.holds (b, o) (List.mem_of_getElem? h)
theorem St.setAt {D : List Nat} {w0 w : World} {H : Frag} (s : St D w0 w H) (i : Nat) {b : Nat} {o : Obj} (h : H[i]? = some (b, o)) (o' : Obj) : St D w0 (setB w b o') (H.set i (b, o')) := by
  have hi := lt_of_get h
  have hk : keys (H.set i (b, o')) = keys H := by
    apply List.ext_getElem?
    intro j
    simp only [keys, List.getElem?_map, List.getElem?_set]
    by_cases e : i = j
    · subst e; rw [List.getElem?_eq_getElem hi] at h; simp [hi, Option.some.inj h]
    · simp [e]
  have hown : w0.heap.size ≤ b ∨ b ∈ D := s.own b (List.mem_map_of_mem (f := fun x : Nat × Obj => x.1) (List.mem_of_getElem? h))
  refine ⟨⟨s.kp.os, s.kp.tape, s.kp.output, by rw [setB_size]; exact s.kp.size, fun c hc hd => ?_⟩, by rw [hk]; exact s.nd, by rw [hk]; exact s.own, ?_⟩
  · have hne : b ≠ c := by
      intro e; subst e
      rcases hown with h | h
      · omega
      · exact hd h
    rw [setB_other o' hne]; exact s.kp.block c hc hd
  · intro x hx
    obtain ⟨j, hj⟩ := List.getElem?_of_mem hx
    rw [List.getElem?_set] at hj
    by_cases e : i = j
    · subst e
      simp only [if_true, hi] at hj
      cases hj
      exact setB_same o' (heap_lt (s.get i h))
    · rw [if_neg e] at hj
      have hne : b ≠ x.1 := by
        intro e2
        have hnd := s.nd
        have h1 : (keys H)[i]? = some b := by simp [keys, h]
        have h2 : (keys H)[j]? = some b := by simp [keys, hj, e2]
        exact e ((List.getElem?_inj (by simp [keys]; exact hi) hnd).1 (h1.trans h2.symm))
      rw [setB_other o' hne]; exact s.holds x (List.mem_of_getElem? hj)
theorem St.newF {w0 w : World} {H : Frag} (s : St [] w0 w H) : NewF w0 w H := ⟨s.nd, fun b hb => (s.own b hb).resolve_right (by simp), s.holds⟩
theorem one_all {vs : List Value} (h : vs.all oneC = true) : ∀ x ∈ vs, oneC x = true := by simpa [List.all_eq_true] using h
theorem cells_at {w : World} {b i : Nat} {c : Array Value} {t : TypeId} {fr : Nat × Nat} (hb : w.heap[b]? = some (.cells c t fr)) {vs : List Value} (h : (c.extract i (i + vs.length)).toList = vs) : ∀ j (hj : j < vs.length), w.cell? ((⟨b, i, none⟩ : Addr).add j) = some vs[j] := by
  intro j hj
  rw [add_eq, cell_of hb]
  have : (c.extract i (i + vs.length)).toList[j]? = some vs[j] := by rw [h]; simp [hj]
  simp only [Array.getElem?_toList, Array.getElem?_extract] at this
  split at this
  · exact this
  · simp at this
section
variable {P : Program} {ops : Array Oper} {Q : Exit → Act → World → Prop} {sz d : Nat} {E : List (Nat × Value)} {a : Act} {w : World} {x : Operand} {v : Value} {ty : TypeId} {pos : String} {aft : Array Edge} {r : List (Oper × Bool)}
theorem Lm (A : Sl sz a E) (hlt : d.blt sz = true) (h : a.eval x = v) (k : ∀ a', Sl sz a' ((d, v) :: but E d) → wpL P ops Q r a' w) : wpL P ops Q ((⟨some d, .move x, ty, pos, aft, none⟩, false) :: r) a w := Lo A hlt (y_move h k)
theorem La (A : Sl sz a E) (hlt : d.blt sz = true) (h : a.eval x = v) (k : ∀ a', Sl sz a' ((d, v) :: but E d) → wpL P ops Q r a' w) : wpL P ops Q ((⟨some d, .assign x, ty, pos, aft, none⟩, false) :: r) a w := Lo A hlt (y_assign h k)
end
end Go.Proofs.Ytaeidblipdjgnaa
