/-
  Ranging over a map: the step takes one entry that is left, whichever.
-/
import Derived.Test.YtaeidblipdjgnaaMapw
import Derived.Laws.IdiomRangeMap
import Derived.Laws.Externs
namespace Go.Proofs.Ytaeidblipdjgnaa
open Go.RowKit
/-- the entries that are left -/
def leftE (es : Array MapEntry) (seen : Array Nat) : Array MapEntry := es.filter fun e => !seen.contains e.born
section
variable {P : Program} {ρ : Operand → Value} {w : World} {Φ : Value → World → Prop} {d : Option Tmp} {ty t k e : TypeId} {pos : String} {aft : Array Edge} {gd : Option (Nat × Bool)} {x : Operand}
def notCells : Obj → Bool
  | .cells _ _ _ => false
  | _ => true
theorem run_getA {r : Nat} {o : Obj} (h : w.heap[r]? = some o) (ho : notCells o = true) : (getObj r).run P w = .ok o w := by
  cases o <;> simp [notCells] at ho <;> simp [getObj, Sem.run, h]
theorem run_setA {r : Nat} {o : Obj} (h : w.heap[r]? = some o) (ho : notCells o = true) (o' : Obj) : (setObj r o').run P w = .ok () (setB w r o') := by
  cases o <;> simp [notCells] at ho <;> simp [setObj, Sem.run, h, setB]
theorem y_rangeN (ht : P.underlying t = some (.map k e)) (hx : ρ x = .map none) (hΦ : ∀ b w', Gr w w' → NewF w w' [(b, .mapIter none 0 #[] 0)] → Φ (.pointer (some ⟨b, 0, none⟩)) w') : OpY P ⟨d, .range t x, ty, pos, aft, gd⟩ ρ w Φ :=
  .pure (v := .pointer (some ⟨w.heap.size, 0, none⟩)) (w' := w.alloc (.mapIter none 0 #[] 0)) (by simp [execOp, hx, Instr.range, Sem.run_bind, run_underlying ht, newObj, Sem.run]) (hΦ _ _ (Gr.alloc _ _) (NewF.alloc _ _))
theorem y_rangeM {bm : Nat} {es : Array MapEntry} {clock : Nat} (ht : P.underlying t = some (.map k e)) (hx : ρ x = .map (some bm)) (hb : w.heap[bm]? = some (.map es clock)) (hΦ : ∀ b w', Gr w w' → NewF w w' [(b, .mapIter (some bm) clock #[] clock)] → Φ (.pointer (some ⟨b, 0, none⟩)) w') : OpY P ⟨d, .range t x, ty, pos, aft, gd⟩ ρ w Φ :=
  .pure (v := .pointer (some ⟨w.heap.size, 0, none⟩)) (w' := w.alloc (.mapIter (some bm) clock #[] clock)) (by simp [execOp, hx, Instr.range, Sem.run_bind, run_underlying ht, run_getA hb rfl, newObj, Sem.run]) (hΦ _ _ (Gr.alloc _ _) (NewF.alloc _ _))
theorem y_nextN {ri a c : Nat} {s : Array Nat} (hx : ρ x = .pointer (some ⟨ri, 0, none⟩)) (hi : w.heap[ri]? = some (.mapIter none a s c)) (hΦ : Φ (.tuple #[.bool false]) w) : OpY P ⟨d, .next x false, ty, pos, aft, gd⟩ ρ w Φ :=
  .pure (v := .tuple #[.bool false]) (w' := w) (by simp [execOp, hx, Instr.next, Sem.run_bind, run_getA hi rfl]) hΦ
theorem y_nextM {ri bm since c0 clock : Nat} {seen : Array Nat} {es : Array MapEntry} (hx : ρ x = .pointer (some ⟨ri, 0, none⟩)) (hi : w.heap[ri]? = some (.mapIter (some bm) since seen c0)) (hb : w.heap[bm]? = some (.map es clock)) (hold : ∀ x ∈ es.toList, x.born < since) (hsc : since ≤ c0)
    (h0 : (leftE es seen).size = 0 → Φ (.tuple #[.bool false]) w)
    (h1 : ∀ en ∈ (leftE es seen).toList, ∀ w1, Gr w w1 → w1.heap = w.heap → Φ (.tuple #[.bool true, en.key, en.val]) (setB w1 ri (.mapIter (some bm) since (seen.push en.born) clock))) : OpY P ⟨d, .next x false, ty, pos, aft, gd⟩ ρ w Φ := by
  have key : ((leftE es seen).size = 0 ∧ (Instr.next (.pointer (some ⟨ri, 0, none⟩)) false ty).run P w = .ok (.tuple #[.bool false]) w) ∨ ∃ en ∈ (leftE es seen).toList, ∃ w1, Gr w w1 ∧ w1.heap = w.heap ∧ (Instr.next (.pointer (some ⟨ri, 0, none⟩)) false ty).run P w = .ok (.tuple #[.bool true, en.key, en.val]) (setB w1 ri (.mapIter (some bm) since (seen.push en.born) clock)) := by
    simp only [Instr.next, Sem.run_bind, run_getA hi rfl, run_getA hb rfl, Result.andThen, next_test_false seen es since c0 hold hsc, Bool.false_eq_true, if_false]
    unfold leftE
    have hmem : ∀ x ∈ (Array.filter (fun e => !seen.contains e.born) es).toList, x.born < since := fun x hx => hold x (by simp at hx ⊢; exact hx.1)
    generalize Array.filter (fun e => !seen.contains e.born) es = L at hmem ⊢
    have e1 : L.filter (fun x => decide (x.born < since)) = L := Array.filter_eq_self.2 (fun x hx => by simpa using hmem x (by simpa using hx))
    have e2 : L.filter (fun x => decide (x.born ≥ since)) = #[] := by
      rw [Array.filter_eq_empty_iff]
      intro x hx
      have := hmem x (by simpa using hx)
      simp
      omega
    simp only [e1, e2, Array.append_empty]
    by_cases h0 : L.size = 0
    · left
      have : L = #[] := Array.eq_empty_of_size_eq_zero h0
      subst this
      refine ⟨rfl, ?_⟩
      simp [choose, Sem.run, Question.forced]
    · right
      have hne : L.isEmpty = false := by simp [Array.isEmpty, h0]
      simp only [hne, Bool.false_eq_true, if_false, Array.empty_append, Array.size_map]
      have hch : ∃ (j : Nat) (w1 : World), j < L.size ∧ Gr w w1 ∧ w1.heap = w.heap ∧ (choose (Question.mapNext L.size)).run P w = .ok j w1 := by
        by_cases hf : L.size ≤ 1
        · exact ⟨0, w, by omega, Gr.refl _, rfl, by simp [choose, Sem.run, Question.forced, hf]⟩
        · exact ⟨_, w.drew, Nat.mod_lt _ (by omega), Gr.drew w, rfl, by
            simp only [choose, Sem.run, Question.forced, decide_eq_true_eq, hf, if_false, Question.cut]
            rfl⟩
      obtain ⟨j, w1, hj, hg, hh, hrun⟩ := hch
      refine ⟨L[j], by simp, w1, hg, hh, ?_⟩
      have hi1 : w1.heap[ri]? = some (.mapIter (some bm) since seen c0) := by rw [hh]; exact hi
      simp only [hrun, Array.getElem?_map, Array.getElem?_eq_getElem hj, Option.map_some, Sem.run_bind, Result.andThen, run_setA hi1 rfl]
      rfl
  rcases key with ⟨hz, hr⟩ | ⟨en, hen, w1, hg, hh, hr⟩
  · exact .pure (by simp only [execOp, hx, Sem.run_bind, hr, Result.andThen_ok, Sem.run_pure]) (h0 hz)
  · exact .pure (by simp only [execOp, hx, Sem.run_bind, hr, Result.andThen_ok, Sem.run_pure]) (h1 en hen w1 hg hh)
theorem y_entryM {ri bm since clock : Nat} {seen : Array Nat} {es : Array MapEntry} {en : MapEntry} (hx : ρ x = .pointer (some ⟨ri, 0, none⟩)) (hi : w.heap[ri]? = some (.mapIter (some bm) since (seen.push en.born) clock)) (hb : w.heap[bm]? = some (.map es clock)) (he : en ∈ es.toList) (hn : (es.toList.map (·.born)).Nodup) (hΦ : Φ (.tuple #[en.key, en.val]) w) : OpY P ⟨d, .entry x, ty, pos, aft, gd⟩ ρ w Φ := by
  have hf : es.find? (·.born == en.born) = some en := by rw [← Array.find?_toList]; exact find_born en es.toList hn he
  have hr : (Instr.entry (.pointer (some ⟨ri, 0, none⟩))).run P w = .ok (.tuple #[en.key, en.val]) w := by
    simp only [Instr.entry, Sem.run_bind, run_getA hi rfl, run_getA hb rfl, Result.andThen, Array.back?_push, bne_self_eq_false, Bool.false_eq_true, if_false, hf]
    rfl
  exact .pure (by simp only [execOp, hx, Sem.run_bind, hr, Result.andThen_ok, Sem.run_pure]) hΦ
theorem y_mapNil {t' : TypeId} {o : Option Nat} {c : Bool} (ht : P.underlying t = some (.map k e)) (h : ρ x = .map o) (hn : ρ (.const (.map none)) = .map none) (hc : o.isNone = c) (hΦ : Φ (.bool c) w) : OpY P ⟨d, .binOp .eql t x (.const (.map none)) t', ty, pos, aft, gd⟩ ρ w Φ := by
  subst hc
  refine .pure (v := .bool o.isNone) ?_ hΦ
  have : ∀ m, (Op.equalIn (m + 1) t (.map o) (.map none)).run P w = .ok o.isNone w := by
    intro m; cases o <;> simp [Op.equalIn, Sem.run_bind, run_underlying ht]
  simp [execOp, h, hn, eqGuard, binOp, Op.equal, Op.maxDepth, this 9999]
def mblk (o : Obj) (v : Value) (H : Frag) : Prop := ∃ b, v = .map (some b) ∧ H = [(b, o)]
theorem y_mapIface {v : Value} (ht : P.underlying t = some (.map k e)) (h : ρ x = v) (hΦ : Φ (.iface t v) w) : OpY P ⟨d, .makeInterface t x, ty, pos, aft, gd⟩ ρ w Φ :=
  .pure (by simp [execOp, h, Instr.makeInterface, Sem.run_bind, run_underlying ht]) hΦ
theorem y_mapAssert {v : Value} {xT : TypeId} (ht : P.underlying t = some (.map k e)) (h : ρ x = .iface t v) (hΦ : Φ v w) : OpY P ⟨d, .typeAssert x xT t false, ty, pos, aft, gd⟩ ρ w Φ :=
  .pure (v := v) (w' := w) (by simp [execOp, h, Instr.typeAssert, Sem.run_bind, run_underlying ht, go_sem, Result.andThen]) hΦ
theorem y_mapsClone {tys : Array TypeId} {f : FuncId} {fn : Func} {r : Nat} {es : Array MapEntry} {clock : Nat} (hf : P.funcs[f]? = some fn) (hname : (fn.name == "runtime.NumGoroutine") = false) (hbody : fn.body.isNone = true) (hn : Extern.findNext fn = none) (hfind : Extern.find fn = some Extern.MapsClone.clone) (hg : ρ (.func f) = .func (.func f) #[] #[]) (h : ρ x = .iface t (.map (some r))) (hb : w.heap[r]? = some (.map es clock)) (hΦ : ∀ b w', Gr w w' → NewF w w' [(b, .map es clock)] → Φ (.iface t (.map (some b))) w') : OpY P ⟨d, .call ⟨.value (.func f), #[x], tys⟩, ty, pos, aft, gd⟩ ρ w Φ := by
  have e1 : Extern.MapsClone.clone #[.iface t (.map (some r))] = (getObj r >>= fun o => match o with
      | .map entries clock => (newObj (.map entries clock) >>= fun n => pure (.iface t (.map (some n))))
      | _ => stuck "maps.clone: a map expected") := rfl
  have e2 : (Extern.MapsClone.clone #[.iface t (.map (some r))]).run P w = .ok (.iface t (.map (some w.heap.size))) (w.alloc (.map es clock)) := by
    rw [e1]; simp [Sem.run_bind, run_getA hb rfl, Result.andThen, go_sem]
  refine .pure (v := .iface t (.map (some w.heap.size))) (w' := w.alloc (.map es clock)) ?_ (hΦ _ _ (Gr.alloc _ _) (NewF.alloc _ _))
  simp [execOp, resolve, hg, h, Deferred.ofValue, invoke, run_callFunc_extern hf hname hbody hn hfind, e2, Result.andThen]
end
end Go.Proofs.Ytaeidblipdjgnaa
