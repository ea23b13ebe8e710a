import Derived.Test.YtaeidblipdjgnaaSim
namespace Go.Proofs.Ytaeidblipdjgnaa
open Go.RowKit Go.Maps Go.WideMaps

section
variable {P : Program} {ρ : Operand → Value} {w : World} {Φ : Value → World → Prop} {d : Option Tmp} {ty t t' e : TypeId} {pos : String} {aft : Array Edge} {gd : Option (Nat × Bool)} {x y : Operand}
theorem run_storeF {b i : Nat} {c : Array Value} {t : TypeId} {fr : Nat × Nat} {v : Value} (hb : w.heap[b]? = some (.cells c t fr)) (hi : i < c.size) (hfr : i < fr.1 ∨ fr.2 ≤ i) (hv : oneC v = true) : (store ⟨b, i, none⟩ v).run P w = .ok () (setB w b (.cells (c.setIfInBounds i v) t fr)) := by
  have hc : w.cell? ⟨b, i, none⟩ = some c[i] := by rw [cell_of hb]; simp [hi]
  have hf : w.frozen? ⟨b, i, none⟩ = false := by simp [World.frozen?, hb]; omega
  rw [← setCell_eq hb]
  cases v <;> simp [oneC] at hv <;> simp [store, Sem.run, hc, hf]
/-- a store of one cell, where the row has a mark that does not cover the place -/
theorem y_storeF {u : TypeId} {b i : Nat} {c : Array Value} {fr : Nat × Nat} {v : Value} (hn : (P.info? u).map (·.size) = some 1) (hx : ρ x = .pointer (some ⟨b, i, none⟩)) (hy : ρ y = v) (hb : w.heap[b]? = some (.cells c t fr)) (hv : v.cells = #[v]) (hi : i < c.size) (hfr : i < fr.1 ∨ fr.2 ≤ i) (hone : oneC v = true)
    (hΦ : Φ undef (setB w b (.cells (c.setIfInBounds i v) t fr))) : OpY P ⟨d, .store u x y, ty, pos, aft, gd⟩ ρ w Φ := by
  refine .skip ?_ hΦ
  cases hin : P.info? u with
  | none => simp [hin] at hn
  | some inf =>
    simp only [hin, Option.map_some, Option.some.injEq] at hn
    have hs : (sizeOf u).run P w = .ok 1 w := by simp [sizeOf, typeInfo, Sem.run_bind, hin, hn]
    have h := run_storeF (P := P) hb hi hfr hone
    simp only [execOp, hx, hy, Instr.storeAt, Instr.sureAddr, Sem.run_bind, Sem.run_pure, Result.andThen_ok, storeVar, hs, hv]
    simp [storeCells, Sem.run_bind, add_eq, h]
theorem alloc_shape (w1 : World) (cs : Array Value) (e : TypeId) : (w1.alloc (.cells cs e)).shape? w1.heap.size = some (e, cs.size) := by
  have hb : (w1.alloc (.cells cs e)).heap[w1.heap.size]? = some (.cells cs e) := (NewF.alloc w1 _).holds.one
  unfold World.shape?; rw [hb]
theorem alloc_freeze (w1 : World) (cs : Array Value) (e : TypeId) : (w1.alloc (.cells cs e)).freeze ⟨w1.heap.size, cs.size, none⟩ 1 = w1.alloc (.cells cs e (cs.size, cs.size + 1)) := by
  unfold World.freeze World.alloc
  rw [if_neg (by decide)]
  congr 1
  apply Array.ext_getElem?
  intro j
  rw [Array.getElem?_modify, Array.getElem?_push, Array.getElem?_push]
  by_cases e' : w1.heap.size = j
  · subst e'; simp
  · rw [if_neg e', if_neg (fun h => e' h.symm), if_neg (fun h => e' h.symm)]
/-- '[]byte(s)' -/
theorem y_strBytes {l : List UInt8} (ht : P.underlying t = some .string) (ht' : P.underlying t' = some (.slice e)) (he : P.underlying e = some (.int .u8)) (hx : ρ x = .string ⟨l.toArray⟩)
    (hΦ : ∀ b cap cs w', Gr w w' → NewF w w' [(b, .cells cs e (cs.size, cs.size + 1))] → l.length ≤ cs.size → cs.toList.take l.length = l.map u8v → Φ (.slice (some ⟨b, 0, none⟩) l.length cap) w') : OpY P ⟨d, .convert t t' x, ty, pos, aft, gd⟩ ρ w Φ := by
  have hch : (choose (.appendCap l.length 0 e)).run P w = .ok ((Question.appendCap l.length 0 e).cut (w.tape w.drawn (.appendCap l.length 0 e))) w.drew := by
    simp [choose, Sem.run, Question.forced]
  generalize hcap : (Question.appendCap l.length 0 e).cut (w.tape w.drawn (.appendCap l.length 0 e)) = cap at hch
  have hrow : ∀ (cs : Array Value) (w : World), (newRow e cs).run P w = .ok ⟨w.heap.size, 0, none⟩ (w.alloc (.cells cs e)) := by
    intro cs w; simp [newRow, newObj, Sem.run]
  let cs : Array Value := (l.toArray.map fun b : UInt8 => Value.int .u8 b.toNat) ++ Array.replicate (cap - l.length) (.int .u8 0)
  have hsh : (w.drew.alloc (.cells cs e)).shape? w.heap.size = some (e, cs.size) := alloc_shape w.drew cs e
  have hfr : (w.drew.alloc (.cells cs e)).freeze ⟨w.heap.size, cs.size, none⟩ 1 = w.drew.alloc (.cells cs e (cs.size, cs.size + 1)) := alloc_freeze w.drew cs e
  refine .pure (v := .slice (some ⟨w.heap.size, 0, none⟩) l.length cap) (w' := w.drew.alloc (.cells cs e (cs.size, cs.size + 1))) ?_ (hΦ _ _ cs _ ((Gr.drew w).trans (Gr.alloc _ _)) ?_ ?_ ?_)
  · have : (convert t t' (.string ⟨l.toArray⟩)).run P w = .ok (.slice (some ⟨w.heap.size, 0, none⟩) l.length cap) (w.drew.alloc (.cells cs e (cs.size, cs.size + 1))) := by
      simp only [convert, Sem.run_bind, run_underlying ht, run_underlying ht', run_underlying he, Result.andThen_ok, Conv.stringToBytes]
      rw [show ByteArray.size ⟨l.toArray⟩ = l.length by simp [ByteArray.size], hch]
      simp only [Result.andThen_ok, hrow, markStringish, Sem.run_bind]
      have hsr : ∀ w1 : World, w1.shape? w.heap.size = some (e, cs.size) → (shape w.heap.size).run P w1 = .ok (some (e, cs.size)) w1 := by intro w1 h1; simp [shape, Sem.run, h1]
      have hfz : ∀ w1 : World, (Go.freeze ⟨w.heap.size, cs.size, none⟩ 1).run P w1 = .ok () (w1.freeze ⟨w.heap.size, cs.size, none⟩ 1) := by intro w1; simp [Go.freeze, Sem.run]
      show Result.andThen (Result.andThen ((shape w.heap.size).run P (w.drew.alloc (.cells cs e))) _) _ = _
      rw [hsr _ hsh]
      simp only [Result.andThen_ok]
      show Result.andThen ((Go.freeze ⟨w.heap.size, cs.size, none⟩ 1).run P (w.drew.alloc (.cells cs e))) _ = _
      rw [hfz, hfr]; rfl
    simp only [execOp, hx, Sem.run_bind, this, Result.andThen_ok, Sem.run_pure]
  · exact (NewF.alloc w.drew _).ahead (Gr.drew w)
  · simp [cs]
  · simp only [cs, Array.toList_append, Array.toList_map, List.toList_toArray]
    rw [List.take_append_of_le_length (by simp), List.take_of_length_le (by simp)]; rfl
theorem u8_add1 (u : UInt8) : IntKind.u8.wrap ((u.toNat : Int) + 1) = (((u + 1).toNat : Nat) : Int) := by
  have := u.toNat_lt
  simp only [IntKind.wrap, IntKind.signed, IntKind.bits, UInt8.toNat_add]
  simp
/-- a row of bytes whatever they are -/
def Bts (cs : Array Value) (n : Nat) : Prop := ∀ j, j < n → ∃ u : UInt8, cs[j]? = some (u8v u)
theorem Bts.of {cs : Array Value} {l : List UInt8} (h : cs.toList.take l.length = l.map u8v) : Bts cs l.length := by
  intro j hj
  refine ⟨l[j], ?_⟩
  rw [SlRep.cell h hj]; simp [hj]
theorem Bts.set {cs : Array Value} {n i : Nat} (h : Bts cs n) (u : UInt8) (hi : i < cs.size) : Bts (cs.setIfInBounds i (u8v u)) n := by
  intro j hj
  rw [Array.getElem?_setIfInBounds]
  by_cases e : i = j
  · subst e; exact ⟨u, by simp [hi]⟩
  · rw [if_neg e]; exact h j hj
end

end Go.Proofs.Ytaeidblipdjgnaa
