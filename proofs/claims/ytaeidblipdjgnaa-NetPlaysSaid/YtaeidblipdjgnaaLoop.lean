/-
  What loops over handed slices need: places in arrays and in handed slices; new maps.
-/
import Derived.Test.YtaeidblipdjgnaaAppend
import Derived.Test.YtaeidblipdjgnaaMapw
import Derived.Deep.LoopGhost
namespace Go.Proofs.Ytaeidblipdjgnaa
open Go.RowKit Go.Maps
section
variable {P : Program} {ρ : Operand → Value} {w : World} {Φ : Value → World → Prop} {d : Option Tmp} {ty t e : TypeId} {pos : String} {aft : Array Edge} {gd : Option (Nat × Bool)} {x : Operand} {a : Addr} {b o n c size : Nat}
/-- a place of a slice, wherever it lies -/
theorem y_indexA {ix : Operand} {k : IntKind} {i : Int} (ht : P.underlying t = some (.slice e)) (hs : (P.info? e).map (·.size) = some size) (hx : ρ x = .slice (some a) n c) (hi : ρ ix = .int k i) (h0 : 0 ≤ i) (h1 : i < n) (hΦ : Φ (.pointer (some (a.add (i.toNat * size)))) w) :
    OpY P ⟨d, .indexAddr t x ix, ty, pos, aft, gd⟩ ρ w Φ := by
  refine .pure (v := .pointer (some (a.add (i.toNat * size)))) ?_ hΦ
  cases hin : P.info? e with
  | none => simp [hin] at hs
  | some inf =>
    simp only [hin, Option.map_some, Option.some.injEq] at hs
    have hsz : (sizeOf e).run P w = .ok size w := by simp [sizeOf, typeInfo, Sem.run_bind, hin, hs]
    simp [execOp, hx, hi, Instr.indexAt, asIntOf, Sem.run_bind, run_underlying ht, h0, h1, hsz]
/-- a place of an array -/
theorem y_indexP {ix : Operand} {k : IntKind} {i : Int} {j : Nat} (ht : P.underlying t = some (.array n e)) (hs : (P.info? e).map (·.size) = some size) (hx : ρ x = .pointer (some ⟨b, o, none⟩)) (hi : ρ ix = .int k i) (h0 : 0 ≤ i) (h1 : i < n) (hj : o + i.toNat * size = j) (hΦ : Φ (.pointer (some ⟨b, j, none⟩)) w) :
    OpY P ⟨d, .indexAddr t x ix, ty, pos, aft, gd⟩ ρ w Φ := by
  subst hj
  refine .pure (v := .pointer (some ⟨b, o + i.toNat * size, none⟩)) ?_ hΦ
  cases hin : P.info? e with
  | none => simp [hin] at hs
  | some inf =>
    simp only [hin, Option.map_some, Option.some.injEq] at hs
    have hsz : (sizeOf e).run P w = .ok size w := by simp [sizeOf, typeInfo, Sem.run_bind, hin, hs]
    simp [execOp, hx, hi, Instr.indexAt, Instr.sureAddr, asIntOf, Sem.run_bind, run_underlying ht, h0, h1, hsz, add_eq]
theorem y_makeMapN (hΦ : ∀ b w', Gr w w' → NewF w w' [(b, .map #[] 0)] → Φ (.map (some b)) w') : OpY P ⟨d, .makeMap t none, ty, pos, aft, gd⟩ ρ w Φ :=
  .pure (v := .map (some w.heap.size)) (w' := w.alloc (.map #[] 0)) (by simp [execOp, Instr.makeMap, Sem.run_bind, newObj, Sem.run]) (hΦ _ _ (Gr.alloc _ _) (NewF.alloc _ _))
end
theorem MapIs.nil {κ : Type} (P : Program) (K : TypeId) (enc : κ → Value) : MapIs P K enc (.map #[] 0) [] :=
  ⟨⟨#[], 0, rfl, rfl, by simp, by simp⟩, by simp, by simp⟩
/-- the place of a row in a handed slice -/
theorem Addr.add_add' (a : Addr) (m n : Nat) : (a.add m).add n = a.add (m + n) := by
  unfold Addr.add
  split
  · rename_i h; subst h; simp
  · split
    · rename_i h; subst h; simp; omega
    · split
      · omega
      · cases a; simp; omega
theorem Src.row {w : World} {size m : Nat} {v : Value} {X : List Value} (h : Src w size v m X) {i : Nat} (hi : i < m) : ∃ a c, v = .slice (some a) m c ∧ ∀ j (hj : j < size) (hk : i * size + j < X.length), w.cell? ((a.add (i * size)).add j) = some X[i * size + j] := by
  rcases h.2 with ⟨h0, _⟩ | ⟨a, c, hv, hc⟩
  · omega
  · refine ⟨a, c, hv, fun j hj hk => ?_⟩
    rw [Addr.add_add']; exact hc _ hk
end Go.Proofs.Ytaeidblipdjgnaa
