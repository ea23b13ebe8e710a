/-
  Strings, bytes of a constant, equality of pairs: one law for each kind of operation.
-/
import Derived.Test.YtaeidblipdjgnaaAppend
import Derived.Laws.IdiomStrings
import Derived.Lib.SlBytesConst
namespace Go.Proofs.Ytaeidblipdjgnaa
open Go.RowKit
section
variable {P : Program} {ρ : Operand → Value} {w : World} {Φ : Value → World → Prop} {d : Option Tmp} {ty t t' e : TypeId} {pos : String} {aft : Array Edge} {gd : Option (Nat × Bool)} {x y : Operand}
/-- the bytes of a constant: the row gets a mark behind its last place -/
theorem y_bytesConst {b n k : Nat} {c : Array Value} (ht : P.underlying t = some (.slice e)) (he : P.underlying e = some (.int .u8)) (hx : ρ x = .slice (some ⟨b, 0, none⟩) n k) (hb : w.heap[b]? = some (.cells c e (0, 0)))
    (hΦ : Φ (.slice (some ⟨b, 0, none⟩) n k) (setB w b (.cells c e (c.size, c.size + 1)))) : OpY P ⟨d, .convert t t x, ty, pos, aft, gd⟩ ρ w Φ := by
  refine .pure (v := .slice (some ⟨b, 0, none⟩) n k) (w' := setB w b (.cells c e (c.size, c.size + 1))) ?_ hΦ
  have hsh : w.shape? b = some (e, c.size) := by simp [World.shape?, hb]
  have hfr : w.freeze ⟨b, c.size, none⟩ 1 = setB w b (.cells c e (c.size, c.size + 1)) := by
    unfold World.freeze setB
    rw [if_neg (by decide)]
    congr 1
    apply Array.ext_getElem?
    intro j
    have hlt := heap_lt hb
    rw [Array.getElem?_modify, Array.getElem?_setIfInBounds]
    by_cases e' : b = j
    · subst e'
      have hg : w.heap[b] = .cells c e (0, 0) := by rw [Array.getElem?_eq_getElem hlt] at hb; exact Option.some.inj hb
      simp [hlt, hg]
    · simp [e']
  simp [execOp, hx, convert, Sem.run_bind, run_underlying ht, run_underlying he, markStringish, hsh, hfr]
/-- 'string(b)' -/
theorem y_bytesStr {v : Value} {l : List UInt8} (ht : P.underlying t = some (.slice e)) (he : P.underlying e = some (.int .u8)) (hd : P.underlying t' = some .string) (hx : ρ x = v) (hs : Src w 1 v l.length (l.map fun b : UInt8 => .int .u8 b.toNat)) (hΦ : Φ (.string ⟨l.toArray⟩) w) : OpY P ⟨d, .convert t t' x, ty, pos, aft, gd⟩ ρ w Φ := by
  refine .pure (v := .string ⟨l.toArray⟩) (w' := w) ?_ hΦ
  have key : (convert t t' v).run P w = .ok (.string ⟨l.toArray⟩) w := by
    rcases hs.2 with ⟨h0, a, c, rfl⟩ | ⟨a, c, rfl, h⟩
    · have hl : l = [] := List.eq_nil_of_length_eq_zero h0
      subst hl
      cases a with
      | none => rw [run_convert_bytes_string w t t' e none 0 c ht he hd]; simp [Conv.bytesToString]; rfl
      | some a => exact run_convert_bytes_back w t t' e a c [] ht he hd (by simp)
    · exact run_convert_bytes_back w t t' e a c l ht he hd (fun j hj => by rw [h j (by simpa using hj)]; simp)
  simp only [execOp, hx, Sem.run_bind, key, Result.andThen_ok, Sem.run_pure]
theorem bytes_toList (l : List UInt8) : (⟨l.toArray⟩ : ByteArray).toList = l := by simp
theorem y_eqlStr {a b : List UInt8} {c : Bool} (h : ρ x = .string ⟨a.toArray⟩) (h' : ρ y = .string ⟨b.toArray⟩) (hc : (a == b) = c) (hΦ : Φ (.bool c) w) : OpY P ⟨d, .binOp .eql t x y t', ty, pos, aft, gd⟩ ρ w Φ := by
  subst hc; exact .pure (v := .bool (a == b)) (by simp [execOp, h, h', eqGuard, binOp, Op.stringOp]) hΦ
theorem y_neqStr {a b : List UInt8} {c : Bool} (h : ρ x = .string ⟨a.toArray⟩) (h' : ρ y = .string ⟨b.toArray⟩) (hc : (a != b) = c) (hΦ : Φ (.bool c) w) : OpY P ⟨d, .binOp .neq t x y t', ty, pos, aft, gd⟩ ρ w Φ := by
  subst hc; exact .pure (v := .bool (a != b)) (by simp [execOp, h, h', eqGuard, binOp, Op.stringOp, bne]) hΦ
theorem run_eqPairIn {dp : Nat} {k : IntKind} {a b c d' : Int} (ht : P.underlying t = some (.array 2 e)) (he : P.underlying e = some (.int k)) (hs : (P.info? e).map (·.size) = some 1) : (Op.equalIn (dp + 1 + 1) t (.agg #[.int k a, .int k b]) (.agg #[.int k c, .int k d'])).run P w = .ok (a == c && b == d') w := by
  cases hin : P.info? e with
  | none => simp [hin] at hs
  | some inf =>
    simp only [hin, Option.map_some, Option.some.injEq] at hs
    have hsz : (sizeOf e).run P w = .ok 1 w := by simp [sizeOf, typeInfo, Sem.run_bind, hin, hs]
    have hi : ∀ a b : Int, (Op.equalIn (dp + 1) e (.int k a) (.int k b)).run P w = .ok (a == b) w := fun a b => run_equalIn_int w dp e k k a b he
    rw [Op.equalIn]
    simp only [Sem.run_bind, run_underlying ht, Result.andThen_ok, hsz]
    have hp : ∀ (xs : Array Value) (i : Nat) (x : Int), xs[i]? = some (.int k x) → (part e xs i).run P w = .ok (.int k x) w := by
      intro xs i x hx
      simp [part, isAgg, Sem.run_bind, run_underlying he, hx]
    simp [Std.Legacy.Range.forIn_eq_forIn_range', Std.Legacy.Range.size, List.range', Sem.run_bind, hi, hp #[.int k a, .int k b] 0 a rfl, hp #[.int k c, .int k d'] 0 c rfl, hp #[.int k a, .int k b] 1 b rfl, hp #[.int k c, .int k d'] 1 d' rfl]
    cases h1 : (a == c) <;> cases h2 : (b == d') <;> simp_all
theorem y_eqlPair {k : IntKind} {a b c d' : Int} {r : Bool} (ht : P.underlying t = some (.array 2 e)) (he : P.underlying e = some (.int k)) (hs : (P.info? e).map (·.size) = some 1) (hg : P.eqGuardType P.depth t = false) (h : ρ x = .agg #[.int k a, .int k b]) (h' : ρ y = .agg #[.int k c, .int k d']) (hc : (a == c && b == d') = r) (hΦ : Φ (.bool r) w) : OpY P ⟨d, .binOp .eql t x y t', ty, pos, aft, gd⟩ ρ w Φ := by
  subst hc; exact .pure (v := .bool (a == c && b == d')) (w' := w) (by simp [execOp, h, h', eqGuard, hg, binOp, Op.equal, Op.maxDepth, run_eqPairIn (w := w) (dp := 9998) ht he hs]) hΦ
theorem y_neqPair {k : IntKind} {a b c d' : Int} {r : Bool} (ht : P.underlying t = some (.array 2 e)) (he : P.underlying e = some (.int k)) (hs : (P.info? e).map (·.size) = some 1) (hg : P.eqGuardType P.depth t = false) (h : ρ x = .agg #[.int k a, .int k b]) (h' : ρ y = .agg #[.int k c, .int k d']) (hc : (!(a == c && b == d')) = r) (hΦ : Φ (.bool r) w) : OpY P ⟨d, .binOp .neq t x y t', ty, pos, aft, gd⟩ ρ w Φ := by
  subst hc; exact .pure (v := .bool (!(a == c && b == d'))) (w' := w) (by simp [execOp, h, h', eqGuard, hg, binOp, Op.equal, Op.maxDepth, run_eqPairIn (w := w) (dp := 9998) ht he hs]) hΦ
end
end Go.Proofs.Ytaeidblipdjgnaa
