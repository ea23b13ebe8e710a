/-
  And, shift right, numbers of another kind, a string's letters and length.
-/
import Derived.Test.YtaeidblipdjgnaaBits
import Derived.Test.YtaeidblipdjgnaaStr
namespace Go.Proofs.Ytaeidblipdjgnaa
open Go.RowKit
section
variable {P : Program} {ρ : Operand → Value} {w : World} {Φ : Value → World → Prop} {d : Option Tmp} {ty t t' : TypeId} {pos : String} {aft : Array Edge} {gd : Option (Nat × Bool)} {x y : Operand} {k k' yk : IntKind} {a b c : Int}
theorem y_and (h : ρ x = .int k a) (h' : ρ y = .int k b) (hc : k.wrap ((BitVec.ofInt k.bits a &&& BitVec.ofInt k.bits b).toNat : Int) = c) (hΦ : Φ (.int k c) w) : OpY P ⟨d, .binOp .and t x y t', ty, pos, aft, gd⟩ ρ w Φ := by
  subst hc; exact .pure (v := .int k (k.wrap ((BitVec.ofInt k.bits a &&& BitVec.ofInt k.bits b).toNat : Int))) (by simp [execOp, h, h', eqGuard, binOp, Op.intBits]) hΦ
theorem y_shr (h : ρ x = .int k a) (h' : ρ y = .int yk b) (hb : 0 ≤ b) (hc : a.fdiv (2 ^ (min b.toNat k.bits)) = c) (hΦ : Φ (.int k c) w) : OpY P ⟨d, .binOp .shr t x y t', ty, pos, aft, gd⟩ ρ w Φ := by
  subst hc; exact .pure (v := .int k (a.fdiv (2 ^ (min b.toNat k.bits)))) (by simp [execOp, h, h', eqGuard, binOp, Op.shift, show ¬ b < 0 by omega]) hΦ
theorem y_mul (h : ρ x = .int k a) (h' : ρ y = .int k b) (hc : k.wrap (a * b) = c) (hΦ : Φ (.int k c) w) : OpY P ⟨d, .binOp .mul t x y t', ty, pos, aft, gd⟩ ρ w Φ := by
  subst hc; exact .pure (v := .int k (k.wrap (a * b))) (by simp [execOp, h, h', eqGuard, binOp, Op.intArith]) hΦ
theorem y_convInt (hs : (P.underlying t).isSome = true) (hd : P.underlying t' = some (.int k)) (h : ρ x = .int k' a) (hc : k.wrap a = c) (hΦ : Φ (.int k c) w) : OpY P ⟨d, .convert t t' x, ty, pos, aft, gd⟩ ρ w Φ := by
  obtain ⟨u, hu⟩ := Option.isSome_iff_exists.1 hs
  subst hc; exact .pure (v := .int k (k.wrap a)) (w' := w) (by simp [execOp, h, convert, Sem.run_bind, run_underlying hu, run_underlying hd, Conv.intToInt]) hΦ
theorem y_lenStr {l : List UInt8} (ht : P.underlying t = some .string) (h : ρ x = .string ⟨l.toArray⟩) (hΦ : Φ (.int .i64 l.length) w) : OpY P ⟨d, .call ⟨.builtin .len, #[x], #[t]⟩, ty, pos, aft, gd⟩ ρ w Φ := by
  obtain ⟨s, hs, hsz⟩ : ∃ s : ByteArray, s = ⟨l.toArray⟩ ∧ s.size = l.length := ⟨_, rfl, by simp [ByteArray.size]⟩
  rw [← hs] at h
  exact .pure (v := .int .i64 l.length) (w' := w) (by simp [execOp, resolve, h, invoke, builtin, Builtin.len_, Sem.run_bind, run_underlying ht, goInt, hsz]) hΦ
theorem y_indexStr {l : List UInt8} {i : Nat} {u : UInt8} (ht : P.underlying t = some .string) (h : ρ x = .string ⟨l.toArray⟩) (h' : ρ y = .int .i64 (i : Int)) (hu : l[i]? = some u) (hΦ : Φ (.int .u8 u.toNat) w) : OpY P ⟨d, .index t x y, ty, pos, aft, gd⟩ ρ w Φ := by
  have hi := (List.getElem?_eq_some_iff.1 hu).1
  have hb : (⟨l.toArray⟩ : ByteArray)[i]? = some u := by
    obtain ⟨h1, h2⟩ := List.getElem?_eq_some_iff.1 hu
    rw [getElem?_pos (⟨l.toArray⟩ : ByteArray) i (by simpa [ByteArray.size] using h1)]
    show some (ByteArray.get ⟨l.toArray⟩ i _) = _
    simp [ByteArray.get, h2]
  exact .pure (v := .int .u8 u.toNat) (w' := w) (by simp [execOp, h, h', Instr.index, asIntOf, Sem.run_bind, run_underlying ht, hb]) hΦ
end
theorem xor_u8' (x y : UInt8) : IntKind.u8.wrap ((BitVec.ofInt IntKind.u8.bits (x.toNat : Int) ^^^ BitVec.ofInt IntKind.u8.bits (y.toNat : Int)).toNat : Int) = (((x ^^^ y).toNat : Nat) : Int) := by
  have h1 : (BitVec.ofInt 8 (x.toNat : Int) ^^^ BitVec.ofInt 8 (y.toNat : Int)).toNat = (x ^^^ y).toNat := by
    rw [UInt8.toNat_xor, BitVec.toNat_xor]
    congr 1
    all_goals simp [BitVec.toNat_ofInt]
  have h2 := (x ^^^ y).toNat_lt
  show IntKind.u8.wrap ((BitVec.ofInt 8 (x.toNat : Int) ^^^ BitVec.ofInt 8 (y.toNat : Int)).toNat : Int) = _
  rw [h1]
  generalize (x ^^^ y).toNat = q at *
  simp [IntKind.wrap, IntKind.signed, IntKind.bits]
  omega
theorem and1_u8 {n : Nat} (h : n < 256) : IntKind.u8.wrap ((BitVec.ofInt IntKind.u8.bits (n : Int) &&& BitVec.ofInt IntKind.u8.bits 1).toNat : Int) = ((n % 2 : Nat) : Int) := by
  have h1 : (BitVec.ofInt 8 (n : Int) &&& BitVec.ofInt 8 1).toNat = n % 2 := by
    rw [BitVec.toNat_and]
    have e1 : (BitVec.ofInt 8 (n : Int)).toNat = n := by simp [BitVec.toNat_ofInt]; omega
    have e2 : (BitVec.ofInt 8 1).toNat = 1 := by decide
    rw [e1, e2, Nat.and_one_is_mod]
  show IntKind.u8.wrap ((BitVec.ofInt 8 (n : Int) &&& BitVec.ofInt 8 1).toNat : Int) = _
  rw [h1]
  simp [IntKind.wrap, IntKind.signed, IntKind.bits]
  omega
end Go.Proofs.Ytaeidblipdjgnaa
