import Derived.Test.YtaeidblipdjgnaaLaw
import Derived.Test.YtaeidblipdjgnaaRowD
namespace Go.Proofs.Ytaeidblipdjgnaa
open Go.RowKit Go.Deep

theorem flat_one {X : Nat → List Value} {g : Nat → Value} : ∀ {n : Nat}, (∀ i, i < n → X i = [g i]) → (List.range n).flatMap X = (List.range n).map g
  | 0, _ => by simp
  | k + 1, h => by rw [List.range_succ, List.flatMap_append, List.map_append, flat_one (n := k) (fun i hi => h i (by omega))]; simp [h k (by omega)]
theorem bytes_of {w : World} {cs : List Value} (h : TR Try.prog w 31 cs) : ∃ v bs, cs = [v] ∧ BSrc w v bs ∧ bs.length ≤ maxLen := by
  obtain ⟨v, n, X, rfl, hn, hX, hs⟩ := TR.slice (e := 5) (by kernel_rfl) h
  have hc : Try.prog.cellsOf 5 = 1 := by kernel_rfl
  rw [hc] at hs
  obtain ⟨b, hb⟩ := choose_lt (n := n) (α := UInt8) (p := fun i b => X i = [u8v b]) (fun i hi => by
    obtain ⟨k, hk, hw⟩ := TR.int (k := .u8) (by kernel_rfl) (hX i hi).2
    have hk' : 0 ≤ k ∧ k ≤ 255 := by simpa [Lit.wf, IntKind.min, IntKind.max, IntKind.signed, IntKind.bits] using hw
    refine ⟨UInt8.ofNat k.toNat, ?_⟩
    rw [hk]
    have : k.toNat % 256 = k.toNat := Nat.mod_eq_of_lt (by omega)
    simp [u8v, this]; omega)
  rw [flat_one hb] at hs
  refine ⟨v, (List.range n).map b, rfl, ?_, by simpa using hn⟩
  unfold BSrc
  simpa [List.map_map, Function.comp_def] using hs
theorem rows_of {w : World} {cs : List Value} (h : TR Try.prog w 22 cs) : ∃ v ls, cs = [v] ∧ BBSrc w v ls ∧ ls.length ≤ maxLen := by
  obtain ⟨v, n, X, rfl, hn, hX, hs⟩ := TR.slice (e := 31) (by kernel_rfl) h
  have hc : Try.prog.cellsOf 31 = 1 := by kernel_rfl
  rw [hc] at hs
  obtain ⟨b, hb⟩ := choose_lt (n := n) (α := Value × List UInt8) (p := fun i b => X i = [b.1] ∧ BSrc w b.1 b.2) (fun i hi => by
    obtain ⟨u, bs, h1, h2, _⟩ := bytes_of (hX i hi).2
    exact ⟨(u, bs), h1, h2⟩)
  rw [flat_one (g := fun i => (b i).1) (fun i hi => (hb i hi).1)] at hs
  refine ⟨v, (List.range n).map (fun i => (b i).2), rfl, ⟨_, by simpa using hs, fun i u l hu hl => ?_⟩, by simpa using hn⟩
  simp only [List.getElem?_map, Option.map_eq_some_iff] at hu hl
  obtain ⟨j, hj, rfl⟩ := hu
  obtain ⟨j', hj', rfl⟩ := hl
  rw [hj] at hj'; cases hj'
  have : j < n := by have := List.mem_of_getElem? hj; simpa using this
  exact (hb j this).2
theorem Try.own : ownKnob Try.prog.godebug = none := by kernel_rfl
end Go.Proofs.Ytaeidblipdjgnaa
