import Derived.Test.YtaeidblipdjgnaaActs
namespace Go.Proofs.Ytaeidblipdjgnaa
open Go.RowKit Go.Deep

theorem pairs_of {w : World} {cs : List Value} (h : TR Try.prog w 36 cs) : ∃ v ls, cs = [v] ∧ Src w 2 v ls.length (pairs ls) ∧ ∀ l ∈ ls, i64 l.1 ∧ i64 l.2 := by
  obtain ⟨v, n, X, rfl, hn, hX, hs⟩ := TR.slice (e := 28) (by kernel_rfl) h
  have hc : Try.prog.cellsOf 28 = 2 := by kernel_rfl
  have hc1 : Try.prog.cellsOf 3 = 1 := by kernel_rfl
  rw [hc] at hs
  obtain ⟨g, hg⟩ := choose_lt (n := n) (α := Int × Int) (p := fun i b => X i = [.int .i64 b.1, .int .i64 b.2] ∧ i64 b.1 ∧ i64 b.2) (fun i hi => by
    obtain ⟨hlen, hTR⟩ := hX i hi
    rw [hc] at hlen
    obtain ⟨_, hf⟩ := TR.array (n := 2) (e := 3) (by kernel_rfl) hTR
    rw [hc1] at hf
    match hXi : X i, hlen with
    | [c0, c1], _ =>
      rw [hXi] at hf
      obtain ⟨n0, e0, w0⟩ := TR.int (k := .i64) (cs := [c0]) (by kernel_rfl) (hf 0 (by decide))
      obtain ⟨n1, e1, w1⟩ := TR.int (k := .i64) (cs := [c1]) (by kernel_rfl) (hf 1 (by decide))
      simp only [List.cons.injEq, and_true] at e0 e1
      subst e0 e1
      exact ⟨(n0, n1), rfl, i64_wf w0, i64_wf w1⟩)
  have hflat : (List.range n).flatMap X = pairs ((List.range n).map g) := by
    have : ∀ m, m ≤ n → (List.range m).flatMap X = pairs ((List.range m).map g) := by
      intro m
      induction m with
      | zero => intro _; rfl
      | succ m ih => intro hm; rw [List.range_succ, List.flatMap_append, List.map_append, ih (by omega)]; simp [pairs, (hg m (by omega)).1]
    exact this n (Nat.le_refl _)
  rw [hflat] at hs
  refine ⟨v, (List.range n).map g, rfl, by simpa using hs, fun l hl => ?_⟩
  obtain ⟨i, hi, rfl⟩ := List.mem_map.1 hl
  exact (hg i (by simpa using hi)).2
end Go.Proofs.Ytaeidblipdjgnaa
