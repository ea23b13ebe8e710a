/-
  NetCopies returns true whatever net and calls are handed in, and leaves them as they were: no condition.
-/
import Derived.Test.YtaeidblipdjgnaaRows
import Derived.Test.YtaeidblipdjgnaaPairs
import Derived.Test.YtaeidblipdjgnaaCopiesW
namespace Go.Proofs.Ytaeidblipdjgnaa
open Go.ChangeShapes Go.WideShapes Go.ChangeAt Go.RowKit

set_option maxRecDepth 100000 in
theorem netCopies_lifted (os : Os) (started : os.Started) (H : Type) (enc : TypeId × Value → H) :
    ReturnsInHanded {} Try.checked os 8 .any (Rows.netCopiesSpec.pre6 enc Try.prog Try.f8 Rows.netCopiesRow.domain false) (Rows.netCopiesSpec.post enc Try.prog Try.f8 false true false false) := by
  refine returnsInHanded_of_change (C := Try.checked) Try.own started (by kernel_rfl) Try.func8
    (ChangeSpec.witness6 (enc := enc) (C := Try.checked) false ⟨#[], #[.int .i64 0, .slice none 0 0, .slice none 0 0, .slice none 0 0], []⟩ 8 (by kernel_rfl) (by kernel_rfl) (by kernel_rfl) (by kernel_rfl)) ?_
  intro W base args ds gs before hval0 hW hcnd _
  have hW0 : DataW.Whole enc Try.prog Try.f8.params.toList Rows.netCopiesSpec.vars false W args.toList ds gs before := hW
  have hW' := hW0
  obtain ⟨p, q, hA0, hV, rfl, hfz, hnd⟩ := hW
  have hA : DataW.TrodAll enc Try.prog W 0 (fun _ => true) true Try.f8.params.toList args.toList ds p := hA0
  have hval : ∀ (j : Nat) t v, Try.f8.params[j]? = some t → args[j]? = some v → Value.okWide Try.prog W .any base t v := hval0
  rw [Try.params8] at hA hval
  obtain ⟨v0, vs0, d0, ds0, p0, q0, hargs0, rfl, rfl, h0, r0⟩ := trodAll_cons hA
  obtain ⟨v1, vs1, d1, ds1, p1, q1, hargs1, rfl, rfl, h1, r1⟩ := trodAll_cons r0
  subst hargs1
  obtain ⟨v2, vs2, d2, ds2, p2, q2, hargs2, rfl, rfl, h2, r2⟩ := trodAll_cons r1
  subst hargs2
  obtain ⟨v3, vs3, d3, ds3, p3, q3, hargs3, rfl, rfl, h3, r3⟩ := trodAll_cons r2
  subst hargs3
  obtain ⟨rfl, rfl, rfl⟩ := trodAll_nil r3
  obtain rfl : args = #[v0, v1, v2, v3] := by cases args; simp_all
  obtain ⟨rfl, rfl⟩ := trodVars_none hV
  obtain ⟨x0, rfl, rfl, rfl, w0⟩ := open_int Try.underlying3 (hval 0 3 v0 rfl rfl) h0
  obtain ⟨u1, ls, he1, hls, hlg⟩ := pairs_of (TR.of h1)
  obtain ⟨a1, n1, c1, rfl⟩ := okWide_slice (P := Try.prog) (e := 28) (by kernel_rfl) (hval 1 36 v1 rfl rfl)
  obtain rfl : Value.slice a1 n1 c1 = u1 := by simpa [Value.cells] using he1
  obtain ⟨u2, l, he2, hs⟩ := acts_of (TR.of h2)
  obtain ⟨a2, n2, c2, rfl⟩ := okWide_slice (P := Try.prog) (e := 57) (by kernel_rfl) (hval 2 37 v2 rfl rfl)
  obtain rfl : Value.slice a2 n2 c2 = u2 := by simpa [Value.cells] using he2
  obtain ⟨u3, b, he3, hbh⟩ := acts_of (TR.of h3)
  obtain ⟨a3, n3, c3, rfl⟩ := okWide_slice (P := Try.prog) (e := 57) (by kernel_rfl) (hval 3 37 v3 rfl rfl)
  obtain rfl : Value.slice a3 n3 c3 = u3 := by simpa [Value.cells] using he3
  refine (netCopies_ok hls hlg hs hbh).mono fun e W' ⟨r, he, hg, _, hr, _⟩ => ?_
  subst he; subst hr
  exact ⟨_, rfl, law_post Try.laidOut (by kernel_rfl) (by kernel_rfl) Try.underlying4 rfl hW' rfl hg⟩

theorem netCopies_holds : Rows.NetCopiesSaid :=
  OpenClaim.holds_of_wide 8 Try.f8 rfl rfl rfl rfl rfl rfl rfl ⟨rfl, rfl, rfl, rfl, rfl⟩ rfl rfl rfl rfl rfl (by kernel_rfl) Try.func8 (by kernel_rfl)
    (of_decide_eq_true (by kernel_rfl)) (by unfold Func.isWrapper; first | (rw [if_pos (by decide +kernel)]; kernel_rfl) | (rw [if_neg (by decide +kernel)]; exact ⟨rfl, rfl⟩))
    (fun os started H enc _ => netCopies_lifted os started H enc)
end Go.Proofs.Ytaeidblipdjgnaa
