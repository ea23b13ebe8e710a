/-
  NetNobody returns true whatever call is handed in, and leaves it as it was: no condition.
-/
import Derived.Test.YtaeidblipdjgnaaRows
import Derived.Test.YtaeidblipdjgnaaNobodyW
namespace Go.Proofs.Ytaeidblipdjgnaa
open Go.ChangeShapes Go.WideShapes Go.ChangeAt Go.RowKit

set_option maxRecDepth 100000 in
theorem netNobody_lifted (os : Os) (started : os.Started) (H : Type) (enc : TypeId × Value → H) :
    ReturnsInHanded {} Try.checked os 7 .any (Rows.netNobodySpec.pre6 enc Try.prog Try.f7 Rows.netNobodyRow.domain false) (Rows.netNobodySpec.post enc Try.prog Try.f7 false true false false) := by
  refine returnsInHanded_of_change (C := Try.checked) Try.own started (by kernel_rfl) Try.func7
    (ChangeSpec.witness6 (enc := enc) (C := Try.checked) false ⟨#[], #[.agg #[.int .i64 0, .int .i64 0, .int .i64 0, .int .i64 0, .int .i64 0, .slice none 0 0]], []⟩ 8 (by kernel_rfl) (by kernel_rfl) (by kernel_rfl) (by kernel_rfl)) ?_
  intro W base args ds gs before hval0 hW hcnd _
  have hW0 : DataW.Whole enc Try.prog Try.f7.params.toList Rows.netNobodySpec.vars false W args.toList ds gs before := hW
  have hW' := hW0
  obtain ⟨p, q, hA0, hV, rfl, hfz, hnd⟩ := hW
  have hA : DataW.TrodAll enc Try.prog W 0 (fun _ => true) true Try.f7.params.toList args.toList ds p := hA0
  have hval : ∀ (j : Nat) t v, Try.f7.params[j]? = some t → args[j]? = some v → Value.okWide Try.prog W .any base t v := hval0
  rw [Try.params7] at hA hval
  obtain ⟨v0, vs0, d0, ds0, p0, q0, hargs0, rfl, rfl, h0, r0⟩ := trodAll_cons hA
  obtain ⟨rfl, rfl, rfl⟩ := trodAll_nil r0
  obtain rfl : args = #[v0] := by cases args; simp_all
  obtain ⟨rfl, rfl⟩ := trodVars_none hV
  obtain ⟨cs0, rfl, -, -⟩ : ∃ cs, v0 = .agg cs ∧ _ ∧ _ := by have := hval 0 57 v0 rfl rfl; rw [Value.okWide, Try.underlying57] at this; exact this
  obtain ⟨x, ba, bc, he, hs, hok⟩ := act_of (TR.of h0)
  obtain rfl : cs0 = #[.int .i64 x.d, .int .i64 x.f, .int .i64 x.t, .int .i64 x.i, .int .i64 x.b, .slice ba x.bs.length bc] := by have h : cs0.toList = _ := he; rw [← Array.toArray_toList (xs := cs0), h]; rfl
  refine (netNobody_ok hs hok).mono fun e W' ⟨r, he, hg, _, hr, _⟩ => ?_
  subst he; subst hr
  exact ⟨_, rfl, law_post Try.laidOut (by kernel_rfl) (by kernel_rfl) Try.underlying4 rfl hW' rfl hg⟩

theorem netNobody_holds : Rows.NetNobodySaid :=
  OpenClaim.holds_of_wide 7 Try.f7 rfl rfl rfl rfl rfl rfl rfl ⟨rfl, rfl, rfl, rfl, rfl⟩ rfl rfl rfl rfl rfl (by kernel_rfl) Try.func7 (by kernel_rfl)
    (of_decide_eq_true (by kernel_rfl)) (by unfold Func.isWrapper; first | (rw [if_pos (by decide +kernel)]; kernel_rfl) | (rw [if_neg (by decide +kernel)]; exact ⟨rfl, rfl⟩))
    (fun os started H enc _ => netNobody_lifted os started H enc)
end Go.Proofs.Ytaeidblipdjgnaa
