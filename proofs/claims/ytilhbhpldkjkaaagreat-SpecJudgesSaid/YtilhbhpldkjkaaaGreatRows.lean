/-
  No cell of these rows narrows 'for every input' (looked for: loops, veiled, ifaces, maps, wideKeys, modest, calm, conditions, laid).
  DERIVED. THE GIVEN ROWS OF THIS SEAT. 3 by the template 'for every input the law returns true; each argument reads behind the call as it read before'; 0 by the template 'total and deterministic' (their statements: YtilhbhpldkjkaaaGreatTotals.lean).
  GIVEN WITH THE SEED: the statements are not yours to turn. If you find one false, say at which input.
  Laid BY PROGRAM, IN A SANDBOX (cutbox-rows.mjs): the forced cells as the released guide's own fill.sh prints them over the translation b722c33fbde6d2e1… (all of the seat's roots in one cut). By AI agents, Wed Nov 11 2026. No macro, syntax, notation, axiom, sorry.
-/
import Derived.Test.YtilhbhpldkjkaaaGreatChecked
import GoSem.Claim
import GoSem.ClaimJoined
import GoSem.ClaimMapViews
import Derived.JoinedTies
import Derived.KernelRfl
namespace Go.Proofs.YtilhbhpldkjkaaaGreat
/- THE CELL 'sum', in the pinned program and in every row, IS THE sha256 OF THE DUMP (.gsa) THAT YtilhbhpldkjkaaaGreatProg.lean LOADS. Nothing in Lean hashes anything: it is a label: what it is worth is what the hold of that sum in a sandbox is worth. -/
noncomputable def Tryz.pinned : Pinned := { name := "ytilhbhpldkjkaaagreat", sum := "b722c33fbde6d2e1ffb76b40296db57ec3726016c4cbe52ed135544ce75778f5", checked := Tryz.checked }
namespace Rows
def none {H : Type} : Left H := { results := [], args := [] }

/-- 'caucuslaw23.SpecJudges': WHATEVER THE INPUT: true; the input reads as it did. -/
def specJudgesSpec : ChangeSpec := { name := "specJudges", fn := fun _ => fun
  | [d] => { results := [.lit (.bool true)], args := [d] }
  | _ => none }
def specJudgesRow : OpenClaim := { program := "ytilhbhpldkjkaaagreat", sum := "b722c33fbde6d2e1ffb76b40296db57ec3726016c4cbe52ed135544ce75778f5", func := "caucus/caucuslaw23.SpecJudges", spec := "specJudges", unfollowed := true, recurses := true, plainKeys := false, apart := false }
def SpecJudgesSaid : Prop := specJudgesRow.holds Tryz.pinned (OpenSpec.ofChange specJudgesSpec)

/-- ITS FALSE NEIGHBOUR: 'it returns false'. Refute it at one input. -/
def specJudgesWrong : ChangeSpec := { name := "specJudges", fn := fun _ => fun
  | [d] => { results := [.lit (.bool false)], args := [d] }
  | _ => none }
def SpecJudgesWrongFalsely : Prop := specJudgesRow.holds Tryz.pinned (OpenSpec.ofChange specJudgesWrong)

/-- 'caucuslaw23.SpecHolds': WHATEVER THE INPUT: true; the input reads as it did. -/
def specHoldsSpec : ChangeSpec := { name := "specHolds", fn := fun _ => fun
  | [d] => { results := [.lit (.bool true)], args := [d] }
  | _ => none }
def specHoldsRow : OpenClaim := { program := "ytilhbhpldkjkaaagreat", sum := "b722c33fbde6d2e1ffb76b40296db57ec3726016c4cbe52ed135544ce75778f5", func := "caucus/caucuslaw23.SpecHolds", spec := "specHolds", inPlace := ["slices.overlaps[caucus/api.Slot]"], unfollowed := true, recurses := true, plainKeys := false, apart := false }
def SpecHoldsSaid : Prop := specHoldsRow.holds Tryz.pinned (OpenSpec.ofChange specHoldsSpec)

/-- ITS FALSE NEIGHBOUR: 'it returns false'. Refute it at one input. -/
def specHoldsWrong : ChangeSpec := { name := "specHolds", fn := fun _ => fun
  | [d] => { results := [.lit (.bool false)], args := [d] }
  | _ => none }
def SpecHoldsWrongFalsely : Prop := specHoldsRow.holds Tryz.pinned (OpenSpec.ofChange specHoldsWrong)

/-- 'caucuslaw23.SpecCatches': WHATEVER THE INPUT: true; the input reads as it did. -/
def specCatchesSpec : ChangeSpec := { name := "specCatches", fn := fun _ => fun
  | [d1, d2, d3] => { results := [.lit (.bool true)], args := [d1, d2, d3] }
  | _ => none }
def specCatchesRow : OpenClaim := { program := "ytilhbhpldkjkaaagreat", sum := "b722c33fbde6d2e1ffb76b40296db57ec3726016c4cbe52ed135544ce75778f5", func := "caucus/caucuslaw23.SpecCatches", spec := "specCatches", inPlace := ["slices.overlaps[caucus/api.Slot]"], unfollowed := true, recurses := true, plainKeys := false, apart := false }
def SpecCatchesSaid : Prop := specCatchesRow.holds Tryz.pinned (OpenSpec.ofChange specCatchesSpec)

/-- ITS FALSE NEIGHBOUR: 'it returns false'. Refute it at one input. -/
def specCatchesWrong : ChangeSpec := { name := "specCatches", fn := fun _ => fun
  | [d1, d2, d3] => { results := [.lit (.bool false)], args := [d1, d2, d3] }
  | _ => none }
def SpecCatchesWrongFalsely : Prop := specCatchesRow.holds Tryz.pinned (OpenSpec.ofChange specCatchesWrong)

/- THE SECOND FORM. 'bulk': how many values and letters a reading holds, each counted each time it is reached (what is shared counts as often as it is met; a slice's spare places count too). A statement '..UptoSaid' is the law's where the arguments, and the package variables that the reading takes, are together of bulk at most 1048576: NARROWER than '..Said'. Prove '..Said' where nothing that the law and all that it calls make is longer than what came in: it says more and counts as full. Else prove '..UptoSaid'. A law counts once. -/
mutual
def uptoBulk {H : Type} : DataW H → Nat
  | .lit (.string bytes) => bytes.length + 1
  | .lit _ => 1
  | .nil => 1
  | .ptr d => uptoBulk d + 1
  | .slice elems spare => uptoBulkAll elems + uptoBulkAll spare + 1
  | .agg parts => uptoBulkAll parts + 1
  | .iface _ d => uptoBulk d + 1
  | .map entries => uptoBulkEntries entries + 1
  | .held _ => 1
def uptoBulkAll {H : Type} : List (DataW H) → Nat
  | [] => 0
  | d :: r => uptoBulk d + uptoBulkAll r
def uptoBulkEntries {H : Type} : List (Lit × DataW H) → Nat
  | [] => 0
  | x :: r => uptoBulkEntry x + uptoBulkEntries r
def uptoBulkEntry {H : Type} : Lit × DataW H → Nat
  | (.string bytes, d) => bytes.length + uptoBulk d + 1
  | (_, d) => uptoBulk d + 1
 end
def uptoSmall : (H : Type) → List (DataW H) → Bool := fun _ ds => decide (uptoBulkAll ds ≤ 1048576)
def OpenSpec.upto (s : _root_.Go.ChangeSpec) : _root_.Go.OpenSpec := { _root_.Go.OpenSpec.ofChange s with cond := some uptoSmall }

/-- 'caucuslaw23.SpecJudges', WHERE WHAT IT READS IS OF BULK AT MOST 1048576: true; the input reads as it did. -/
def specJudgesUptoRow : OpenClaim := { program := "ytilhbhpldkjkaaagreat", sum := "b722c33fbde6d2e1ffb76b40296db57ec3726016c4cbe52ed135544ce75778f5", func := "caucus/caucuslaw23.SpecJudges", spec := "specJudges", unfollowed := true, recurses := true, plainKeys := false, apart := false, narrowed := true }
def SpecJudgesUptoSaid : Prop := specJudgesUptoRow.holds Tryz.pinned (OpenSpec.upto specJudgesSpec)

/-- 'caucuslaw23.SpecHolds', WHERE WHAT IT READS IS OF BULK AT MOST 1048576: true; the input reads as it did. -/
def specHoldsUptoRow : OpenClaim := { program := "ytilhbhpldkjkaaagreat", sum := "b722c33fbde6d2e1ffb76b40296db57ec3726016c4cbe52ed135544ce75778f5", func := "caucus/caucuslaw23.SpecHolds", spec := "specHolds", inPlace := ["slices.overlaps[caucus/api.Slot]"], unfollowed := true, recurses := true, plainKeys := false, apart := false, narrowed := true }
def SpecHoldsUptoSaid : Prop := specHoldsUptoRow.holds Tryz.pinned (OpenSpec.upto specHoldsSpec)

/-- 'caucuslaw23.SpecCatches', WHERE WHAT IT READS IS OF BULK AT MOST 1048576: true; the input reads as it did. -/
def specCatchesUptoRow : OpenClaim := { program := "ytilhbhpldkjkaaagreat", sum := "b722c33fbde6d2e1ffb76b40296db57ec3726016c4cbe52ed135544ce75778f5", func := "caucus/caucuslaw23.SpecCatches", spec := "specCatches", inPlace := ["slices.overlaps[caucus/api.Slot]"], unfollowed := true, recurses := true, plainKeys := false, apart := false, narrowed := true }
def SpecCatchesUptoSaid : Prop := specCatchesUptoRow.holds Tryz.pinned (OpenSpec.upto specCatchesSpec)

end Rows
end Go.Proofs.YtilhbhpldkjkaaaGreat
