/-
  No cell of these rows narrows 'for every input' (looked for: loops, veiled, ifaces, maps, wideKeys, modest, calm, conditions, laid).
  DERIVED. THE GIVEN ROWS OF THIS SEAT. 8 by the template 'for every input the law returns true; each argument reads behind the call as it read before'; 0 by the template 'total and deterministic' (their statements: YtikmdkicccfjpaaTotals.lean).
  GIVEN WITH THE SEED: the statements are not yours to turn. If you find one false, say at which input.
  Laid BY PROGRAM, IN A SANDBOX (cutbox-rows.mjs): the forced cells as the released guide's own fill.sh prints them over the translation ccf4f9c821819960… (all of the seat's roots in one cut). By AI agents, Wed Nov 11 2026. No macro, syntax, notation, axiom, sorry.
-/
import Derived.Test.YtikmdkicccfjpaaChecked
import GoSem.Claim
import GoSem.ClaimJoined
import GoSem.ClaimMapViews
import Derived.JoinedTies
import Derived.KernelRfl
namespace Go.Proofs.Ytikmdkicccfjpaa
/- THE CELL 'sum', in the pinned program and in every row, IS THE sha256 OF THE DUMP (.gsa) THAT YtikmdkicccfjpaaProg.lean LOADS. Nothing in Lean hashes anything: it is a label: what it is worth is what the hold of that sum in a sandbox is worth. -/
noncomputable def Try.pinned : Pinned := { name := "ytikmdkicccfjpaa", sum := "ccf4f9c821819960d076d9c7b3530e5f6cf0a47b216fe5a6874a033e71c6741e", checked := Try.checked }
namespace Rows
def none {H : Type} : Left H := { results := [], args := [] }

/-- 'caucuslaw13.GraphOf': WHATEVER THE INPUT: true; the input reads as it did. -/
def graphOfSpec : ChangeSpec := { name := "graphOf", fn := fun _ => fun
  | [d] => { results := [.lit (.bool true)], args := [d] }
  | _ => none }
def graphOfRow : OpenClaim := { program := "ytikmdkicccfjpaa", sum := "ccf4f9c821819960d076d9c7b3530e5f6cf0a47b216fe5a6874a033e71c6741e", func := "caucus/caucuslaw13.GraphOf", spec := "graphOf", unfollowed := true, recurses := true, plainKeys := false, apart := false }
def GraphOfSaid : Prop := graphOfRow.holds Try.pinned (OpenSpec.ofChange graphOfSpec)

/-- ITS FALSE NEIGHBOUR: 'it returns false'. Refute it at one input. -/
def graphOfWrong : ChangeSpec := { name := "graphOf", fn := fun _ => fun
  | [d] => { results := [.lit (.bool false)], args := [d] }
  | _ => none }
def GraphOfWrongFalsely : Prop := graphOfRow.holds Try.pinned (OpenSpec.ofChange graphOfWrong)

/-- 'caucuslaw13.GraphTakes': WHATEVER THE INPUT: true; the input reads as it did. -/
def graphTakesSpec : ChangeSpec := { name := "graphTakes", fn := fun _ => fun
  | [d1, d2] => { results := [.lit (.bool true)], args := [d1, d2] }
  | _ => none }
def graphTakesRow : OpenClaim := { program := "ytikmdkicccfjpaa", sum := "ccf4f9c821819960d076d9c7b3530e5f6cf0a47b216fe5a6874a033e71c6741e", func := "caucus/caucuslaw13.GraphTakes", spec := "graphTakes", unfollowed := true, recurses := true, plainKeys := false, apart := false }
def GraphTakesSaid : Prop := graphTakesRow.holds Try.pinned (OpenSpec.ofChange graphTakesSpec)

/-- ITS FALSE NEIGHBOUR: 'it returns false'. Refute it at one input. -/
def graphTakesWrong : ChangeSpec := { name := "graphTakes", fn := fun _ => fun
  | [d1, d2] => { results := [.lit (.bool false)], args := [d1, d2] }
  | _ => none }
def GraphTakesWrongFalsely : Prop := graphTakesRow.holds Try.pinned (OpenSpec.ofChange graphTakesWrong)

/-- 'caucuslaw13.GraphReaches': WHATEVER THE INPUT: true; the input reads as it did. -/
def graphReachesSpec : ChangeSpec := { name := "graphReaches", fn := fun _ => fun
  | [d1, d2] => { results := [.lit (.bool true)], args := [d1, d2] }
  | _ => none }
def graphReachesRow : OpenClaim := { program := "ytikmdkicccfjpaa", sum := "ccf4f9c821819960d076d9c7b3530e5f6cf0a47b216fe5a6874a033e71c6741e", func := "caucus/caucuslaw13.GraphReaches", spec := "graphReaches", unfollowed := true, recurses := true, plainKeys := false, apart := false }
def GraphReachesSaid : Prop := graphReachesRow.holds Try.pinned (OpenSpec.ofChange graphReachesSpec)

/-- ITS FALSE NEIGHBOUR: 'it returns false'. Refute it at one input. -/
def graphReachesWrong : ChangeSpec := { name := "graphReaches", fn := fun _ => fun
  | [d1, d2] => { results := [.lit (.bool false)], args := [d1, d2] }
  | _ => none }
def GraphReachesWrongFalsely : Prop := graphReachesRow.holds Try.pinned (OpenSpec.ofChange graphReachesWrong)

/-- 'caucuslaw13.GraphNexts': WHATEVER THE INPUT: true; the input reads as it did. -/
def graphNextsSpec : ChangeSpec := { name := "graphNexts", fn := fun _ => fun
  | [d1, d2, d3] => { results := [.lit (.bool true)], args := [d1, d2, d3] }
  | _ => none }
def graphNextsRow : OpenClaim := { program := "ytikmdkicccfjpaa", sum := "ccf4f9c821819960d076d9c7b3530e5f6cf0a47b216fe5a6874a033e71c6741e", func := "caucus/caucuslaw13.GraphNexts", spec := "graphNexts", unfollowed := true, recurses := true, plainKeys := false, apart := false }
def GraphNextsSaid : Prop := graphNextsRow.holds Try.pinned (OpenSpec.ofChange graphNextsSpec)

/-- ITS FALSE NEIGHBOUR: 'it returns false'. Refute it at one input. -/
def graphNextsWrong : ChangeSpec := { name := "graphNexts", fn := fun _ => fun
  | [d1, d2, d3] => { results := [.lit (.bool false)], args := [d1, d2, d3] }
  | _ => none }
def GraphNextsWrongFalsely : Prop := graphNextsRow.holds Try.pinned (OpenSpec.ofChange graphNextsWrong)

/-- 'caucuslaw13.GraphOrder': WHATEVER THE INPUT: true; the input reads as it did. -/
def graphOrderSpec : ChangeSpec := { name := "graphOrder", fn := fun _ => fun
  | [d1, d2] => { results := [.lit (.bool true)], args := [d1, d2] }
  | _ => none }
def graphOrderRow : OpenClaim := { program := "ytikmdkicccfjpaa", sum := "ccf4f9c821819960d076d9c7b3530e5f6cf0a47b216fe5a6874a033e71c6741e", func := "caucus/caucuslaw13.GraphOrder", spec := "graphOrder", unfollowed := true, recurses := true, plainKeys := false, apart := false }
def GraphOrderSaid : Prop := graphOrderRow.holds Try.pinned (OpenSpec.ofChange graphOrderSpec)

/-- ITS FALSE NEIGHBOUR: 'it returns false'. Refute it at one input. -/
def graphOrderWrong : ChangeSpec := { name := "graphOrder", fn := fun _ => fun
  | [d1, d2] => { results := [.lit (.bool false)], args := [d1, d2] }
  | _ => none }
def GraphOrderWrongFalsely : Prop := graphOrderRow.holds Try.pinned (OpenSpec.ofChange graphOrderWrong)

/-- 'caucuslaw13.GraphBoth': WHATEVER THE INPUT: true; the input reads as it did. -/
def graphBothSpec : ChangeSpec := { name := "graphBoth", fn := fun _ => fun
  | [d] => { results := [.lit (.bool true)], args := [d] }
  | _ => none }
def graphBothRow : OpenClaim := { program := "ytikmdkicccfjpaa", sum := "ccf4f9c821819960d076d9c7b3530e5f6cf0a47b216fe5a6874a033e71c6741e", func := "caucus/caucuslaw13.GraphBoth", spec := "graphBoth", unfollowed := true, recurses := true, plainKeys := false, apart := false }
def GraphBothSaid : Prop := graphBothRow.holds Try.pinned (OpenSpec.ofChange graphBothSpec)

/-- ITS FALSE NEIGHBOUR: 'it returns false'. Refute it at one input. -/
def graphBothWrong : ChangeSpec := { name := "graphBoth", fn := fun _ => fun
  | [d] => { results := [.lit (.bool false)], args := [d] }
  | _ => none }
def GraphBothWrongFalsely : Prop := graphBothRow.holds Try.pinned (OpenSpec.ofChange graphBothWrong)

/-- 'caucuslaw13.GraphThere': WHATEVER THE INPUT: true; the input reads as it did. -/
def graphThereSpec : ChangeSpec := { name := "graphThere", fn := fun _ => fun
  | [d1, d2] => { results := [.lit (.bool true)], args := [d1, d2] }
  | _ => none }
def graphThereRow : OpenClaim := { program := "ytikmdkicccfjpaa", sum := "ccf4f9c821819960d076d9c7b3530e5f6cf0a47b216fe5a6874a033e71c6741e", func := "caucus/caucuslaw13.GraphThere", spec := "graphThere", unfollowed := true, recurses := true, plainKeys := false, apart := false }
def GraphThereSaid : Prop := graphThereRow.holds Try.pinned (OpenSpec.ofChange graphThereSpec)

/-- ITS FALSE NEIGHBOUR: 'it returns false'. Refute it at one input. -/
def graphThereWrong : ChangeSpec := { name := "graphThere", fn := fun _ => fun
  | [d1, d2] => { results := [.lit (.bool false)], args := [d1, d2] }
  | _ => none }
def GraphThereWrongFalsely : Prop := graphThereRow.holds Try.pinned (OpenSpec.ofChange graphThereWrong)

/-- 'caucuslaw13.GraphMore': WHATEVER THE INPUT: true; the input reads as it did. -/
def graphMoreSpec : ChangeSpec := { name := "graphMore", fn := fun _ => fun
  | [d1, d2, d3] => { results := [.lit (.bool true)], args := [d1, d2, d3] }
  | _ => none }
def graphMoreRow : OpenClaim := { program := "ytikmdkicccfjpaa", sum := "ccf4f9c821819960d076d9c7b3530e5f6cf0a47b216fe5a6874a033e71c6741e", func := "caucus/caucuslaw13.GraphMore", spec := "graphMore", unfollowed := true, recurses := true, plainKeys := false, apart := false }
def GraphMoreSaid : Prop := graphMoreRow.holds Try.pinned (OpenSpec.ofChange graphMoreSpec)

/-- ITS FALSE NEIGHBOUR: 'it returns false'. Refute it at one input. -/
def graphMoreWrong : ChangeSpec := { name := "graphMore", fn := fun _ => fun
  | [d1, d2, d3] => { results := [.lit (.bool false)], args := [d1, d2, d3] }
  | _ => none }
def GraphMoreWrongFalsely : Prop := graphMoreRow.holds Try.pinned (OpenSpec.ofChange graphMoreWrong)

/- THE SECOND FORM. 'bulk': how many values and letters a reading holds, each counted each time it is reached (what is shared counts as often as it is met; a slice's spare places count too). A statement '..UptoSaid' is the law's where the arguments, and the package variables that the reading takes, are together of bulk at most 1048576: NARROWER than '..Said'. Prove '..Said' where nothing that the law and all that it calls make is longer than what came in: it says more and counts as full. Else prove '..UptoSaid'. A law counts once. -/
mutual
def uptoBulk {H : Type} : DataW H → Nat
  | .lit (.string bytes) => bytes.length + 1
  | .lit _ => 1
  | .nil => 1
  | .ptr d => uptoBulk d + 1
  | .slice elems spare => uptoBulkAll elems + uptoBulkAll spare + 1
  | .agg parts => uptoBulkAll parts + 1
  | .iface _ d => uptoBulk d + 1
  | .map entries => uptoBulkEntries entries + 1
  | .held _ => 1
def uptoBulkAll {H : Type} : List (DataW H) → Nat
  | [] => 0
  | d :: r => uptoBulk d + uptoBulkAll r
def uptoBulkEntries {H : Type} : List (Lit × DataW H) → Nat
  | [] => 0
  | x :: r => uptoBulkEntry x + uptoBulkEntries r
def uptoBulkEntry {H : Type} : Lit × DataW H → Nat
  | (.string bytes, d) => bytes.length + uptoBulk d + 1
  | (_, d) => uptoBulk d + 1
 end
def uptoSmall : (H : Type) → List (DataW H) → Bool := fun _ ds => decide (uptoBulkAll ds ≤ 1048576)
def OpenSpec.upto (s : _root_.Go.ChangeSpec) : _root_.Go.OpenSpec := { _root_.Go.OpenSpec.ofChange s with cond := some uptoSmall }

/-- 'caucuslaw13.GraphOf', WHERE WHAT IT READS IS OF BULK AT MOST 1048576: true; the input reads as it did. -/
def graphOfUptoRow : OpenClaim := { program := "ytikmdkicccfjpaa", sum := "ccf4f9c821819960d076d9c7b3530e5f6cf0a47b216fe5a6874a033e71c6741e", func := "caucus/caucuslaw13.GraphOf", spec := "graphOf", unfollowed := true, recurses := true, plainKeys := false, apart := false, narrowed := true }
def GraphOfUptoSaid : Prop := graphOfUptoRow.holds Try.pinned (OpenSpec.upto graphOfSpec)

/-- 'caucuslaw13.GraphTakes', WHERE WHAT IT READS IS OF BULK AT MOST 1048576: true; the input reads as it did. -/
def graphTakesUptoRow : OpenClaim := { program := "ytikmdkicccfjpaa", sum := "ccf4f9c821819960d076d9c7b3530e5f6cf0a47b216fe5a6874a033e71c6741e", func := "caucus/caucuslaw13.GraphTakes", spec := "graphTakes", unfollowed := true, recurses := true, plainKeys := false, apart := false, narrowed := true }
def GraphTakesUptoSaid : Prop := graphTakesUptoRow.holds Try.pinned (OpenSpec.upto graphTakesSpec)

/-- 'caucuslaw13.GraphReaches', WHERE WHAT IT READS IS OF BULK AT MOST 1048576: true; the input reads as it did. -/
def graphReachesUptoRow : OpenClaim := { program := "ytikmdkicccfjpaa", sum := "ccf4f9c821819960d076d9c7b3530e5f6cf0a47b216fe5a6874a033e71c6741e", func := "caucus/caucuslaw13.GraphReaches", spec := "graphReaches", unfollowed := true, recurses := true, plainKeys := false, apart := false, narrowed := true }
def GraphReachesUptoSaid : Prop := graphReachesUptoRow.holds Try.pinned (OpenSpec.upto graphReachesSpec)

/-- 'caucuslaw13.GraphNexts', WHERE WHAT IT READS IS OF BULK AT MOST 1048576: true; the input reads as it did. -/
def graphNextsUptoRow : OpenClaim := { program := "ytikmdkicccfjpaa", sum := "ccf4f9c821819960d076d9c7b3530e5f6cf0a47b216fe5a6874a033e71c6741e", func := "caucus/caucuslaw13.GraphNexts", spec := "graphNexts", unfollowed := true, recurses := true, plainKeys := false, apart := false, narrowed := true }
def GraphNextsUptoSaid : Prop := graphNextsUptoRow.holds Try.pinned (OpenSpec.upto graphNextsSpec)

/-- 'caucuslaw13.GraphOrder', WHERE WHAT IT READS IS OF BULK AT MOST 1048576: true; the input reads as it did. -/
def graphOrderUptoRow : OpenClaim := { program := "ytikmdkicccfjpaa", sum := "ccf4f9c821819960d076d9c7b3530e5f6cf0a47b216fe5a6874a033e71c6741e", func := "caucus/caucuslaw13.GraphOrder", spec := "graphOrder", unfollowed := true, recurses := true, plainKeys := false, apart := false, narrowed := true }
def GraphOrderUptoSaid : Prop := graphOrderUptoRow.holds Try.pinned (OpenSpec.upto graphOrderSpec)

/-- 'caucuslaw13.GraphBoth', WHERE WHAT IT READS IS OF BULK AT MOST 1048576: true; the input reads as it did. -/
def graphBothUptoRow : OpenClaim := { program := "ytikmdkicccfjpaa", sum := "ccf4f9c821819960d076d9c7b3530e5f6cf0a47b216fe5a6874a033e71c6741e", func := "caucus/caucuslaw13.GraphBoth", spec := "graphBoth", unfollowed := true, recurses := true, plainKeys := false, apart := false, narrowed := true }
def GraphBothUptoSaid : Prop := graphBothUptoRow.holds Try.pinned (OpenSpec.upto graphBothSpec)

/-- 'caucuslaw13.GraphThere', WHERE WHAT IT READS IS OF BULK AT MOST 1048576: true; the input reads as it did. -/
def graphThereUptoRow : OpenClaim := { program := "ytikmdkicccfjpaa", sum := "ccf4f9c821819960d076d9c7b3530e5f6cf0a47b216fe5a6874a033e71c6741e", func := "caucus/caucuslaw13.GraphThere", spec := "graphThere", unfollowed := true, recurses := true, plainKeys := false, apart := false, narrowed := true }
def GraphThereUptoSaid : Prop := graphThereUptoRow.holds Try.pinned (OpenSpec.upto graphThereSpec)

/-- 'caucuslaw13.GraphMore', WHERE WHAT IT READS IS OF BULK AT MOST 1048576: true; the input reads as it did. -/
def graphMoreUptoRow : OpenClaim := { program := "ytikmdkicccfjpaa", sum := "ccf4f9c821819960d076d9c7b3530e5f6cf0a47b216fe5a6874a033e71c6741e", func := "caucus/caucuslaw13.GraphMore", spec := "graphMore", unfollowed := true, recurses := true, plainKeys := false, apart := false, narrowed := true }
def GraphMoreUptoSaid : Prop := graphMoreUptoRow.holds Try.pinned (OpenSpec.upto graphMoreSpec)

end Rows
end Go.Proofs.Ytikmdkicccfjpaa
