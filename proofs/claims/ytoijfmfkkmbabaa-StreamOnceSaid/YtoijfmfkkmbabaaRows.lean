/-
  No cell of these rows narrows 'for every input' (looked for: loops, veiled, ifaces, maps, wideKeys, modest, calm, conditions, laid).
  DERIVED. THE GIVEN ROWS OF THIS SEAT. 3 by the template 'for every input the law returns true; each argument reads behind the call as it read before'; 0 by the template 'total and deterministic' (their statements: YtoijfmfkkmbabaaTotals.lean).
  GIVEN WITH THE SEED: the statements are not yours to turn. If you find one false, say at which input.
  Laid BY PROGRAM, IN A SANDBOX (cutbox-rows.mjs): the forced cells as the released guide's own fill.sh prints them over the translation 4ed28988b490ea31… (all of the seat's roots in one cut). By AI agents, Wed Nov 11 2026. No macro, syntax, notation, axiom, sorry.
-/
import Derived.Test.YtoijfmfkkmbabaaChecked
import GoSem.Claim
import GoSem.ClaimJoined
import GoSem.ClaimMapViews
import Derived.JoinedTies
import Derived.KernelRfl
namespace Go.Proofs.Ytoijfmfkkmbabaa
/- THE CELL 'sum', in the pinned program and in every row, IS THE sha256 OF THE DUMP (.gsa) THAT YtoijfmfkkmbabaaProg.lean LOADS. Nothing in Lean hashes anything: it is a label: what it is worth is what the hold of that sum in a sandbox is worth. -/
noncomputable def Try.pinned : Pinned := { name := "ytoijfmfkkmbabaa", sum := "4ed28988b490ea313c0ea809da9a1c09379e859b646df35f92a9008c770f2197", checked := Try.checked }
namespace Rows
def none {H : Type} : Left H := { results := [], args := [] }

/-- 'caucuslaw20.StreamTakes': WHATEVER THE INPUT: true; the input reads as it did. -/
def streamTakesSpec : ChangeSpec := { name := "streamTakes", fn := fun _ => fun
  | [d1, d2] => { results := [.lit (.bool true)], args := [d1, d2] }
  | _ => none }
def streamTakesRow : OpenClaim := { program := "ytoijfmfkkmbabaa", sum := "4ed28988b490ea313c0ea809da9a1c09379e859b646df35f92a9008c770f2197", func := "caucus/caucuslaw20.StreamTakes", spec := "streamTakes", inPlace := ["slices.overlaps[caucus/api.Slot]"], unfollowed := true, recurses := true, apart := false }
def StreamTakesSaid : Prop := streamTakesRow.holds Try.pinned (OpenSpec.ofChange streamTakesSpec)

/-- ITS FALSE NEIGHBOUR: 'it returns false'. Refute it at one input. -/
def streamTakesWrong : ChangeSpec := { name := "streamTakes", fn := fun _ => fun
  | [d1, d2] => { results := [.lit (.bool false)], args := [d1, d2] }
  | _ => none }
def StreamTakesWrongFalsely : Prop := streamTakesRow.holds Try.pinned (OpenSpec.ofChange streamTakesWrong)

/-- 'caucuslaw20.StreamHands': WHATEVER THE INPUT: true; the input reads as it did. -/
def streamHandsSpec : ChangeSpec := { name := "streamHands", fn := fun _ => fun
  | [d1, d2] => { results := [.lit (.bool true)], args := [d1, d2] }
  | _ => none }
def streamHandsRow : OpenClaim := { program := "ytoijfmfkkmbabaa", sum := "4ed28988b490ea313c0ea809da9a1c09379e859b646df35f92a9008c770f2197", func := "caucus/caucuslaw20.StreamHands", spec := "streamHands", inPlace := ["slices.overlaps[caucus/api.Slot]"], unfollowed := true, recurses := true, apart := false }
def StreamHandsSaid : Prop := streamHandsRow.holds Try.pinned (OpenSpec.ofChange streamHandsSpec)

/-- ITS FALSE NEIGHBOUR: 'it returns false'. Refute it at one input. -/
def streamHandsWrong : ChangeSpec := { name := "streamHands", fn := fun _ => fun
  | [d1, d2] => { results := [.lit (.bool false)], args := [d1, d2] }
  | _ => none }
def StreamHandsWrongFalsely : Prop := streamHandsRow.holds Try.pinned (OpenSpec.ofChange streamHandsWrong)

/-- 'caucuslaw20.StreamOnce': WHATEVER THE INPUT: true; the input reads as it did. -/
def streamOnceSpec : ChangeSpec := { name := "streamOnce", fn := fun _ => fun
  | [d1, d2] => { results := [.lit (.bool true)], args := [d1, d2] }
  | _ => none }
def streamOnceRow : OpenClaim := { program := "ytoijfmfkkmbabaa", sum := "4ed28988b490ea313c0ea809da9a1c09379e859b646df35f92a9008c770f2197", func := "caucus/caucuslaw20.StreamOnce", spec := "streamOnce", inPlace := ["slices.overlaps[caucus/api.Slot]"], unfollowed := true, recurses := true, apart := false }
def StreamOnceSaid : Prop := streamOnceRow.holds Try.pinned (OpenSpec.ofChange streamOnceSpec)

/-- ITS FALSE NEIGHBOUR: 'it returns false'. Refute it at one input. -/
def streamOnceWrong : ChangeSpec := { name := "streamOnce", fn := fun _ => fun
  | [d1, d2] => { results := [.lit (.bool false)], args := [d1, d2] }
  | _ => none }
def StreamOnceWrongFalsely : Prop := streamOnceRow.holds Try.pinned (OpenSpec.ofChange streamOnceWrong)

/- THE SECOND FORM. 'bulk': how many values and letters a reading holds, each counted each time it is reached (what is shared counts as often as it is met; a slice's spare places count too). A statement '..UptoSaid' is the law's where the arguments, and the package variables that the reading takes, are together of bulk at most 1048576: NARROWER than '..Said'. Prove '..Said' where nothing that the law and all that it calls make is longer than what came in: it says more and counts as full. Else prove '..UptoSaid'. A law counts once. -/
mutual
def uptoBulk {H : Type} : DataW H → Nat
  | .lit (.string bytes) => bytes.length + 1
  | .lit _ => 1
  | .nil => 1
  | .ptr d => uptoBulk d + 1
  | .slice elems spare => uptoBulkAll elems + uptoBulkAll spare + 1
  | .agg parts => uptoBulkAll parts + 1
  | .iface _ d => uptoBulk d + 1
  | .map entries => uptoBulkEntries entries + 1
  | .held _ => 1
def uptoBulkAll {H : Type} : List (DataW H) → Nat
  | [] => 0
  | d :: r => uptoBulk d + uptoBulkAll r
def uptoBulkEntries {H : Type} : List (Lit × DataW H) → Nat
  | [] => 0
  | x :: r => uptoBulkEntry x + uptoBulkEntries r
def uptoBulkEntry {H : Type} : Lit × DataW H → Nat
  | (.string bytes, d) => bytes.length + uptoBulk d + 1
  | (_, d) => uptoBulk d + 1
 end
def uptoSmall : (H : Type) → List (DataW H) → Bool := fun _ ds => decide (uptoBulkAll ds ≤ 1048576)
def OpenSpec.upto (s : _root_.Go.ChangeSpec) : _root_.Go.OpenSpec := { _root_.Go.OpenSpec.ofChange s with cond := some uptoSmall }

/-- 'caucuslaw20.StreamTakes', WHERE WHAT IT READS IS OF BULK AT MOST 1048576: true; the input reads as it did. -/
def streamTakesUptoRow : OpenClaim := { program := "ytoijfmfkkmbabaa", sum := "4ed28988b490ea313c0ea809da9a1c09379e859b646df35f92a9008c770f2197", func := "caucus/caucuslaw20.StreamTakes", spec := "streamTakes", inPlace := ["slices.overlaps[caucus/api.Slot]"], unfollowed := true, recurses := true, apart := false, narrowed := true }
def StreamTakesUptoSaid : Prop := streamTakesUptoRow.holds Try.pinned (OpenSpec.upto streamTakesSpec)

/-- 'caucuslaw20.StreamHands', WHERE WHAT IT READS IS OF BULK AT MOST 1048576: true; the input reads as it did. -/
def streamHandsUptoRow : OpenClaim := { program := "ytoijfmfkkmbabaa", sum := "4ed28988b490ea313c0ea809da9a1c09379e859b646df35f92a9008c770f2197", func := "caucus/caucuslaw20.StreamHands", spec := "streamHands", inPlace := ["slices.overlaps[caucus/api.Slot]"], unfollowed := true, recurses := true, apart := false, narrowed := true }
def StreamHandsUptoSaid : Prop := streamHandsUptoRow.holds Try.pinned (OpenSpec.upto streamHandsSpec)

/-- 'caucuslaw20.StreamOnce', WHERE WHAT IT READS IS OF BULK AT MOST 1048576: true; the input reads as it did. -/
def streamOnceUptoRow : OpenClaim := { program := "ytoijfmfkkmbabaa", sum := "4ed28988b490ea313c0ea809da9a1c09379e859b646df35f92a9008c770f2197", func := "caucus/caucuslaw20.StreamOnce", spec := "streamOnce", inPlace := ["slices.overlaps[caucus/api.Slot]"], unfollowed := true, recurses := true, apart := false, narrowed := true }
def StreamOnceUptoSaid : Prop := streamOnceUptoRow.holds Try.pinned (OpenSpec.upto streamOnceSpec)

end Rows
end Go.Proofs.Ytoijfmfkkmbabaa
