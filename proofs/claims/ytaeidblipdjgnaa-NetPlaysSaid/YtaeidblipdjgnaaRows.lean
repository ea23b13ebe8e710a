/-
  No cell of these rows narrows 'for every input' (looked for: loops, veiled, ifaces, maps, wideKeys, modest, calm, conditions, laid).
  DERIVED. THE GIVEN ROWS OF THIS SEAT. 6 by the template 'for every input the law returns true; each argument reads behind the call as it read before'; 0 by the template 'total and deterministic' (their statements: YtaeidblipdjgnaaTotals.lean).
  GIVEN WITH THE SEED: the statements are not yours to turn. If you find one false, say at which input.
  Laid BY PROGRAM, IN A SANDBOX (cutbox-rows.mjs): the forced cells as the released guide's own fill.sh prints them over the translation 6c002ac8cf60f74a… (all of the seat's roots in one cut). By AI agents, Wed Nov 11 2026. No macro, syntax, notation, axiom, sorry.
-/
import Derived.Test.YtaeidblipdjgnaaChecked
import GoSem.Claim
import GoSem.ClaimJoined
import GoSem.ClaimMapViews
import Derived.JoinedTies
import Derived.KernelRfl
namespace Go.Proofs.Ytaeidblipdjgnaa
/- THE CELL 'sum', in the pinned program and in every row, IS THE sha256 OF THE DUMP (.gsa) THAT YtaeidblipdjgnaaProg.lean LOADS. Nothing in Lean hashes anything: it is a label: what it is worth is what the hold of that sum in a sandbox is worth. -/
noncomputable def Try.pinned : Pinned := { name := "ytaeidblipdjgnaa", sum := "6c002ac8cf60f74a5dd12f92a0cd6e50cb7f5a4ee0d966dd37b88d05661a715a", checked := Try.checked }
namespace Rows
def none {H : Type} : Left H := { results := [], args := [] }

/-- 'caucuslaw11.NetRow': WHATEVER THE INPUT: true; the input reads as it did. -/
def netRowSpec : ChangeSpec := { name := "netRow", fn := fun _ => fun
  | [d] => { results := [.lit (.bool true)], args := [d] }
  | _ => none }
def netRowRow : OpenClaim := { program := "ytaeidblipdjgnaa", sum := "6c002ac8cf60f74a5dd12f92a0cd6e50cb7f5a4ee0d966dd37b88d05661a715a", func := "caucus/caucuslaw11.NetRow", spec := "netRow", unfollowed := true, recurses := true, plainKeys := false, apart := false }
def NetRowSaid : Prop := netRowRow.holds Try.pinned (OpenSpec.ofChange netRowSpec)

/-- ITS FALSE NEIGHBOUR: 'it returns false'. Refute it at one input. -/
def netRowWrong : ChangeSpec := { name := "netRow", fn := fun _ => fun
  | [d] => { results := [.lit (.bool false)], args := [d] }
  | _ => none }
def NetRowWrongFalsely : Prop := netRowRow.holds Try.pinned (OpenSpec.ofChange netRowWrong)

/-- 'caucuslaw11.NetTrue': WHATEVER THE INPUT: true; the input reads as it did. -/
def netTrueSpec : ChangeSpec := { name := "netTrue", fn := fun _ => fun
  | [d1, d2, d3] => { results := [.lit (.bool true)], args := [d1, d2, d3] }
  | _ => none }
def netTrueRow : OpenClaim := { program := "ytaeidblipdjgnaa", sum := "6c002ac8cf60f74a5dd12f92a0cd6e50cb7f5a4ee0d966dd37b88d05661a715a", func := "caucus/caucuslaw11.NetTrue", spec := "netTrue", unfollowed := true, recurses := true, plainKeys := false, apart := false }
def NetTrueSaid : Prop := netTrueRow.holds Try.pinned (OpenSpec.ofChange netTrueSpec)

/-- ITS FALSE NEIGHBOUR: 'it returns false'. Refute it at one input. -/
def netTrueWrong : ChangeSpec := { name := "netTrue", fn := fun _ => fun
  | [d1, d2, d3] => { results := [.lit (.bool false)], args := [d1, d2, d3] }
  | _ => none }
def NetTrueWrongFalsely : Prop := netTrueRow.holds Try.pinned (OpenSpec.ofChange netTrueWrong)

/-- 'caucuslaw11.NetUndo': WHATEVER THE INPUT: true; the input reads as it did. -/
def netUndoSpec : ChangeSpec := { name := "netUndo", fn := fun _ => fun
  | [d1, d2, d3, d4, d5, d6] => { results := [.lit (.bool true)], args := [d1, d2, d3, d4, d5, d6] }
  | _ => none }
def netUndoRow : OpenClaim := { program := "ytaeidblipdjgnaa", sum := "6c002ac8cf60f74a5dd12f92a0cd6e50cb7f5a4ee0d966dd37b88d05661a715a", func := "caucus/caucuslaw11.NetUndo", spec := "netUndo", unfollowed := true, recurses := true, plainKeys := false, apart := false }
def NetUndoSaid : Prop := netUndoRow.holds Try.pinned (OpenSpec.ofChange netUndoSpec)

/-- ITS FALSE NEIGHBOUR: 'it returns false'. Refute it at one input. -/
def netUndoWrong : ChangeSpec := { name := "netUndo", fn := fun _ => fun
  | [d1, d2, d3, d4, d5, d6] => { results := [.lit (.bool false)], args := [d1, d2, d3, d4, d5, d6] }
  | _ => none }
def NetUndoWrongFalsely : Prop := netUndoRow.holds Try.pinned (OpenSpec.ofChange netUndoWrong)

/-- 'caucuslaw11.NetPlays': WHATEVER THE INPUT: true; the input reads as it did. -/
def netPlaysSpec : ChangeSpec := { name := "netPlays", fn := fun _ => fun
  | [d1, d2, d3] => { results := [.lit (.bool true)], args := [d1, d2, d3] }
  | _ => none }
def netPlaysRow : OpenClaim := { program := "ytaeidblipdjgnaa", sum := "6c002ac8cf60f74a5dd12f92a0cd6e50cb7f5a4ee0d966dd37b88d05661a715a", func := "caucus/caucuslaw11.NetPlays", spec := "netPlays", inPlace := ["maps.clone"], unfollowed := true, recurses := true, plainKeys := false, apart := false }
def NetPlaysSaid : Prop := netPlaysRow.holds Try.pinned (OpenSpec.ofChange netPlaysSpec)

/-- ITS FALSE NEIGHBOUR: 'it returns false'. Refute it at one input. -/
def netPlaysWrong : ChangeSpec := { name := "netPlays", fn := fun _ => fun
  | [d1, d2, d3] => { results := [.lit (.bool false)], args := [d1, d2, d3] }
  | _ => none }
def NetPlaysWrongFalsely : Prop := netPlaysRow.holds Try.pinned (OpenSpec.ofChange netPlaysWrong)

/-- 'caucuslaw11.NetNobody': WHATEVER THE INPUT: true; the input reads as it did. -/
def netNobodySpec : ChangeSpec := { name := "netNobody", fn := fun _ => fun
  | [d] => { results := [.lit (.bool true)], args := [d] }
  | _ => none }
def netNobodyRow : OpenClaim := { program := "ytaeidblipdjgnaa", sum := "6c002ac8cf60f74a5dd12f92a0cd6e50cb7f5a4ee0d966dd37b88d05661a715a", func := "caucus/caucuslaw11.NetNobody", spec := "netNobody", inPlace := ["maps.clone"], unfollowed := true, recurses := true, plainKeys := false, apart := false }
def NetNobodySaid : Prop := netNobodyRow.holds Try.pinned (OpenSpec.ofChange netNobodySpec)

/-- ITS FALSE NEIGHBOUR: 'it returns false'. Refute it at one input. -/
def netNobodyWrong : ChangeSpec := { name := "netNobody", fn := fun _ => fun
  | [d] => { results := [.lit (.bool false)], args := [d] }
  | _ => none }
def NetNobodyWrongFalsely : Prop := netNobodyRow.holds Try.pinned (OpenSpec.ofChange netNobodyWrong)

/-- 'caucuslaw11.NetCopies': WHATEVER THE INPUT: true; the input reads as it did. -/
def netCopiesSpec : ChangeSpec := { name := "netCopies", fn := fun _ => fun
  | [d1, d2, d3, d4] => { results := [.lit (.bool true)], args := [d1, d2, d3, d4] }
  | _ => none }
def netCopiesRow : OpenClaim := { program := "ytaeidblipdjgnaa", sum := "6c002ac8cf60f74a5dd12f92a0cd6e50cb7f5a4ee0d966dd37b88d05661a715a", func := "caucus/caucuslaw11.NetCopies", spec := "netCopies", inPlace := ["maps.clone"], unfollowed := true, recurses := true, plainKeys := false, apart := false }
def NetCopiesSaid : Prop := netCopiesRow.holds Try.pinned (OpenSpec.ofChange netCopiesSpec)

/-- ITS FALSE NEIGHBOUR: 'it returns false'. Refute it at one input. -/
def netCopiesWrong : ChangeSpec := { name := "netCopies", fn := fun _ => fun
  | [d1, d2, d3, d4] => { results := [.lit (.bool false)], args := [d1, d2, d3, d4] }
  | _ => none }
def NetCopiesWrongFalsely : Prop := netCopiesRow.holds Try.pinned (OpenSpec.ofChange netCopiesWrong)

/- THE SECOND FORM. 'bulk': how many values and letters a reading holds, each counted each time it is reached (what is shared counts as often as it is met; a slice's spare places count too). A statement '..UptoSaid' is the law's where the arguments, and the package variables that the reading takes, are together of bulk at most 1048576: NARROWER than '..Said'. Prove '..Said' where nothing that the law and all that it calls make is longer than what came in: it says more and counts as full. Else prove '..UptoSaid'. A law counts once. -/
mutual
def uptoBulk {H : Type} : DataW H → Nat
  | .lit (.string bytes) => bytes.length + 1
  | .lit _ => 1
  | .nil => 1
  | .ptr d => uptoBulk d + 1
  | .slice elems spare => uptoBulkAll elems + uptoBulkAll spare + 1
  | .agg parts => uptoBulkAll parts + 1
  | .iface _ d => uptoBulk d + 1
  | .map entries => uptoBulkEntries entries + 1
  | .held _ => 1
def uptoBulkAll {H : Type} : List (DataW H) → Nat
  | [] => 0
  | d :: r => uptoBulk d + uptoBulkAll r
def uptoBulkEntries {H : Type} : List (Lit × DataW H) → Nat
  | [] => 0
  | x :: r => uptoBulkEntry x + uptoBulkEntries r
def uptoBulkEntry {H : Type} : Lit × DataW H → Nat
  | (.string bytes, d) => bytes.length + uptoBulk d + 1
  | (_, d) => uptoBulk d + 1
 end
def uptoSmall : (H : Type) → List (DataW H) → Bool := fun _ ds => decide (uptoBulkAll ds ≤ 1048576)
def OpenSpec.upto (s : _root_.Go.ChangeSpec) : _root_.Go.OpenSpec := { _root_.Go.OpenSpec.ofChange s with cond := some uptoSmall }

/-- 'caucuslaw11.NetRow', WHERE WHAT IT READS IS OF BULK AT MOST 1048576: true; the input reads as it did. -/
def netRowUptoRow : OpenClaim := { program := "ytaeidblipdjgnaa", sum := "6c002ac8cf60f74a5dd12f92a0cd6e50cb7f5a4ee0d966dd37b88d05661a715a", func := "caucus/caucuslaw11.NetRow", spec := "netRow", unfollowed := true, recurses := true, plainKeys := false, apart := false, narrowed := true }
def NetRowUptoSaid : Prop := netRowUptoRow.holds Try.pinned (OpenSpec.upto netRowSpec)

/-- 'caucuslaw11.NetTrue', WHERE WHAT IT READS IS OF BULK AT MOST 1048576: true; the input reads as it did. -/
def netTrueUptoRow : OpenClaim := { program := "ytaeidblipdjgnaa", sum := "6c002ac8cf60f74a5dd12f92a0cd6e50cb7f5a4ee0d966dd37b88d05661a715a", func := "caucus/caucuslaw11.NetTrue", spec := "netTrue", unfollowed := true, recurses := true, plainKeys := false, apart := false, narrowed := true }
def NetTrueUptoSaid : Prop := netTrueUptoRow.holds Try.pinned (OpenSpec.upto netTrueSpec)

/-- 'caucuslaw11.NetUndo', WHERE WHAT IT READS IS OF BULK AT MOST 1048576: true; the input reads as it did. -/
def netUndoUptoRow : OpenClaim := { program := "ytaeidblipdjgnaa", sum := "6c002ac8cf60f74a5dd12f92a0cd6e50cb7f5a4ee0d966dd37b88d05661a715a", func := "caucus/caucuslaw11.NetUndo", spec := "netUndo", unfollowed := true, recurses := true, plainKeys := false, apart := false, narrowed := true }
def NetUndoUptoSaid : Prop := netUndoUptoRow.holds Try.pinned (OpenSpec.upto netUndoSpec)

/-- 'caucuslaw11.NetPlays', WHERE WHAT IT READS IS OF BULK AT MOST 1048576: true; the input reads as it did. -/
def netPlaysUptoRow : OpenClaim := { program := "ytaeidblipdjgnaa", sum := "6c002ac8cf60f74a5dd12f92a0cd6e50cb7f5a4ee0d966dd37b88d05661a715a", func := "caucus/caucuslaw11.NetPlays", spec := "netPlays", inPlace := ["maps.clone"], unfollowed := true, recurses := true, plainKeys := false, apart := false, narrowed := true }
def NetPlaysUptoSaid : Prop := netPlaysUptoRow.holds Try.pinned (OpenSpec.upto netPlaysSpec)

/-- 'caucuslaw11.NetNobody', WHERE WHAT IT READS IS OF BULK AT MOST 1048576: true; the input reads as it did. -/
def netNobodyUptoRow : OpenClaim := { program := "ytaeidblipdjgnaa", sum := "6c002ac8cf60f74a5dd12f92a0cd6e50cb7f5a4ee0d966dd37b88d05661a715a", func := "caucus/caucuslaw11.NetNobody", spec := "netNobody", inPlace := ["maps.clone"], unfollowed := true, recurses := true, plainKeys := false, apart := false, narrowed := true }
def NetNobodyUptoSaid : Prop := netNobodyUptoRow.holds Try.pinned (OpenSpec.upto netNobodySpec)

/-- 'caucuslaw11.NetCopies', WHERE WHAT IT READS IS OF BULK AT MOST 1048576: true; the input reads as it did. -/
def netCopiesUptoRow : OpenClaim := { program := "ytaeidblipdjgnaa", sum := "6c002ac8cf60f74a5dd12f92a0cd6e50cb7f5a4ee0d966dd37b88d05661a715a", func := "caucus/caucuslaw11.NetCopies", spec := "netCopies", inPlace := ["maps.clone"], unfollowed := true, recurses := true, plainKeys := false, apart := false, narrowed := true }
def NetCopiesUptoSaid : Prop := netCopiesUptoRow.holds Try.pinned (OpenSpec.upto netCopiesSpec)

end Rows
end Go.Proofs.Ytaeidblipdjgnaa
