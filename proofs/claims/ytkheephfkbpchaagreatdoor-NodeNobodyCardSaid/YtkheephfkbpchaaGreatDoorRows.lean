/-
  NARROWER THAN 'FOR EVERY INPUT', by the rows' own cells (each row's printed sentence says how): NodeNobody: laid · WorldNone: laid · SettleNone: laid.
  DERIVED. THE GIVEN ROWS OF THIS SEAT. 3 by the template 'for every input the law returns true; each argument reads behind the call as it read before'; 0 by the template 'total and deterministic' (their statements: YtkheephfkbpchaaGreatDoorTotals.lean).
  GIVEN WITH THE SEED: the statements are not yours to turn. If you find one false, say at which input.
  Laid BY PROGRAM, IN A SANDBOX (cutbox-rows.mjs): the forced cells as the released guide's own fill.sh prints them over the translation fff1a3675e4e566e… (all of the seat's roots in one cut). By AI agents, Wed Nov 11 2026. No macro, syntax, notation, axiom, sorry.
-/
import Derived.Test.YtkheephfkbpchaaGreatDoorChecked
import GoSem.Claim
import GoSem.ClaimJoined
import GoSem.ClaimMapViews
import Derived.JoinedTies
import Derived.KernelRfl
namespace Go.Proofs.YtkheephfkbpchaaGreatDoor
/- THE CELL 'sum', in the pinned program and in every row, IS THE sha256 OF THE DUMP (.gsa) THAT YtkheephfkbpchaaGreatDoorProg.lean LOADS. Nothing in Lean hashes anything: it is a label: what it is worth is what the hold of that sum in a sandbox is worth. -/
noncomputable def Tryz.pinned : Pinned := { name := "ytkheephfkbpchaagreatdoor", sum := "fff1a3675e4e566ee9198fdb49cf3fc17c6158d439a470bf647f801de21aaa71", checked := Tryz.checked }
namespace Rows
def none {H : Type} : Left H := { results := [], args := [] }

/- WHAT THE LISTED PACKAGE-LEVEL VARIABLES READ AS WHEN THE CALL BEGINS. Each datum BY PROGRAM (the guide's laid-datum.mjs) off the statement by which the dump's own 'gosem.cut.vars' lays the variable. In a bare row this is a premise. The card (YtkheephfkbpchaaGreatDoorCards.lean) ties it to the program's text. -/
def laid_caucus_sum_half {H : Type} : DataW H := .agg [.lit (.int .u32 0), .lit (.int .u32 274646895), .lit (.int .u32 549293790), .lit (.int .u32 820201905), .lit (.int .u32 1098587580), .lit (.int .u32 1361435347), .lit (.int .u32 1640403810), .lit (.int .u32 1905808397), .lit (.int .u32 2197175160), .lit (.int .u32 2460548119), .lit (.int .u32 2722870694), .lit (.int .u32 2987750089), .lit (.int .u32 3280807620), .lit (.int .u32 3553878443), .lit (.int .u32 3811616794), .lit (.int .u32 4084100981)]

/-- 'caucuslaw24.NodeNobody': WHATEVER THE INPUT: true; the input reads as it did. -/
def nodeNobodySpec : ChangeSpec := { name := "nodeNobody", fn := fun _ => fun
  | [d] => { results := [.lit (.bool true)], args := [d] }
  | _ => none }
def nodeNobodyRow : OpenClaim := { program := "ytkheephfkbpchaagreatdoor", sum := "fff1a3675e4e566ee9198fdb49cf3fc17c6158d439a470bf647f801de21aaa71", func := "caucus/caucuslaw24.NodeNobody", spec := "nodeNobody", inPlace := ["slices.overlaps[caucus/api.Slot]"], unfollowed := true, recurses := true, named := ["caucus/sum.half"], plainKeys := false, apart := false, laid := [("caucus/sum.half", laid_caucus_sum_half)] }
def NodeNobodySaid : Prop := nodeNobodyRow.holds Tryz.pinned (OpenSpec.ofChange nodeNobodySpec)

/-- ITS FALSE NEIGHBOUR: 'it returns false'. Refute it at one input. -/
def nodeNobodyWrong : ChangeSpec := { name := "nodeNobody", fn := fun _ => fun
  | [d] => { results := [.lit (.bool false)], args := [d] }
  | _ => none }
def NodeNobodyWrongFalsely : Prop := nodeNobodyRow.holds Tryz.pinned (OpenSpec.ofChange nodeNobodyWrong)

/-- 'caucuslaw25.WorldNone': WHATEVER THE INPUT: true; the input reads as it did. -/
def worldNoneSpec : ChangeSpec := { name := "worldNone", fn := fun _ => fun
  | [] => { results := [.lit (.bool true)], args := [] }
  | _ => none }
def worldNoneRow : OpenClaim := { program := "ytkheephfkbpchaagreatdoor", sum := "fff1a3675e4e566ee9198fdb49cf3fc17c6158d439a470bf647f801de21aaa71", func := "caucus/caucuslaw25.WorldNone", spec := "worldNone", inPlace := ["slices.overlaps[caucus/api.Slot]"], unfollowed := true, recurses := true, named := ["caucus/sum.half"], plainKeys := false, apart := false, laid := [("caucus/sum.half", laid_caucus_sum_half)] }
def WorldNoneSaid : Prop := worldNoneRow.holds Tryz.pinned (OpenSpec.ofChange worldNoneSpec)

/-- ITS FALSE NEIGHBOUR: 'it returns false'. Refute it at one input. -/
def worldNoneWrong : ChangeSpec := { name := "worldNone", fn := fun _ => fun
  | [] => { results := [.lit (.bool false)], args := [] }
  | _ => none }
def WorldNoneWrongFalsely : Prop := worldNoneRow.holds Tryz.pinned (OpenSpec.ofChange worldNoneWrong)

/-- 'caucuslaw26.SettleNone': WHATEVER THE INPUT: true; the input reads as it did. -/
def settleNoneSpec : ChangeSpec := { name := "settleNone", fn := fun _ => fun
  | [] => { results := [.lit (.bool true)], args := [] }
  | _ => none }
def settleNoneRow : OpenClaim := { program := "ytkheephfkbpchaagreatdoor", sum := "fff1a3675e4e566ee9198fdb49cf3fc17c6158d439a470bf647f801de21aaa71", func := "caucus/caucuslaw26.SettleNone", spec := "settleNone", inPlace := ["slices.overlaps[caucus/api.Slot]"], unfollowed := true, recurses := true, named := ["caucus/sum.half"], plainKeys := false, apart := false, laid := [("caucus/sum.half", laid_caucus_sum_half)] }
def SettleNoneSaid : Prop := settleNoneRow.holds Tryz.pinned (OpenSpec.ofChange settleNoneSpec)

/-- ITS FALSE NEIGHBOUR: 'it returns false'. Refute it at one input. -/
def settleNoneWrong : ChangeSpec := { name := "settleNone", fn := fun _ => fun
  | [] => { results := [.lit (.bool false)], args := [] }
  | _ => none }
def SettleNoneWrongFalsely : Prop := settleNoneRow.holds Tryz.pinned (OpenSpec.ofChange settleNoneWrong)

/- THE SECOND FORM. 'bulk': how many values and letters a reading holds, each counted each time it is reached (what is shared counts as often as it is met; a slice's spare places count too). A statement '..UptoSaid' is the law's where the arguments, and the package variables that the reading takes, are together of bulk at most 1048576: NARROWER than '..Said'. Prove '..Said' where nothing that the law and all that it calls make is longer than what came in: it says more and counts as full. Else prove '..UptoSaid'. A law counts once. -/
mutual
def uptoBulk {H : Type} : DataW H → Nat
  | .lit (.string bytes) => bytes.length + 1
  | .lit _ => 1
  | .nil => 1
  | .ptr d => uptoBulk d + 1
  | .slice elems spare => uptoBulkAll elems + uptoBulkAll spare + 1
  | .agg parts => uptoBulkAll parts + 1
  | .iface _ d => uptoBulk d + 1
  | .map entries => uptoBulkEntries entries + 1
  | .held _ => 1
def uptoBulkAll {H : Type} : List (DataW H) → Nat
  | [] => 0
  | d :: r => uptoBulk d + uptoBulkAll r
def uptoBulkEntries {H : Type} : List (Lit × DataW H) → Nat
  | [] => 0
  | x :: r => uptoBulkEntry x + uptoBulkEntries r
def uptoBulkEntry {H : Type} : Lit × DataW H → Nat
  | (.string bytes, d) => bytes.length + uptoBulk d + 1
  | (_, d) => uptoBulk d + 1
 end
def uptoSmall : (H : Type) → List (DataW H) → Bool := fun _ ds => decide (uptoBulkAll ds ≤ 1048576)
def OpenSpec.upto (s : _root_.Go.ChangeSpec) : _root_.Go.OpenSpec := { _root_.Go.OpenSpec.ofChange s with cond := some uptoSmall }

/-- 'caucuslaw24.NodeNobody', WHERE WHAT IT READS IS OF BULK AT MOST 1048576: true; the input reads as it did. -/
def nodeNobodyUptoRow : OpenClaim := { program := "ytkheephfkbpchaagreatdoor", sum := "fff1a3675e4e566ee9198fdb49cf3fc17c6158d439a470bf647f801de21aaa71", func := "caucus/caucuslaw24.NodeNobody", spec := "nodeNobody", inPlace := ["slices.overlaps[caucus/api.Slot]"], unfollowed := true, recurses := true, named := ["caucus/sum.half"], plainKeys := false, apart := false, laid := [("caucus/sum.half", laid_caucus_sum_half)], narrowed := true }
def NodeNobodyUptoSaid : Prop := nodeNobodyUptoRow.holds Tryz.pinned (OpenSpec.upto nodeNobodySpec)

/-- 'caucuslaw25.WorldNone', WHERE WHAT IT READS IS OF BULK AT MOST 1048576: true; the input reads as it did. -/
def worldNoneUptoRow : OpenClaim := { program := "ytkheephfkbpchaagreatdoor", sum := "fff1a3675e4e566ee9198fdb49cf3fc17c6158d439a470bf647f801de21aaa71", func := "caucus/caucuslaw25.WorldNone", spec := "worldNone", inPlace := ["slices.overlaps[caucus/api.Slot]"], unfollowed := true, recurses := true, named := ["caucus/sum.half"], plainKeys := false, apart := false, laid := [("caucus/sum.half", laid_caucus_sum_half)], narrowed := true }
def WorldNoneUptoSaid : Prop := worldNoneUptoRow.holds Tryz.pinned (OpenSpec.upto worldNoneSpec)

/-- 'caucuslaw26.SettleNone', WHERE WHAT IT READS IS OF BULK AT MOST 1048576: true; the input reads as it did. -/
def settleNoneUptoRow : OpenClaim := { program := "ytkheephfkbpchaagreatdoor", sum := "fff1a3675e4e566ee9198fdb49cf3fc17c6158d439a470bf647f801de21aaa71", func := "caucus/caucuslaw26.SettleNone", spec := "settleNone", inPlace := ["slices.overlaps[caucus/api.Slot]"], unfollowed := true, recurses := true, named := ["caucus/sum.half"], plainKeys := false, apart := false, laid := [("caucus/sum.half", laid_caucus_sum_half)], narrowed := true }
def SettleNoneUptoSaid : Prop := settleNoneUptoRow.holds Tryz.pinned (OpenSpec.upto settleNoneSpec)

end Rows
end Go.Proofs.YtkheephfkbpchaaGreatDoor
