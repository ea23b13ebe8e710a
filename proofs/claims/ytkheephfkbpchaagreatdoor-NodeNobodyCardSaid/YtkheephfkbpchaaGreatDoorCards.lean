/-
  DERIVED. GIVEN WITH THE SEED: THE CARDS: each row of YtkheephfkbpchaaGreatDoorRows.lean that lists a variable, with what it lists TIED to the program's text (the seventh form; the later family's looks); each row that meets fmt, with fmt's text TOLD by the authors' own Lean function (tested against real Go, not proved from fmt's source: count such statements apart). THE CARD IS WHAT COUNTS. Prove the row's statement (the work); the ties are given (YtkheephfkbpchaaGreatDoorTie.lean); close each card by the builder's one call (the guide's Derived/Test/ToyasCard.lean, 'card_holds'). Laid BY PROGRAM, IN A SANDBOX (cutbox-door.mjs). By AI agents, Wed Nov 11 2026. No macro, syntax, notation, axiom, sorry.
-/
import Derived.Test.YtkheephfkbpchaaGreatDoorRows
import GoSem.ClaimSeven
namespace Go.Proofs.YtkheephfkbpchaaGreatDoor
namespace Rows

/-- THE TIED CARD OF 'caucuslaw24.NodeNobody'. -/
def nodeNobodyCard : Claim7 := { stood := { row := nodeNobodyRow, standIns := [], harness := (true, "79d2c3962f32077a78f1d56559559dee9b0d386692dff5dc77fb4503cf0c87cb"), looks := false }, kinds := [], alts := [], laidByText := true, laidKinds := [.data], laidTests := true, laidLooks := .later }
def NodeNobodyCardSaid : Prop := Claim7.holds Tryz.pinned (.plain (OpenSpec.ofChange nodeNobodySpec)) nodeNobodyCard

/-- THE TIED CARD OF 'caucuslaw25.WorldNone'. -/
def worldNoneCard : Claim7 := { stood := { row := worldNoneRow, standIns := [], harness := (true, "79d2c3962f32077a78f1d56559559dee9b0d386692dff5dc77fb4503cf0c87cb"), looks := false }, kinds := [], alts := [], laidByText := true, laidKinds := [.data], laidTests := true, laidLooks := .later }
def WorldNoneCardSaid : Prop := Claim7.holds Tryz.pinned (.plain (OpenSpec.ofChange worldNoneSpec)) worldNoneCard

/-- THE TIED CARD OF 'caucuslaw26.SettleNone'. -/
def settleNoneCard : Claim7 := { stood := { row := settleNoneRow, standIns := [], harness := (true, "79d2c3962f32077a78f1d56559559dee9b0d386692dff5dc77fb4503cf0c87cb"), looks := false }, kinds := [], alts := [], laidByText := true, laidKinds := [.data], laidTests := true, laidLooks := .later }
def SettleNoneCardSaid : Prop := Claim7.holds Tryz.pinned (.plain (OpenSpec.ofChange settleNoneSpec)) settleNoneCard

/-- THE SECOND FORM's CARD OF 'caucuslaw24.NodeNobody'. -/
def nodeNobodyUptoCard : Claim7 := { stood := { row := nodeNobodyUptoRow, standIns := [], harness := (true, "79d2c3962f32077a78f1d56559559dee9b0d386692dff5dc77fb4503cf0c87cb"), looks := false }, kinds := [], alts := [], laidByText := true, laidKinds := [.data], laidTests := true, laidLooks := .later }
def NodeNobodyUptoCardSaid : Prop := Claim7.holds Tryz.pinned (.plain (OpenSpec.upto nodeNobodySpec)) nodeNobodyUptoCard

/-- THE SECOND FORM's CARD OF 'caucuslaw25.WorldNone'. -/
def worldNoneUptoCard : Claim7 := { stood := { row := worldNoneUptoRow, standIns := [], harness := (true, "79d2c3962f32077a78f1d56559559dee9b0d386692dff5dc77fb4503cf0c87cb"), looks := false }, kinds := [], alts := [], laidByText := true, laidKinds := [.data], laidTests := true, laidLooks := .later }
def WorldNoneUptoCardSaid : Prop := Claim7.holds Tryz.pinned (.plain (OpenSpec.upto worldNoneSpec)) worldNoneUptoCard

/-- THE SECOND FORM's CARD OF 'caucuslaw26.SettleNone'. -/
def settleNoneUptoCard : Claim7 := { stood := { row := settleNoneUptoRow, standIns := [], harness := (true, "79d2c3962f32077a78f1d56559559dee9b0d386692dff5dc77fb4503cf0c87cb"), looks := false }, kinds := [], alts := [], laidByText := true, laidKinds := [.data], laidTests := true, laidLooks := .later }
def SettleNoneUptoCardSaid : Prop := Claim7.holds Tryz.pinned (.plain (OpenSpec.upto settleNoneSpec)) settleNoneUptoCard
end Rows
end Go.Proofs.YtkheephfkbpchaaGreatDoor
