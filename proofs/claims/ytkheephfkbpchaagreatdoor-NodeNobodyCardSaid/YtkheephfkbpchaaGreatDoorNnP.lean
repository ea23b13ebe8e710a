/-
  nodeNobody_card, part 16 of 25: merged by program from the texts that it needs.
-/
import Derived.Test.YtkheephfkbpchaaGreatDoorNnE
import Derived.Test.YtkheephfkbpchaaGreatDoorNnJ
set_option linter.unusedSimpArgs false
set_option linter.unusedVariables false
set_option linter.unnecessarySimpa false
namespace Go.Proofs.YtkheephfkbpchaaGreatDoor
open Go.RowKit
theorem abK:N5.Ok Tryz.prog:=Part.aq tk ao tq al (fuel:=100000) (d:=60) (by kernel_rfl)
theorem abL:N6.Ok Tryz.prog:=Part.aq tk ao tq al (fuel:=100000) (d:=60) (by kernel_rfl)
theorem abM:N7.Ok Tryz.prog:=Part.aq tk ao tq al (fuel:=100000) (d:=60) (by kernel_rfl)
theorem abN:N8.Ok Tryz.prog:=Part.aq tk ao tq al (fuel:=100000) (d:=60) (by kernel_rfl)
theorem abO:Oa.Ok Tryz.prog:=Part.aq tk ao tq al (fuel:=100000) (d:=60) (by kernel_rfl)
theorem abP:Oc.Ok Tryz.prog:=Part.aq tk ao tq al (fuel:=100000) (d:=60) (by kernel_rfl)
end Go.Proofs.YtkheephfkbpchaaGreatDoor
namespace Go.Proofs.YtkheephfkbpchaaGreatDoor
open Go.RowKit
theorem abQ:Od.Ok Tryz.prog:=Part.aq tk ao tq al (fuel:=100000) (d:=60) (by kernel_rfl)
theorem abR:Oe.Ok Tryz.prog:=Part.aq tk ao tq al (fuel:=100000) (d:=60) (by kernel_rfl)
theorem abS:Of.Ok Tryz.prog:=Part.aq tk ao tq al (fuel:=100000) (d:=60) (by kernel_rfl)
theorem abT:Og.Ok Tryz.prog:=Part.aq tk ao tq al (fuel:=100000) (d:=60) (by kernel_rfl)
theorem abU:Oh.Ok Tryz.prog:=Part.aq tk ao tq al (fuel:=100000) (d:=60) (by kernel_rfl)
theorem abV:Oi.Ok Tryz.prog:=Part.aq tk ao tq al (fuel:=100000) (d:=60) (by kernel_rfl)
end Go.Proofs.YtkheephfkbpchaaGreatDoor
namespace Go.Proofs.YtkheephfkbpchaaGreatDoor
open Go.RowKit
theorem abW:Oj.Ok Tryz.prog:=Part.aq tk ao tq al (fuel:=100000) (d:=60) (by kernel_rfl)
theorem abX:Ol.Ok Tryz.prog:=Part.aq tk ao tq al (fuel:=100000) (d:=60) (by kernel_rfl)
theorem abY:Om.Ok Tryz.prog:=Part.aq tk ao tq al (fuel:=100000) (d:=60) (by kernel_rfl)
theorem abZ:Oo.Ok Tryz.prog:=Part.aq tk ao tq al (fuel:=100000) (d:=60) (by kernel_rfl)
theorem ab0:Ot.Ok Tryz.prog:=Part.aq tk ao tq al (fuel:=100000) (d:=60) (by kernel_rfl)
theorem ab1:Ou.Ok Tryz.prog:=Part.aq tk ao tq al (fuel:=100000) (d:=60) (by kernel_rfl)
end Go.Proofs.YtkheephfkbpchaaGreatDoor
namespace Go.Proofs.YtkheephfkbpchaaGreatDoor
open Go.RowKit
theorem ab2:Ow.Ok Tryz.prog:=Part.aq tk ao tq al (fuel:=100000) (d:=60) (by kernel_rfl)
theorem ab3:Ox.Ok Tryz.prog:=Part.aq tk ao tq al (fuel:=100000) (d:=60) (by kernel_rfl)
theorem ab4:Oy.Ok Tryz.prog:=Part.aq tk ao tq al (fuel:=100000) (d:=60) (by kernel_rfl)
theorem ab5:Oz.Ok Tryz.prog:=Part.aq tk ao tq al (fuel:=100000) (d:=60) (by kernel_rfl)
theorem ab6:OA.Ok Tryz.prog:=Part.aq tk ao tq al (fuel:=100000) (d:=60) (by kernel_rfl)
theorem ab7:OB.Ok Tryz.prog:=Part.aq tk ao tq al (fuel:=100000) (d:=60) (by kernel_rfl)
end Go.Proofs.YtkheephfkbpchaaGreatDoor
