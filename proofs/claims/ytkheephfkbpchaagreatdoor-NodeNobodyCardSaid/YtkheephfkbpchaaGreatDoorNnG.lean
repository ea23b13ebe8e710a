/-
  nodeNobody_card, part 7 of 25: merged by program from the texts that it needs.
-/
import Derived.Test.YtkheephfkbpchaaGreatDoorNnE
import Derived.Test.YtkheephfkbpchaaGreatDoorNnF
set_option linter.unusedSimpArgs false
set_option linter.unusedVariables false
set_option linter.unnecessarySimpa false
namespace Go.Proofs.YtkheephfkbpchaaGreatDoor
open Go.RowKit
theorem pk0:Tf.Ok Tryz.prog:=Part.aq tk ao tq al (fuel:=100000) (d:=60) (by kernel_rfl)
theorem pk1:Tg.Ok Tryz.prog:=Part.aq tk ao tq al (fuel:=100000) (d:=60) (by kernel_rfl)
theorem pk2:Th.Ok Tryz.prog:=Part.aq tk ao tq al (fuel:=100000) (d:=60) (by kernel_rfl)
theorem pk3:Ti.Ok Tryz.prog:=Part.aq tk ao tq al (fuel:=100000) (d:=60) (by kernel_rfl)
theorem pk5:Tk.Ok Tryz.prog:=Part.aq tk ao tq al (fuel:=100000) (d:=60) (by kernel_rfl)
theorem pk6:Tl.Ok Tryz.prog:=Part.aq tk ao tq al (fuel:=100000) (d:=60) (by kernel_rfl)
end Go.Proofs.YtkheephfkbpchaaGreatDoor
namespace Go.Proofs.YtkheephfkbpchaaGreatDoor
open Go.RowKit
theorem pk7:Tn.Ok Tryz.prog:=Part.aq tk ao tq al (fuel:=100000) (d:=60) (by kernel_rfl)
theorem adY:PG.Ok Tryz.prog:=Part.aq tk ao tq al (fuel:=100000) (d:=60) (by kernel_rfl)
theorem adZ:PH.Ok Tryz.prog:=Part.aq tk ao tq al (fuel:=100000) (d:=60) (by kernel_rfl)
theorem ad0:PI.Ok Tryz.prog:=Part.aq tk ao tq al (fuel:=100000) (d:=60) (by kernel_rfl)
theorem ad1:PJ.Ok Tryz.prog:=Part.aq tk ao tq al (fuel:=100000) (d:=60) (by kernel_rfl)
theorem ad2:PM.Ok Tryz.prog:=Part.aq tk ao tq al (fuel:=100000) (d:=60) (by kernel_rfl)
end Go.Proofs.YtkheephfkbpchaaGreatDoor
namespace Go.Proofs.YtkheephfkbpchaaGreatDoor
open Go.RowKit
theorem ad3:PN.Ok Tryz.prog:=Part.aq tk ao tq al (fuel:=100000) (d:=60) (by kernel_rfl)
theorem ad4:PO.Ok Tryz.prog:=Part.aq tk ao tq al (fuel:=100000) (d:=60) (by kernel_rfl)
theorem ad5:PQ.Ok Tryz.prog:=Part.aq tk ao tq al (fuel:=100000) (d:=60) (by kernel_rfl)
theorem ad6:PR.Ok Tryz.prog:=Part.aq tk ao tq al (fuel:=100000) (d:=60) (by kernel_rfl)
theorem ad7:PT.Ok Tryz.prog:=Part.aq tk ao tq al (fuel:=100000) (d:=60) (by kernel_rfl)
theorem ad8:PU.Ok Tryz.prog:=Part.aq tk ao tq al (fuel:=100000) (d:=60) (by kernel_rfl)
end Go.Proofs.YtkheephfkbpchaaGreatDoor
namespace Go.Proofs.YtkheephfkbpchaaGreatDoor
open Go.RowKit
theorem ad9:PV.Ok Tryz.prog:=Part.aq tk ao tq al (fuel:=100000) (d:=60) (by kernel_rfl)
theorem aea:PX.Ok Tryz.prog:=Part.aq tk ao tq al (fuel:=100000) (d:=60) (by kernel_rfl)
theorem aeb:PY.Ok Tryz.prog:=Part.aq tk ao tq al (fuel:=100000) (d:=60) (by kernel_rfl)
theorem aec:PZ.Ok Tryz.prog:=Part.aq tk ao tq al (fuel:=100000) (d:=60) (by kernel_rfl)
theorem aed:P1.Ok Tryz.prog:=Part.aq tk ao tq al (fuel:=100000) (d:=60) (by kernel_rfl)
theorem aee:P2.Ok Tryz.prog:=Part.aq tk ao tq al (fuel:=100000) (d:=60) (by kernel_rfl)
end Go.Proofs.YtkheephfkbpchaaGreatDoor
namespace Go.Proofs.YtkheephfkbpchaaGreatDoor
open Go.RowKit
theorem aef:P3.Ok Tryz.prog:=Part.aq tk ao tq al (fuel:=100000) (d:=60) (by kernel_rfl)
theorem aeg:P5.Ok Tryz.prog:=Part.aq tk ao tq al (fuel:=100000) (d:=60) (by kernel_rfl)
theorem aeh:P6.Ok Tryz.prog:=Part.aq tk ao tq al (fuel:=100000) (d:=60) (by kernel_rfl)
theorem aei:P7.Ok Tryz.prog:=Part.aq tk ao tq al (fuel:=100000) (d:=60) (by kernel_rfl)
theorem aej:P9.Ok Tryz.prog:=Part.aq tk ao tq al (fuel:=100000) (d:=60) (by kernel_rfl)
theorem aek:Qa.Ok Tryz.prog:=Part.aq tk ao tq al (fuel:=100000) (d:=60) (by kernel_rfl)
end Go.Proofs.YtkheephfkbpchaaGreatDoor
