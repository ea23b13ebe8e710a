/-
  nodeNobody_card, part 15 of 25: merged by program from the texts that it needs.
-/
import Derived.Test.YtkheephfkbpchaaGreatDoorNnE
import Derived.Test.YtkheephfkbpchaaGreatDoorNnJ
set_option linter.unusedSimpArgs false
set_option linter.unusedVariables false
set_option linter.unnecessarySimpa false
namespace Go.Proofs.YtkheephfkbpchaaGreatDoor
open Go.RowKit
theorem abf:Nx.Ok Tryz.prog:=Part.aq tk ao tq al (fuel:=100000) (d:=60) (by kernel_rfl)
theorem abg:Ny.Ok Tryz.prog:=Part.aq tk ao tq al (fuel:=100000) (d:=60) (by kernel_rfl)
theorem abh:Nz.Ok Tryz.prog:=Part.aq tk ao tq al (fuel:=100000) (d:=60) (by kernel_rfl)
theorem abi:NA.Ok Tryz.prog:=Part.aq tk ao tq al (fuel:=100000) (d:=60) (by kernel_rfl)
theorem abj:NB.Ok Tryz.prog:=Part.aq tk ao tq al (fuel:=100000) (d:=60) (by kernel_rfl)
theorem abk:NC.Ok Tryz.prog:=Part.aq tk ao tq al (fuel:=100000) (d:=60) (by kernel_rfl)
end Go.Proofs.YtkheephfkbpchaaGreatDoor
namespace Go.Proofs.YtkheephfkbpchaaGreatDoor
open Go.RowKit
theorem abl:ND.Ok Tryz.prog:=Part.aq tk ao tq al (fuel:=100000) (d:=60) (by kernel_rfl)
theorem abm:NF.Ok Tryz.prog:=Part.aq tk ao tq al (fuel:=100000) (d:=60) (by kernel_rfl)
theorem abn:NG.Ok Tryz.prog:=Part.aq tk ao tq al (fuel:=100000) (d:=60) (by kernel_rfl)
theorem abo:NI.Ok Tryz.prog:=Part.aq tk ao tq al (fuel:=100000) (d:=60) (by kernel_rfl)
theorem abp:NK.Ok Tryz.prog:=Part.aq tk ao tq al (fuel:=100000) (d:=60) (by kernel_rfl)
theorem abq:NL.Ok Tryz.prog:=Part.aq tk ao tq al (fuel:=100000) (d:=60) (by kernel_rfl)
end Go.Proofs.YtkheephfkbpchaaGreatDoor
namespace Go.Proofs.YtkheephfkbpchaaGreatDoor
open Go.RowKit
theorem abr:NM.Ok Tryz.prog:=Part.aq tk ao tq al (fuel:=100000) (d:=60) (by kernel_rfl)
theorem abt:NN.Ok Tryz.prog:=Part.aq tk ao tq al (fuel:=100000) (d:=60) (by kernel_rfl)
theorem abu:NO.Ok Tryz.prog:=Part.aq tk ao tq al (fuel:=100000) (d:=60) (by kernel_rfl)
theorem abv:NP.Ok Tryz.prog:=Part.aq tk ao tq al (fuel:=100000) (d:=60) (by kernel_rfl)
theorem abw:NQ.Ok Tryz.prog:=Part.aq tk ao tq al (fuel:=100000) (d:=60) (by kernel_rfl)
theorem abx:NR.Ok Tryz.prog:=Part.aq tk ao tq al (fuel:=100000) (d:=60) (by kernel_rfl)
end Go.Proofs.YtkheephfkbpchaaGreatDoor
namespace Go.Proofs.YtkheephfkbpchaaGreatDoor
open Go.RowKit
theorem aby:NS.Ok Tryz.prog:=Part.aq tk ao tq al (fuel:=100000) (d:=60) (by kernel_rfl)
theorem abz:NT.Ok Tryz.prog:=Part.aq tk ao tq al (fuel:=100000) (d:=60) (by kernel_rfl)
theorem abA:NU.Ok Tryz.prog:=Part.aq tk ao tq al (fuel:=100000) (d:=60) (by kernel_rfl)
theorem abB:NV.Ok Tryz.prog:=Part.aq tk ao tq al (fuel:=100000) (d:=60) (by kernel_rfl)
theorem abC:NX.Ok Tryz.prog:=Part.aq tk ao tq al (fuel:=100000) (d:=60) (by kernel_rfl)
theorem abD:NY.Ok Tryz.prog:=Part.aq tk ao tq al (fuel:=100000) (d:=60) (by kernel_rfl)
end Go.Proofs.YtkheephfkbpchaaGreatDoor
namespace Go.Proofs.YtkheephfkbpchaaGreatDoor
open Go.RowKit
theorem abE:NZ.Ok Tryz.prog:=Part.aq tk ao tq al (fuel:=100000) (d:=60) (by kernel_rfl)
theorem abF:N0.Ok Tryz.prog:=Part.aq tk ao tq al (fuel:=100000) (d:=60) (by kernel_rfl)
theorem abG:N1.Ok Tryz.prog:=Part.aq tk ao tq al (fuel:=100000) (d:=60) (by kernel_rfl)
theorem abH:N2.Ok Tryz.prog:=Part.aq tk ao tq al (fuel:=100000) (d:=60) (by kernel_rfl)
theorem abI:N3.Ok Tryz.prog:=Part.aq tk ao tq al (fuel:=100000) (d:=60) (by kernel_rfl)
theorem abJ:N4.Ok Tryz.prog:=Part.aq tk ao tq al (fuel:=100000) (d:=60) (by kernel_rfl)
end Go.Proofs.YtkheephfkbpchaaGreatDoor
