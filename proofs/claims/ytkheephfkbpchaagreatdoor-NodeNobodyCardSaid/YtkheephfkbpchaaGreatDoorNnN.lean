/-
  nodeNobody_card, part 14 of 25: merged by program from the texts that it needs.
-/
import Derived.Test.YtkheephfkbpchaaGreatDoorNnE
import Derived.Test.YtkheephfkbpchaaGreatDoorNnJ
set_option linter.unusedSimpArgs false
set_option linter.unusedVariables false
set_option linter.unnecessarySimpa false
namespace Go.Proofs.YtkheephfkbpchaaGreatDoor
open Go.RowKit
theorem aaP:M4.Ok Tryz.prog:=Part.aq tk ao tq al (fuel:=100000) (d:=60) (by kernel_rfl)
theorem aaQ:M5.Ok Tryz.prog:=Part.aq tk ao tq al (fuel:=100000) (d:=60) (by kernel_rfl)
theorem aaR:M6.Ok Tryz.prog:=Part.aq tk ao tq al (fuel:=100000) (d:=60) (by kernel_rfl)
theorem aaS:M7.Ok Tryz.prog:=Part.aq tk ao tq al (fuel:=100000) (d:=60) (by kernel_rfl)
theorem aaT:M9.Ok Tryz.prog:=Part.aq tk ao tq al (fuel:=100000) (d:=60) (by kernel_rfl)
theorem aaU:Na.Ok Tryz.prog:=Part.aq tk ao tq al (fuel:=100000) (d:=60) (by kernel_rfl)
end Go.Proofs.YtkheephfkbpchaaGreatDoor
namespace Go.Proofs.YtkheephfkbpchaaGreatDoor
open Go.RowKit
theorem aaV:Nc.Ok Tryz.prog:=Part.aq tk ao tq al (fuel:=100000) (d:=60) (by kernel_rfl)
theorem aaW:Nd.Ok Tryz.prog:=Part.aq tk ao tq al (fuel:=100000) (d:=60) (by kernel_rfl)
theorem aaX:Ng.Ok Tryz.prog:=Part.aq tk ao tq al (fuel:=100000) (d:=60) (by kernel_rfl)
theorem aaY:Nh.Ok Tryz.prog:=Part.aq tk ao tq al (fuel:=100000) (d:=60) (by kernel_rfl)
theorem aaZ:Ni.Ok Tryz.prog:=Part.aq tk ao tq al (fuel:=100000) (d:=60) (by kernel_rfl)
theorem aa0:Nj.Ok Tryz.prog:=Part.aq tk ao tq al (fuel:=100000) (d:=60) (by kernel_rfl)
end Go.Proofs.YtkheephfkbpchaaGreatDoor
namespace Go.Proofs.YtkheephfkbpchaaGreatDoor
open Go.RowKit
theorem aa1:Nk.Ok Tryz.prog:=Part.aq tk ao tq al (fuel:=100000) (d:=60) (by kernel_rfl)
theorem aa2:Nl.Ok Tryz.prog:=Part.aq tk ao tq al (fuel:=100000) (d:=60) (by kernel_rfl)
theorem aa3:Nm.Ok Tryz.prog:=Part.aq tk ao tq al (fuel:=100000) (d:=60) (by kernel_rfl)
theorem aa4:Nn.Ok Tryz.prog:=Part.aq tk ao tq al (fuel:=100000) (d:=60) (by kernel_rfl)
theorem aa5:No.Ok Tryz.prog:=Part.aq tk ao tq al (fuel:=100000) (d:=60) (by kernel_rfl)
theorem aa6:Np.Ok Tryz.prog:=Part.aq tk ao tq al (fuel:=100000) (d:=60) (by kernel_rfl)
end Go.Proofs.YtkheephfkbpchaaGreatDoor
namespace Go.Proofs.YtkheephfkbpchaaGreatDoor
open Go.RowKit
theorem aa7:Nq.Ok Tryz.prog:=Part.aq tk ao tq al (fuel:=100000) (d:=60) (by kernel_rfl)
theorem aa8:Nr.Ok Tryz.prog:=Part.aq tk ao tq al (fuel:=100000) (d:=60) (by kernel_rfl)
theorem aa9:Ns.Ok Tryz.prog:=Part.aq tk ao tq al (fuel:=100000) (d:=60) (by kernel_rfl)
theorem abb:Nt.Ok Tryz.prog:=Part.aq tk ao tq al (fuel:=100000) (d:=60) (by kernel_rfl)
theorem abd:Nu.Ok Tryz.prog:=Part.aq tk ao tq al (fuel:=100000) (d:=60) (by kernel_rfl)
theorem abe:Nw.Ok Tryz.prog:=Part.aq tk ao tq al (fuel:=100000) (d:=60) (by kernel_rfl)
end Go.Proofs.YtkheephfkbpchaaGreatDoor
