/-
  nodeNobody_card, part 8 of 25: merged by program from the texts that it needs.
-/
import Derived.Test.YtkheephfkbpchaaGreatDoorNnE
import Derived.Test.YtkheephfkbpchaaGreatDoorNnF
set_option linter.unusedSimpArgs false
set_option linter.unusedVariables false
set_option linter.unnecessarySimpa false
namespace Go.Proofs.YtkheephfkbpchaaGreatDoor
open Go.RowKit
theorem ael:Qb.Ok Tryz.prog:=Part.aq tk ao tq al (fuel:=100000) (d:=60) (by kernel_rfl)
theorem aem:Qd.Ok Tryz.prog:=Part.aq tk ao tq al (fuel:=100000) (d:=60) (by kernel_rfl)
theorem aen:Qf.Ok Tryz.prog:=Part.aq tk ao tq al (fuel:=100000) (d:=60) (by kernel_rfl)
theorem aeo:Qh.Ok Tryz.prog:=Part.aq tk ao tq al (fuel:=100000) (d:=60) (by kernel_rfl)
theorem aep:Qi.Ok Tryz.prog:=Part.aq tk ao tq al (fuel:=100000) (d:=60) (by kernel_rfl)
theorem aeq:Qj.Ok Tryz.prog:=Part.aq tk ao tq al (fuel:=100000) (d:=60) (by kernel_rfl)
end Go.Proofs.YtkheephfkbpchaaGreatDoor
namespace Go.Proofs.YtkheephfkbpchaaGreatDoor
open Go.RowKit
theorem aer:Ql.Ok Tryz.prog:=Part.aq tk ao tq al (fuel:=100000) (d:=60) (by kernel_rfl)
theorem aes:Qm.Ok Tryz.prog:=Part.aq tk ao tq al (fuel:=100000) (d:=60) (by kernel_rfl)
theorem aet:Qn.Ok Tryz.prog:=Part.aq tk ao tq al (fuel:=100000) (d:=60) (by kernel_rfl)
theorem aeu:Qo.Ok Tryz.prog:=Part.aq tk ao tq al (fuel:=100000) (d:=60) (by kernel_rfl)
theorem aev:Qp.Ok Tryz.prog:=Part.aq tk ao tq al (fuel:=100000) (d:=60) (by kernel_rfl)
theorem aew:Qq.Ok Tryz.prog:=Part.aq tk ao tq al (fuel:=100000) (d:=60) (by kernel_rfl)
end Go.Proofs.YtkheephfkbpchaaGreatDoor
namespace Go.Proofs.YtkheephfkbpchaaGreatDoor
open Go.RowKit
theorem aex:Qs.Ok Tryz.prog:=Part.aq tk ao tq al (fuel:=100000) (d:=60) (by kernel_rfl)
theorem aey:Qu.Ok Tryz.prog:=Part.aq tk ao tq al (fuel:=100000) (d:=60) (by kernel_rfl)
theorem aez:Qw.Ok Tryz.prog:=Part.aq tk ao tq al (fuel:=100000) (d:=60) (by kernel_rfl)
theorem aeA:Qx.Ok Tryz.prog:=Part.aq tk ao tq al (fuel:=100000) (d:=60) (by kernel_rfl)
theorem aeB:Qy.Ok Tryz.prog:=Part.aq tk ao tq al (fuel:=100000) (d:=60) (by kernel_rfl)
theorem aeC:Qz.Ok Tryz.prog:=Part.aq tk ao tq al (fuel:=100000) (d:=60) (by kernel_rfl)
end Go.Proofs.YtkheephfkbpchaaGreatDoor
namespace Go.Proofs.YtkheephfkbpchaaGreatDoor
open Go.RowKit
theorem aeD:QA.Ok Tryz.prog:=Part.aq tk ao tq al (fuel:=100000) (d:=60) (by kernel_rfl)
theorem aeE:QB.Ok Tryz.prog:=Part.aq tk ao tq al (fuel:=100000) (d:=60) (by kernel_rfl)
theorem aeF:QC.Ok Tryz.prog:=Part.aq tk ao tq al (fuel:=100000) (d:=60) (by kernel_rfl)
theorem aeG:QD.Ok Tryz.prog:=Part.aq tk ao tq al (fuel:=100000) (d:=60) (by kernel_rfl)
theorem aeH:QE.Ok Tryz.prog:=Part.aq tk ao tq al (fuel:=100000) (d:=60) (by kernel_rfl)
theorem aeI:QF.Ok Tryz.prog:=Part.aq tk ao tq al (fuel:=100000) (d:=60) (by kernel_rfl)
end Go.Proofs.YtkheephfkbpchaaGreatDoor
