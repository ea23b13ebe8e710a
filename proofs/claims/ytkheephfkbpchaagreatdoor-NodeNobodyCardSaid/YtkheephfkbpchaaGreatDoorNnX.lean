/-
  nodeNobody_card, part 24 of 25: merged by program from the texts that it needs.
-/
import Derived.Test.YtkheephfkbpchaaGreatDoorNnW
set_option linter.unusedSimpArgs false
set_option linter.unusedVariables false
set_option linter.unnecessarySimpa false
namespace Go.Proofs.YtkheephfkbpchaaGreatDoor
open Go.RowKit
theorem ac0:ON.Ok Tryz.prog:=Part.aq tk ao tq (bd lB al) (fuel:=100000) (d:=60) (by kernel_rfl)
end Go.Proofs.YtkheephfkbpchaaGreatDoor
namespace Go.Proofs.YtkheephfkbpchaaGreatDoor
open Go.RowKit
theorem ac1:OQ.Ok Tryz.prog:=Part.aq tk ao tq (bd lB al) (fuel:=100000) (d:=60) (by kernel_rfl)
end Go.Proofs.YtkheephfkbpchaaGreatDoor
namespace Go.Proofs.YtkheephfkbpchaaGreatDoor
open Go.RowKit
theorem ac2:OX.Ok Tryz.prog:=Part.aq tk ao tq (bd lB al) (fuel:=100000) (d:=60) (by kernel_rfl)
end Go.Proofs.YtkheephfkbpchaaGreatDoor
namespace Go.Proofs.YtkheephfkbpchaaGreatDoor
open Go.RowKit
theorem ac3:O0.Ok Tryz.prog:=Part.aq tk ao tq (bd lB al) (fuel:=100000) (d:=60) (by kernel_rfl)
end Go.Proofs.YtkheephfkbpchaaGreatDoor
namespace Go.Proofs.YtkheephfkbpchaaGreatDoor
open Go.RowKit
theorem ac4:O3.Ok Tryz.prog:=Part.aq tk ao tq (bd lB al) (fuel:=100000) (d:=60) (by kernel_rfl)
end Go.Proofs.YtkheephfkbpchaaGreatDoor
namespace Go.Proofs.YtkheephfkbpchaaGreatDoor
open Go.RowKit
theorem ac5:O6.Ok Tryz.prog:=Part.aq tk ao tq (bd lB al) (fuel:=100000) (d:=60) (by kernel_rfl)
end Go.Proofs.YtkheephfkbpchaaGreatDoor
namespace Go.Proofs.YtkheephfkbpchaaGreatDoor
open Go.RowKit
theorem ac6:Pb.Ok Tryz.prog:=Part.aq tk ao tq (bd lB al) (fuel:=100000) (d:=60) (by kernel_rfl)
end Go.Proofs.YtkheephfkbpchaaGreatDoor
namespace Go.Proofs.YtkheephfkbpchaaGreatDoor
open Go.RowKit
theorem ac7:Pe.Ok Tryz.prog:=Part.aq tk ao tq (bd lB al) (fuel:=100000) (d:=60) (by kernel_rfl)
end Go.Proofs.YtkheephfkbpchaaGreatDoor
namespace Go.Proofs.YtkheephfkbpchaaGreatDoor
open Go.RowKit
theorem ac8:Pg.Ok Tryz.prog:=Part.aq tk ao tq (bd lB al) (fuel:=100000) (d:=60) (by kernel_rfl)
end Go.Proofs.YtkheephfkbpchaaGreatDoor
namespace Go.Proofs.YtkheephfkbpchaaGreatDoor
open Go.RowKit
theorem ac9:Pj.Ok Tryz.prog:=Part.aq tk ao tq (bd lB al) (fuel:=100000) (d:=60) (by kernel_rfl)
end Go.Proofs.YtkheephfkbpchaaGreatDoor
