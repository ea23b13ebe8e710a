/-
  nodeNobody_card, part 19 of 25: merged by program from the texts that it needs.
-/
import Derived.Test.YtkheephfkbpchaaGreatDoorNnR
set_option linter.unusedSimpArgs false
set_option linter.unusedVariables false
set_option linter.unnecessarySimpa false
namespace Go.Proofs.YtkheephfkbpchaaGreatDoor
open Go.RowKit
theorem acb:ML.Ok Tryz.prog:=Part.aq tk ao tq (bd b8 al) (fuel:=100000) (d:=60) (by kernel_rfl)
end Go.Proofs.YtkheephfkbpchaaGreatDoor
namespace Go.Proofs.YtkheephfkbpchaaGreatDoor
open Go.RowKit
theorem acd:MO.Ok Tryz.prog:=Part.aq tk ao tq (bd b8 al) (fuel:=100000) (d:=60) (by kernel_rfl)
end Go.Proofs.YtkheephfkbpchaaGreatDoor
namespace Go.Proofs.YtkheephfkbpchaaGreatDoor
open Go.RowKit
theorem ace:MV.Ok Tryz.prog:=Part.aq tk ao tq (bd b8 al) (fuel:=100000) (d:=60) (by kernel_rfl)
end Go.Proofs.YtkheephfkbpchaaGreatDoor
namespace Go.Proofs.YtkheephfkbpchaaGreatDoor
open Go.RowKit
theorem acf:MY.Ok Tryz.prog:=Part.aq tk ao tq (bd b8 al) (fuel:=100000) (d:=60) (by kernel_rfl)
end Go.Proofs.YtkheephfkbpchaaGreatDoor
namespace Go.Proofs.YtkheephfkbpchaaGreatDoor
open Go.RowKit
theorem acg:M8.Ok Tryz.prog:=Part.aq tk ao tq (bd b8 al) (fuel:=100000) (d:=60) (by kernel_rfl)
end Go.Proofs.YtkheephfkbpchaaGreatDoor
namespace Go.Proofs.YtkheephfkbpchaaGreatDoor
open Go.RowKit
theorem ach:Nb.Ok Tryz.prog:=Part.aq tk ao tq (bd b8 al) (fuel:=100000) (d:=60) (by kernel_rfl)
end Go.Proofs.YtkheephfkbpchaaGreatDoor
namespace Go.Proofs.YtkheephfkbpchaaGreatDoor
open Go.RowKit
theorem aci:Nf.Ok Tryz.prog:=Part.aq tk ao tq (bd b8 al) (fuel:=100000) (d:=60) (by kernel_rfl)
end Go.Proofs.YtkheephfkbpchaaGreatDoor
namespace Go.Proofs.YtkheephfkbpchaaGreatDoor
open Go.RowKit
theorem acj:NH.Ok Tryz.prog:=Part.aq tk ao tq (bd b8 al) (fuel:=100000) (d:=60) (by kernel_rfl)
end Go.Proofs.YtkheephfkbpchaaGreatDoor
namespace Go.Proofs.YtkheephfkbpchaaGreatDoor
open Go.RowKit
theorem ack:NJ.Ok Tryz.prog:=Part.aq tk ao tq (bd b8 al) (fuel:=100000) (d:=60) (by kernel_rfl)
end Go.Proofs.YtkheephfkbpchaaGreatDoor
namespace Go.Proofs.YtkheephfkbpchaaGreatDoor
open Go.RowKit
theorem acm:Ob.Ok Tryz.prog:=Part.aq tk ao tq (bd b8 al) (fuel:=100000) (d:=60) (by kernel_rfl)
end Go.Proofs.YtkheephfkbpchaaGreatDoor
namespace Go.Proofs.YtkheephfkbpchaaGreatDoor
open Go.RowKit
theorem acn:Ov.Ok Tryz.prog:=Part.aq tk ao tq (bd b8 al) (fuel:=100000) (d:=60) (by kernel_rfl)
end Go.Proofs.YtkheephfkbpchaaGreatDoor
namespace Go.Proofs.YtkheephfkbpchaaGreatDoor
open Go.RowKit
theorem aco:OC.Ok Tryz.prog:=Part.aq tk ao tq (bd b8 al) (fuel:=100000) (d:=60) (by kernel_rfl)
end Go.Proofs.YtkheephfkbpchaaGreatDoor
namespace Go.Proofs.YtkheephfkbpchaaGreatDoor
open Go.RowKit
theorem acp:OF.Ok Tryz.prog:=Part.aq tk ao tq (bd b8 al) (fuel:=100000) (d:=60) (by kernel_rfl)
end Go.Proofs.YtkheephfkbpchaaGreatDoor
namespace Go.Proofs.YtkheephfkbpchaaGreatDoor
open Go.RowKit
def KK:ae:=(.bx 117 [(p0 2),(sN 29 2 0 2),U])
def KM:ae:=(.bx 64 [(i64 2),(u64 1),(sN 3 1 0 2),(u64 2),(sN 4 1 0 1),(sN 5 1 0 1),(p0 9),(p0 12),bF,U,(i64 0),(u64 0),(u64 0),U,U,U,U,bF,bF,(u64 0),(i64 0),(u64 0),U,U,(i64 2),(u64 1),(i64 0),(u64 0),(i64 2),(u64 1),(sN 25 2 0 1),(sN 26 1 0 1),(sQ 27 1 0 1 1),(sQ 28 1 0 1 1),(u64 0),(u64 0),bF,U,(i64 0),(i64 0),(u64 0),(u64 0),(i64 0),(u64 0),(u64 0),U,(u64 0),U,bF,U,bF,(u64 0),(i64 0),(u64 0),U,U,U,(u64 0),(i64 0),(u64 0),U,U,U,U,(i64 0),(i64 0),(u64 0),(u64 0),(i64 0),(u64 0),(u64 0),U,(u64 0),U,bF,bT,(i64 1),(u64 1)])
def xF:ae:=(.bx 217 [(u64 1),(sN 7 1 0 1),(u64 2),(i64 2),(u64 1),(i64 1),(u64 1),(u64 1),(u64 1),bT,(u64 2),(u64 2)])
def xG:ae:=(.fl 22 1 1 [(sN 8 1 0 9)])
def ud:ae:=(.fl 104 2 2 [(i64 1),(sQ 30 1 0 13 13),(i64 1),(sQ 31 1 0 23 23)])
def KN:ae:=(.bx 117 [(p0 2),(sN 29 2 0 2),(sN 38 13 0 1)])
def KO:ae:=(.bx 64 [(i64 2),(u64 1),(sN 3 1 0 2),(u64 2),(sN 4 1 0 1),(sN 5 1 0 1),(p0 9),(p0 12),bF,U,(i64 0),(u64 0),(u64 0),U,U,U,U,bF,bF,(u64 0),(i64 0),(u64 0),U,U,(i64 2),(u64 1),(i64 1),(u64 0),(i64 2),(u64 1),(sN 32 2 0 1),(sN 33 1 0 1),(sN 34 1 0 1),(sN 35 1 0 1),(u64 0),(u64 1),bT,(sN 36 2 0 1),(i64 0),(i64 0),(u64 0),(u64 0),(i64 0),(u64 0),(u64 0),U,(u64 0),U,bF,U,bF,(u64 0),(i64 0),(u64 0),U,U,U,(u64 0),(i64 0),(u64 0),U,U,U,U,(i64 0),(i64 0),(u64 0),(u64 0),(i64 0),(u64 0),(u64 0),U,(u64 0),U,bF,bT,(i64 1),(u64 1)])
def xH:ae:=(.bx 385 [(i64 2),(u64 1),(sN 8 1 0 2),(i64 1),U,(.mv 9)])
def xI:ae:=(.bx 222 [(i64 2),(u64 1),(.mv 11),(.mv 21)])
def xJ:ae:=(.mf 219 9 [(0,((.i IntKind.i64 (Int.ofNat 1)),(p0 12))),(1,((.i IntKind.i64 (Int.ofNat 3)),(p0 13))),(2,((.i IntKind.i64 (Int.ofNat 4)),(p0 14))),(3,((.i IntKind.i64 (Int.ofNat 5)),(p0 15))),(4,((.i IntKind.i64 (Int.ofNat 6)),(p0 16))),(5,((.i IntKind.i64 (Int.ofNat 7)),(p0 17))),(6,((.i IntKind.i64 (Int.ofNat 8)),(p0 18))),(7,((.i IntKind.i64 (Int.ofNat 9)),(p0 19))),(8,((.i IntKind.i64 (Int.ofNat 10)),(p0 20)))])
def Jh:ae:=(.mf 220 1 [(0,((.i IntKind.i64 (Int.ofNat 1)),(p0 22)))])
def Ji:ae:=(.fl 31 10 1 [(i64 3),(i64 2),(u64 1),(i64 8),(sQ 30 4 0 1 1),U,(i64 0),(u64 0),(u64 0),U])
def Jj:ae:=(.fl 263 3 1 [(i64 1),(u64 1),(sN 32 1 0 7)])
def Jk:ae:=(.fl 127 10 1 [(i64 1),(i64 2),(i64 1),(u64 1),(u64 1),(u64 1),(u64 1),(u64 2),(u64 0),U])
def Jl:ae:=(.fl 241 4 1 [(i64 3),(i64 1),(u64 1),(sN 28 1 0 16)])
def XN:Part:=⟨53,[(p0 1),(.ag [(i64 2),(u64 1),(i64 1),(u64 0),(i64 2),(u64 1),(sN 32 2 0 1),(sN 33 1 0 1),(sN 34 1 0 1),(sN 35 1 0 1),(u64 0),(u64 1),bT,(sN 36 2 0 1),(i64 0),(i64 0),(u64 0),(u64 0),(i64 0),(u64 0),(u64 0),U,(u64 0),U,bF,U,bF,(u64 0),(i64 0),(u64 0),U,U,U,(u64 0),(i64 0),(u64 0),U,U,U,U,(i64 0),(i64 0),(u64 0),(u64 0),(i64 0),(u64 0),(u64 0),U,(u64 0),U,bF]),(.ag [U,(sN 37 13 0 1)])],[gW,KK,KM,k0,a9,bI,xF,xG,cr,fj,k0,aX,jY,jZ,cC,k5,k5,k5,k5,k5,k5,k5,k5,j1,bu,af,ay,aK,ay,ud,jm,jS,af,ay,aK,ay,af,lR],(.tu []),[gW,KN,KO,k0,a9,bI,xF,xG,cr,fj,k0,aX,jY,jZ,cC,k5,k5,k5,k5,k5,k5,k5,k5,j1,bu,af,ay,aK,ay,ud,jm,jS,af,ay,aK,ay,af,lR,lR]⟩
theorem xK:XN.Ok Tryz.prog:=Part.aq tk ao tq (bd b8 al) (fuel:=100000) (d:=60) (by kernel_rfl)
def XO:Part:=⟨53,[(p0 1),(.ag [(i64 2),(u64 1),(i64 1),(u64 0),(i64 2),(u64 1),(sN 32 2 0 1),(sN 33 1 0 1),(sN 34 1 0 1),(sN 35 1 0 1),(u64 0),(u64 1),bT,(sN 36 2 0 1),(i64 0),(i64 0),(u64 0),(u64 0),(i64 0),(u64 0),(u64 0),U,(u64 0),U,bF,U,bF,(u64 0),(i64 0),(u64 0),U,U,U,(u64 0),(i64 0),(u64 0),U,U,U,U,(i64 0),(i64 0),(u64 0),(u64 0),(i64 0),(u64 0),(u64 0),U,(u64 0),U,bF]),(.ag [U,(sN 37 13 0 1)])],[gW,KK,KM,k0,a9,bI,xF,xG,cr,fj,k0,aX,jY,jZ,cC,k5,k5,k5,k5,k5,k5,k5,k5,j1,bu,af,ay,aK,ay,ud,jm,jS,af,ay,aK,ay,af,lR],(.tu []),[gW,KN,KO,k0,a9,bI,xF,xG,cr,fj,k0,aX,jY,jZ,cC,k5,k5,k5,k5,k5,k5,k5,k5,j1,bu,af,ay,aK,ay,ud,jm,jS,af,ay,aK,ay,af,lR,lR]⟩
theorem Cs:XO.Ok Tryz.prog:=Part.aq tk ao tq (bd (aU.cons xK b8) al) (fuel:=100000) (d:=60) (by kernel_rfl)
def XP:Part:=⟨47,[(p0 1),(.ag [(sN 29 10 0 1),(sN 31 3 0 1),U])],[gW,(.bx 117 [(p0 2),(sN 27 2 0 1),U]),(.bx 64 [(i64 2),(u64 1),(sN 3 1 0 2),(u64 2),(sN 4 1 0 1),(sN 5 1 0 1),(p0 7),(p0 10),bF,U,(i64 0),(u64 0),(u64 0),U,U,U,U,bF,bF,(u64 0),(i64 0),(u64 0),U,U,(i64 2),(u64 1),(i64 0),(u64 0),(i64 2),(u64 1),(sN 23 2 0 1),(sN 24 1 0 1),(sQ 25 1 0 1 1),(sQ 26 1 0 1 1),(u64 0),(u64 0),bF,U,(i64 0),(i64 0),(u64 0),(u64 0),(i64 0),(u64 0),(u64 0),U,(u64 0),U,bF,U,bF,(u64 0),(i64 0),(u64 0),U,U,U,(u64 0),(i64 0),(u64 0),U,U,U,U,(i64 0),(i64 0),(u64 0),(u64 0),(i64 0),(u64 0),(u64 0),U,(u64 0),U,bF,bT,(i64 0),(u64 0)]),k0,a9,bI,zU,xH,k0,aX,xI,xJ,cC,k5,k5,k5,k5,k5,k5,k5,k5,Jh,bu,af,ay,aK,ay,(.fl 104 2 1 [(i64 1),(sQ 28 1 0 13 13)]),jm,Ji,iq,Jj,aW],(.tu []),[gW,(.bx 117 [(p0 2),(sN 33 2 0 2),(sN 35 13 0 1)]),(.bx 64 [(i64 2),(u64 1),(sN 3 1 0 2),(u64 2),(sN 4 1 0 1),(sN 5 1 0 1),(p0 7),(p0 10),bF,U,(i64 0),(u64 0),(u64 0),U,U,U,U,bF,bF,(u64 0),(i64 0),(u64 0),U,U,(i64 2),(u64 1),(i64 1),(u64 0),(i64 2),(u64 1),(sN 36 2 0 1),(sN 37 1 0 1),(sN 38 1 0 1),(sN 39 1 0 1),(u64 0),(u64 1),bT,(sN 40 2 0 1),(i64 0),(i64 0),(u64 0),(u64 0),(i64 0),(u64 0),(u64 0),U,(u64 0),U,bF,U,bF,(u64 0),(i64 0),(u64 0),U,U,U,(u64 0),(i64 0),(u64 0),U,U,U,U,(i64 0),(i64 0),(u64 0),(u64 0),(i64 0),(u64 0),(u64 0),U,(u64 0),U,bF,bT,(i64 1),(u64 1)]),k0,a9,bI,(.bx 217 [(u64 1),(sN 41 1 0 1),(u64 2),(i64 2),(u64 1),(i64 1),(u64 1),(u64 1),(u64 1),bT,(u64 2),(u64 2)]),xH,k0,aX,xI,xJ,cC,k5,k5,k5,k5,k5,k5,k5,k5,Jh,bu,af,ay,aK,ay,.dead,jm,Ji,iq,Jj,aW,(.fl 104 2 2 [(i64 1),(sQ 28 1 0 13 13),(i64 1),(sQ 34 1 0 23 23)]),jS,lR,af,ay,aK,ay,af,(.fl 22 1 1 [(sN 42 1 0 9)]),cr]⟩
theorem KP:XP.Ok Tryz.prog:=Part.aq tk ao tq (bd (aU.cons Cs (aU.cons xK b8)) al) (fuel:=100000) (d:=60) (by kernel_rfl)
def XQ:Part:=⟨44,[(p0 1),(i64 1),(.ag [(sN 26 10 0 1),(sN 27 4 0 1)])],[gW,(.bx 117 [(p0 2),U,U]),(.bx 64 [(i64 2),(u64 1),(sN 3 1 0 2),(u64 2),(sN 4 1 0 1),(sN 5 1 0 1),(p0 7),(p0 10),bF,U,(i64 0),(u64 0),(u64 0),U,U,U,U,bF,bF,(u64 0),(i64 0),(u64 0),U,U,(i64 2),(u64 1),(i64 0),(u64 0),(i64 2),(u64 1),(sN 22 2 0 1),(sN 23 1 0 1),(sQ 24 1 0 1 1),(sQ 25 1 0 1 1),(u64 0),(u64 0),bF,U,(i64 0),(i64 0),(u64 0),(u64 0),(i64 0),(u64 0),(u64 0),U,(u64 0),U,bF,U,bF,(u64 0),(i64 0),(u64 0),U,U,U,(u64 0),(i64 0),(u64 0),U,U,U,U,(i64 0),(i64 0),(u64 0),(u64 0),(i64 0),(u64 0),(u64 0),U,(u64 0),U,bF,bT,(i64 0),(u64 0)]),k0,a9,bI,zU,xH,k0,aX,xI,xJ,cC,k5,k5,k5,k5,k5,k5,k5,k5,k6,af,ay,aK,ay,Jk,Jl,c9],(.tu []),[gW,(.bx 117 [(p0 2),(sN 29 2 0 2),(sN 32 13 0 1)]),(.bx 64 [(i64 2),(u64 1),(sN 3 1 0 2),(u64 2),(sN 4 1 0 1),(sN 5 1 0 1),(p0 7),(p0 10),bF,U,(i64 0),(u64 0),(u64 0),U,U,U,U,bF,bF,(u64 0),(i64 0),(u64 0),U,U,(i64 2),(u64 1),(i64 1),(u64 0),(i64 2),(u64 1),(sN 33 2 0 1),(sN 34 1 0 1),(sN 35 1 0 1),(sN 36 1 0 1),(u64 0),(u64 1),bT,(sN 37 2 0 1),(i64 0),(i64 0),(u64 0),(u64 0),(i64 0),(u64 0),(u64 0),U,(u64 0),U,bF,U,bF,(u64 0),(i64 0),(u64 0),U,U,U,(u64 0),(i64 0),(u64 0),U,U,U,U,(i64 0),(i64 0),(u64 0),(u64 0),(i64 0),(u64 0),(u64 0),U,(u64 0),U,bF,bT,(i64 1),(u64 1)]),k0,a9,bI,(.bx 217 [(u64 1),(sN 38 1 0 1),(u64 2),(i64 2),(u64 1),(i64 1),(u64 1),(u64 1),(u64 1),bT,(u64 2),(u64 2)]),xH,k0,aX,xI,xJ,cC,k5,k5,k5,k5,k5,k5,k5,k5,(.mf 220 1 [(0,((.i IntKind.i64 (Int.ofNat 1)),(p0 40)))]),af,ay,aK,ay,Jk,Jl,c9,ud,jm,jS,lR,af,ay,aK,ay,af,(.fl 22 1 1 [(sN 39 1 0 9)]),cr,bu]⟩
theorem XR:XQ.Ok Tryz.prog:=Part.aq tk ao tq (bd (aU.cons KP (aU.cons Cs (aU.cons xK b8))) al) (fuel:=100000) (d:=60) (by kernel_rfl)
theorem acq:Mq.Ok Tryz.prog:=Part.aq tk ao tq (bd (aU.cons XR (aU.cons KP (aU.cons Cs (aU.cons xK b8)))) al) (fuel:=100000) (d:=60) (by kernel_rfl)
end Go.Proofs.YtkheephfkbpchaaGreatDoor
namespace Go.Proofs.YtkheephfkbpchaaGreatDoor
open Go.RowKit
def xL:ae:=(.bx 117 [(p0 2),(sN 31 2 0 2),U])
def KQ:ae:=(.bx 64 [(i64 2),(u64 1),(sN 3 1 0 2),(u64 2),(sN 4 1 0 1),(sN 5 1 0 1),(p0 10),(p0 13),bF,U,(i64 0),(u64 0),(u64 0),U,U,U,U,bF,bF,(u64 0),(i64 0),(u64 0),U,U,(i64 2),(u64 1),(i64 1),(u64 0),(i64 2),(u64 1),(sN 26 2 0 1),(sN 27 1 0 1),(sN 28 1 0 1),(sN 29 1 0 1),(u64 0),(u64 1),bT,(sN 30 2 0 1),(i64 0),(i64 0),(u64 0),(u64 0),(i64 0),(u64 0),(u64 0),U,(u64 0),U,bF,U,bF,(u64 0),(i64 0),(u64 0),U,U,U,(u64 0),(i64 0),(u64 0),U,U,U,U,(i64 0),(i64 0),(u64 0),(u64 0),(i64 0),(u64 0),(u64 0),U,(u64 0),U,bF,bT,(i64 1),(u64 1)])
def xM:ae:=(.bx 217 [(u64 1),(sN 7 1 0 2),(u64 3),(i64 2),(u64 1),(i64 1),(u64 1),(u64 1),(u64 1),bT,(u64 2),(u64 2)])
def xN:ae:=(.fl 22 1 2 [(sN 8 1 0 9),(sN 9 1 0 9)])
def xO:ae:=(.bx 222 [(i64 2),(u64 1),(.mv 14),(.mv 24)])
def xP:ae:=(.mf 219 9 [(0,((.i IntKind.i64 (Int.ofNat 1)),(p0 15))),(1,((.i IntKind.i64 (Int.ofNat 3)),(p0 16))),(2,((.i IntKind.i64 (Int.ofNat 4)),(p0 17))),(3,((.i IntKind.i64 (Int.ofNat 5)),(p0 18))),(4,((.i IntKind.i64 (Int.ofNat 6)),(p0 19))),(5,((.i IntKind.i64 (Int.ofNat 7)),(p0 20))),(6,((.i IntKind.i64 (Int.ofNat 8)),(p0 21))),(7,((.i IntKind.i64 (Int.ofNat 9)),(p0 22))),(8,((.i IntKind.i64 (Int.ofNat 10)),(p0 23)))])
def xQ:ae:=(.fl 104 2 2 [(i64 1),(sQ 32 1 0 13 13),(i64 1),(sQ 33 1 0 23 23)])
def KR:ae:=(.bx 64 [(i64 2),(u64 1),(sN 3 1 0 2),(u64 2),(sN 4 1 0 1),(sN 5 1 0 1),(p0 10),(p0 13),bF,U,(i64 0),(u64 0),(u64 0),U,U,U,U,bF,bF,(u64 0),(i64 0),(u64 0),U,U,(i64 2),(u64 1),(i64 1),(u64 0),(i64 2),(u64 1),(sN 34 2 0 1),(sN 35 1 0 1),(sN 36 1 0 1),(sN 37 1 0 1),(u64 0),(u64 1),bT,(sN 38 2 0 1),(i64 0),(i64 0),(u64 0),(u64 0),(i64 0),(u64 0),(u64 0),U,(u64 0),U,bF,U,bT,(u64 2),(i64 1),(u64 1),(sN 39 2 0 1),(sN 40 1 0 1),U,(u64 0),(i64 0),(u64 0),U,U,U,U,(i64 0),(i64 0),(u64 0),(u64 0),(i64 0),(u64 0),(u64 0),U,(u64 0),U,bF,bT,(i64 1),(u64 1)])
def KS:ae:=(.bx 64 [(i64 2),(u64 1),(sN 3 1 0 2),(u64 2),(sN 4 1 0 1),(sN 5 1 0 1),(p0 9),(p0 12),bF,U,(i64 0),(u64 0),(u64 0),U,U,U,U,bF,bF,(u64 0),(i64 0),(u64 0),U,U,(i64 2),(u64 1),(i64 1),(u64 0),(i64 2),(u64 1),(sN 25 2 0 1),(sN 26 1 0 1),(sN 27 1 0 1),(sN 28 1 0 1),(u64 0),(u64 1),bT,(sN 29 2 0 1),(i64 0),(i64 0),(u64 0),(u64 0),(i64 0),(u64 0),(u64 0),U,(u64 0),U,bF,U,bF,(u64 0),(i64 0),(u64 0),U,U,U,(u64 0),(i64 0),(u64 0),U,U,U,U,(i64 0),(i64 0),(u64 0),(u64 0),(i64 0),(u64 0),(u64 0),U,(u64 0),U,bF,bT,(i64 1),(u64 1)])
def KT:ae:=(.bx 217 [(u64 1),(sN 7 1 0 1),(u64 3),(i64 2),(u64 1),(i64 1),(u64 1),(u64 1),(u64 1),bT,(u64 2),(u64 2)])
def w9:ae:=(.fl 22 1 1 [(sN 8 1 0 9)])
def Jm:ae:=(.fl 31 10 1 [(i64 3),(i64 2),(u64 1),(i64 8),(sQ 33 4 0 1 1),U,(i64 0),(u64 0),(u64 0),U])
def Jn:ae:=(.fl 263 3 1 [(i64 1),(u64 1),(sN 35 1 0 8)])
def Jo:ae:=(.fl 241 4 1 [(i64 3),(i64 1),(u64 1),(sN 32 1 0 17)])
def XS:Part:=⟨53,[(p0 1),(.ag [(i64 2),(u64 1),(i64 1),(u64 0),(i64 2),(u64 1),(sN 34 2 0 1),(sN 35 1 0 1),(sN 36 1 0 1),(sN 37 1 0 1),(u64 0),(u64 1),bT,(sN 38 2 0 1),(i64 0),(i64 0),(u64 0),(u64 0),(i64 0),(u64 0),(u64 0),U,(u64 0),U,bF,U,bT,(u64 2),(i64 1),(u64 1),(sN 39 2 0 1),(sN 40 1 0 1),U,(u64 0),(i64 0),(u64 0),U,U,U,U,(i64 0),(i64 0),(u64 0),(u64 0),(i64 0),(u64 0),(u64 0),U,(u64 0),U,bF]),(.ag [U,U])],[gW,xL,KQ,k0,a9,bI,xM,xN,cr,dK,ka,k0,aX,xO,xP,cC,k5,k5,k5,k5,k5,k5,k5,k5,oC,bH,af,ay,aK,ay,af,xQ,gF,jU,af,ay,aK,ay,af,af,az],(.tu []),[gW,xL,KR,k0,a9,bI,xM,xN,cr,dK,ka,k0,aX,xO,xP,cC,k5,k5,k5,k5,k5,k5,k5,k5,oC,bH,af,ay,aK,ay,af,xQ,gF,jU,af,ay,aK,ay,af,af,az]⟩
theorem xR:XS.Ok Tryz.prog:=Part.aq tk ao tq (bd b8 al) (fuel:=100000) (d:=60) (by kernel_rfl)
def XT:Part:=⟨53,[(p0 1),(.ag [(i64 2),(u64 1),(i64 1),(u64 0),(i64 2),(u64 1),(sN 34 2 0 1),(sN 35 1 0 1),(sN 36 1 0 1),(sN 37 1 0 1),(u64 0),(u64 1),bT,(sN 38 2 0 1),(i64 0),(i64 0),(u64 0),(u64 0),(i64 0),(u64 0),(u64 0),U,(u64 0),U,bF,U,bT,(u64 2),(i64 1),(u64 1),(sN 39 2 0 1),(sN 40 1 0 1),U,(u64 0),(i64 0),(u64 0),U,U,U,U,(i64 0),(i64 0),(u64 0),(u64 0),(i64 0),(u64 0),(u64 0),U,(u64 0),U,bF]),(.ag [U,U])],[gW,xL,KQ,k0,a9,bI,xM,xN,cr,dK,ka,k0,aX,xO,xP,cC,k5,k5,k5,k5,k5,k5,k5,k5,oC,bH,af,ay,aK,ay,af,xQ,gF,jU,af,ay,aK,ay,af,af,az],(.tu []),[gW,xL,KR,k0,a9,bI,xM,xN,cr,dK,ka,k0,aX,xO,xP,cC,k5,k5,k5,k5,k5,k5,k5,k5,oC,bH,af,ay,aK,ay,af,xQ,gF,jU,af,ay,aK,ay,af,af,az]⟩
theorem Ct:XT.Ok Tryz.prog:=Part.aq tk ao tq (bd (aU.cons xR b8) al) (fuel:=100000) (d:=60) (by kernel_rfl)
def XU:Part:=⟨47,[(p0 1),(.ag [(sN 32 10 0 1),(sN 34 3 0 1),U])],[gW,(.bx 117 [(p0 2),(sN 30 2 0 1),U]),KS,k0,a9,bI,KT,w9,cr,fj,k0,aX,jY,jZ,cC,k5,k5,k5,k5,k5,k5,k5,k5,j1,bH,af,ay,aK,ay,af,(.fl 104 2 1 [(i64 1),(sQ 31 1 0 13 13)]),gF,Jm,ir,Jn,aT],(.tu []),[gW,(.bx 117 [(p0 2),(sN 36 2 0 2),U]),(.bx 64 [(i64 2),(u64 1),(sN 3 1 0 2),(u64 2),(sN 4 1 0 1),(sN 5 1 0 1),(p0 9),(p0 12),bF,U,(i64 0),(u64 0),(u64 0),U,U,U,U,bF,bF,(u64 0),(i64 0),(u64 0),U,U,(i64 2),(u64 1),(i64 1),(u64 0),(i64 2),(u64 1),(sN 38 2 0 1),(sN 39 1 0 1),(sN 40 1 0 1),(sN 41 1 0 1),(u64 0),(u64 1),bT,(sN 42 2 0 1),(i64 0),(i64 0),(u64 0),(u64 0),(i64 0),(u64 0),(u64 0),U,(u64 0),U,bF,U,bT,(u64 2),(i64 1),(u64 1),(sN 43 2 0 1),(sN 44 1 0 1),U,(u64 0),(i64 0),(u64 0),U,U,U,U,(i64 0),(i64 0),(u64 0),(u64 0),(i64 0),(u64 0),(u64 0),U,(u64 0),U,bF,bT,(i64 1),(u64 1)]),k0,a9,bI,(.bx 217 [(u64 1),(sN 45 1 0 2),(u64 3),(i64 2),(u64 1),(i64 1),(u64 1),(u64 1),(u64 1),bT,(u64 2),(u64 2)]),w9,cr,fj,k0,aX,jY,jZ,cC,k5,k5,k5,k5,k5,k5,k5,k5,j1,bH,af,ay,aK,ay,af,.dead,gF,Jm,ir,Jn,aT,(.fl 104 2 2 [(i64 1),(sQ 31 1 0 13 13),(i64 1),(sQ 37 1 0 23 23)]),jU,af,ay,aK,ay,af,af,az,(.fl 22 1 2 [(sN 46 1 0 9),(sN 47 1 0 9)]),cr,dK]⟩
theorem KU:XU.Ok Tryz.prog:=Part.aq tk ao tq (bd (aU.cons Ct (aU.cons xR b8)) al) (fuel:=100000) (d:=60) (by kernel_rfl)
def XV:Part:=⟨44,[(p0 1),(i64 1),(.ag [(sN 30 10 0 1),(sN 31 4 0 1)])],[gW,(.bx 117 [(p0 2),U,U]),KS,k0,a9,bI,KT,w9,cr,fj,k0,aX,jY,jZ,cC,k5,k5,k5,k5,k5,k5,k5,k5,j1,bu,af,ay,aK,ay,af,zX,Jo,cz],(.tu []),[gW,(.bx 117 [(p0 2),(sN 33 2 0 2),U]),(.bx 64 [(i64 2),(u64 1),(sN 3 1 0 2),(u64 2),(sN 4 1 0 1),(sN 5 1 0 1),(p0 9),(p0 12),bF,U,(i64 0),(u64 0),(u64 0),U,U,U,U,bF,bF,(u64 0),(i64 0),(u64 0),U,U,(i64 2),(u64 1),(i64 1),(u64 0),(i64 2),(u64 1),(sN 36 2 0 1),(sN 37 1 0 1),(sN 38 1 0 1),(sN 39 1 0 1),(u64 0),(u64 1),bT,(sN 40 2 0 1),(i64 0),(i64 0),(u64 0),(u64 0),(i64 0),(u64 0),(u64 0),U,(u64 0),U,bF,U,bT,(u64 2),(i64 1),(u64 1),(sN 41 2 0 1),(sN 42 1 0 1),U,(u64 0),(i64 0),(u64 0),U,U,U,U,(i64 0),(i64 0),(u64 0),(u64 0),(i64 0),(u64 0),(u64 0),U,(u64 0),U,bF,bT,(i64 1),(u64 1)]),k0,a9,bI,(.bx 217 [(u64 1),(sN 43 1 0 2),(u64 3),(i64 2),(u64 1),(i64 1),(u64 1),(u64 1),(u64 1),bT,(u64 2),(u64 2)]),w9,cr,fj,k0,aX,jY,jZ,cC,k5,k5,k5,k5,k5,k5,k5,k5,j1,bH,af,ay,aK,ay,af,zX,Jo,cz,(.fl 104 2 2 [(i64 1),(sQ 34 1 0 13 13),(i64 1),(sQ 35 1 0 23 23)]),gF,jU,af,ay,aK,ay,af,af,az,(.fl 22 1 2 [(sN 44 1 0 9),(sN 45 1 0 9)]),cr,dK]⟩
theorem XW:XV.Ok Tryz.prog:=Part.aq tk ao tq (bd (aU.cons KU (aU.cons Ct (aU.cons xR b8))) al) (fuel:=100000) (d:=60) (by kernel_rfl)
theorem acr:MH.Ok Tryz.prog:=Part.aq tk ao tq (bd (aU.cons XW (aU.cons KU (aU.cons Ct (aU.cons xR b8)))) al) (fuel:=100000) (d:=60) (by kernel_rfl)
end Go.Proofs.YtkheephfkbpchaaGreatDoor
namespace Go.Proofs.YtkheephfkbpchaaGreatDoor
open Go.RowKit
def xS:ae:=(.bx 117 [(p0 2),(sN 34 2 0 1),U])
def KV:ae:=(.bx 64 [(i64 1),(u64 1),(sN 3 1 0 2),(u64 3),(sN 4 1 0 1),(sN 5 1 0 1),(p0 7),(p0 11),bT,(sN 24 1 0 1),(i64 1),(u64 1),(u64 2),(sN 25 2 0 1),(sN 26 6 0 1),(sN 27 2 0 1),(sN 28 6 0 1),bT,bF,(u64 2),(i64 1),(u64 1),(sN 32 2 0 1),(sN 33 1 0 1),(i64 0),(u64 0),(i64 0),(u64 0),(i64 0),(u64 0),U,U,U,U,(u64 0),(u64 0),bF,U,(i64 0),(i64 0),(u64 0),(u64 0),(i64 0),(u64 0),(u64 0),U,(u64 0),U,bF,U,bF,(u64 0),(i64 0),(u64 0),U,U,U,(u64 0),(i64 0),(u64 0),U,U,U,U,(i64 0),(i64 0),(u64 0),(u64 0),(i64 0),(u64 0),(u64 0),U,(u64 0),U,bF,bF,(i64 0),(u64 0)])
def nu:ae:=(.bx 385 [(i64 1),(u64 1),(sN 8 1 0 2),(i64 1),(sQ 9 4 0 1 1),(.mv 10)])
def nv:ae:=(.bx 222 [(i64 1),(u64 1),(.mv 12),(.mv 22)])
def nw:ae:=(.mf 219 9 [(0,((.i IntKind.i64 (Int.ofNat 2)),(p0 13))),(1,((.i IntKind.i64 (Int.ofNat 3)),(p0 14))),(2,((.i IntKind.i64 (Int.ofNat 4)),(p0 15))),(3,((.i IntKind.i64 (Int.ofNat 5)),(p0 16))),(4,((.i IntKind.i64 (Int.ofNat 6)),(p0 17))),(5,((.i IntKind.i64 (Int.ofNat 7)),(p0 18))),(6,((.i IntKind.i64 (Int.ofNat 8)),(p0 19))),(7,((.i IntKind.i64 (Int.ofNat 9)),(p0 20))),(8,((.i IntKind.i64 (Int.ofNat 10)),(p0 21)))])
def nx:ae:=(.mf 220 1 [(0,((.i IntKind.i64 (Int.ofNat 2)),(p0 23)))])
def ny:ae:=(.fl 288 6 1 [(i64 1),(u64 1),(u64 2),(sN 29 2 0 1),(sN 30 2 0 1),(sN 31 1 0 1)])
def xT:ae:=(.fl 104 2 1 [(i64 2),(sQ 35 1 0 13 13)])
def KW:ae:=(.bx 117 [(p0 2),(sN 38 2 0 2),U])
def KX:ae:=(.bx 64 [(i64 1),(u64 1),(sN 3 1 0 2),(u64 3),(sN 4 1 0 1),(sN 5 1 0 1),(p0 9),(p0 13),bT,(sN 28 1 0 1),(i64 1),(u64 1),(u64 2),(sN 29 2 0 1),(sN 30 6 0 1),(sN 31 2 0 1),(sN 32 6 0 1),bT,bF,(u64 2),(i64 1),(u64 1),(sN 36 2 0 1),(sN 37 1 0 1),(i64 0),(u64 0),(i64 0),(u64 0),(i64 0),(u64 0),U,U,U,U,(u64 0),(u64 0),bF,U,(i64 0),(i64 0),(u64 0),(u64 0),(i64 0),(u64 0),(u64 0),U,(u64 0),U,bF,U,bF,(u64 0),(i64 0),(u64 0),U,U,U,(u64 0),(i64 0),(u64 0),U,U,U,U,(i64 0),(i64 0),(u64 0),(u64 0),(i64 0),(u64 0),(u64 0),U,(u64 0),U,bF,bF,(i64 0),(u64 0)])
def Jp:ae:=(.fl 22 1 1 [(sN 8 1 0 16)])
def Jq:ae:=(.bx 222 [(i64 1),(u64 1),(.mv 14),(.mv 26)])
def Jr:ae:=(.mf 219 9 [(0,((.i IntKind.i64 (Int.ofNat 2)),(p0 15))),(1,((.i IntKind.i64 (Int.ofNat 3)),(p0 18))),(2,((.i IntKind.i64 (Int.ofNat 4)),(p0 19))),(3,((.i IntKind.i64 (Int.ofNat 5)),(p0 20))),(4,((.i IntKind.i64 (Int.ofNat 6)),(p0 21))),(5,((.i IntKind.i64 (Int.ofNat 7)),(p0 22))),(6,((.i IntKind.i64 (Int.ofNat 8)),(p0 23))),(7,((.i IntKind.i64 (Int.ofNat 9)),(p0 24))),(8,((.i IntKind.i64 (Int.ofNat 10)),(p0 25)))])
def Js:ae:=(.fl 22 1 1 [(sN 17 1 0 7)])
def tW:ae:=(.bx 64 [(i64 1),(u64 1),(sN 3 1 0 2),(u64 3),(sN 4 1 0 1),(sN 5 1 0 1),(p0 7),(p0 11),bT,(sN 24 1 0 1),(i64 1),(u64 1),(u64 2),(sN 25 2 0 1),(sN 26 6 0 1),(sN 27 2 0 1),(sN 28 6 0 1),bT,bF,(u64 2),(i64 1),(u64 1),(sQ 32 2 0 1 1),(sN 33 1 0 1),(i64 0),(u64 0),(i64 0),(u64 0),(i64 0),(u64 0),U,U,U,U,(u64 0),(u64 0),bF,U,(i64 0),(i64 0),(u64 0),(u64 0),(i64 0),(u64 0),(u64 0),U,(u64 0),U,bF,U,bF,(u64 0),(i64 0),(u64 0),U,U,U,(u64 0),(i64 0),(u64 0),U,U,U,U,(i64 0),(i64 0),(u64 0),(u64 0),(i64 0),(u64 0),(u64 0),U,(u64 0),U,bF,bF,(i64 0),(u64 0)])
def Jt:ae:=(.fl 288 6 1 [(i64 1),(u64 1),(u64 2),(sN 41 2 0 1),(sN 42 2 0 1),(sN 43 1 0 1)])
def Ju:ae:=(.fl 279 2 2 [(i64 2),(sN 47 1 0 7),(i64 2),(sN 48 1 0 8)])
def XX:Part:=⟨95,[(p0 1),(sN 36 1 0 7),(sQ 37 1 0 1 1)],[gW,xS,KV,k0,k7,bI,jX,nu,k0,k1,aY,nv,nw,iu,k5,k5,k5,k5,k5,k5,k5,k5,nx,bu,k7,k8,bX,af,ny,k8,af,az,af,az,xT,fP,aW,k7],(.tu []),[gW,KW,KV,k0,k7,bI,(.bx 217 [(u64 3),(sN 40 1 0 1),(u64 3),(i64 1),(u64 1),(i64 2),(u64 1),(u64 1),(u64 1),bT,(u64 2),(u64 3)]),nu,k0,k1,aY,nv,nw,(.bx 224 [(u64 1),bT,(u64 2),(sN 42 1 0 1),(u64 1),(u64 3)]),k5,k5,k5,k5,k5,k5,k5,k5,nx,bu,k7,k8,bX,af,ny,k8,af,az,af,az,.dead,fP,aW,k7,(.fl 104 2 2 [(i64 2),(sQ 35 1 0 13 13),(i64 2),(sQ 39 1 0 30 30)]),lV,(.fl 22 1 1 [(sN 41 1 0 16)]),bY,(.fl 22 1 1 [(sN 43 1 0 7)]),aW]⟩
theorem uf:XX.Ok Tryz.prog:=Part.aq tk ao tq (bd b8 al) (fuel:=100000) (d:=60) (by kernel_rfl)
def XY:Part:=⟨95,[(p0 1),(sN 41 1 0 8),(sQ 42 1 0 1 1)],[gW,KW,KX,k0,k7,bI,(.bx 217 [(u64 3),(sN 7 1 0 1),(u64 3),(i64 1),(u64 1),(i64 2),(u64 1),(u64 1),(u64 1),bT,(u64 2),(u64 3)]),Jp,bY,jV,k0,k1,aY,Jq,Jr,(.bx 224 [(u64 1),bT,(u64 2),(sN 16 1 0 1),(u64 1),(u64 3)]),Js,aW,k5,k5,k5,k5,k5,k5,k5,k5,sJ,bu,k7,k8,bX,af,sK,k8,af,az,af,az,(.fl 104 2 2 [(i64 2),(sQ 39 1 0 13 13),(i64 2),(sQ 40 1 0 30 30)]),fP,lV,aT,k7],(.tu []),[gW,(.bx 117 [(p0 2),(sN 43 2 0 3),U]),KX,k0,k7,bI,(.bx 217 [(u64 3),(sN 45 1 0 2),(u64 3),(i64 1),(u64 1),(i64 2),(u64 1),(u64 1),(u64 1),bT,(u64 2),(u64 3)]),Jp,bY,jV,k0,k1,aY,Jq,Jr,(.bx 224 [(u64 1),bT,(u64 2),(sN 48 1 0 2),(u64 1),(u64 3)]),Js,aW,k5,k5,k5,k5,k5,k5,k5,k5,sJ,bu,k7,k8,bX,af,sK,k8,af,az,af,az,.dead,fP,lV,aT,k7,(.fl 104 2 3 [(i64 2),(sQ 39 1 0 13 13),(i64 2),(sQ 40 1 0 30 30),(i64 2),(sQ 44 1 0 31 31)]),oB,(.fl 22 1 2 [(sN 46 1 0 16),(sN 47 1 0 17)]),bY,bO,(.fl 22 1 2 [(sN 49 1 0 7),(sN 50 1 0 8)]),aW,aT]⟩
theorem xU:XY.Ok Tryz.prog:=Part.aq tk ao tq (bd (aU.cons uf b8) al) (fuel:=100000) (d:=60) (by kernel_rfl)
def XZ:Part:=⟨51,[(p0 1),(.ag [(sN 36 1 0 1),(i64 1),(u64 1),(u64 2),(sN 37 2 0 1),(sN 38 6 0 1),(sN 39 2 0 1),(sN 40 6 0 1),bT,bF,(u64 2),(i64 1),(u64 1),(sN 44 2 0 1),(sN 45 1 0 1)]),(sN 46 2 0 2)],[gW,xS,tW,k0,k7,bI,jX,nu,k0,k1,aY,nv,nw,iu,k5,k5,k5,k5,k5,k5,k5,k5,nx,bu,k7,k8,bX,af,ny,k8,af,az,af,az,xT,fP,k7,k8,bX,af,Jt,k8,af,az,af,az,Ju,aW,aT],(.tu []),[gW,(.bx 117 [(p0 2),(sN 49 2 0 3),U]),(.bx 64 [(i64 1),(u64 1),(sN 3 1 0 2),(u64 3),(sN 4 1 0 1),(sN 5 1 0 1),(p0 7),(p0 11),bT,(sN 36 1 0 1),(i64 1),(u64 1),(u64 2),(sN 37 2 0 1),(sN 38 6 0 1),(sN 39 2 0 1),(sN 40 6 0 1),bT,bF,(u64 2),(i64 1),(u64 1),(sN 44 2 0 1),(sN 45 1 0 1),(i64 0),(u64 0),(i64 0),(u64 0),(i64 0),(u64 0),U,U,U,U,(u64 0),(u64 0),bF,U,(i64 0),(i64 0),(u64 0),(u64 0),(i64 0),(u64 0),(u64 0),U,(u64 0),U,bF,U,bF,(u64 0),(i64 0),(u64 0),U,U,U,(u64 0),(i64 0),(u64 0),U,U,U,U,(i64 0),(i64 0),(u64 0),(u64 0),(i64 0),(u64 0),(u64 0),U,(u64 0),U,bF,bF,(i64 0),(u64 0)]),k0,k7,bI,(.bx 217 [(u64 3),(sN 52 1 0 2),(u64 3),(i64 1),(u64 1),(i64 2),(u64 1),(u64 1),(u64 1),bT,(u64 2),(u64 3)]),nu,k0,k1,aY,nv,nw,(.bx 224 [(u64 1),bT,(u64 2),(sN 55 1 0 2),(u64 1),(u64 3)]),k5,k5,k5,k5,k5,k5,k5,k5,nx,bu,k7,k8,bX,af,ny,k8,af,az,af,az,.dead,fP,k7,k8,bX,af,Jt,k8,af,az,af,az,Ju,aW,aT,(.fl 104 2 3 [(i64 2),(sQ 35 1 0 13 13),(i64 2),(sQ 50 1 0 30 30),(i64 2),(sQ 51 1 0 31 31)]),lV,oB,(.fl 22 1 2 [(sN 53 1 0 16),(sN 54 1 0 17)]),bY,bO,(.fl 22 1 2 [(sN 56 1 0 7),(sN 57 1 0 8)]),aW,aT]⟩
theorem Cu:XZ.Ok Tryz.prog:=Part.aq tk ao tq (bd (aU.cons xU (aU.cons uf b8)) al) (fuel:=100000) (d:=60) (by kernel_rfl)
def X3:Part:=⟨47,[(p0 1),(.ag [U,U,U])],[gW,xS,tW,k0,k7,bI,jX,nu,k0,k1,aY,nv,nw,iu,k5,k5,k5,k5,k5,k5,k5,k5,nx,bu,k7,k8,bX,af,ny,k8,af,az,af,az,xT,fP],(.tu []),[gW,xS,tW,k0,k7,bI,jX,nu,k0,k1,aY,nv,nw,iu,k5,k5,k5,k5,k5,k5,k5,k5,nx,bu,k7,k8,bX,af,ny,k8,af,az,af,az,xT,fP]⟩
theorem KY:X3.Ok Tryz.prog:=Part.aq tk ao tq (bd (aU.cons Cu (aU.cons xU (aU.cons uf b8))) al) (fuel:=100000) (d:=60) (by kernel_rfl)
def X4:Part:=⟨44,[(p0 1),(i64 2),(.ag [(sN 34 10 0 1),U])],[gW,(.bx 117 [(p0 2),U,U]),tW,k0,k7,bI,jX,nu,k0,k1,aY,nv,nw,iu,k5,k5,k5,k5,k5,k5,k5,k5,nx,bu,k7,k8,bX,af,ny,k8,af,az,af,az,Aa],(.tu []),[gW,(.bx 117 [(p0 2),(sN 35 2 0 1),U]),tW,k0,k7,bI,jX,nu,k0,k1,aY,nv,nw,iu,k5,k5,k5,k5,k5,k5,k5,k5,nx,bu,k7,k8,bX,af,ny,k8,af,az,af,az,Aa,(.fl 104 2 1 [(i64 2),(sQ 36 1 0 13 13)]),fP]⟩
theorem X5:X4.Ok Tryz.prog:=Part.aq tk ao tq (bd (aU.cons KY (aU.cons Cu (aU.cons xU (aU.cons uf b8)))) al) (fuel:=100000) (d:=60) (by kernel_rfl)
theorem acs:Nv.Ok Tryz.prog:=Part.aq tk ao tq (bd (aU.cons X5 (aU.cons KY (aU.cons Cu (aU.cons xU (aU.cons uf b8))))) al) (fuel:=100000) (d:=60) (by kernel_rfl)
end Go.Proofs.YtkheephfkbpchaaGreatDoor
