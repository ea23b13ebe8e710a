/-
  nodeNobody_card, part 11 of 25: merged by program from the texts that it needs.
-/
import Derived.Test.YtkheephfkbpchaaGreatDoorNnJ
set_option linter.unusedSimpArgs false
set_option linter.unusedVariables false
set_option linter.unnecessarySimpa false
namespace Go.Proofs.YtkheephfkbpchaaGreatDoor
open Go.RowKit
theorem pk4:Tj.Ok Tryz.prog:=Part.aq tk ao tq (bd dS al) (fuel:=100000) (d:=60) (by kernel_rfl)
theorem pk8:To.Ok Tryz.prog:=Part.aq tk ao tq (bd dS al) (fuel:=100000) (d:=60) (by kernel_rfl)
theorem pk9:Tp.Ok Tryz.prog:=Part.aq tk ao tq (bd dS al) (fuel:=100000) (d:=60) (by kernel_rfl)
end Go.Proofs.YtkheephfkbpchaaGreatDoor
namespace Go.Proofs.YtkheephfkbpchaaGreatDoor
open Go.RowKit
theorem aff:PK.Ok Tryz.prog:=Part.aq tk ao tq (bd dS al) (fuel:=100000) (d:=60) (by kernel_rfl)
theorem afg:PL.Ok Tryz.prog:=Part.aq tk ao tq (bd dS al) (fuel:=100000) (d:=60) (by kernel_rfl)
theorem afh:PS.Ok Tryz.prog:=Part.aq tk ao tq (bd dS al) (fuel:=100000) (d:=60) (by kernel_rfl)
end Go.Proofs.YtkheephfkbpchaaGreatDoor
namespace Go.Proofs.YtkheephfkbpchaaGreatDoor
open Go.RowKit
theorem afi:PW.Ok Tryz.prog:=Part.aq tk ao tq (bd dS al) (fuel:=100000) (d:=60) (by kernel_rfl)
theorem afj:P0.Ok Tryz.prog:=Part.aq tk ao tq (bd dS al) (fuel:=100000) (d:=60) (by kernel_rfl)
theorem afk:P4.Ok Tryz.prog:=Part.aq tk ao tq (bd dS al) (fuel:=100000) (d:=60) (by kernel_rfl)
end Go.Proofs.YtkheephfkbpchaaGreatDoor
namespace Go.Proofs.YtkheephfkbpchaaGreatDoor
open Go.RowKit
theorem afl:P8.Ok Tryz.prog:=Part.aq tk ao tq (bd dS al) (fuel:=100000) (d:=60) (by kernel_rfl)
theorem afm:Qc.Ok Tryz.prog:=Part.aq tk ao tq (bd dS al) (fuel:=100000) (d:=60) (by kernel_rfl)
theorem afn:Qe.Ok Tryz.prog:=Part.aq tk ao tq (bd dS al) (fuel:=100000) (d:=60) (by kernel_rfl)
end Go.Proofs.YtkheephfkbpchaaGreatDoor
namespace Go.Proofs.YtkheephfkbpchaaGreatDoor
open Go.RowKit
theorem afo:Qg.Ok Tryz.prog:=Part.aq tk ao tq (bd dS al) (fuel:=100000) (d:=60) (by kernel_rfl)
theorem afp:Qk.Ok Tryz.prog:=Part.aq tk ao tq (bd dS al) (fuel:=100000) (d:=60) (by kernel_rfl)
theorem afq:Qr.Ok Tryz.prog:=Part.aq tk ao tq (bd dS al) (fuel:=100000) (d:=60) (by kernel_rfl)
end Go.Proofs.YtkheephfkbpchaaGreatDoor
namespace Go.Proofs.YtkheephfkbpchaaGreatDoor
open Go.RowKit
theorem afr:Qt.Ok Tryz.prog:=Part.aq tk ao tq (bd dS al) (fuel:=100000) (d:=60) (by kernel_rfl)
theorem afs:Qv.Ok Tryz.prog:=Part.aq tk ao tq (bd dS al) (fuel:=100000) (d:=60) (by kernel_rfl)
theorem afu:QZ.Ok Tryz.prog:=Part.aq tk ao tq (bd dS al) (fuel:=100000) (d:=60) (by kernel_rfl)
end Go.Proofs.YtkheephfkbpchaaGreatDoor
namespace Go.Proofs.YtkheephfkbpchaaGreatDoor
open Go.RowKit
theorem afv:Q6.Ok Tryz.prog:=Part.aq tk ao tq (bd dS al) (fuel:=100000) (d:=60) (by kernel_rfl)
end Go.Proofs.YtkheephfkbpchaaGreatDoor
namespace Go.Proofs.YtkheephfkbpchaaGreatDoor
open Go.RowKit
def LB:ae:=(.bx 64 [(i64 1),(u64 1),(sN 3 1 0 2),(u64 2),(sN 4 1 0 1),(sN 5 1 0 1),(p0 9),(p0 13),bT,(sN 26 1 0 1),(i64 1),(u64 1),(u64 2),(sN 27 2 0 1),(sN 28 6 0 1),(sN 29 2 0 1),(sN 30 6 0 1),bT,bF,(u64 2),(i64 1),(u64 1),(sQ 34 2 0 1 1),(sN 35 1 0 1),(i64 0),(u64 0),(i64 0),(u64 0),(i64 0),(u64 0),U,U,U,U,(u64 0),(u64 0),bF,U,(i64 0),(i64 0),(u64 0),(u64 0),(i64 0),(u64 0),(u64 0),U,(u64 0),U,bF,U,bF,(u64 0),(i64 0),(u64 0),U,U,U,(u64 0),(i64 0),(u64 0),U,U,U,U,(i64 0),(i64 0),(u64 0),(u64 0),(i64 0),(u64 0),(u64 0),U,(u64 0),U,bF,bF,(i64 0),(u64 0)])
def LC:ae:=(.bx 217 [(u64 0),(sN 7 1 0 1),(u64 1),(i64 1),(u64 1),(i64 2),(u64 1),(u64 1),(u64 1),bT,(u64 2),(u64 2)])
def yM:ae:=(.fl 22 1 1 [(sN 8 1 0 9)])
def yN:ae:=(.bx 385 [(i64 1),(u64 1),(sN 10 1 0 2),(i64 1),(sQ 11 4 0 1 1),(.mv 12)])
def yO:ae:=(.bx 222 [(i64 1),(u64 1),(.mv 14),(.mv 24)])
def yP:ae:=(.mf 219 9 [(0,((.i IntKind.i64 (Int.ofNat 2)),(p0 15))),(1,((.i IntKind.i64 (Int.ofNat 3)),(p0 16))),(2,((.i IntKind.i64 (Int.ofNat 4)),(p0 17))),(3,((.i IntKind.i64 (Int.ofNat 5)),(p0 18))),(4,((.i IntKind.i64 (Int.ofNat 6)),(p0 19))),(5,((.i IntKind.i64 (Int.ofNat 7)),(p0 20))),(6,((.i IntKind.i64 (Int.ofNat 8)),(p0 21))),(7,((.i IntKind.i64 (Int.ofNat 9)),(p0 22))),(8,((.i IntKind.i64 (Int.ofNat 10)),(p0 23)))])
def yQ:ae:=(.mf 220 1 [(0,((.i IntKind.i64 (Int.ofNat 2)),(p0 25)))])
def LD:ae:=(.fl 288 6 1 [(i64 1),(u64 1),(u64 2),(sN 31 2 0 1),(sN 32 2 0 1),(sN 33 1 0 1)])
def LF:ae:=(.bx 64 [(i64 1),(u64 1),(sN 3 1 0 2),(u64 2),(sN 4 1 0 1),(sN 5 1 0 1),(p0 10),(p0 14),bT,(sN 29 1 0 1),(i64 1),(u64 1),(u64 2),(sN 30 2 0 1),(sN 31 6 0 1),(sN 32 2 0 1),(sN 33 6 0 1),bT,bF,(u64 2),(i64 1),(u64 1),(sQ 37 2 0 1 1),(sN 38 1 0 1),(i64 0),(u64 0),(i64 0),(u64 0),(i64 0),(u64 0),U,U,U,U,(u64 0),(u64 0),bF,U,(i64 0),(i64 0),(u64 0),(u64 0),(i64 0),(u64 0),(u64 0),U,(u64 0),U,bF,U,bF,(u64 0),(i64 0),(u64 0),U,U,U,(u64 0),(i64 0),(u64 0),U,U,U,U,(i64 0),(i64 0),(u64 0),(u64 0),(i64 0),(u64 0),(u64 0),U,(u64 0),U,bF,bF,(i64 0),(u64 0)])
def LG:ae:=(.fl 22 1 2 [(sN 8 1 0 9),(sN 9 1 0 16)])
def Ku:ae:=(.bx 385 [(i64 1),(u64 1),(sN 11 1 0 2),(i64 1),(sQ 12 4 0 1 1),(.mv 13)])
def Kv:ae:=(.bx 222 [(i64 1),(u64 1),(.mv 15),(.mv 27)])
def Kw:ae:=(.mf 219 9 [(0,((.i IntKind.i64 (Int.ofNat 2)),(p0 16))),(1,((.i IntKind.i64 (Int.ofNat 3)),(p0 19))),(2,((.i IntKind.i64 (Int.ofNat 4)),(p0 20))),(3,((.i IntKind.i64 (Int.ofNat 5)),(p0 21))),(4,((.i IntKind.i64 (Int.ofNat 6)),(p0 22))),(5,((.i IntKind.i64 (Int.ofNat 7)),(p0 23))),(6,((.i IntKind.i64 (Int.ofNat 8)),(p0 24))),(7,((.i IntKind.i64 (Int.ofNat 9)),(p0 25))),(8,((.i IntKind.i64 (Int.ofNat 10)),(p0 26)))])
def Kx:ae:=(.fl 22 1 1 [(sN 18 1 0 7)])
def Ky:ae:=(.mf 220 1 [(0,((.i IntKind.i64 (Int.ofNat 2)),(p0 28)))])
def Kz:ae:=(.fl 288 6 1 [(i64 1),(u64 1),(u64 2),(sN 34 2 0 1),(sN 35 2 0 1),(sN 36 1 0 1)])
def KA:ae:=(.fl 288 6 1 [(i64 1),(u64 1),(u64 1),(sN 29 2 0 1),U,U])
def KB:ae:=(.fl 288 6 1 [(i64 1),(u64 1),(u64 2),(sN 38 2 0 1),(sN 39 2 0 1),(sN 40 1 0 1)])
def KC:ae:=(.fl 279 2 2 [(i64 2),(sN 44 1 0 7),(i64 2),(sN 45 1 0 8)])
def xC:ae:=(.bx 385 [(i64 1),(u64 1),(sN 8 1 0 2),(i64 1),(sQ 9 4 0 1 1),(.mv 10)])
def xD:ae:=(.bx 222 [(i64 1),(u64 1),(.mv 12),(.mv 22)])
def xE:ae:=(.mf 219 9 [(0,((.i IntKind.i64 (Int.ofNat 2)),(p0 13))),(1,((.i IntKind.i64 (Int.ofNat 3)),(p0 14))),(2,((.i IntKind.i64 (Int.ofNat 4)),(p0 15))),(3,((.i IntKind.i64 (Int.ofNat 5)),(p0 16))),(4,((.i IntKind.i64 (Int.ofNat 6)),(p0 17))),(5,((.i IntKind.i64 (Int.ofNat 7)),(p0 18))),(6,((.i IntKind.i64 (Int.ofNat 8)),(p0 19))),(7,((.i IntKind.i64 (Int.ofNat 9)),(p0 20))),(8,((.i IntKind.i64 (Int.ofNat 10)),(p0 21)))])
def KD:ae:=(.mf 220 1 [(0,((.i IntKind.i64 (Int.ofNat 2)),(p0 23)))])
def KE:ae:=(.fl 288 6 1 [(i64 1),(u64 1),(u64 1),(sN 27 2 0 1),U,U])
def KF:ae:=(.fl 31 10 1 [(i64 3),(i64 1),(u64 1),(i64 8),(sQ 31 4 0 1 1),U,(i64 0),(u64 0),(u64 0),U])
def KG:ae:=(.fl 263 3 1 [(i64 2),(u64 1),(sN 33 1 0 6)])
def KH:ae:=(.fl 288 6 1 [(i64 1),(u64 1),(u64 1),(sN 26 2 0 1),U,U])
def KI:ae:=(.fl 127 10 1 [(i64 1),(i64 1),(i64 2),(u64 1),(u64 1),(u64 1),(u64 1),(u64 1),(u64 0),U])
def KJ:ae:=(.fl 241 4 1 [(i64 3),(i64 2),(u64 1),(sN 29 1 0 15)])
def Zi:Part:=⟨95,[(p0 1),(sN 39 1 0 7),(sQ 40 1 0 1 1)],[gW,(.bx 117 [(p0 2),(sN 36 2 0 2),U]),LB,k0,k7,bI,LC,yM,dg,yN,k0,k1,aY,yO,yP,wj,k5,k5,k5,k5,k5,k5,k5,k5,yQ,bu,k7,k8,bX,af,LD,k8,af,az,af,az,(.fl 104 2 2 [(i64 2),(sQ 37 1 0 13 13),(i64 2),(sQ 38 1 0 23 23)]),hO,iP,aW,k7],(.tu []),[gW,(.bx 117 [(p0 2),(sN 41 2 0 3),U]),LB,k0,k7,bI,(.bx 217 [(u64 0),(sN 43 1 0 2),(u64 1),(i64 1),(u64 1),(i64 2),(u64 1),(u64 1),(u64 1),bT,(u64 2),(u64 2)]),yM,dg,yN,k0,k1,aY,yO,yP,(.bx 224 [(u64 1),bT,(u64 0),(sN 46 1 0 1),(u64 0),(u64 2)]),k5,k5,k5,k5,k5,k5,k5,k5,yQ,bu,k7,k8,bX,af,LD,k8,af,az,af,az,.dead,hO,iP,aW,k7,(.fl 104 2 3 [(i64 2),(sQ 37 1 0 13 13),(i64 2),(sQ 38 1 0 23 23),(i64 2),(sQ 42 1 0 30 30)]),kt,(.fl 22 1 2 [(sN 44 1 0 9),(sN 45 1 0 16)]),dg,c9,(.fl 22 1 1 [(sN 47 1 0 7)]),aW]⟩
theorem uw:Zi.Ok Tryz.prog:=Part.aq tk ao tq (bd dS al) (fuel:=100000) (d:=60) (by kernel_rfl)
def Zj:Part:=⟨95,[(p0 1),(sN 43 1 0 8),(sQ 44 1 0 1 1)],[gW,(.bx 117 [(p0 2),(sN 39 2 0 3),U]),LF,k0,k7,bI,(.bx 217 [(u64 0),(sN 7 1 0 2),(u64 1),(i64 1),(u64 1),(i64 2),(u64 1),(u64 1),(u64 1),bT,(u64 2),(u64 2)]),LG,dg,c9,Ku,k0,k1,aY,Kv,Kw,(.bx 224 [(u64 1),bT,(u64 0),(sN 17 1 0 1),(u64 0),(u64 2)]),Kx,aW,k5,k5,k5,k5,k5,k5,k5,k5,Ky,bu,k7,k8,bX,af,Kz,k8,af,az,af,az,(.fl 104 2 3 [(i64 2),(sQ 40 1 0 13 13),(i64 2),(sQ 41 1 0 23 23),(i64 2),(sQ 42 1 0 30 30)]),hO,iP,kt,aT,k7],(.tu []),[gW,(.bx 117 [(p0 2),(sN 45 2 0 4),U]),LF,k0,k7,bI,(.bx 217 [(u64 0),(sN 47 1 0 3),(u64 1),(i64 1),(u64 1),(i64 2),(u64 1),(u64 1),(u64 1),bT,(u64 2),(u64 2)]),LG,dg,c9,Ku,k0,k1,aY,Kv,Kw,(.bx 224 [(u64 1),bT,(u64 0),(sN 51 1 0 2),(u64 0),(u64 2)]),Kx,aW,k5,k5,k5,k5,k5,k5,k5,k5,Ky,bu,k7,k8,bX,af,Kz,k8,af,az,af,az,.dead,hO,iP,kt,aT,k7,(.fl 104 2 4 [(i64 2),(sQ 40 1 0 13 13),(i64 2),(sQ 41 1 0 23 23),(i64 2),(sQ 42 1 0 30 30),(i64 2),(sQ 46 1 0 31 31)]),lQ,(.fl 22 1 3 [(sN 48 1 0 9),(sN 49 1 0 16),(sN 50 1 0 17)]),dg,c9,cz,(.fl 22 1 2 [(sN 52 1 0 7),(sN 53 1 0 8)]),aW,aT]⟩
theorem yR:Zj.Ok Tryz.prog:=Part.aq tk ao tq (bd (aU.cons uw dS) al) (fuel:=100000) (d:=60) (by kernel_rfl)
def Zk:Part:=⟨51,[(p0 1),(.ag [(sN 33 1 0 1),(i64 1),(u64 1),(u64 2),(sN 34 2 0 1),(sN 35 6 0 1),(sN 36 2 0 1),(sN 37 6 0 1),bT,bF,(u64 2),(i64 1),(u64 1),(sQ 41 2 0 1 1),(sN 42 1 0 1)]),(sN 43 2 0 2)],[gW,(.bx 117 [(p0 2),(sN 30 2 0 2),U]),(.bx 64 [(i64 1),(u64 1),(sN 3 1 0 2),(u64 2),(sN 4 1 0 1),(sN 5 1 0 1),(p0 9),(p0 13),bT,(sN 26 1 0 1),(i64 1),(u64 1),(u64 1),(sN 27 2 0 1),U,U,(sN 28 6 0 1),bT,bF,(u64 0),(i64 0),(u64 0),U,U,(i64 0),(u64 0),(i64 0),(u64 0),(i64 0),(u64 0),U,U,U,U,(u64 0),(u64 0),bF,U,(i64 0),(i64 0),(u64 0),(u64 0),(i64 0),(u64 0),(u64 0),U,(u64 0),U,bF,U,bF,(u64 0),(i64 0),(u64 0),U,U,U,(u64 0),(i64 0),(u64 0),U,U,U,U,(i64 0),(i64 0),(u64 0),(u64 0),(i64 0),(u64 0),(u64 0),U,(u64 0),U,bF,bF,(i64 0),(u64 0)]),k0,k7,bI,LC,yM,dg,yN,k0,k1,aY,yO,yP,k5,k5,k5,k5,k5,k5,k5,k5,k5,yQ,bu,k7,k8,KA,k8,(.fl 104 2 2 [(i64 2),(sQ 31 1 0 13 13),(i64 2),(sQ 32 1 0 23 23)]),hO,iP,k7,k8,bX,af,KB,k8,af,az,af,az,KC,aW,aT],(.tu []),[gW,(.bx 117 [(p0 2),(sN 46 2 0 4),U]),(.bx 64 [(i64 1),(u64 1),(sN 3 1 0 2),(u64 2),(sN 4 1 0 1),(sN 5 1 0 1),(p0 9),(p0 13),bT,(sN 33 1 0 1),(i64 1),(u64 1),(u64 2),(sN 34 2 0 1),(sN 35 6 0 1),(sN 36 2 0 1),(sN 37 6 0 1),bT,bF,(u64 2),(i64 1),(u64 1),(sQ 41 2 0 1 1),(sN 42 1 0 1),(i64 0),(u64 0),(i64 0),(u64 0),(i64 0),(u64 0),U,U,U,U,(u64 0),(u64 0),bF,U,(i64 0),(i64 0),(u64 0),(u64 0),(i64 0),(u64 0),(u64 0),U,(u64 0),U,bF,U,bF,(u64 0),(i64 0),(u64 0),U,U,U,(u64 0),(i64 0),(u64 0),U,U,U,U,(i64 0),(i64 0),(u64 0),(u64 0),(i64 0),(u64 0),(u64 0),U,(u64 0),U,bF,bF,(i64 0),(u64 0)]),k0,k7,bI,(.bx 217 [(u64 0),(sN 49 1 0 3),(u64 1),(i64 1),(u64 1),(i64 2),(u64 1),(u64 1),(u64 1),bT,(u64 2),(u64 2)]),yM,dg,yN,k0,k1,aY,yO,yP,(.bx 224 [(u64 1),bT,(u64 0),(sN 53 1 0 2),(u64 0),(u64 2)]),k5,k5,k5,k5,k5,k5,k5,k5,yQ,bu,k7,k8,KA,k8,.dead,hO,iP,k7,k8,bX,af,KB,k8,af,az,af,az,KC,aW,aT,(.fl 104 2 4 [(i64 2),(sQ 31 1 0 13 13),(i64 2),(sQ 32 1 0 23 23),(i64 2),(sQ 47 1 0 30 30),(i64 2),(sQ 48 1 0 31 31)]),kt,lQ,(.fl 22 1 3 [(sN 50 1 0 9),(sN 51 1 0 16),(sN 52 1 0 17)]),dg,c9,cz,(.fl 22 1 2 [(sN 54 1 0 7),(sN 55 1 0 8)]),aW,aT]⟩
theorem Db:Zk.Ok Tryz.prog:=Part.aq tk ao tq (bd (aU.cons yR (aU.cons uw dS)) al) (fuel:=100000) (d:=60) (by kernel_rfl)
def Zl:Part:=⟨47,[(p0 1),(.ag [(sN 30 10 0 1),(sN 32 3 0 1),U])],[gW,(.bx 117 [(p0 2),(sN 28 2 0 1),U]),(.bx 64 [(i64 1),(u64 1),(sN 3 1 0 2),(u64 2),(sN 4 1 0 1),(sN 5 1 0 1),(p0 7),(p0 11),bT,(sN 24 1 0 1),(i64 1),(u64 1),(u64 1),(sN 25 2 0 1),U,U,(sN 26 6 0 1),bT,bF,(u64 0),(i64 0),(u64 0),U,U,(i64 0),(u64 0),(i64 0),(u64 0),(i64 0),(u64 0),U,U,U,U,(u64 0),(u64 0),bF,U,(i64 0),(i64 0),(u64 0),(u64 0),(i64 0),(u64 0),(u64 0),U,(u64 0),U,bF,U,bF,(u64 0),(i64 0),(u64 0),U,U,U,(u64 0),(i64 0),(u64 0),U,U,U,U,(i64 0),(i64 0),(u64 0),(u64 0),(i64 0),(u64 0),(u64 0),U,(u64 0),U,bF,bF,(i64 0),(u64 0)]),k0,k7,bI,AQ,xC,k0,k1,aY,xD,xE,k5,k5,k5,k5,k5,k5,k5,k5,k5,KD,bu,k7,k8,KE,k8,(.fl 104 2 1 [(i64 2),(sQ 29 1 0 13 13)]),hO,KF,iO,KG,b4],(.tu []),[gW,(.bx 117 [(p0 2),(sN 34 2 0 4),U]),(.bx 64 [(i64 1),(u64 1),(sN 3 1 0 2),(u64 2),(sN 4 1 0 1),(sN 5 1 0 1),(p0 7),(p0 11),bT,(sN 38 1 0 1),(i64 1),(u64 1),(u64 2),(sN 39 2 0 1),(sN 40 6 0 1),(sN 41 2 0 1),(sN 42 6 0 1),bT,bF,(u64 2),(i64 1),(u64 1),(sQ 46 2 0 1 1),(sN 47 1 0 1),(i64 0),(u64 0),(i64 0),(u64 0),(i64 0),(u64 0),U,U,U,U,(u64 0),(u64 0),bF,U,(i64 0),(i64 0),(u64 0),(u64 0),(i64 0),(u64 0),(u64 0),U,(u64 0),U,bF,U,bF,(u64 0),(i64 0),(u64 0),U,U,U,(u64 0),(i64 0),(u64 0),U,U,U,U,(i64 0),(i64 0),(u64 0),(u64 0),(i64 0),(u64 0),(u64 0),U,(u64 0),U,bF,bF,(i64 0),(u64 0)]),k0,k7,bI,(.bx 217 [(u64 0),(sN 48 1 0 3),(u64 1),(i64 1),(u64 1),(i64 2),(u64 1),(u64 1),(u64 1),bT,(u64 2),(u64 2)]),xC,k0,k1,aY,xD,xE,(.bx 224 [(u64 1),bT,(u64 0),(sN 52 1 0 2),(u64 0),(u64 2)]),k5,k5,k5,k5,k5,k5,k5,k5,KD,bu,k7,k8,KE,k8,.dead,hO,KF,iO,KG,b4,(.fl 104 2 4 [(i64 2),(sQ 29 1 0 13 13),(i64 2),(sQ 35 1 0 23 23),(i64 2),(sQ 36 1 0 30 30),(i64 2),(sQ 37 1 0 31 31)]),iP,kt,lQ,k7,k8,bX,af,(.fl 288 6 1 [(i64 1),(u64 1),(u64 2),(sN 43 2 0 1),(sN 44 2 0 1),(sN 45 1 0 1)]),k8,af,az,af,az,(.fl 22 1 3 [(sN 49 1 0 9),(sN 50 1 0 16),(sN 51 1 0 17)]),dg,c9,cz,(.fl 22 1 2 [(sN 53 1 0 7),(sN 54 1 0 8)]),aW,aT]⟩
theorem LH:Zl.Ok Tryz.prog:=Part.aq tk ao tq (bd (aU.cons Db (aU.cons yR (aU.cons uw dS))) al) (fuel:=100000) (d:=60) (by kernel_rfl)
def Zm:Part:=⟨44,[(p0 1),(i64 2),(.ag [(sN 27 10 0 1),(sN 28 4 0 1)])],[gW,(.bx 117 [(p0 2),U,U]),(.bx 64 [(i64 1),(u64 1),(sN 3 1 0 2),(u64 2),(sN 4 1 0 1),(sN 5 1 0 1),(p0 7),(p0 11),bT,(sN 23 1 0 1),(i64 1),(u64 1),(u64 1),(sN 24 2 0 1),U,U,(sN 25 6 0 1),bT,bF,(u64 0),(i64 0),(u64 0),U,U,(i64 0),(u64 0),(i64 0),(u64 0),(i64 0),(u64 0),U,U,U,U,(u64 0),(u64 0),bF,U,(i64 0),(i64 0),(u64 0),(u64 0),(i64 0),(u64 0),(u64 0),U,(u64 0),U,bF,U,bF,(u64 0),(i64 0),(u64 0),U,U,U,(u64 0),(i64 0),(u64 0),U,U,U,U,(i64 0),(i64 0),(u64 0),(u64 0),(i64 0),(u64 0),(u64 0),U,(u64 0),U,bF,bF,(i64 0),(u64 0)]),k0,k7,bI,AQ,xC,k0,k1,aY,xD,xE,k5,k5,k5,k5,k5,k5,k5,k5,k5,k6,k7,k8,KH,k8,KI,KJ,eM],(.tu []),[gW,(.bx 117 [(p0 2),(sN 30 2 0 4),U]),(.bx 64 [(i64 1),(u64 1),(sN 3 1 0 2),(u64 2),(sN 4 1 0 1),(sN 5 1 0 1),(p0 7),(p0 11),bT,(sN 35 1 0 1),(i64 1),(u64 1),(u64 2),(sN 36 2 0 1),(sN 37 6 0 1),(sN 38 2 0 1),(sN 39 6 0 1),bT,bF,(u64 2),(i64 1),(u64 1),(sQ 43 2 0 1 1),(sN 44 1 0 1),(i64 0),(u64 0),(i64 0),(u64 0),(i64 0),(u64 0),U,U,U,U,(u64 0),(u64 0),bF,U,(i64 0),(i64 0),(u64 0),(u64 0),(i64 0),(u64 0),(u64 0),U,(u64 0),U,bF,U,bF,(u64 0),(i64 0),(u64 0),U,U,U,(u64 0),(i64 0),(u64 0),U,U,U,U,(i64 0),(i64 0),(u64 0),(u64 0),(i64 0),(u64 0),(u64 0),U,(u64 0),U,bF,bF,(i64 0),(u64 0)]),k0,k7,bI,(.bx 217 [(u64 0),(sN 45 1 0 3),(u64 1),(i64 1),(u64 1),(i64 2),(u64 1),(u64 1),(u64 1),bT,(u64 2),(u64 2)]),xC,k0,k1,aY,xD,xE,(.bx 224 [(u64 1),bT,(u64 0),(sN 49 1 0 2),(u64 0),(u64 2)]),k5,k5,k5,k5,k5,k5,k5,k5,(.mf 220 1 [(0,((.i IntKind.i64 (Int.ofNat 2)),(p0 52)))]),k7,k8,KH,k8,KI,KJ,eM,(.fl 104 2 4 [(i64 2),(sQ 31 1 0 13 13),(i64 2),(sQ 32 1 0 23 23),(i64 2),(sQ 33 1 0 30 30),(i64 2),(sQ 34 1 0 31 31)]),hO,iP,kt,lQ,k7,k8,bX,af,(.fl 288 6 1 [(i64 1),(u64 1),(u64 2),(sN 40 2 0 1),(sN 41 2 0 1),(sN 42 1 0 1)]),k8,af,az,af,az,(.fl 22 1 3 [(sN 46 1 0 9),(sN 47 1 0 16),(sN 48 1 0 17)]),dg,c9,cz,(.fl 22 1 2 [(sN 50 1 0 7),(sN 51 1 0 8)]),aW,aT,bu]⟩
theorem Zn:Zm.Ok Tryz.prog:=Part.aq tk ao tq (bd (aU.cons LH (aU.cons Db (aU.cons yR (aU.cons uw dS)))) al) (fuel:=100000) (d:=60) (by kernel_rfl)
theorem afw:QW.Ok Tryz.prog:=Part.aq tk ao tq (bd (aU.cons Zn (aU.cons LH (aU.cons Db (aU.cons yR (aU.cons uw dS))))) al) (fuel:=100000) (d:=60) (by kernel_rfl)
end Go.Proofs.YtkheephfkbpchaaGreatDoor
