/-
  nodeNobody_card, part 6 of 25: merged by program from the texts that it needs.
-/
import Derived.Test.YtkheephfkbpchaaGreatDoorNnC
import Derived.Test.YtkheephfkbpchaaGreatDoorNnE
set_option linter.unusedSimpArgs false
set_option linter.unusedVariables false
set_option linter.unnecessarySimpa false
namespace Go.Proofs.YtkheephfkbpchaaGreatDoor
open Go.RowKit
theorem WG:Tryz.prog.inPlace 3=["slices.overlaps[caucus/api.Slot]"]:=by
 unfold Program.inPlace
 rw [BP]
 kernel_rfl
theorem HC:Tryz.prog.unfollowed 3=true:=by
 unfold Program.unfollowed
 rw [BP]
 kernel_rfl
theorem Vh:Tryz.prog.recurses 3=true:=by
 unfold Program.recurses
 rw [HC]
 rfl
theorem Ze:Tryz.prog.varsNamed 3=["caucus/sum.half"]:=by
 unfold Program.varsNamed
 rw [BP]
 kernel_rfl
end Go.Proofs.YtkheephfkbpchaaGreatDoor
namespace Go.Proofs.YtkheephfkbpchaaGreatDoor
open Go.RowKit
theorem Zf:mapsRowed Tryz.prog=true:=by kernel_rfl
theorem Zg:(Tryz.f3.params.toList++Rows.nodeNobodySpec.plain.varTypes Tryz.prog).any (Tryz.prog.loopsFrom ·)=false:=by kernel_rfl
theorem Zh:joinedFacts Tryz.pinned.checked.prog 3 Tryz.f3 Rows.nodeNobodySpec Rows.nodeNobodyRow=true:=by
 show joinedFacts Tryz.prog 3 Tryz.f3 Rows.nodeNobodySpec Rows.nodeNobodyRow=true
 unfold joinedFacts
 rw [WG,HC,Vh,Ze,Tryz.laidOut,Zf,Zg]
 kernel_rfl
end Go.Proofs.YtkheephfkbpchaaGreatDoor
namespace Go.Proofs.YtkheephfkbpchaaGreatDoor
open Go.ChangeShapes Go.WideShapes Go.ChangeAt Go.RowKit
theorem Tryz.own:ownKnob Tryz.prog.godebug=none:=by kernel_rfl
theorem ei.Lz {P:Program} {f:FuncId} {w:World} {G:List ae} {a:AV} (h:ei P f G [a] (.v (.bool true))) (hG:kM G (Gr w)) {y:Value} (r:au (Gr w) [] a y):Calls P f #[y] w fun e w'=>e=.returned (.bool true)∧Gr w w':=
 ei.holds h (ys:=[y]) hG rfl fun j c z e1 e2=>by
  match j,e1,e2 with
  | 0,e1,e2=>cases e1;cases e2;exact r
  | k+1,e1,e2=>simp at e2
theorem TP (hA:ei Tryz.prog 7 [.gw 0 bp] [] (.v (.bool true))) {w:World} (hG:kM [.gw 0 bp] (Gr w)) {x:vq} {cs:Array Value} (hk:Ma x) (h:jy w (zg x) cs.toList):Calls Tryz.prog 3 #[.agg cs] w fun e w'=>e=.returned (.bool true)∧Gr w w':=by
 have hre:=reachBytes_lt
 obtain ⟨-,-,⟨ha,-⟩,⟨hb,-⟩,⟨-,-,-,⟨hh,-⟩,⟨hc,-⟩,⟨-,-,⟨hp,-⟩,-⟩,-⟩,-⟩:=hk
 by_cases hs:(x.2.2.1.length≤1048576∧x.2.2.2.1.length≤1048576)∧x.2.2.2.2.1.2.2.2.2.1.length≤1048576
 ·obtain ⟨⟨h0,h1⟩,h2⟩:=hs
  have r:=adP h h0 h1 h2
  exact ei.Lz (TO hA _ _ _ _ _) hG r
 ·have r:=adQ h
  refine ei.Lz (Vg hA ?_ ?_ ?_ ?_ ?_ ?_) hG r<;>simp only [List.length_map]<;>omega
set_option maxRecDepth 100000 in
theorem Tw (hA:ei Tryz.prog 7 [.gw 0 bp] [] (.v (.bool true))) (os:Os) (started:os.Started) (H:Type) (enc:TypeId×Value→H):
  ReturnsInHanded {} Tryz.checked os 3 .any (fun w args=>(Rows.nodeNobodySpec.pre enc Tryz.prog Tryz.f3 [] false w args∧laidMetH Tryz.prog Rows.nodeNobodyRow.laid w)∧sizedMet enc Tryz.prog Tryz.f3 (OpenSpec.ofChange Rows.nodeNobodySpec) false w args)
   (Rows.nodeNobodySpec.post enc Tryz.prog Tryz.f3 false true false false):=by
 refine returnsInHanded_of_change_and (C:=Tryz.checked) (X:=fun w _=>laidMetH Tryz.prog Rows.nodeNobodyRow.laid w) (fun _ _ _ hh h=>h.of_heap hh) Tryz.own started (by kernel_rfl) Tryz.func3
  (ChangeSpec.witness_shaped (enc:=enc) (C:=Tryz.checked) (os:=os) (X:=fun w _=>laidMetH Tryz.prog Rows.nodeNobodyRow.laid w) false (World.laidAll Tryz.prog os Rows.nodeNobodyRow.laid) #[.agg #[.int .i64 0,.int .i64 0,.slice none 0 0,.slice none 0 0,.int .i64 0,.int .i64 0,.int .u64 0,.int .i64 0,.slice none 0 0,.slice none 0 0,.int .i64 0,.int .u64 0,.int .u64 0,.slice none 0 0,.int .i64 0,.int .u64 0]] 8 (World.laidAll_os _ _ _) (World.shaped_of_ZipB (by kernel_rfl) (by kernel_rfl)) (by kernel_rfl) (by kernel_rfl) (by kernel_rfl)
   (by rw [MakeChecks.laidMetH_plain _ _ _ (by kernel_rfl)];exact laidMet_laidAll _ (by kernel_rfl) (by kernel_rfl))) ?_
 intro W base args ds gs before Z8 hW _ aP hX _
 have GV:DataW.Whole enc Tryz.prog Tryz.f3.params.toList Rows.nodeNobodySpec.vars false W args.toList ds gs before:=hW
 obtain ⟨p,q,GK,hV,rfl,ej,dy⟩:=hW
 have S1:DataW.TrodAll enc Tryz.prog W 0 (fun _=>true) true Tryz.f3.params.toList args.toList ds p:=GK
 have nQ:∀ (j:Nat) t v,Tryz.f3.params[j]?=some t→args[j]?=some v→Value.okWide Tryz.prog W .any base t v:=Z8
 rw [Tryz.params3] at S1 nQ
 obtain ⟨v0,vs0,d0,ds0,p0,q0,afJ,rfl,rfl,h0,r0⟩:=trodAll_cons S1
 obtain ⟨rfl,rfl,rfl⟩:=trodAll_nil r0
 obtain rfl:args=#[v0]:=by cases args;simp_all
 obtain ⟨rfl,rfl⟩:=trodVars_none hV
 have qu:∀ n ∈ d0.weights Tryz.prog 33,n≤reachBytes:=fun n hn=>by simpa using List.all_eq_true.1 aP n (DataW.weights_mem_each (j:=0) (by rw [Tryz.params3];rfl) rfl n hn)
 obtain ⟨cs0,rfl,-,-⟩:∃ cs,v0=.agg cs∧_∧_:=by have:=nQ 0 33 v0 rfl rfl;rw [Value.okWide,Tryz.underlying33] at this;exact this
 obtain ⟨x,hx,hr⟩:=Z5 _ (TZ.of h0 qu)
 refine (TP hA (Z7 ((MakeChecks.laidMetH_plain _ _ _ (by kernel_rfl)).mp hX) (by simp [Rows.nodeNobodyRow])) hx hr).mono fun e W' ⟨he,hg⟩=>?_
 subst he
 exact ⟨_,rfl,Wt Tryz.laidOut (by kernel_rfl) (by kernel_rfl) Tryz.underlying4 rfl GV rfl hg⟩
end Go.Proofs.YtkheephfkbpchaaGreatDoor
namespace Go.Proofs.YtkheephfkbpchaaGreatDoor
open Go.RowKit
abbrev u8 (n:Nat):AV:=.d (.v (.int .u8 (.ofNat n)))
abbrev u32 (n:Nat):AV:=.d (.v (.int .u32 (.ofNat n)))
abbrev u64 (n:Nat):AV:=.d (.v (.int .u64 (.ofNat n)))
abbrev i64 (n:Nat):AV:=.d (.v (.int .i64 (.ofNat n)))
abbrev U:AV:=.d (.v (.slice none 0 0))
abbrev nP:AV:=.d (.v (.pointer none))
abbrev bT:AV:=.d (.v (.bool true))
abbrev bF:AV:=.d (.v (.bool false))
abbrev sN (u k o n:Nat):AV:=.sf u k o n none
abbrev sQ (u k o n q:Nat):AV:=.sf u k o n (some q)
abbrev p0 (u:Nat):AV:=.pt u 0
abbrev gW:ae:=.gw 0 bp
def Part.cmp (e:Part):Option Out→Bool
 | some ⟨[],x,M',_,[],none⟩=>iI x e.x&&ja M' e.M'
 | _=>false
theorem Part.aq {P:Program} {T:aC} (hT:aI P T=true) {KL:List TypeId} (hL:eO P KL) (hm:P.follows .mixedOrders=true) {X:bG} (hX:cN P X) {fuel d:Nat} {e:Part} (h:e.cmp (uW P T KL X fuel d (.fn e.f) e.args e.M (.n 0))=true):e.Ok P:=by
 generalize ho:uW P T KL X fuel d (.fn e.f) e.args e.M (.n 0)=o at h
 unfold Part.cmp at h
 split at h
 ·rename_i x M' tc
  obtain ⟨h1,h2⟩:=Bool.and_eq_true_iff.1 h
  obtain rfl:=uu h1
  obtain rfl:=q6 h2
  exact Part.of hT hL hm hX ho
 ·cases h
def aU (P:Program) (l:List Part):Prop:=∀ e ∈ l,e.Ok P
theorem aU.nil {P:Program}:aU P []:=fun _ h=>by cases h
theorem aU.cons {P:Program} {e:Part} {l:List Part} (h:e.Ok P) (k:aU P l):aU P (e::l):=List.forall_mem_cons.2 ⟨h,k⟩
theorem aU.app {P:Program} {l m:List Part} (h:aU P l) (k:aU P m):aU P (l++m):=fun e he=>(List.mem_append.1 he).elim (h e) (k e)
def k0:ae:=(.fl 3 1 2 [(i64 0),(i64 1)])
def k1:ae:=(.fl 29 4 1 [(i64 1),(u64 1),(u64 1),U])
def k2:ae:=(.mf 383 0 [])
def k3:ae:=(.bx 222 [(i64 1),(u64 1),(.mv 2),(.mv 12)])
def k4:ae:=(.mf 219 9 [(0,((.i IntKind.i64 (Int.ofNat 2)),(p0 3))),(1,((.i IntKind.i64 (Int.ofNat 3)),(p0 4))),(2,((.i IntKind.i64 (Int.ofNat 4)),(p0 5))),(3,((.i IntKind.i64 (Int.ofNat 5)),(p0 6))),(4,((.i IntKind.i64 (Int.ofNat 6)),(p0 7))),(5,((.i IntKind.i64 (Int.ofNat 7)),(p0 8))),(6,((.i IntKind.i64 (Int.ofNat 8)),(p0 9))),(7,((.i IntKind.i64 (Int.ofNat 9)),(p0 10))),(8,((.i IntKind.i64 (Int.ofNat 10)),(p0 11)))])
def k5:ae:=(.bx 224 [(u64 1),bF,(u64 0),U,(u64 0),(u64 0)])
def k6:ae:=(.mf 220 0 [])
def k7:ae:=(.fl 3 1 1 [(i64 2)])
def k8:ae:=(.fl 25 2 1 [(i64 1),(u64 1)])
def k9:ae:=(.bx 217 [(u64 0),U,(u64 0),(i64 1),(u64 1),(i64 2),(u64 1),(u64 0),(u64 0),bF,(u64 0),(u64 0)])
def bI:ae:=(.fl 122 1 1 [(p0 6)])
def fE:ae:=(.bx 222 [(i64 2),(u64 1),(.mv 2),(.mv 12)])
def fF:ae:=(.mf 219 9 [(0,((.i IntKind.i64 (Int.ofNat 1)),(p0 3))),(1,((.i IntKind.i64 (Int.ofNat 3)),(p0 4))),(2,((.i IntKind.i64 (Int.ofNat 4)),(p0 5))),(3,((.i IntKind.i64 (Int.ofNat 5)),(p0 6))),(4,((.i IntKind.i64 (Int.ofNat 6)),(p0 7))),(5,((.i IntKind.i64 (Int.ofNat 7)),(p0 8))),(6,((.i IntKind.i64 (Int.ofNat 8)),(p0 9))),(7,((.i IntKind.i64 (Int.ofNat 9)),(p0 10))),(8,((.i IntKind.i64 (Int.ofNat 10)),(p0 11)))])
def kl:ae:=(.bx 217 [(u64 0),U,(u64 0),(i64 2),(u64 1),(i64 1),(u64 1),(u64 0),(u64 0),bF,(u64 0),(u64 0)])
def a9:ae:=(.fl 3 1 1 [(i64 1)])
def af:ae:=(.fl 25 2 1 [(i64 2),(u64 1)])
def ay:ae:=(.fl 23 1 1 [(u64 0)])
def aK:ae:=(.fl 459 1 1 [U])
def S2:ae:=(.fl 3 1 2 [(i64 1),(i64 2)])
def wj:ae:=(.bx 224 [(u64 1),bT,(u64 0),U,(u64 0),(u64 0)])
def b4:ae:=(.fl 5 1 6 [(u8 1),(u8 2),(u8 1),(u8 0),(u8 0),(u8 0)])
def S3:ae:=(.fl 31 10 1 [(i64 2),(i64 2),(u64 1),(i64 8),(sN 16 4 0 1),(sN 17 1 0 6),(i64 0),(u64 0),(u64 0),U])
def hC:ae:=(.fl 410 4 1 [(i64 1),(u64 1),(u64 1),(u64 0)])
def dF:ae:=(.bx 385 [(i64 2),(u64 1),(sN 2 1 0 2),(i64 1),U,(.mv 3)])
def aZ:ae:=(.fl 122 1 1 [(p0 5)])
def eF:ae:=(.bx 385 [(i64 2),(u64 1),(sN 7 1 0 2),(i64 1),U,(.mv 8)])
def l7:ae:=(.bx 222 [(i64 2),(u64 1),(.mv 10),(.mv 20)])
def l8:ae:=(.mf 219 9 [(0,((.i IntKind.i64 (Int.ofNat 1)),(p0 11))),(1,((.i IntKind.i64 (Int.ofNat 3)),(p0 12))),(2,((.i IntKind.i64 (Int.ofNat 4)),(p0 13))),(3,((.i IntKind.i64 (Int.ofNat 5)),(p0 14))),(4,((.i IntKind.i64 (Int.ofNat 6)),(p0 15))),(5,((.i IntKind.i64 (Int.ofNat 7)),(p0 16))),(6,((.i IntKind.i64 (Int.ofNat 8)),(p0 17))),(7,((.i IntKind.i64 (Int.ofNat 9)),(p0 18))),(8,((.i IntKind.i64 (Int.ofNat 10)),(p0 19)))])
def G6:ae:=(.bx 64 [(i64 2),(u64 1),(sN 2 1 0 2),(u64 0),(sN 3 1 0 1),(sN 4 1 0 1),(p0 6),(p0 9),bF,U,(i64 0),(u64 0),(u64 0),U,U,U,U,bF,bF,(u64 0),(i64 0),(u64 0),U,U,(i64 2),(u64 1),(i64 0),(u64 0),(i64 2),(u64 1),(sN 23 2 0 1),(sN 24 1 0 1),(sQ 25 1 0 1 1),(sQ 26 1 0 1 1),(u64 0),(u64 0),bF,U,(i64 0),(i64 0),(u64 0),(u64 0),(i64 0),(u64 0),(u64 0),U,(u64 0),U,bF,U,bF,(u64 0),(i64 0),(u64 0),U,U,U,(u64 0),(i64 0),(u64 0),U,U,U,U,(i64 0),(i64 0),(u64 0),(u64 0),(i64 0),(u64 0),(u64 0),U,(u64 0),U,bF,bT,(i64 0),(u64 0)])
def iJ:ae:=(.bx 222 [(i64 2),(u64 1),(.mv 10),(.mv 22)])
def iK:ae:=(.mf 219 9 [(0,((.i IntKind.i64 (Int.ofNat 1)),(p0 11))),(1,((.i IntKind.i64 (Int.ofNat 3)),(p0 14))),(2,((.i IntKind.i64 (Int.ofNat 4)),(p0 15))),(3,((.i IntKind.i64 (Int.ofNat 5)),(p0 16))),(4,((.i IntKind.i64 (Int.ofNat 6)),(p0 17))),(5,((.i IntKind.i64 (Int.ofNat 7)),(p0 18))),(6,((.i IntKind.i64 (Int.ofNat 8)),(p0 19))),(7,((.i IntKind.i64 (Int.ofNat 9)),(p0 20))),(8,((.i IntKind.i64 (Int.ofNat 10)),(p0 21)))])
def lr:ae:=(.bx 224 [(u64 1),bT,(u64 0),(sN 12 1 0 1),(u64 0),(u64 0)])
def iL:ae:=(.fl 22 1 1 [(sN 13 1 0 6)])
def tB:ae:=(.fl 5 1 13 [(u8 1),(u8 1),(u8 2),(u8 1),(u8 1),(u8 0),(u8 0),(u8 0),(u8 0),(u8 233),(u8 158),(u8 192),(u8 1)])
def tC:ae:=(.fl 288 6 1 [(i64 1),(u64 1),(u64 1),(sN 4 2 0 1),U,U])
def S4:ae:=(.fl 288 6 1 [(i64 1),(u64 1),(u64 1),(sN 8 2 0 1),U,U])
def S5:ae:=(.fl 3 1 0 [])
def eY:ae:=(.bx 385 [(i64 1),(u64 1),(sN 7 1 0 2),(i64 1),(sQ 8 4 0 1 1),(.mv 9)])
def fq:ae:=(.bx 222 [(i64 1),(u64 1),(.mv 11),(.mv 21)])
def ft:ae:=(.mf 219 9 [(0,((.i IntKind.i64 (Int.ofNat 2)),(p0 12))),(1,((.i IntKind.i64 (Int.ofNat 3)),(p0 13))),(2,((.i IntKind.i64 (Int.ofNat 4)),(p0 14))),(3,((.i IntKind.i64 (Int.ofNat 5)),(p0 15))),(4,((.i IntKind.i64 (Int.ofNat 6)),(p0 16))),(5,((.i IntKind.i64 (Int.ofNat 7)),(p0 17))),(6,((.i IntKind.i64 (Int.ofNat 8)),(p0 18))),(7,((.i IntKind.i64 (Int.ofNat 9)),(p0 19))),(8,((.i IntKind.i64 (Int.ofNat 10)),(p0 20)))])
def iM:ae:=(.fl 288 6 1 [(i64 1),(u64 1),(u64 1),(sN 25 2 0 1),U,U])
def S6:ae:=(.fl 104 2 1 [(i64 2),(sQ 27 1 0 13 13)])
def S7:ae:=(.fl 288 6 1 [(i64 1),(u64 1),(u64 1),(sN 31 2 0 1),U,U])
def tD:ae:=(.fl 5 1 13 [(u8 1),(u8 2),(u8 1),(u8 1),(u8 1),(u8 0),(u8 0),(u8 0),(u8 0),(u8 216),(u8 108),(u8 129),(u8 98)])
def fU:ae:=(.bx 222 [(i64 2),(u64 1),(.mv 2),(.mv 14)])
def fV:ae:=(.mf 219 9 [(0,((.i IntKind.i64 (Int.ofNat 1)),(p0 3))),(1,((.i IntKind.i64 (Int.ofNat 3)),(p0 6))),(2,((.i IntKind.i64 (Int.ofNat 4)),(p0 7))),(3,((.i IntKind.i64 (Int.ofNat 5)),(p0 8))),(4,((.i IntKind.i64 (Int.ofNat 6)),(p0 9))),(5,((.i IntKind.i64 (Int.ofNat 7)),(p0 10))),(6,((.i IntKind.i64 (Int.ofNat 8)),(p0 11))),(7,((.i IntKind.i64 (Int.ofNat 9)),(p0 12))),(8,((.i IntKind.i64 (Int.ofNat 10)),(p0 13)))])
def G7:ae:=(.bx 224 [(u64 1),bT,(u64 0),(sN 4 1 0 1),(u64 0),(u64 0)])
def tE:ae:=(.fl 22 1 1 [(sN 5 1 0 6)])
def po:ae:=(.bx 64 [(i64 2),(u64 1),(sN 2 1 0 2),(u64 1),(sN 3 1 0 1),(sN 4 1 0 1),(p0 6),(p0 9),bF,U,(i64 0),(u64 0),(u64 0),U,U,U,U,bF,bF,(u64 0),(i64 0),(u64 0),U,U,(i64 2),(u64 1),(i64 0),(u64 0),(i64 2),(u64 1),(sN 23 2 0 1),(sN 24 1 0 1),(sQ 25 1 0 1 1),(sQ 26 1 0 1 1),(u64 0),(u64 0),bF,U,(i64 0),(i64 0),(u64 0),(u64 0),(i64 0),(u64 0),(u64 0),U,(u64 0),U,bF,U,bF,(u64 0),(i64 0),(u64 0),U,U,U,(u64 0),(i64 0),(u64 0),U,U,U,U,(i64 0),(i64 0),(u64 0),(u64 0),(i64 0),(u64 0),(u64 0),U,(u64 0),U,bF,bT,(i64 0),(u64 0)])
def AI:ae:=(.bx 217 [(u64 0),U,(u64 0),(i64 2),(u64 1),(i64 1),(u64 1),(u64 1),(u64 1),bF,(u64 1),(u64 0)])
def G8:ae:=(.fl 127 10 1 [(i64 1),(i64 2),(i64 1),(u64 1),(u64 1),(u64 1),(u64 1),(u64 0),(u64 0),U])
def km:ae:=(.fl 5 1 13 [(u8 1),(u8 2),(u8 1),(u8 1),(u8 1),(u8 1),(u8 1),(u8 0),(u8 0),(u8 30),(u8 84),(u8 133),(u8 26)])
def G9:ae:=(.fl 104 2 1 [(i64 1),(sQ 29 1 0 13 13)])
def AJ:ae:=(.bx 217 [(u64 0),U,(u64 0),(i64 1),(u64 1),(i64 2),(u64 1),(u64 1),(u64 1),bF,(u64 1),(u64 0)])
def Ha:ae:=(.fl 127 10 1 [(i64 1),(i64 1),(i64 2),(u64 1),(u64 1),(u64 1),(u64 1),(u64 0),(u64 0),U])
def ko:ae:=(.fl 5 1 13 [(u8 1),(u8 1),(u8 2),(u8 1),(u8 1),(u8 1),(u8 1),(u8 0),(u8 0),(u8 47),(u8 166),(u8 196),(u8 121)])
def qS:ae:=(.bx 64 [(i64 1),(u64 1),(sN 2 1 0 2),(u64 1),(sN 3 1 0 1),(sN 4 1 0 1),(p0 6),(p0 10),bT,(sN 22 1 0 1),(i64 1),(u64 1),(u64 1),(sN 23 2 0 1),U,U,(sN 24 6 0 1),bT,bF,(u64 0),(i64 0),(u64 0),U,U,(i64 0),(u64 0),(i64 0),(u64 0),(i64 0),(u64 0),U,U,U,U,(u64 0),(u64 0),bF,U,(i64 0),(i64 0),(u64 0),(u64 0),(i64 0),(u64 0),(u64 0),U,(u64 0),U,bF,U,bF,(u64 0),(i64 0),(u64 0),U,U,U,(u64 0),(i64 0),(u64 0),U,U,U,U,(i64 0),(i64 0),(u64 0),(u64 0),(i64 0),(u64 0),(u64 0),U,(u64 0),U,bF,bF,(i64 0),(u64 0)])
def S8:ae:=(.fl 104 2 1 [(i64 2),(sQ 28 1 0 13 13)])
def l9:ae:=(.bx 217 [(u64 0),U,(u64 0),(i64 2),(u64 1),(i64 1),(u64 1),(u64 1),(u64 1),bT,(u64 1),(u64 0)])
def aX:ae:=(.mf 383 1 [(0,((.i IntKind.i64 (Int.ofNat 1)),(.ag [(i64 1),(u64 1)])))])
def kq:ae:=(.bx 217 [(u64 0),U,(u64 0),(i64 1),(u64 1),(i64 2),(u64 1),(u64 1),(u64 1),bT,(u64 1),(u64 0)])
def dG:ae:=(.bx 385 [(i64 1),(u64 1),(sN 2 1 0 2),(i64 1),(sQ 3 4 0 1 1),(.mv 4)])
def aY:ae:=(.mf 383 1 [(0,((.i IntKind.i64 (Int.ofNat 2)),(.ag [(i64 2),(u64 1)])))])
def Hb:ae:=(.bx 224 [(u64 1),bT,(u64 0),(sN 4 1 0 1),(u64 0),(u64 2)])
def eM:ae:=(.fl 5 1 15 [(u8 2),(u8 2),(u8 1),(u8 7),(u8 1),(u8 1),(u8 1),(u8 1),(u8 6),(u8 1),(u8 2),(u8 1),(u8 0),(u8 0),(u8 0)])
def tF:ae:=(.fl 5 1 29 [(u8 2),(u8 2),(u8 1),(u8 1),(u8 1),(u8 1),(u8 1),(u8 0),(u8 1),(u8 15),(u8 2),(u8 2),(u8 1),(u8 7),(u8 1),(u8 1),(u8 1),(u8 1),(u8 6),(u8 1),(u8 2),(u8 1),(u8 0),(u8 0),(u8 0),(u8 196),(u8 221),(u8 226),(u8 142)])
def Hc:ae:=(.bx 64 [(i64 2),(u64 1),(sN 2 1 0 2),(u64 2),(sN 3 1 0 1),(sN 4 1 0 1),(p0 6),(p0 9),bF,U,(i64 0),(u64 0),(u64 0),U,U,U,U,bF,bF,(u64 0),(i64 0),(u64 0),U,U,(i64 2),(u64 1),(i64 0),(u64 0),(i64 2),(u64 1),(sN 23 2 0 1),(sN 24 1 0 1),(sQ 25 1 0 1 1),(sQ 26 1 0 1 1),(u64 0),(u64 0),bF,U,(i64 0),(i64 0),(u64 0),(u64 0),(i64 0),(u64 0),(u64 0),U,(u64 0),U,bF,U,bF,(u64 0),(i64 0),(u64 0),U,U,U,(u64 0),(i64 0),(u64 0),U,U,U,U,(i64 0),(i64 0),(u64 0),(u64 0),(i64 0),(u64 0),(u64 0),U,(u64 0),U,bF,bT,(i64 0),(u64 0)])
def S9:ae:=(.bx 224 [(u64 1),bT,(u64 0),(sN 12 1 0 1),(u64 0),(u64 2)])
def Ta:ae:=(.fl 22 1 1 [(sN 31 1 0 15)])
def AK:ae:=(.fl 22 1 1 [(sN 3 1 0 15)])
def AL:ae:=(.bx 64 [(i64 2),(u64 1),(sN 2 1 0 2),(u64 2),(sN 3 1 0 1),(sN 4 1 0 1),(p0 8),(p0 11),bF,U,(i64 0),(u64 0),(u64 0),U,U,U,U,bF,bF,(u64 0),(i64 0),(u64 0),U,U,(i64 2),(u64 1),(i64 0),(u64 0),(i64 2),(u64 1),(sN 25 2 0 1),(sN 26 1 0 1),(sQ 27 1 0 1 1),(sQ 28 1 0 1 1),(u64 0),(u64 0),bF,U,(i64 0),(i64 0),(u64 0),(u64 0),(i64 0),(u64 0),(u64 0),U,(u64 0),U,bF,U,bF,(u64 0),(i64 0),(u64 0),U,U,U,(u64 0),(i64 0),(u64 0),U,U,U,U,(i64 0),(i64 0),(u64 0),(u64 0),(i64 0),(u64 0),(u64 0),U,(u64 0),U,bF,bT,(i64 0),(u64 0)])
def AM:ae:=(.fl 22 1 1 [(sN 7 1 0 15)])
def iN:ae:=(.bx 385 [(i64 2),(u64 1),(sN 9 1 0 2),(i64 1),U,(.mv 10)])
def pq:ae:=(.bx 222 [(i64 2),(u64 1),(.mv 12),(.mv 24)])
def pr:ae:=(.mf 219 9 [(0,((.i IntKind.i64 (Int.ofNat 1)),(p0 13))),(1,((.i IntKind.i64 (Int.ofNat 3)),(p0 16))),(2,((.i IntKind.i64 (Int.ofNat 4)),(p0 17))),(3,((.i IntKind.i64 (Int.ofNat 5)),(p0 18))),(4,((.i IntKind.i64 (Int.ofNat 6)),(p0 19))),(5,((.i IntKind.i64 (Int.ofNat 7)),(p0 20))),(6,((.i IntKind.i64 (Int.ofNat 8)),(p0 21))),(7,((.i IntKind.i64 (Int.ofNat 9)),(p0 22))),(8,((.i IntKind.i64 (Int.ofNat 10)),(p0 23)))])
def AN:ae:=(.bx 224 [(u64 1),bT,(u64 0),(sN 14 1 0 1),(u64 0),(u64 2)])
def AO:ae:=(.fl 22 1 1 [(sN 15 1 0 6)])
def AP:ae:=(.bx 217 [(u64 0),U,(u64 0),(i64 1),(u64 1),(i64 2),(u64 1),(u64 1),(u64 1),bT,(u64 2),(u64 0)])
def Hd:ae:=(.bx 64 [(i64 1),(u64 1),(sN 2 1 0 2),(u64 2),(sN 3 1 0 1),(sN 4 1 0 1),(p0 6),(p0 10),bT,(sN 22 1 0 1),(i64 1),(u64 1),(u64 1),(sN 23 2 0 1),U,U,(sN 24 6 0 1),bT,bF,(u64 0),(i64 0),(u64 0),U,U,(i64 0),(u64 0),(i64 0),(u64 0),(i64 0),(u64 0),U,U,U,U,(u64 0),(u64 0),bF,U,(i64 0),(i64 0),(u64 0),(u64 0),(i64 0),(u64 0),(u64 0),U,(u64 0),U,bF,U,bF,(u64 0),(i64 0),(u64 0),U,U,U,(u64 0),(i64 0),(u64 0),U,U,U,U,(i64 0),(i64 0),(u64 0),(u64 0),(i64 0),(u64 0),(u64 0),U,(u64 0),U,bF,bF,(i64 0),(u64 0)])
def AQ:ae:=(.bx 217 [(u64 0),U,(u64 1),(i64 1),(u64 1),(i64 2),(u64 1),(u64 1),(u64 1),bT,(u64 2),(u64 0)])
def hO:ae:=(.fl 5 1 13 [(u8 1),(u8 1),(u8 2),(u8 1),(u8 1),(u8 1),(u8 1),(u8 1),(u8 0),(u8 88),(u8 62),(u8 102),(u8 106)])
def iO:ae:=(.fl 410 4 1 [(i64 2),(u64 1),(u64 1),(u64 1)])
def bu:ae:=(.bx 545 [(u64 1),(u64 1),(u64 1)])
def dg:ae:=(.fl 5 1 9 [(u8 3),(u8 1),(u8 1),(u8 7),(u8 1),(u8 2),(u8 1),(u8 1),(u8 1)])
def iP:ae:=(.fl 5 1 23 [(u8 2),(u8 1),(u8 2),(u8 1),(u8 1),(u8 1),(u8 1),(u8 1),(u8 1),(u8 9),(u8 3),(u8 1),(u8 1),(u8 7),(u8 1),(u8 2),(u8 1),(u8 1),(u8 1),(u8 61),(u8 112),(u8 85),(u8 213)])
def Tc:ae:=(.fl 288 6 1 [(i64 1),(u64 1),(u64 1),(sN 3 2 0 1),U,U])
def Td:ae:=(.fl 294 6 1 [(i64 2),(u64 1),(u64 0),(u64 0),(u64 2),bF])
def bX:ae:=(.fl 294 6 1 [(i64 2),(u64 1),(u64 1),(u64 0),(u64 2),bF])
def az:ae:=(.fl 23 1 1 [(u64 1)])
def aW:ae:=(.fl 5 1 7 [(u8 4),(u8 1),(u8 1),(u8 1),(u8 1),(u8 2),(u8 1)])
def aT:ae:=(.fl 5 1 8 [(u8 5),(u8 2),(u8 1),(u8 1),(u8 1),(u8 2),(u8 1),(u8 1)])
def iQ:ae:=(.mf 220 1 [(0,((.i IntKind.i64 (Int.ofNat 2)),(p0 13)))])
def kr:ae:=(.fl 410 4 1 [(i64 2),(u64 1),(u64 1),(u64 0)])
def c9:ae:=(.fl 5 1 16 [(u8 2),(u8 1),(u8 1),(u8 7),(u8 1),(u8 2),(u8 1),(u8 1),(u8 7),(u8 4),(u8 1),(u8 1),(u8 1),(u8 1),(u8 2),(u8 1)])
def iR:ae:=(.fl 22 1 1 [(sN 3 1 0 9)])
def kt:ae:=(.fl 5 1 30 [(u8 2),(u8 1),(u8 2),(u8 1),(u8 1),(u8 1),(u8 1),(u8 1),(u8 2),(u8 16),(u8 2),(u8 1),(u8 1),(u8 7),(u8 1),(u8 2),(u8 1),(u8 1),(u8 7),(u8 4),(u8 1),(u8 1),(u8 1),(u8 1),(u8 2),(u8 1),(u8 196),(u8 158),(u8 29),(u8 204)])
def pv:ae:=(.bx 222 [(i64 1),(u64 1),(.mv 2),(.mv 14)])
def pw:ae:=(.mf 219 9 [(0,((.i IntKind.i64 (Int.ofNat 2)),(p0 3))),(1,((.i IntKind.i64 (Int.ofNat 3)),(p0 6))),(2,((.i IntKind.i64 (Int.ofNat 4)),(p0 7))),(3,((.i IntKind.i64 (Int.ofNat 5)),(p0 8))),(4,((.i IntKind.i64 (Int.ofNat 6)),(p0 9))),(5,((.i IntKind.i64 (Int.ofNat 7)),(p0 10))),(6,((.i IntKind.i64 (Int.ofNat 8)),(p0 11))),(7,((.i IntKind.i64 (Int.ofNat 9)),(p0 12))),(8,((.i IntKind.i64 (Int.ofNat 10)),(p0 13)))])
def AR:ae:=(.fl 22 1 1 [(sN 5 1 0 7)])
def px:ae:=(.mf 220 1 [(0,((.i IntKind.i64 (Int.ofNat 2)),(p0 15)))])
def jR:ae:=(.fl 410 4 1 [(i64 2),(u64 1),(u64 2),(u64 0)])
def cz:ae:=(.fl 5 1 17 [(u8 2),(u8 1),(u8 1),(u8 7),(u8 1),(u8 2),(u8 1),(u8 2),(u8 8),(u8 5),(u8 2),(u8 1),(u8 1),(u8 1),(u8 2),(u8 1),(u8 1)])
def PF:ae:=(.fl 22 1 2 [(sN 3 1 0 9),(sN 4 1 0 16)])
def lQ:ae:=(.fl 5 1 31 [(u8 2),(u8 1),(u8 2),(u8 1),(u8 1),(u8 1),(u8 1),(u8 1),(u8 3),(u8 17),(u8 2),(u8 1),(u8 1),(u8 7),(u8 1),(u8 2),(u8 1),(u8 2),(u8 8),(u8 5),(u8 2),(u8 1),(u8 1),(u8 1),(u8 2),(u8 1),(u8 1),(u8 55),(u8 252),(u8 163),(u8 196)])
def zS:ae:=(.bx 217 [(u64 1),U,(u64 0),(i64 2),(u64 1),(i64 1),(u64 1),(u64 1),(u64 1),bT,(u64 2),(u64 2)])
def zT:ae:=(.bx 217 [(u64 1),U,(u64 1),(i64 2),(u64 1),(i64 1),(u64 1),(u64 1),(u64 1),bT,(u64 2),(u64 2)])
def sD:ae:=(.fl 5 1 13 [(u8 1),(u8 2),(u8 1),(u8 1),(u8 1),(u8 1),(u8 1),(u8 1),(u8 0),(u8 105),(u8 204),(u8 39),(u8 9)])
def cC:ae:=(.bx 224 [(u64 1),bT,(u64 1),U,(u64 1),(u64 2)])
def Tf:Part:=⟨177,[(.ag [(i64 1),(u64 1)]),(sQ 1 1 0 2 2)],[gW,k0],(.tu [(p0 2),(i64 0)]),[gW,k0,(.bx 385 [(i64 1),(u64 1),(sN 3 1 0 2),(i64 1),(sQ 4 4 0 1 1),(.mv 5)]),k0,k1,k2]⟩
def Tg:Part:=⟨178,[(.ag [(i64 1),(u64 1)])],[gW],(.tu [(p0 1),(i64 0)]),[gW,k3,k4,k5,k5,k5,k5,k5,k5,k5,k5,k5,k6]⟩
def Th:Part:=⟨78,[(.ag [(sN 1 1 0 1),(i64 1),(u64 1),(u64 0),(sQ 2 2 0 1 1),U,U,U,bF,bF,(u64 0),(i64 0),(u64 0),U,U]),(sQ 3 2 0 1 1)],[gW,k7,k8,k8],(.tu [(.ag [(sN 4 1 0 1),(i64 1),(u64 1),(u64 1),(sN 5 2 0 1),U,U,(sN 6 6 0 1),bT,bF,(u64 0),(i64 0),(u64 0),U,U]),U]),[gW,k7,k8,k8,k7,k8,(.fl 288 6 1 [(i64 1),(u64 1),(u64 1),(sN 7 2 0 1),U,U]),k8]⟩
def Ti:Part:=⟨182,[(.ag [(i64 1),(u64 1)]),(i64 2)],[gW],(.tu [(p0 1),(i64 0)]),[gW,k9]⟩
def Tj:Part:=⟨30,[(.ag [(i64 1),(u64 1)]),U,(sQ 1 1 0 2 2)],[gW,k0],(p0 2),[gW,k0,(.bx 64 [(i64 1),(u64 1),(sN 3 1 0 2),(u64 0),(sN 4 1 0 1),(sN 5 1 0 1),(p0 7),(p0 11),bT,(sN 23 1 0 1),(i64 1),(u64 1),(u64 1),(sN 24 2 0 1),U,U,(sN 25 6 0 1),bT,bF,(u64 0),(i64 0),(u64 0),U,U,(i64 0),(u64 0),(i64 0),(u64 0),(i64 0),(u64 0),U,U,U,U,(u64 0),(u64 0),bF,U,(i64 0),(i64 0),(u64 0),(u64 0),(i64 0),(u64 0),(u64 0),U,(u64 0),U,bF,U,bF,(u64 0),(i64 0),(u64 0),U,U,U,(u64 0),(i64 0),(u64 0),U,U,U,U,(i64 0),(i64 0),(u64 0),(u64 0),(i64 0),(u64 0),(u64 0),U,(u64 0),U,bF,bF,(i64 0),(u64 0)]),k0,k7,bI,k9,(.bx 385 [(i64 1),(u64 1),(sN 8 1 0 2),(i64 1),(sQ 9 4 0 1 1),(.mv 10)]),k0,k1,k2,(.bx 222 [(i64 1),(u64 1),(.mv 12),(.mv 22)]),(.mf 219 9 [(0,((.i IntKind.i64 (Int.ofNat 2)),(p0 13))),(1,((.i IntKind.i64 (Int.ofNat 3)),(p0 14))),(2,((.i IntKind.i64 (Int.ofNat 4)),(p0 15))),(3,((.i IntKind.i64 (Int.ofNat 5)),(p0 16))),(4,((.i IntKind.i64 (Int.ofNat 6)),(p0 17))),(5,((.i IntKind.i64 (Int.ofNat 7)),(p0 18))),(6,((.i IntKind.i64 (Int.ofNat 8)),(p0 19))),(7,((.i IntKind.i64 (Int.ofNat 9)),(p0 20))),(8,((.i IntKind.i64 (Int.ofNat 10)),(p0 21)))]),k5,k5,k5,k5,k5,k5,k5,k5,k5,k6,k7,k8,(.fl 288 6 1 [(i64 1),(u64 1),(u64 1),(sN 26 2 0 1),U,U]),k8]⟩
def Tk:Part:=⟨177,[(.ag [(i64 2),(u64 1)]),(sQ 1 1 0 2 2)],[gW,k0],(.tu [(p0 2),(i64 0)]),[gW,k0,(.bx 385 [(i64 2),(u64 1),(sN 3 1 0 2),(i64 1),U,(.mv 4)]),k0,k2]⟩
def Tl:Part:=⟨178,[(.ag [(i64 2),(u64 1)])],[gW],(.tu [(p0 1),(i64 0)]),[gW,fE,fF,k5,k5,k5,k5,k5,k5,k5,k5,k5,k6]⟩
def Tn:Part:=⟨182,[(.ag [(i64 2),(u64 1)]),(i64 1)],[gW],(.tu [(p0 1),(i64 0)]),[gW,kl]⟩
def To:Part:=⟨32,[(.ag [(i64 2),(u64 1)]),(sQ 1 1 0 2 2)],[gW,k0],(p0 2),[gW,k0,(.bx 64 [(i64 2),(u64 1),(sN 3 1 0 2),(u64 0),(sN 4 1 0 1),(sN 5 1 0 1),(p0 7),(p0 10),bF,U,(i64 0),(u64 0),(u64 0),U,U,U,U,bF,bF,(u64 0),(i64 0),(u64 0),U,U,(i64 2),(u64 1),(i64 0),(u64 0),(i64 2),(u64 1),(sN 22 2 0 1),(sN 23 1 0 1),(sQ 24 1 0 1 1),(sQ 25 1 0 1 1),(u64 0),(u64 0),bF,U,(i64 0),(i64 0),(u64 0),(u64 0),(i64 0),(u64 0),(u64 0),U,(u64 0),U,bF,U,bF,(u64 0),(i64 0),(u64 0),U,U,U,(u64 0),(i64 0),(u64 0),U,U,U,U,(i64 0),(i64 0),(u64 0),(u64 0),(i64 0),(u64 0),(u64 0),U,(u64 0),U,bF,bF,(i64 0),(u64 0)]),k0,a9,bI,kl,(.bx 385 [(i64 2),(u64 1),(sN 8 1 0 2),(i64 1),U,(.mv 9)]),k0,k2,(.bx 222 [(i64 2),(u64 1),(.mv 11),(.mv 21)]),(.mf 219 9 [(0,((.i IntKind.i64 (Int.ofNat 1)),(p0 12))),(1,((.i IntKind.i64 (Int.ofNat 3)),(p0 13))),(2,((.i IntKind.i64 (Int.ofNat 4)),(p0 14))),(3,((.i IntKind.i64 (Int.ofNat 5)),(p0 15))),(4,((.i IntKind.i64 (Int.ofNat 6)),(p0 16))),(5,((.i IntKind.i64 (Int.ofNat 7)),(p0 17))),(6,((.i IntKind.i64 (Int.ofNat 8)),(p0 18))),(7,((.i IntKind.i64 (Int.ofNat 9)),(p0 19))),(8,((.i IntKind.i64 (Int.ofNat 10)),(p0 20)))]),k5,k5,k5,k5,k5,k5,k5,k5,k5,k6,af,ay,aK,ay]⟩
def Tp:Part:=⟨30,[(.ag [(i64 2),(u64 1)]),U,(sQ 1 1 0 2 2)],[gW,k0],nP,[gW,k0]⟩
def PG:Part:=⟨132,[(p0 1),(sN 13 1 0 2)],[gW,fE,fF,k5,k5,k5,k5,k5,k5,k5,k5,k5,k6,S2],(.tu []),[gW,fE,fF,wj,k5,k5,k5,k5,k5,k5,k5,k5,k6,S2]⟩
def PH:Part:=⟨94,[(.ag [(i64 1),(i64 2),(u64 1),(u64 0),(u64 0),U,(u64 0),(i64 0),(u64 0),U,U])],[gW],(.tu [(sN 1 1 0 6),(i64 0)]),[gW,b4]⟩
def PI:Part:=⟨209,[(p0 1),(u64 0),(sN 13 1 0 6),(sN 14 1 0 1)],[gW,fE,fF,wj,k5,k5,k5,k5,k5,k5,k5,k5,k6,b4,a9],(.tu [(.ag [(sN 15 10 0 1),U,U]),(i64 0)]),[gW,fE,fF,(.bx 224 [(u64 1),bT,(u64 0),(sN 18 1 0 1),(u64 0),(u64 0)]),k5,k5,k5,k5,k5,k5,k5,k5,k6,b4,a9,S3,hC,b4,(.fl 22 1 1 [(sN 19 1 0 6)]),b4]⟩
def PJ:Part:=⟨119,[(p0 1),(.ag [(i64 2),(i64 2),(u64 1),(i64 8),(sN 4 4 0 1),(sN 5 1 0 6),(i64 0),(u64 0),(u64 0),U])],[gW,dF,k0,k2,hC,b4],(.ag [U,U,U]),[gW,dF,k0,k2,hC,b4]⟩
def PK:Part:=⟨10,[(p0 1)],[gW,(.bx 64 [(i64 2),(u64 1),(sN 2 1 0 2),(u64 0),(sN 3 1 0 1),(sN 4 1 0 1),(p0 6),(p0 9),bF,U,(i64 0),(u64 0),(u64 0),U,U,U,U,bF,bF,(u64 0),(i64 0),(u64 0),U,U,(i64 2),(u64 1),(i64 0),(u64 0),(i64 2),(u64 1),(sN 21 2 0 1),(sN 22 1 0 1),(sQ 23 1 0 1 1),(sQ 24 1 0 1 1),(u64 0),(u64 0),bF,U,(i64 0),(i64 0),(u64 0),(u64 0),(i64 0),(u64 0),(u64 0),U,(u64 0),U,bF,U,bF,(u64 0),(i64 0),(u64 0),U,U,U,(u64 0),(i64 0),(u64 0),U,U,U,U,(i64 0),(i64 0),(u64 0),(u64 0),(i64 0),(u64 0),(u64 0),U,(u64 0),U,bF,bF,(i64 0),(u64 0)]),k0,a9,aZ,kl,eF,k0,k2,l7,l8,k5,k5,k5,k5,k5,k5,k5,k5,k5,k6,af,ay,aK,ay],(.tu [(.ag [U,U]),(i64 0)]),[gW,(.bx 64 [(i64 2),(u64 1),(sN 2 1 0 2),(u64 0),(sN 3 1 0 1),(sN 4 1 0 1),(p0 6),(p0 9),bF,U,(i64 0),(u64 0),(u64 0),U,U,U,U,bF,bF,(u64 0),(i64 0),(u64 0),U,U,(i64 2),(u64 1),(i64 0),(u64 0),(i64 2),(u64 1),(sN 21 2 0 1),(sN 22 1 0 1),(sQ 23 1 0 1 1),(sQ 24 1 0 1 1),(u64 0),(u64 0),bF,U,(i64 0),(i64 0),(u64 0),(u64 0),(i64 0),(u64 0),(u64 0),U,(u64 0),U,bF,U,bF,(u64 0),(i64 0),(u64 0),U,U,U,(u64 0),(i64 0),(u64 0),U,U,U,U,(i64 0),(i64 0),(u64 0),(u64 0),(i64 0),(u64 0),(u64 0),U,(u64 0),U,bF,bT,(i64 0),(u64 0)]),k0,a9,aZ,kl,eF,k0,k2,l7,l8,(.bx 224 [(u64 1),bT,(u64 0),(sN 25 1 0 1),(u64 0),(u64 0)]),k5,k5,k5,k5,k5,k5,k5,k5,k6,af,ay,aK,ay,(.fl 22 1 1 [(sN 26 1 0 6)]),b4]⟩
def PL:Part:=⟨10,[(p0 1)],[gW,G6,k0,a9,aZ,kl,eF,k0,k2,iJ,iK,lr,iL,b4,k5,k5,k5,k5,k5,k5,k5,k5,k6,af,ay,aK,ay],(.tu [(.ag [U,U]),(i64 6)]),[gW,G6,k0,a9,aZ,kl,eF,k0,k2,iJ,iK,lr,iL,b4,k5,k5,k5,k5,k5,k5,k5,k5,k6,af,ay,aK,ay]⟩
def PM:Part:=⟨46,[(p0 1),(u64 1)],[gW,k9],(.ag [(sN 2 10 0 1),U]),[gW,k9,(.fl 127 10 1 [(i64 1),(i64 1),(i64 2),(u64 1),(u64 1),(u64 0),(u64 0),(u64 0),(u64 0),U])]⟩
def PN:Part:=⟨104,[(.ag [(i64 1),(i64 1),(i64 2),(u64 1),(u64 1),(u64 0),(u64 0),(u64 0),(u64 0),U])],[gW],(.tu [(sQ 1 1 0 13 13),(i64 0)]),[gW,tB]⟩
def PO:Part:=⟨48,[(p0 1),(u64 1)],[gW,k3,k4,k5,k5,k5,k5,k5,k5,k5,k5,k5,k6],(.ag [U,U,U]),[gW,k3,k4,k5,k5,k5,k5,k5,k5,k5,k5,k5,k6]⟩
def PQ:Part:=⟨52,[(.ag [(sN 1 1 0 1),(i64 1),(u64 1),(u64 1),(sN 2 2 0 1),U,U,(sN 3 6 0 1),bT,bF,(u64 0),(i64 0),(u64 0),U,U]),(u64 1)],[gW,k7,k8,tC,k8],(.tu [(.ag [(sN 5 1 0 1),(i64 1),(u64 1),(u64 1),(sN 6 2 0 1),U,U,(sN 7 6 0 1),bT,bF,(u64 0),(i64 0),(u64 0),U,U]),U]),[gW,k7,k8,tC,k8,k7,k8,S4,k8]⟩
def PR:Part:=⟨132,[(p0 1),(sQ 13 1 0 0 0)],[gW,k3,k4,k5,k5,k5,k5,k5,k5,k5,k5,k5,k6,S5],(.tu []),[gW,k3,k4,k5,k5,k5,k5,k5,k5,k5,k5,k5,k6,S5]⟩
def PS:Part:=⟨16,[(p0 1)],[gW,(.bx 64 [(i64 1),(u64 1),(sN 2 1 0 2),(u64 0),(sN 3 1 0 1),(sN 4 1 0 1),(p0 6),(p0 10),bT,(sN 22 1 0 1),(i64 1),(u64 1),(u64 1),(sN 23 2 0 1),U,U,(sN 24 6 0 1),bT,bF,(u64 0),(i64 0),(u64 0),U,U,(i64 0),(u64 0),(i64 0),(u64 0),(i64 0),(u64 0),U,U,U,U,(u64 0),(u64 0),bF,U,(i64 0),(i64 0),(u64 0),(u64 0),(i64 0),(u64 0),(u64 0),U,(u64 0),U,bF,U,bF,(u64 0),(i64 0),(u64 0),U,U,U,(u64 0),(i64 0),(u64 0),U,U,U,U,(i64 0),(i64 0),(u64 0),(u64 0),(i64 0),(u64 0),(u64 0),U,(u64 0),U,bF,bF,(i64 0),(u64 0)]),k0,k7,aZ,k9,eY,k0,k1,k2,fq,ft,k5,k5,k5,k5,k5,k5,k5,k5,k5,k6,k7,k8,iM,k8],(.ag [(sN 26 2 0 1),U]),[gW,(.bx 64 [(i64 1),(u64 1),(sN 2 1 0 2),(u64 1),(sN 3 1 0 1),(sN 4 1 0 1),(p0 6),(p0 10),bT,(sN 28 1 0 1),(i64 1),(u64 1),(u64 1),(sN 29 2 0 1),U,U,(sN 30 6 0 1),bT,bF,(u64 0),(i64 0),(u64 0),U,U,(i64 0),(u64 0),(i64 0),(u64 0),(i64 0),(u64 0),U,U,U,U,(u64 0),(u64 0),bF,U,(i64 0),(i64 0),(u64 0),(u64 0),(i64 0),(u64 0),(u64 0),U,(u64 0),U,bF,U,bF,(u64 0),(i64 0),(u64 0),U,U,U,(u64 0),(i64 0),(u64 0),U,U,U,U,(i64 0),(i64 0),(u64 0),(u64 0),(i64 0),(u64 0),(u64 0),U,(u64 0),U,bF,bF,(i64 0),(u64 0)]),k0,k7,aZ,k9,eY,k0,k1,k2,fq,ft,k5,k5,k5,k5,k5,k5,k5,k5,k5,k6,k7,k8,iM,k8,S6,tB,k7,k8,S7,k8]⟩
def PT:Part:=⟨46,[(p0 1),(u64 1)],[gW,kl],(.ag [(sN 2 10 0 1),U]),[gW,kl,(.fl 127 10 1 [(i64 1),(i64 2),(i64 1),(u64 1),(u64 1),(u64 0),(u64 0),(u64 0),(u64 0),U])]⟩
def PU:Part:=⟨104,[(.ag [(i64 1),(i64 2),(i64 1),(u64 1),(u64 1),(u64 0),(u64 0),(u64 0),(u64 0),U])],[gW],(.tu [(sQ 1 1 0 13 13),(i64 0)]),[gW,tD]⟩
def PV:Part:=⟨48,[(p0 1),(u64 1)],[gW,fU,fV,G7,tE,b4,k5,k5,k5,k5,k5,k5,k5,k5,k6],(.ag [U,U,U]),[gW,fU,fV,G7,tE,b4,k5,k5,k5,k5,k5,k5,k5,k5,k6]⟩
def PW:Part:=⟨16,[(p0 1)],[gW,G6,k0,a9,aZ,kl,eF,k0,k2,iJ,iK,lr,iL,b4,k5,k5,k5,k5,k5,k5,k5,k5,k6,af,ay,aK,ay],(.ag [(sN 27 2 0 1),U]),[gW,po,k0,a9,aZ,kl,eF,k0,k2,iJ,iK,lr,iL,b4,k5,k5,k5,k5,k5,k5,k5,k5,k6,af,ay,aK,ay,(.fl 104 2 1 [(i64 1),(sQ 28 1 0 13 13)]),tD]⟩
def PX:Part:=⟨43,[(sQ 1 1 0 13 13)],[gW,tB],(.tu [(.ag [(i64 1),(i64 1),(i64 2),(u64 1),(u64 1),(u64 0),(u64 0),(u64 0),(u64 0),U]),(i64 0)]),[gW,tB]⟩
def PY:Part:=⟨45,[(p0 1),(u64 1),(.ag [(i64 1),(i64 1),(i64 2),(u64 1),(u64 1),(u64 0),(u64 0),(u64 0),(u64 0),U])],[gW,kl],(.ag [(sN 2 10 0 1),U]),[gW,AI,G8]⟩
def PZ:Part:=⟨104,[(.ag [(i64 1),(i64 2),(i64 1),(u64 1),(u64 1),(u64 1),(u64 1),(u64 0),(u64 0),U])],[gW],(.tu [(sQ 1 1 0 13 13),(i64 0)]),[gW,km]⟩
def P0:Part:=⟨15,[(p0 1),(i64 1),(sQ 27 1 0 13 13)],[gW,po,k0,a9,aZ,kl,eF,k0,k2,iJ,iK,lr,iL,b4,k5,k5,k5,k5,k5,k5,k5,k5,k6,af,ay,aK,ay,tB],(.ag [(sN 28 2 0 1),U]),[gW,po,k0,a9,aZ,AI,eF,k0,k2,iJ,iK,lr,iL,b4,k5,k5,k5,k5,k5,k5,k5,k5,k6,af,ay,aK,ay,tB,G9,km]⟩
def P1:Part:=⟨43,[(sQ 1 1 0 13 13)],[gW,tD],(.tu [(.ag [(i64 1),(i64 2),(i64 1),(u64 1),(u64 1),(u64 0),(u64 0),(u64 0),(u64 0),U]),(i64 0)]),[gW,tD]⟩
def P2:Part:=⟨45,[(p0 1),(u64 1),(.ag [(i64 1),(i64 2),(i64 1),(u64 1),(u64 1),(u64 0),(u64 0),(u64 0),(u64 0),U])],[gW,k9],(.ag [(sN 2 10 0 1),U]),[gW,AJ,Ha]⟩
def P3:Part:=⟨104,[(.ag [(i64 1),(i64 1),(i64 2),(u64 1),(u64 1),(u64 1),(u64 1),(u64 0),(u64 0),U])],[gW],(.tu [(sQ 1 1 0 13 13),(i64 0)]),[gW,ko]⟩
def P4:Part:=⟨15,[(p0 1),(i64 2),(sQ 26 1 0 13 13)],[gW,qS,k0,k7,aZ,k9,eY,k0,k1,k2,fq,ft,k5,k5,k5,k5,k5,k5,k5,k5,k5,k6,k7,k8,iM,k8,tD],(.ag [(sN 27 2 0 1),U]),[gW,qS,k0,k7,aZ,AJ,eY,k0,k1,k2,fq,ft,k5,k5,k5,k5,k5,k5,k5,k5,k5,k6,k7,k8,iM,k8,tD,S8,ko]⟩
def P5:Part:=⟨43,[(sQ 1 1 0 13 13)],[gW,ko],(.tu [(.ag [(i64 1),(i64 1),(i64 2),(u64 1),(u64 1),(u64 1),(u64 1),(u64 0),(u64 0),U]),(i64 0)]),[gW,ko]⟩
def P6:Part:=⟨45,[(p0 1),(u64 1),(.ag [(i64 1),(i64 1),(i64 2),(u64 1),(u64 1),(u64 1),(u64 1),(u64 0),(u64 0),U])],[gW,AI],(.ag [(sN 2 10 0 1),(sN 3 4 0 1)]),[gW,l9,G8,(.fl 241 4 1 [(i64 1),(i64 1),(u64 1),U])]⟩
def P7:Part:=⟨106,[(p0 1),(.ag [(i64 1),(u64 1)])],[gW,dF,k0,k2],(.ag [U,U,U]),[gW,dF,k0,aX]⟩
def P8:Part:=⟨15,[(p0 1),(i64 1),(sQ 27 1 0 13 13)],[gW,po,k0,a9,aZ,AI,eF,k0,k2,iJ,iK,lr,iL,b4,k5,k5,k5,k5,k5,k5,k5,k5,k6,af,ay,aK,ay,ko],(.ag [(sN 28 2 0 1),U]),[gW,po,k0,a9,aZ,l9,eF,k0,aX,iJ,iK,lr,iL,b4,k5,k5,k5,k5,k5,k5,k5,k5,k6,af,ay,aK,ay,ko,G9,km]⟩
def P9:Part:=⟨43,[(sQ 1 1 0 13 13)],[gW,km],(.tu [(.ag [(i64 1),(i64 2),(i64 1),(u64 1),(u64 1),(u64 1),(u64 1),(u64 0),(u64 0),U]),(i64 0)]),[gW,km]⟩
def Qa:Part:=⟨45,[(p0 1),(u64 1),(.ag [(i64 1),(i64 2),(i64 1),(u64 1),(u64 1),(u64 1),(u64 1),(u64 0),(u64 0),U])],[gW,AJ],(.ag [(sN 2 10 0 1),(sN 3 4 0 1)]),[gW,kq,Ha,(.fl 241 4 1 [(i64 1),(i64 2),(u64 1),U])]⟩
def Qb:Part:=⟨106,[(p0 1),(.ag [(i64 2),(u64 1)])],[gW,dG,k0,k1,k2],(.ag [U,U,(sN 5 4 0 1)]),[gW,dG,k0,k1,aY,(.fl 273 4 1 [(i64 2),(i64 2),(u64 1),U])]⟩
def Qc:Part:=⟨15,[(p0 1),(i64 2),(sQ 26 1 0 13 13)],[gW,qS,k0,k7,aZ,AJ,eY,k0,k1,k2,fq,ft,k5,k5,k5,k5,k5,k5,k5,k5,k5,k6,k7,k8,iM,k8,km],(.ag [(sN 27 2 0 1),U]),[gW,qS,k0,k7,aZ,kq,eY,k0,k1,aY,fq,ft,k5,k5,k5,k5,k5,k5,k5,k5,k5,k6,k7,k8,iM,k8,km,S8,ko]⟩
def Qd:Part:=⟨45,[(p0 1),(u64 1),(.ag [(i64 1),(i64 1),(i64 2),(u64 1),(u64 1),(u64 1),(u64 1),(u64 0),(u64 0),U])],[gW,l9],(.ag [U,U]),[gW,l9]⟩
def Qe:Part:=⟨15,[(p0 1),(i64 1),(sQ 27 1 0 13 13)],[gW,po,k0,a9,aZ,l9,eF,k0,aX,iJ,iK,lr,iL,b4,k5,k5,k5,k5,k5,k5,k5,k5,k6,af,ay,aK,ay,ko],(.ag [U,U]),[gW,po,k0,a9,aZ,l9,eF,k0,aX,iJ,iK,lr,iL,b4,k5,k5,k5,k5,k5,k5,k5,k5,k6,af,ay,aK,ay,ko]⟩
def Qf:Part:=⟨45,[(p0 1),(u64 1),(.ag [(i64 1),(i64 2),(i64 1),(u64 1),(u64 1),(u64 1),(u64 1),(u64 0),(u64 0),U])],[gW,kq],(.ag [U,U]),[gW,kq]⟩
def Qg:Part:=⟨15,[(p0 1),(i64 2),(sQ 26 1 0 13 13)],[gW,qS,k0,k7,aZ,kq,eY,k0,k1,aY,fq,ft,k5,k5,k5,k5,k5,k5,k5,k5,k5,k6,k7,k8,iM,k8,km],(.ag [U,U]),[gW,qS,k0,k7,aZ,kq,eY,k0,k1,aY,fq,ft,k5,k5,k5,k5,k5,k5,k5,k5,k5,k6,k7,k8,iM,k8,km]⟩
def Qh:Part:=⟨46,[(p0 1),(u64 2)],[gW,kq],(.ag [(sN 2 10 0 1),U]),[gW,kq,Ha]⟩
def Qi:Part:=⟨48,[(p0 1),(u64 2)],[gW,k3,k4,k5,k5,k5,k5,k5,k5,k5,k5,k5,k6],(.ag [U,U,U]),[gW,k3,k4,k5,k5,k5,k5,k5,k5,k5,k5,k5,k6]⟩
def Qj:Part:=⟨52,[(.ag [(sN 1 1 0 1),(i64 1),(u64 1),(u64 1),(sN 2 2 0 1),U,U,(sN 3 6 0 1),bT,bF,(u64 0),(i64 0),(u64 0),U,U]),(u64 2)],[gW,k7,k8,tC,k8],(.tu [(.ag [(sN 5 1 0 1),(i64 1),(u64 1),(u64 1),(sN 6 2 0 1),U,U,(sN 7 6 0 1),bT,bF,(u64 0),(i64 0),(u64 0),U,U]),U]),[gW,k7,k8,tC,k8,k7,k8,S4,k8]⟩
def Qk:Part:=⟨16,[(p0 1)],[gW,qS,k0,k7,aZ,kq,eY,k0,k1,aY,fq,ft,k5,k5,k5,k5,k5,k5,k5,k5,k5,k6,k7,k8,iM,k8],(.ag [(sN 26 2 0 1),U]),[gW,(.bx 64 [(i64 1),(u64 1),(sN 2 1 0 2),(u64 2),(sN 3 1 0 1),(sN 4 1 0 1),(p0 6),(p0 10),bT,(sN 28 1 0 1),(i64 1),(u64 1),(u64 1),(sN 29 2 0 1),U,U,(sN 30 6 0 1),bT,bF,(u64 0),(i64 0),(u64 0),U,U,(i64 0),(u64 0),(i64 0),(u64 0),(i64 0),(u64 0),U,U,U,U,(u64 0),(u64 0),bF,U,(i64 0),(i64 0),(u64 0),(u64 0),(i64 0),(u64 0),(u64 0),U,(u64 0),U,bF,U,bF,(u64 0),(i64 0),(u64 0),U,U,U,(u64 0),(i64 0),(u64 0),U,U,U,U,(i64 0),(i64 0),(u64 0),(u64 0),(i64 0),(u64 0),(u64 0),U,(u64 0),U,bF,bF,(i64 0),(u64 0)]),k0,k7,aZ,kq,eY,k0,k1,aY,fq,ft,k5,k5,k5,k5,k5,k5,k5,k5,k5,k6,k7,k8,iM,k8,S6,ko,k7,k8,S7,k8]⟩
def Ql:Part:=⟨46,[(p0 1),(u64 2)],[gW,l9],(.ag [(sN 2 10 0 1),U]),[gW,l9,G8]⟩
def Qm:Part:=⟨48,[(p0 1),(u64 2)],[gW,fU,fV,G7,tE,b4,k5,k5,k5,k5,k5,k5,k5,k5,k6],(.ag [(sN 15 10 0 1),U,U]),[gW,fU,fV,Hb,tE,b4,k5,k5,k5,k5,k5,k5,k5,k5,k6,S3,hC,b4]⟩
def Qn:Part:=⟨119,[(p0 1),(.ag [(i64 2),(i64 2),(u64 1),(i64 8),(sN 4 4 0 1),(sN 5 1 0 6),(i64 0),(u64 0),(u64 0),U])],[gW,dF,k0,aX,hC,b4],(.ag [(sN 6 11 0 1),U,U]),[gW,dF,k0,aX,hC,b4,(.fl 267 11 1 [(i64 1),(i64 2),(i64 2),(u64 1),(i64 7),(sN 7 4 0 1),(sN 8 1 0 6),(i64 0),(u64 0),(u64 0),U]),hC,b4]⟩
def Qo:Part:=⟨124,[(.ag [(i64 2),(i64 2),(u64 1),(i64 7),(sN 1 4 0 1),(sN 2 1 0 6),(i64 0),(u64 0),(u64 0),U])],[gW,hC,b4],(.tu [(sN 3 1 0 15),(i64 0)]),[gW,hC,b4,eM]⟩
def Qp:Part:=⟨125,[(p0 1),(u64 2),(sN 2 1 0 15)],[gW,l9,eM],(.tu [(.ag [(sN 3 10 0 1),U]),(i64 0)]),[gW,(.bx 217 [(u64 0),(sN 5 1 0 1),(u64 0),(i64 2),(u64 1),(i64 1),(u64 1),(u64 1),(u64 1),bT,(u64 1),(u64 2)]),eM,(.fl 127 10 1 [(i64 2),(i64 2),(i64 1),(u64 1),(u64 1),(u64 1),(u64 1),(u64 0),(u64 1),(sN 4 1 0 15)]),eM,(.fl 22 1 1 [(sN 6 1 0 15)]),eM]⟩
def Qq:Part:=⟨104,[(.ag [(i64 2),(i64 2),(i64 1),(u64 1),(u64 1),(u64 1),(u64 1),(u64 0),(u64 1),(sN 1 1 0 15)])],[gW,eM],(.tu [(sQ 2 1 0 29 29),(i64 0)]),[gW,eM,tF]⟩
def Qr:Part:=⟨16,[(p0 1)],[gW,po,k0,a9,aZ,l9,eF,k0,aX,iJ,iK,lr,iL,b4,k5,k5,k5,k5,k5,k5,k5,k5,k6,af,ay,aK,ay],(.ag [(sN 27 2 0 2),U]),[gW,Hc,k0,a9,aZ,(.bx 217 [(u64 0),(sN 30 1 0 1),(u64 0),(i64 2),(u64 1),(i64 1),(u64 1),(u64 1),(u64 1),bT,(u64 1),(u64 2)]),eF,k0,aX,iJ,iK,S9,iL,b4,k5,k5,k5,k5,k5,k5,k5,k5,k6,af,ay,aK,ay,(.fl 104 2 2 [(i64 1),(sQ 28 1 0 13 13),(i64 1),(sQ 29 1 0 29 29)]),km,tF,Ta,eM]⟩
def Qs:Part:=⟨45,[(p0 1),(u64 2),(.ag [(i64 1),(i64 1),(i64 2),(u64 1),(u64 1),(u64 1),(u64 1),(u64 0),(u64 0),U])],[gW,(.bx 217 [(u64 0),(sN 2 1 0 1),(u64 0),(i64 2),(u64 1),(i64 1),(u64 1),(u64 1),(u64 1),bT,(u64 1),(u64 2)]),AK,eM],(.ag [U,U]),[gW,(.bx 217 [(u64 0),(sN 4 1 0 1),(u64 0),(i64 2),(u64 1),(i64 1),(u64 1),(u64 1),(u64 1),bT,(u64 2),(u64 2)]),AK,eM,(.fl 22 1 1 [(sN 5 1 0 15)]),eM]⟩
def Qt:Part:=⟨15,[(p0 1),(i64 1),(sQ 29 1 0 13 13)],[gW,AL,k0,a9,aZ,(.bx 217 [(u64 0),(sN 6 1 0 1),(u64 0),(i64 2),(u64 1),(i64 1),(u64 1),(u64 1),(u64 1),bT,(u64 1),(u64 2)]),AM,eM,iN,k0,aX,pq,pr,AN,AO,b4,k5,k5,k5,k5,k5,k5,k5,k5,k6,af,ay,aK,ay,ko],(.ag [U,U]),[gW,AL,k0,a9,aZ,(.bx 217 [(u64 0),(sN 30 1 0 1),(u64 0),(i64 2),(u64 1),(i64 1),(u64 1),(u64 1),(u64 1),bT,(u64 2),(u64 2)]),AM,eM,iN,k0,aX,pq,pr,AN,AO,b4,k5,k5,k5,k5,k5,k5,k5,k5,k6,af,ay,aK,ay,ko,Ta,eM]⟩
def Qu:Part:=⟨45,[(p0 1),(u64 2),(.ag [(i64 1),(i64 2),(i64 1),(u64 1),(u64 1),(u64 1),(u64 1),(u64 0),(u64 0),U])],[gW,kq],(.ag [U,U]),[gW,AP]⟩
def Qv:Part:=⟨15,[(p0 1),(i64 2),(sQ 26 1 0 13 13)],[gW,Hd,k0,k7,aZ,kq,eY,k0,k1,aY,fq,ft,k5,k5,k5,k5,k5,k5,k5,k5,k5,k6,k7,k8,iM,k8,km],(.ag [U,U]),[gW,Hd,k0,k7,aZ,AP,eY,k0,k1,aY,fq,ft,k5,k5,k5,k5,k5,k5,k5,k5,k5,k6,k7,k8,iM,k8,km]⟩
def Qw:Part:=⟨43,[(sQ 1 1 0 29 29)],[gW,tF],(.tu [(.ag [(i64 2),(i64 2),(i64 1),(u64 1),(u64 1),(u64 1),(u64 1),(u64 0),(u64 1),(.d (.ro 1 [[(.v (.int IntKind.u8 (Int.ofNat 2)))],[(.v (.int IntKind.u8 (Int.ofNat 2)))],[(.v (.int IntKind.u8 (Int.ofNat 1)))],[(.v (.int IntKind.u8 (Int.ofNat 7)))],[(.v (.int IntKind.u8 (Int.ofNat 1)))],[(.v (.int IntKind.u8 (Int.ofNat 1)))],[(.v (.int IntKind.u8 (Int.ofNat 1)))],[(.v (.int IntKind.u8 (Int.ofNat 1)))],[(.v (.int IntKind.u8 (Int.ofNat 6)))],[(.v (.int IntKind.u8 (Int.ofNat 1)))],[(.v (.int IntKind.u8 (Int.ofNat 2)))],[(.v (.int IntKind.u8 (Int.ofNat 1)))],[(.v (.int IntKind.u8 (Int.ofNat 0)))],[(.v (.int IntKind.u8 (Int.ofNat 0)))],[(.v (.int IntKind.u8 (Int.ofNat 0)))]]))]),(i64 0)]),[gW,tF]⟩
def Qx:Part:=⟨45,[(p0 1),(u64 2),(.ag [(i64 2),(i64 2),(i64 1),(u64 1),(u64 1),(u64 1),(u64 1),(u64 0),(u64 1),(.d (.ro 1 [[(.v (.int IntKind.u8 (Int.ofNat 2)))],[(.v (.int IntKind.u8 (Int.ofNat 2)))],[(.v (.int IntKind.u8 (Int.ofNat 1)))],[(.v (.int IntKind.u8 (Int.ofNat 7)))],[(.v (.int IntKind.u8 (Int.ofNat 1)))],[(.v (.int IntKind.u8 (Int.ofNat 1)))],[(.v (.int IntKind.u8 (Int.ofNat 1)))],[(.v (.int IntKind.u8 (Int.ofNat 1)))],[(.v (.int IntKind.u8 (Int.ofNat 6)))],[(.v (.int IntKind.u8 (Int.ofNat 1)))],[(.v (.int IntKind.u8 (Int.ofNat 2)))],[(.v (.int IntKind.u8 (Int.ofNat 1)))],[(.v (.int IntKind.u8 (Int.ofNat 0)))],[(.v (.int IntKind.u8 (Int.ofNat 0)))],[(.v (.int IntKind.u8 (Int.ofNat 0)))]]))])],[gW,AP],(.ag [(sN 2 10 0 1),(sN 3 4 0 1)]),[gW,AQ,(.fl 127 10 1 [(i64 1),(i64 1),(i64 2),(u64 1),(u64 1),(u64 1),(u64 1),(u64 1),(u64 0),U]),(.fl 241 4 1 [(i64 3),(i64 2),(u64 1),(sN 4 1 0 15)]),eM]⟩
def Qy:Part:=⟨104,[(.ag [(i64 1),(i64 1),(i64 2),(u64 1),(u64 1),(u64 1),(u64 1),(u64 1),(u64 0),U])],[gW],(.tu [(sQ 1 1 0 13 13),(i64 0)]),[gW,hO]⟩
def Qz:Part:=⟨108,[(sN 1 1 0 15)],[gW,eM],(.tu [(.ag [(i64 2),(i64 2),(u64 1),(i64 7),(sN 2 4 0 1),(.d (.ro 1 [[(.v (.int IntKind.u8 (Int.ofNat 1)))],[(.v (.int IntKind.u8 (Int.ofNat 2)))],[(.v (.int IntKind.u8 (Int.ofNat 1)))],[(.v (.int IntKind.u8 (Int.ofNat 0)))],[(.v (.int IntKind.u8 (Int.ofNat 0)))],[(.v (.int IntKind.u8 (Int.ofNat 0)))]])),(i64 0),(u64 0),(u64 0),U]),(i64 0)]),[gW,eM,hC]⟩
def QA:Part:=⟨109,[(p0 1),(i64 2),(.ag [(i64 2),(i64 2),(u64 1),(i64 7),(sN 5 4 0 1),(.d (.ro 1 [[(.v (.int IntKind.u8 (Int.ofNat 1)))],[(.v (.int IntKind.u8 (Int.ofNat 2)))],[(.v (.int IntKind.u8 (Int.ofNat 1)))],[(.v (.int IntKind.u8 (Int.ofNat 0)))],[(.v (.int IntKind.u8 (Int.ofNat 0)))],[(.v (.int IntKind.u8 (Int.ofNat 0)))]])),(i64 0),(u64 0),(u64 0),U])],[gW,dG,k0,k1,aY,hC],(.ag [U,(sN 6 10 0 1),U]),[gW,dG,k0,k1,aY,hC,(.fl 31 10 1 [(i64 2),(i64 2),(u64 1),(i64 7),(sQ 7 4 0 1 1),(sN 8 1 0 6),(i64 0),(u64 0),(u64 0),U]),hC,b4]⟩
def QB:Part:=⟨126,[(p0 1),(u64 2),(.ag [(i64 2),(i64 2),(u64 1),(i64 7),(sQ 13 4 0 1 1),(sN 14 1 0 6),(i64 0),(u64 0),(u64 0),U])],[gW,k3,k4,k5,k5,k5,k5,k5,k5,k5,k5,k5,k6,hC,b4],(.ag [(sN 15 10 0 1),(sN 17 3 0 1),U]),[gW,k3,k4,k5,k5,k5,k5,k5,k5,k5,k5,k5,(.mf 220 1 [(0,((.i IntKind.i64 (Int.ofNat 2)),(p0 19)))]),hC,b4,(.fl 31 10 1 [(i64 3),(i64 1),(u64 1),(i64 8),(sQ 16 4 0 1 1),U,(i64 0),(u64 0),(u64 0),U]),iO,(.fl 263 3 1 [(i64 2),(u64 1),(sN 18 1 0 6)]),b4,bu]⟩
def QC:Part:=⟨119,[(p0 1),(.ag [(i64 3),(i64 1),(u64 1),(i64 8),(sQ 5 4 0 1 1),U,(i64 0),(u64 0),(u64 0),U])],[gW,dG,k0,k1,aY,iO],(.ag [(sN 6 11 0 1),U,U]),[gW,dG,k0,k1,aY,iO,(.fl 267 11 1 [(i64 2),(i64 3),(i64 1),(u64 1),(i64 7),(sN 7 4 0 1),U,(i64 0),(u64 0),(u64 0),U]),iO]⟩
def QD:Part:=⟨124,[(.ag [(i64 3),(i64 1),(u64 1),(i64 7),(sN 1 4 0 1),U,(i64 0),(u64 0),(u64 0),U])],[gW,iO],(.tu [(sN 2 1 0 9),(i64 0)]),[gW,iO,dg]⟩
def QE:Part:=⟨125,[(p0 1),(u64 2),(sN 2 1 0 9)],[gW,AQ,dg],(.tu [(.ag [(sN 3 10 0 1),U]),(i64 0)]),[gW,(.bx 217 [(u64 0),(sN 5 1 0 1),(u64 1),(i64 1),(u64 1),(i64 2),(u64 1),(u64 1),(u64 1),bT,(u64 2),(u64 2)]),dg,(.fl 127 10 1 [(i64 2),(i64 1),(i64 2),(u64 1),(u64 1),(u64 1),(u64 1),(u64 1),(u64 1),(sN 4 1 0 9)]),dg,(.fl 22 1 1 [(sN 6 1 0 9)]),dg]⟩
def QF:Part:=⟨104,[(.ag [(i64 2),(i64 1),(i64 2),(u64 1),(u64 1),(u64 1),(u64 1),(u64 1),(u64 1),(sN 1 1 0 9)])],[gW,dg],(.tu [(sQ 2 1 0 23 23),(i64 0)]),[gW,dg,iP]⟩
def QG:Part:=⟨243,[(sN 1 1 0 6)],[gW,b4],(.tu [(.ag [(i64 1),(i64 2),(u64 1),(u64 0),(u64 0),U,(u64 0),(i64 0),(u64 0),U,U]),(i64 0)]),[gW,b4]⟩
def QH:Part:=⟨260,[(.ag [(i64 1),(u64 1),(u64 1),(sN 1 2 0 1),U,U,(sN 2 6 0 1),bT,bF,(u64 0),(i64 0),(u64 0),U,U]),(sN 1 2 0 1),(.ag [(sN 4 6 0 1)])],[gW,k8,Tc,k8,Td],(.tu [(.ag [(i64 1),(u64 1),(u64 2),(sN 5 2 0 1),(sN 6 6 0 1),(sN 7 2 0 1),(sN 8 6 0 1),bT,bF,(u64 2),(i64 1),(u64 1),(sQ 12 2 0 1 1),(sN 13 1 0 1)]),(.ag [(sN 14 13 0 2),bT,(i64 1),(u64 1),(u64 2),(sN 18 2 0 1),(sN 19 2 0 1),(sN 20 1 0 1),bT,(u64 2),(i64 1),(u64 1),(sN 21 2 0 1),(sN 22 1 0 1)])]),[gW,k8,Tc,k8,Td,k8,bX,af,(.fl 288 6 1 [(i64 1),(u64 1),(u64 2),(sN 9 2 0 1),(sN 10 2 0 1),(sN 11 1 0 1)]),k8,af,az,af,az,(.fl 443 13 2 [(i64 2),(u64 1),(i64 4),(i64 1),(u64 1),(u64 0),(u64 1),(sN 15 2 0 1),(u64 0),(i64 0),(u64 0),U,U,(i64 2),(u64 1),(i64 5),(i64 0),(u64 0),(u64 0),(u64 0),U,(u64 2),(i64 1),(u64 1),(sN 16 2 0 1),(sN 17 1 0 1)]),af,af,az,k8,af,az,af,az]⟩
def QI:Part:=⟨94,[(.ag [(i64 4),(i64 1),(u64 1),(u64 0),(u64 1),(sN 1 2 0 1),(u64 0),(i64 0),(u64 0),U,U])],[gW,af],(.tu [(sN 2 1 0 7),(i64 0)]),[gW,af,aW]⟩
def QJ:Part:=⟨94,[(.ag [(i64 5),(i64 0),(u64 0),(u64 0),(u64 0),U,(u64 2),(i64 1),(u64 1),(sN 1 2 0 1),(sN 2 1 0 1)])],[gW,af,az],(.tu [(sN 3 1 0 8),(i64 0)]),[gW,af,az,aT]⟩
def QK:Part:=⟨240,[(.ag [(sN 1 1 0 1),(i64 1),(u64 1),(u64 1),(sN 2 2 0 1),U,U,(sN 3 6 0 1),bT,bF,(u64 0),(i64 0),(u64 0),U,U]),(u64 2),(.ag [(i64 2),(u64 1)]),(sN 5 1 0 6)],[gW,k7,k8,tC,k8,b4],(.tu [(.ag [(sN 6 1 0 1),(i64 1),(u64 1),(u64 2),(sN 7 2 0 1),(sN 8 6 0 1),(sN 9 2 0 1),(sN 10 6 0 1),bT,bF,(u64 2),(i64 1),(u64 1),(sQ 14 2 0 1 1),(sN 15 1 0 1)]),(sN 16 2 0 2)]),[gW,k7,k8,tC,k8,b4,k7,k8,bX,af,(.fl 288 6 1 [(i64 1),(u64 1),(u64 2),(sN 11 2 0 1),(sN 12 2 0 1),(sN 13 1 0 1)]),k8,af,az,af,az,(.fl 279 2 2 [(i64 2),(sN 17 1 0 7),(i64 2),(sN 18 1 0 8)]),aW,aT]⟩
def QL:Part:=⟨132,[(p0 1),(sQ 14 1 0 1 1)],[gW,k3,k4,k5,k5,k5,k5,k5,k5,k5,k5,k5,iQ,bu,k7],(.tu []),[gW,k3,k4,wj,k5,k5,k5,k5,k5,k5,k5,k5,iQ,bu,k7]⟩
def QM:Part:=⟨209,[(p0 1),(u64 2),(sN 14 1 0 7),(sN 15 1 0 1)],[gW,k3,k4,wj,k5,k5,k5,k5,k5,k5,k5,k5,iQ,bu,aW,k7],(.tu [(.ag [(sN 16 10 0 1),U,U]),(i64 0)]),[gW,k3,k4,(.bx 224 [(u64 1),bT,(u64 0),(sN 19 1 0 1),(u64 0),(u64 2)]),k5,k5,k5,k5,k5,k5,k5,k5,iQ,bu,aW,k7,(.fl 31 10 1 [(i64 2),(i64 1),(u64 1),(i64 8),(sN 17 4 0 1),(sN 18 1 0 7),(i64 0),(u64 0),(u64 0),U]),kr,aW,(.fl 22 1 1 [(sN 20 1 0 7)]),aW]⟩
def QN:Part:=⟨119,[(p0 1),(.ag [(i64 2),(i64 1),(u64 1),(i64 8),(sN 5 4 0 1),(sN 6 1 0 7),(i64 0),(u64 0),(u64 0),U])],[gW,dG,k0,k1,aY,kr,aW],(.ag [(sN 7 11 0 1),U,U]),[gW,dG,k0,k1,aY,kr,aW,(.fl 267 11 1 [(i64 2),(i64 2),(i64 1),(u64 1),(i64 7),(sN 8 4 0 1),(sN 9 1 0 7),(i64 0),(u64 0),(u64 0),U]),kr,aW]⟩
def QO:Part:=⟨124,[(.ag [(i64 2),(i64 1),(u64 1),(i64 7),(sN 1 4 0 1),(sN 2 1 0 7),(i64 0),(u64 0),(u64 0),U])],[gW,kr,aW],(.tu [(sN 3 1 0 16),(i64 0)]),[gW,kr,aW,c9]⟩
def QP:Part:=⟨125,[(p0 1),(u64 2),(sN 4 1 0 16)],[gW,(.bx 217 [(u64 0),(sN 2 1 0 1),(u64 1),(i64 1),(u64 1),(i64 2),(u64 1),(u64 1),(u64 1),bT,(u64 2),(u64 2)]),iR,dg,c9],(.tu [(.ag [(sN 5 10 0 1),U]),(i64 0)]),[gW,(.bx 217 [(u64 0),(sN 7 1 0 2),(u64 1),(i64 1),(u64 1),(i64 2),(u64 1),(u64 1),(u64 1),bT,(u64 2),(u64 2)]),iR,dg,c9,(.fl 127 10 1 [(i64 2),(i64 1),(i64 2),(u64 1),(u64 1),(u64 1),(u64 1),(u64 1),(u64 2),(sN 6 1 0 16)]),c9,(.fl 22 1 2 [(sN 8 1 0 9),(sN 9 1 0 16)]),dg,c9]⟩
def QQ:Part:=⟨104,[(.ag [(i64 2),(i64 1),(i64 2),(u64 1),(u64 1),(u64 1),(u64 1),(u64 1),(u64 2),(sN 1 1 0 16)])],[gW,c9],(.tu [(sQ 2 1 0 30 30),(i64 0)]),[gW,c9,kt]⟩
def QR:Part:=⟨209,[(p0 1),(u64 2),(sN 16 1 0 8),(sN 17 1 0 1)],[gW,pv,pw,Hb,AR,aW,k5,k5,k5,k5,k5,k5,k5,k5,px,bu,aT,k7],(.tu [(.ag [(sN 18 10 0 1),U,U]),(i64 0)]),[gW,pv,pw,(.bx 224 [(u64 1),bT,(u64 0),(sN 21 1 0 2),(u64 0),(u64 2)]),AR,aW,k5,k5,k5,k5,k5,k5,k5,k5,px,bu,aT,k7,(.fl 31 10 1 [(i64 2),(i64 1),(u64 1),(i64 8),(sN 19 4 0 1),(sN 20 1 0 8),(i64 0),(u64 0),(u64 0),U]),jR,aT,(.fl 22 1 2 [(sN 22 1 0 7),(sN 23 1 0 8)]),aW,aT]⟩
def QS:Part:=⟨119,[(p0 1),(.ag [(i64 2),(i64 1),(u64 1),(i64 8),(sN 5 4 0 1),(sN 6 1 0 8),(i64 0),(u64 0),(u64 0),U])],[gW,dG,k0,k1,aY,jR,aT],(.ag [(sN 7 11 0 1),U,U]),[gW,dG,k0,k1,aY,jR,aT,(.fl 267 11 1 [(i64 2),(i64 2),(i64 1),(u64 1),(i64 7),(sN 8 4 0 1),(sN 9 1 0 8),(i64 0),(u64 0),(u64 0),U]),jR,aT]⟩
def QT:Part:=⟨124,[(.ag [(i64 2),(i64 1),(u64 1),(i64 7),(sN 1 4 0 1),(sN 2 1 0 8),(i64 0),(u64 0),(u64 0),U])],[gW,jR,aT],(.tu [(sN 3 1 0 17),(i64 0)]),[gW,jR,aT,cz]⟩
def QU:Part:=⟨125,[(p0 1),(u64 2),(sN 5 1 0 17)],[gW,(.bx 217 [(u64 0),(sN 2 1 0 2),(u64 1),(i64 1),(u64 1),(i64 2),(u64 1),(u64 1),(u64 1),bT,(u64 2),(u64 2)]),PF,dg,c9,cz],(.tu [(.ag [(sN 6 10 0 1),U]),(i64 0)]),[gW,(.bx 217 [(u64 0),(sN 8 1 0 3),(u64 1),(i64 1),(u64 1),(i64 2),(u64 1),(u64 1),(u64 1),bT,(u64 2),(u64 2)]),PF,dg,c9,cz,(.fl 127 10 1 [(i64 2),(i64 1),(i64 2),(u64 1),(u64 1),(u64 1),(u64 1),(u64 1),(u64 3),(sN 7 1 0 17)]),cz,(.fl 22 1 3 [(sN 9 1 0 9),(sN 10 1 0 16),(sN 11 1 0 17)]),dg,c9,cz]⟩
def QV:Part:=⟨104,[(.ag [(i64 2),(i64 1),(i64 2),(u64 1),(u64 1),(u64 1),(u64 1),(u64 1),(u64 3),(sN 1 1 0 17)])],[gW,cz],(.tu [(sQ 2 1 0 31 31),(i64 0)]),[gW,cz,lQ]⟩
def QW:Part:=⟨15,[(p0 1),(i64 2),(sQ 26 1 0 29 29)],[gW,Hd,k0,k7,aZ,AP,eY,k0,k1,aY,fq,ft,k5,k5,k5,k5,k5,k5,k5,k5,k5,k6,k7,k8,iM,k8,tF],(.ag [(sN 27 2 0 4),U]),[gW,(.bx 64 [(i64 1),(u64 1),(sN 2 1 0 2),(u64 2),(sN 3 1 0 1),(sN 4 1 0 1),(p0 6),(p0 10),bT,(sN 32 1 0 1),(i64 1),(u64 1),(u64 2),(sN 33 2 0 1),(sN 34 6 0 1),(sN 35 2 0 1),(sN 36 6 0 1),bT,bF,(u64 2),(i64 1),(u64 1),(sQ 40 2 0 1 1),(sN 41 1 0 1),(i64 0),(u64 0),(i64 0),(u64 0),(i64 0),(u64 0),U,U,U,U,(u64 0),(u64 0),bF,U,(i64 0),(i64 0),(u64 0),(u64 0),(i64 0),(u64 0),(u64 0),U,(u64 0),U,bF,U,bF,(u64 0),(i64 0),(u64 0),U,U,U,(u64 0),(i64 0),(u64 0),U,U,U,U,(i64 0),(i64 0),(u64 0),(u64 0),(i64 0),(u64 0),(u64 0),U,(u64 0),U,bF,bF,(i64 0),(u64 0)]),k0,k7,aZ,(.bx 217 [(u64 0),(sN 42 1 0 3),(u64 1),(i64 1),(u64 1),(i64 2),(u64 1),(u64 1),(u64 1),bT,(u64 2),(u64 2)]),eY,k0,k1,aY,fq,ft,(.bx 224 [(u64 1),bT,(u64 0),(sN 46 1 0 2),(u64 0),(u64 2)]),k5,k5,k5,k5,k5,k5,k5,k5,(.mf 220 1 [(0,((.i IntKind.i64 (Int.ofNat 2)),(p0 49)))]),k7,k8,iM,k8,tF,(.fl 104 2 4 [(i64 2),(sQ 28 1 0 13 13),(i64 2),(sQ 29 1 0 23 23),(i64 2),(sQ 30 1 0 30 30),(i64 2),(sQ 31 1 0 31 31)]),hO,iP,kt,lQ,k7,k8,bX,af,(.fl 288 6 1 [(i64 1),(u64 1),(u64 2),(sN 37 2 0 1),(sN 38 2 0 1),(sN 39 1 0 1)]),k8,af,az,af,az,(.fl 22 1 3 [(sN 43 1 0 9),(sN 44 1 0 16),(sN 45 1 0 17)]),dg,c9,cz,(.fl 22 1 2 [(sN 47 1 0 7),(sN 48 1 0 8)]),aW,aT,bu]⟩
def QX:Part:=⟨43,[(sQ 1 1 0 13 13)],[gW,hO],(.tu [(.ag [(i64 1),(i64 1),(i64 2),(u64 1),(u64 1),(u64 1),(u64 1),(u64 1),(u64 0),U]),(i64 0)]),[gW,hO]⟩
def QY:Part:=⟨45,[(p0 1),(u64 2),(.ag [(i64 1),(i64 1),(i64 2),(u64 1),(u64 1),(u64 1),(u64 1),(u64 1),(u64 0),U])],[gW,(.bx 217 [(u64 0),(sN 2 1 0 1),(u64 0),(i64 2),(u64 1),(i64 1),(u64 1),(u64 1),(u64 1),bT,(u64 2),(u64 2)]),AK,eM],(.ag [U,U]),[gW,zS,AK,eM]⟩
def QZ:Part:=⟨15,[(p0 1),(i64 1),(sQ 29 1 0 13 13)],[gW,AL,k0,a9,aZ,(.bx 217 [(u64 0),(sN 6 1 0 1),(u64 0),(i64 2),(u64 1),(i64 1),(u64 1),(u64 1),(u64 1),bT,(u64 2),(u64 2)]),AM,eM,iN,k0,aX,pq,pr,AN,AO,b4,k5,k5,k5,k5,k5,k5,k5,k5,k6,af,ay,aK,ay,hO],(.ag [U,U]),[gW,AL,k0,a9,aZ,zS,AM,eM,iN,k0,aX,pq,pr,AN,AO,b4,k5,k5,k5,k5,k5,k5,k5,k5,k6,af,ay,aK,ay,hO]⟩
def Q0:Part:=⟨43,[(sQ 1 1 0 23 23)],[gW,iP],(.tu [(.ag [(i64 2),(i64 1),(i64 2),(u64 1),(u64 1),(u64 1),(u64 1),(u64 1),(u64 1),(.d (.ro 1 [[(.v (.int IntKind.u8 (Int.ofNat 3)))],[(.v (.int IntKind.u8 (Int.ofNat 1)))],[(.v (.int IntKind.u8 (Int.ofNat 1)))],[(.v (.int IntKind.u8 (Int.ofNat 7)))],[(.v (.int IntKind.u8 (Int.ofNat 1)))],[(.v (.int IntKind.u8 (Int.ofNat 2)))],[(.v (.int IntKind.u8 (Int.ofNat 1)))],[(.v (.int IntKind.u8 (Int.ofNat 1)))],[(.v (.int IntKind.u8 (Int.ofNat 1)))]]))]),(i64 0)]),[gW,iP]⟩
def Q1:Part:=⟨45,[(p0 1),(u64 2),(.ag [(i64 2),(i64 1),(i64 2),(u64 1),(u64 1),(u64 1),(u64 1),(u64 1),(u64 1),(.d (.ro 1 [[(.v (.int IntKind.u8 (Int.ofNat 3)))],[(.v (.int IntKind.u8 (Int.ofNat 1)))],[(.v (.int IntKind.u8 (Int.ofNat 1)))],[(.v (.int IntKind.u8 (Int.ofNat 7)))],[(.v (.int IntKind.u8 (Int.ofNat 1)))],[(.v (.int IntKind.u8 (Int.ofNat 2)))],[(.v (.int IntKind.u8 (Int.ofNat 1)))],[(.v (.int IntKind.u8 (Int.ofNat 1)))],[(.v (.int IntKind.u8 (Int.ofNat 1)))]]))])],[gW,zS],(.ag [(sN 2 10 0 1),(sN 3 4 0 1)]),[gW,zT,(.fl 127 10 1 [(i64 1),(i64 2),(i64 1),(u64 1),(u64 1),(u64 1),(u64 1),(u64 1),(u64 0),U]),(.fl 241 4 1 [(i64 3),(i64 1),(u64 1),(sN 4 1 0 9)]),dg]⟩
def Q2:Part:=⟨104,[(.ag [(i64 1),(i64 2),(i64 1),(u64 1),(u64 1),(u64 1),(u64 1),(u64 1),(u64 0),U])],[gW],(.tu [(sQ 1 1 0 13 13),(i64 0)]),[gW,sD]⟩
def Q3:Part:=⟨108,[(sN 1 1 0 9)],[gW,dg],(.tu [(.ag [(i64 3),(i64 1),(u64 1),(i64 7),(sN 2 4 0 1),U,(i64 0),(u64 0),(u64 0),U]),(i64 0)]),[gW,dg,iO]⟩
def Q4:Part:=⟨109,[(p0 1),(i64 1),(.ag [(i64 3),(i64 1),(u64 1),(i64 7),(sN 4 4 0 1),U,(i64 0),(u64 0),(u64 0),U])],[gW,dF,k0,aX,iO],(.ag [U,(sN 5 10 0 1),U]),[gW,dF,k0,aX,iO,(.fl 31 10 1 [(i64 3),(i64 1),(u64 1),(i64 7),(sQ 6 4 0 1 1),U,(i64 0),(u64 0),(u64 0),U]),iO]⟩
def Q5:Part:=⟨126,[(p0 1),(u64 2),(.ag [(i64 3),(i64 1),(u64 1),(i64 7),(sQ 15 4 0 1 1),U,(i64 0),(u64 0),(u64 0),U])],[gW,fU,fV,Hb,tE,b4,k5,k5,k5,k5,k5,k5,k5,k5,k6,iO],(.ag [U,U,U]),[gW,fU,fV,cC,tE,b4,k5,k5,k5,k5,k5,k5,k5,k5,k6,iO]⟩
def Q6:Part:=⟨15,[(p0 1),(i64 1),(sQ 27 1 0 23 23)],[gW,Hc,k0,a9,aZ,zS,eF,k0,aX,iJ,iK,S9,iL,b4,k5,k5,k5,k5,k5,k5,k5,k5,k6,af,ay,aK,ay,iP],(.ag [(sN 28 2 0 1),U]),[gW,Hc,k0,a9,aZ,zT,eF,k0,aX,iJ,iK,cC,iL,b4,k5,k5,k5,k5,k5,k5,k5,k5,k6,af,ay,aK,ay,iP,G9,sD]⟩
end Go.Proofs.YtkheephfkbpchaaGreatDoor
