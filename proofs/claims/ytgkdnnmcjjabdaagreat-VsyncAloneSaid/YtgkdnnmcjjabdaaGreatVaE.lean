/-
  vsyncAlone_holds, part 5 of 7: merged by program from the texts that it needs.
-/
import Derived.Test.YtgkdnnmcjjabdaaGreatVaC
import Derived.Test.YtgkdnnmcjjabdaaGreatVaD
set_option linter.unusedSimpArgs false
set_option linter.unusedVariables false
set_option linter.unnecessarySimpa false
namespace Go.Proofs.YtgkdnnmcjjabdaaGreat
open Go.RowKit
abbrev u8 (n:Nat):AV:=.d (.v (.int .u8 (.ofNat n)))
abbrev u32 (n:Nat):AV:=.d (.v (.int .u32 (.ofNat n)))
abbrev u64 (n:Nat):AV:=.d (.v (.int .u64 (.ofNat n)))
abbrev i64 (n:Nat):AV:=.d (.v (.int .i64 (.ofNat n)))
abbrev nS:AV:=.d (.v (.slice none 0 0))
abbrev bT:AV:=.d (.v (.bool true))
abbrev bF:AV:=.d (.v (.bool false))
abbrev sN (u k o n:Nat):AV:=.sf u k o n none
abbrev sQ (u k o n q:Nat):AV:=.sf u k o n (some q)
abbrev p0 (u:Nat):AV:=.pt u 0
def Part.cmp (e:Part):Option Out→Bool
 | some ⟨[],x,M',_,[],none⟩=>iE x e.x&&j3 M' e.M'
 | _=>false
theorem Part.cF {P:Program} {T:aD} (hT:aP P T=true) {KL:List TypeId} (hL:fu P KL) (hm:P.follows .mixedOrders=true) {X:bX} (hX:dn P X) {fuel d:Nat} {e:Part} (h:e.cmp (uW P T KL X fuel d (.fn e.f) e.args e.M (.n 0))=true):e.Ok P:=by
 generalize ho:uW P T KL X fuel d (.fn e.f) e.args e.M (.n 0)=o at h
 unfold Part.cmp at h
 split at h
 ·rename_i x M' tc
  obtain ⟨h1,h2⟩:=Bool.and_eq_true_iff.1 h
  obtain rfl:=si h1
  obtain rfl:=rW h2
  exact Part.of hT hL hm hX ho
 ·cases h
def a7 (P:Program) (l:List Part):Prop:=∀ e ∈ l,e.Ok P
theorem a7.nil {P:Program}:a7 P []:=fun _ h=>by cases h
theorem a7.cons {P:Program} {e:Part} {l:List Part} (h:e.Ok P) (k:a7 P l):a7 P (e::l):=List.forall_mem_cons.2 ⟨h,k⟩
def k0:af:=(.fl 24 2 1 [(i64 5),(u64 1)])
def k1:af:=(.fl 22 1 1 [(u64 0)])
def k2:af:=(.fl 111 1 1 [nS])
def k3:af:=(.fl 111 1 1 [(sN 7 2 0 1)])
def k4:af:=(.fl 113 2 1 [(u64 1),(sN 8 1 0 1)])
def k5:af:=(.fl 5 1 1 [(u8 97)])
def k6:af:=(.bx 68 [(i64 5),(u64 1),(i64 0),(u64 0),(i64 5),(u64 1),(sN 1 2 0 1),(sN 2 1 0 1),(sQ 3 1 0 1 1),(sQ 6 1 0 1 1),(u64 1),(u64 0),bF,nS,(i64 0),(i64 0),(u64 0),(u64 0),(i64 0),(u64 0),(u64 0),nS,(u64 0),nS,bF,nS,bF,(u64 0),(i64 0),(u64 0),nS,nS,nS,(u64 0),(i64 0),(u64 0),nS,nS,nS,nS,(i64 0),(i64 0),(u64 0),(u64 0),(i64 0),(u64 0),(u64 0),nS,(u64 0),nS,bF,nS,(sN 7 13 0 1)])
def k7:af:=(.fl 111 1 1 [(sN 4 2 0 1)])
def k8:af:=(.fl 113 2 1 [(u64 1),(sN 5 1 0 1)])
def k9:af:=(.fl 58 13 1 [(i64 1),(i64 5),(u64 1),(i64 0),(u64 0),(u64 1),(sN 8 1 0 1),(u64 0),(i64 0),(u64 0),nS,nS,nS])
def fq:af:=(.fl 111 1 1 [(sN 3 2 0 1)])
def eY:af:=(.fl 113 2 1 [(u64 1),(sN 4 1 0 1)])
def KB:af:=(.fl 113 2 1 [(u64 1),(sN 10 1 0 1)])
def aY:af:=(.fl 22 1 1 [(u64 1)])
def KC:af:=(.fl 94 4 1 [(i64 5),(u64 1),(u64 1),(sN 13 1 0 1)])
def mF:af:=(.fl 111 1 1 [(sN 10 2 0 1)])
def mG:af:=(.fl 113 2 1 [(u64 1),(sN 11 1 0 1)])
def bo:af:=(.fl 24 2 2 [(i64 5),(u64 1),(i64 6),(u64 1)])
def Ef:af:=(.fl 111 1 1 [(sN 12 2 0 1)])
def Eg:af:=(.fl 113 2 1 [(u64 1),(sN 13 1 0 1)])
def bZ:af:=(.fl 22 1 2 [(u64 1),(u64 1)])
def gR:af:=(.fl 111 1 2 [nS,nS])
def eM:af:=(.fl 22 1 2 [(u64 0),(u64 0)])
def eZ:af:=(.fl 5 1 1 [(u8 98)])
def KD:af:=(.bx 68 [(i64 5),(u64 1),(i64 0),(u64 1),(i64 1),(u64 1),(sN 1 2 0 2),(sN 2 1 0 2),(sQ 3 1 0 2 2),(sQ 6 1 0 2 2),(u64 1),(u64 1),bF,nS,(i64 0),(i64 0),(u64 0),(u64 0),(i64 0),(u64 0),(u64 0),nS,(u64 0),nS,bF,nS,bF,(u64 0),(i64 0),(u64 0),nS,nS,nS,(u64 0),(i64 5),(u64 1),(sN 7 2 0 1),(sN 8 1 0 1),(sN 9 1 0 1),(sN 12 1 0 1),(i64 8),(i64 5),(u64 1),(u64 0),(i64 5),(u64 1),(u64 0),nS,(u64 1),(sN 13 1 0 1),bF,nS,(sN 14 13 0 1)])
def x4:af:=(.fl 111 1 2 [(sN 4 2 0 1),nS])
def KE:af:=(.fl 58 13 1 [(i64 1),(i64 5),(u64 1),(i64 0),(u64 0),(u64 1),(sN 15 1 0 1),(u64 0),(i64 0),(u64 0),nS,nS,nS])
def KF:af:=(.fl 111 1 2 [(sN 3 2 0 1),nS])
def Eh:af:=(.fl 22 1 2 [(u64 1),(u64 0)])
def x5:af:=(.fl 61 13 1 [(i64 6),(u64 1),(i64 8),(i64 5),(u64 1),(u64 0),(i64 5),(u64 1),(u64 0),nS,(u64 1),(sN 10 1 0 1),bF])
def py:af:=(.fl 58 13 1 [(i64 4),(i64 5),(u64 1),(i64 0),(u64 0),(u64 0),nS,(u64 0),(i64 0),(u64 0),nS,nS,nS])
def KG:af:=(.fl 111 1 1 [(sN 15 2 0 1)])
def KH:af:=(.fl 113 2 1 [(u64 1),(sN 16 1 0 1)])
def KI:af:=(.bx 68 [(i64 5),(u64 1),(i64 2),(u64 0),(i64 5),(u64 1),(sN 1 2 0 1),(sN 2 1 0 1),(sN 3 1 0 1),(sN 6 1 0 1),(u64 1),(u64 1),bT,(sN 7 2 0 2),(i64 8),(i64 5),(u64 1),(u64 0),(i64 5),(u64 1),(u64 0),nS,(u64 1),(sN 8 1 0 1),bF,nS,bT,(u64 1),(i64 1),(u64 1),(sN 9 2 0 2),(sN 10 1 0 2),nS,(u64 0),(i64 0),(u64 0),nS,nS,nS,nS,(i64 0),(i64 0),(u64 0),(u64 0),(i64 0),(u64 0),(u64 0),nS,(u64 0),nS,bF,nS,nS])
def KJ:af:=(.fl 111 1 1 [(sN 8 2 0 1)])
def KK:af:=(.fl 113 2 1 [(u64 1),(sN 9 1 0 1)])
def KM:af:=(.fl 58 13 1 [(i64 5),(i64 5),(u64 1),(i64 0),(u64 0),(u64 0),nS,(u64 1),(i64 1),(u64 1),(sN 13 2 0 2),(sN 14 1 0 2),(sN 15 2 0 1)])
def KN:af:=(.fl 61 13 1 [(i64 6),(u64 1),(i64 7),(i64 5),(u64 1),(u64 1),(i64 1),(u64 1),(u64 1),(sN 15 1 0 1),(u64 0),nS,bF])
def KO:af:=(.bx 68 [(i64 5),(u64 1),(i64 2),(u64 0),(i64 5),(u64 1),(sN 1 2 0 1),(sN 2 1 0 1),(sQ 3 1 0 1 1),(sQ 6 1 0 1 1),(u64 1),(u64 1),bT,(sN 7 2 0 2),(i64 8),(i64 5),(u64 1),(u64 0),(i64 5),(u64 1),(u64 0),nS,(u64 1),(sN 8 1 0 1),bF,nS,bF,(u64 0),(i64 0),(u64 0),nS,nS,nS,(u64 0),(i64 0),(u64 0),nS,nS,nS,nS,(i64 0),(i64 0),(u64 0),(u64 0),(i64 0),(u64 0),(u64 0),nS,(u64 0),nS,bF,(sN 9 13 0 1),(sN 11 13 0 1)])
def KP:af:=(.fl 58 13 1 [(i64 5),(i64 5),(u64 1),(i64 0),(u64 0),(u64 0),nS,(u64 1),(i64 1),(u64 1),(sN 22 2 0 2),(sN 23 1 0 2),(sN 24 2 0 1)])
def KQ:Part:=⟨14,[(.ag [(u64 0),(i64 5),(u64 1),(sQ 0 2 0 1 1),(sQ 1 1 0 1 1)])],[k0,k1],(.ag [(u64 0),(i64 5),(u64 1),(sN 2 2 0 1),(sN 3 1 0 1),(sQ 4 1 0 1 1),(sQ 5 1 0 1 1)]),[k0,k1,k0,k1,k2,k1]⟩
def KR:Part:=⟨16,[(.ag [(i64 5),(u64 1),(i64 0),(u64 0),(i64 5),(u64 1),(sN 0 2 0 1),(sN 1 1 0 1),(sQ 2 1 0 1 1),(sQ 3 1 0 1 1),(u64 0),(u64 0),bF,nS,(i64 0),(i64 0),(u64 0),(u64 0),(i64 0),(u64 0),(u64 0),nS,(u64 0),nS,bF,nS,bF,(u64 0),(i64 0),(u64 0),nS,nS,nS,(u64 0),(i64 0),(u64 0),nS,nS,nS,nS,(i64 0),(i64 0),(u64 0),(u64 0),(i64 0),(u64 0),(u64 0),nS,(u64 0),nS,bF])],[k0,k1,k2,k1],(p0 4),[k0,k1,k2,k1,(.bx 68 [(i64 5),(u64 1),(i64 0),(u64 0),(i64 5),(u64 1),(sN 5 2 0 1),(sN 6 1 0 1),(sN 7 1 0 1),(sN 8 1 0 1),(u64 0),(u64 0),bF,nS,(i64 0),(i64 0),(u64 0),(u64 0),(i64 0),(u64 0),(u64 0),nS,(u64 0),nS,bF,nS,bF,(u64 0),(i64 0),(u64 0),nS,nS,nS,(u64 0),(i64 0),(u64 0),nS,nS,nS,nS,(i64 0),(i64 0),(u64 0),(u64 0),(i64 0),(u64 0),(u64 0),nS,(u64 0),nS,bF,nS,nS]),k0,k1,k2,k1]⟩
def KS:Part:=⟨40,[(.ag [(u64 0),(i64 5),(u64 1),(sN 0 2 0 1),(sN 1 1 0 1),(sN 2 1 0 1),(sN 3 1 0 1)]),(.ag [(i64 5),(u64 1),(u64 1),(.d (.ro 1 [[(.v (.int IntKind.u8 (Int.ofNat 97)))]]))])],[k0,k1,k2,k1],(.tu [(.ag [(u64 0),(i64 5),(u64 1),(sN 4 2 0 1),(sN 5 1 0 1),(sQ 6 1 0 1 1),(sQ 9 1 0 1 1)]),bT]),[k0,k1,k2,k1,k0,k1,k3,k4,k5,k1]⟩
def KT:Part:=⟨20,[(p0 0)],[k6,k0,k1,k7,k8,k5,k1,k9,k5],(sN 9 2 0 0),[k6,k0,k1,k7,k8,k5,k1,k9,k5,(.fl 24 2 1 [(i64 0),(u64 0)])]⟩
def KU:Part:=⟨44,[(.ag [(u64 0),(i64 5),(u64 1),(sN 0 2 0 1),(sN 1 1 0 1),(sQ 2 1 0 1 1),(sQ 5 1 0 1 1)]),nS],[k0,k1,fq,eY,k5,k1],(.tu [(.ag [(u64 0),(i64 5),(u64 1),(sN 6 2 0 1),(sN 7 1 0 1),(sQ 8 1 0 1 1),(sQ 11 1 0 1 1)]),(sN 12 4 0 1)]),[k0,k1,fq,eY,k5,k1,k0,k1,(.fl 111 1 1 [(sN 9 2 0 1)]),KB,k5,aY,KC,k5]⟩
def KV:Part:=⟨16,[(.ag [(i64 5),(u64 1),(i64 0),(u64 0),(i64 5),(u64 1),(sN 0 2 0 1),(sN 1 1 0 1),(sQ 2 1 0 1 1),(sQ 5 1 0 1 1),(u64 1),(u64 0),bF,nS,(i64 0),(i64 0),(u64 0),(u64 0),(i64 0),(u64 0),(u64 0),nS,(u64 0),nS,bF,nS,bF,(u64 0),(i64 0),(u64 0),nS,nS,nS,(u64 0),(i64 0),(u64 0),nS,nS,nS,nS,(i64 0),(i64 0),(u64 0),(u64 0),(i64 0),(u64 0),(u64 0),nS,(u64 0),nS,bF])],[k0,k1,fq,eY,k5,aY],(p0 6),[k0,k1,fq,eY,k5,aY,(.bx 68 [(i64 5),(u64 1),(i64 0),(u64 0),(i64 5),(u64 1),(sN 7 2 0 1),(sN 8 1 0 1),(sN 9 1 0 1),(sN 12 1 0 1),(u64 1),(u64 0),bF,nS,(i64 0),(i64 0),(u64 0),(u64 0),(i64 0),(u64 0),(u64 0),nS,(u64 0),nS,bF,nS,bF,(u64 0),(i64 0),(u64 0),nS,nS,nS,(u64 0),(i64 0),(u64 0),nS,nS,nS,nS,(i64 0),(i64 0),(u64 0),(u64 0),(i64 0),(u64 0),(u64 0),nS,(u64 0),nS,bF,nS,nS]),k0,k1,mF,mG,k5,aY]⟩
def KW:Part:=⟨26,[(.ag [(i64 5),(u64 1)]),(sQ 0 2 0 2 2)],[bo],bT,[bo]⟩
def KX:Part:=⟨16,[(.ag [(i64 5),(u64 1),(i64 1),(u64 0),(i64 5),(u64 1),(sN 0 2 0 1),(sN 1 1 0 1),(sN 2 1 0 1),(sN 5 1 0 1),(u64 1),(u64 1),bT,(sN 6 2 0 2),(i64 0),(i64 0),(u64 0),(u64 0),(i64 0),(u64 0),(u64 0),nS,(u64 0),nS,bF,nS,bF,(u64 0),(i64 0),(u64 0),nS,nS,nS,(u64 0),(i64 0),(u64 0),nS,nS,nS,nS,(i64 0),(i64 0),(u64 0),(u64 0),(i64 0),(u64 0),(u64 0),nS,(u64 0),nS,bF])],[k0,k1,fq,eY,k5,aY,bo],(p0 7),[k0,k1,fq,eY,k5,aY,bo,(.bx 68 [(i64 5),(u64 1),(i64 1),(u64 0),(i64 5),(u64 1),(sN 8 2 0 1),(sN 9 1 0 1),(sN 10 1 0 1),(sN 13 1 0 1),(u64 1),(u64 1),bT,(sN 14 2 0 2),(i64 0),(i64 0),(u64 0),(u64 0),(i64 0),(u64 0),(u64 0),nS,(u64 0),nS,bF,nS,bF,(u64 0),(i64 0),(u64 0),nS,nS,nS,(u64 0),(i64 0),(u64 0),nS,nS,nS,nS,(i64 0),(i64 0),(u64 0),(u64 0),(i64 0),(u64 0),(u64 0),nS,(u64 0),nS,bF,nS,nS]),k0,k1,(.fl 111 1 1 [(sN 11 2 0 1)]),(.fl 113 2 1 [(u64 1),(sN 12 1 0 1)]),k5,aY,bo]⟩
def KY:Part:=⟨45,[(.ag [(u64 0),(i64 5),(u64 1),(sN 0 2 0 1),(sN 1 1 0 1),(sN 2 1 0 1),(sN 5 1 0 1)])],[k0,k1,fq,eY,k5,aY],(sN 6 1 0 1),[k0,k1,fq,eY,k5,aY,aY]⟩
def KZ:Part:=⟨22,[(.ag [(i64 8),(i64 5),(u64 1),(u64 0),(i64 5),(u64 1),(u64 0),nS,(u64 1),(sN 0 1 0 1),bF])],[aY],(.ag [(i64 8),(i64 5),(u64 1),(u64 0),(i64 5),(u64 1),(u64 0),nS,(u64 1),(sN 1 1 0 1),bF]),[aY,aY]⟩
def Jj:Part:=⟨44,[(.ag [(u64 0),(i64 5),(u64 1),(sN 0 2 0 1),(sN 1 1 0 1),(sN 2 1 0 1),(sN 5 1 0 1)]),(sN 6 1 0 1)],[k0,k1,fq,eY,k5,aY,aY],(.tu [(.ag [(u64 0),(i64 5),(u64 1),(sN 7 2 0 1),(sN 8 1 0 1),(sQ 9 1 0 1 1),(sQ 12 1 0 1 1)]),nS]),[k0,k1,fq,eY,k5,aY,aY,k0,k1,mF,mG,k5,aY]⟩
def Jk:Part:=⟨16,[(.ag [(i64 5),(u64 1),(i64 2),(u64 0),(i64 5),(u64 1),(sN 0 2 0 1),(sN 1 1 0 1),(sQ 2 1 0 1 1),(sQ 5 1 0 1 1),(u64 1),(u64 1),bT,(sN 6 2 0 2),(i64 8),(i64 5),(u64 1),(u64 0),(i64 5),(u64 1),(u64 0),nS,(u64 1),(sN 7 1 0 1),bF,nS,bF,(u64 0),(i64 0),(u64 0),nS,nS,nS,(u64 0),(i64 0),(u64 0),nS,nS,nS,nS,(i64 0),(i64 0),(u64 0),(u64 0),(i64 0),(u64 0),(u64 0),nS,(u64 0),nS,bF])],[k0,k1,fq,eY,k5,aY,bo,aY],(p0 8),[k0,k1,fq,eY,k5,aY,bo,aY,(.bx 68 [(i64 5),(u64 1),(i64 2),(u64 0),(i64 5),(u64 1),(sN 9 2 0 1),(sN 10 1 0 1),(sN 11 1 0 1),(sN 14 1 0 1),(u64 1),(u64 1),bT,(sN 15 2 0 2),(i64 8),(i64 5),(u64 1),(u64 0),(i64 5),(u64 1),(u64 0),nS,(u64 1),(sN 16 1 0 1),bF,nS,bF,(u64 0),(i64 0),(u64 0),nS,nS,nS,(u64 0),(i64 0),(u64 0),nS,nS,nS,nS,(i64 0),(i64 0),(u64 0),(u64 0),(i64 0),(u64 0),(u64 0),nS,(u64 0),nS,bF,nS,nS]),k0,k1,Ef,Eg,k5,aY,bo,aY]⟩
def Jl:Part:=⟨34,[(.ag [(u64 1),(i64 1),(u64 1),(sQ 0 2 0 2 2),(sQ 1 1 0 2 2)])],[bo,bZ],bT,[bo,bZ]⟩
def Jm:Part:=⟨36,[(.ag [(u64 1),(i64 1),(u64 1),(sQ 0 2 0 2 2),(sQ 1 1 0 2 2)])],[bo,bZ],(.ag [(u64 1),(i64 1),(u64 1),(sN 2 2 0 2),(sN 3 1 0 2)]),[bo,bZ,bo,bZ]⟩
def Jn:Part:=⟨47,[(.ag [(u64 0),(i64 5),(u64 1),(sN 0 2 0 1),(sN 1 1 0 1)]),(.ag [(u64 1),(i64 1),(u64 1),(sN 2 2 0 2),(sN 3 1 0 2)]),(.ag [(i64 5),(u64 1)]),nS],[k0,k1,bo,bZ],bT,[k0,k1,bo,bZ]⟩
def Jo:Part:=⟨48,[(.ag [(u64 0),(i64 5),(u64 1),(sN 0 2 0 1),(sN 1 1 0 1)]),(.ag [(u64 1),(i64 1),(u64 1),(sN 2 2 0 2),(sN 3 1 0 2)]),(.ag [(i64 5),(u64 1)]),nS],[k0,k1,bo,bZ],(sN 4 2 0 1),[k0,k1,bo,bZ,k0]⟩
def Jp:Part:=⟨49,[(.ag [(u64 0),(i64 5),(u64 1),(sN 0 2 0 1),(sN 1 1 0 1)]),(.ag [(u64 1),(i64 1),(u64 1),(sN 2 2 0 2),(sN 3 1 0 2)]),(.ag [(i64 5),(u64 1)]),(sN 4 1 0 1),nS],[k0,k1,bo,bZ,aY],(sQ 5 1 0 1 1),[k0,k1,bo,bZ,aY,aY]⟩
def Jq:Part:=⟨44,[(.ag [(u64 0),(i64 5),(u64 1),(sN 0 2 0 1),(sN 1 1 0 1),(sN 2 1 0 1),(sN 5 1 0 1)]),(sQ 6 1 0 1 1)],[k0,k1,fq,eY,k5,aY,aY],(.tu [(.ag [(u64 0),(i64 5),(u64 1),(sN 7 2 0 1),(sN 8 1 0 1),(sQ 9 1 0 1 1),(sQ 12 1 0 1 1)]),nS]),[k0,k1,fq,eY,k5,aY,aY,k0,k1,mF,mG,k5,aY]⟩
def Jr:Part:=⟨36,[(.ag [(u64 1),(i64 1),(u64 1),(sN 0 2 0 2),(sN 1 1 0 2)])],[bo,bZ],(.ag [(u64 1),(i64 1),(u64 1),(sN 2 2 0 2),(sN 3 1 0 2)]),[bo,bZ,bo,bZ]⟩
def Js:Part:=⟨14,[(.ag [(u64 1),(i64 1),(u64 1),(sN 0 2 0 2),(sN 1 1 0 2)])],[bo,bZ],(.ag [(u64 1),(i64 1),(u64 1),(sN 2 2 0 2),(sN 3 1 0 2),(sQ 4 1 0 2 2),(sQ 5 1 0 2 2)]),[bo,bZ,bo,bZ,gR,eM]⟩
def Jt:Part:=⟨50,[nS,(.ag [(i64 0),(i64 0),(u64 0),(u64 0),(i64 0),(u64 0),(u64 0),nS,(u64 0),nS,bF]),(sN 0 2 0 2)],[bo],nS,[bo]⟩
def Ju:Part:=⟨44,[(.ag [(u64 1),(i64 1),(u64 1),(sN 0 2 0 2),(sN 1 1 0 2),(sQ 2 1 0 2 2),(sQ 3 1 0 2 2)]),nS],[bo,bZ,gR,eM],(.tu [(.ag [(u64 1),(i64 1),(u64 1),(sN 4 2 0 2),(sN 5 1 0 2),(sQ 6 1 0 2 2),(sQ 7 1 0 2 2)]),nS]),[bo,bZ,gR,eM,bo,bZ,gR,eM]⟩
def Jv:Part:=⟨16,[(.ag [(i64 5),(u64 1),(i64 0),(u64 1),(i64 1),(u64 1),(sN 0 2 0 2),(sN 1 1 0 2),(sQ 2 1 0 2 2),(sQ 3 1 0 2 2),(u64 0),(u64 1),bF,nS,(i64 0),(i64 0),(u64 0),(u64 0),(i64 0),(u64 0),(u64 0),nS,(u64 0),nS,bF,nS,bF,(u64 0),(i64 0),(u64 0),nS,nS,nS,(u64 0),(i64 5),(u64 1),(sN 4 2 0 1),(sN 5 1 0 1),(sQ 6 1 0 1 1),(sQ 9 1 0 1 1),(i64 8),(i64 5),(u64 1),(u64 0),(i64 5),(u64 1),(u64 0),nS,(u64 1),(sN 10 1 0 1),bF])],[bo,bZ,gR,eM,k0,k1,k3,k4,k5,aY,aY],(p0 11),[bo,bZ,gR,eM,k0,k1,k3,k4,k5,aY,aY,(.bx 68 [(i64 5),(u64 1),(i64 0),(u64 1),(i64 1),(u64 1),(sN 12 2 0 2),(sN 13 1 0 2),(sN 14 1 0 2),(sN 15 1 0 2),(u64 0),(u64 1),bF,nS,(i64 0),(i64 0),(u64 0),(u64 0),(i64 0),(u64 0),(u64 0),nS,(u64 0),nS,bF,nS,bF,(u64 0),(i64 0),(u64 0),nS,nS,nS,(u64 0),(i64 5),(u64 1),(sN 16 2 0 1),(sN 17 1 0 1),(sN 18 1 0 1),(sN 21 1 0 1),(i64 8),(i64 5),(u64 1),(u64 0),(i64 5),(u64 1),(u64 0),nS,(u64 1),(sN 22 1 0 1),bF,nS,nS]),bo,bZ,gR,eM,k0,k1,(.fl 111 1 1 [(sN 19 2 0 1)]),(.fl 113 2 1 [(u64 1),(sN 20 1 0 1)]),k5,aY,aY]⟩
def Jw:Part:=⟨40,[(.ag [(u64 1),(i64 1),(u64 1),(sN 0 2 0 2),(sN 1 1 0 2),(sN 2 1 0 2),(sN 3 1 0 2)]),(.ag [(i64 5),(u64 1),(u64 1),(.d (.ro 1 [[(.v (.int IntKind.u8 (Int.ofNat 98)))]]))])],[bo,bZ,gR,eM],(.tu [(.ag [(u64 1),(i64 1),(u64 1),(sN 4 2 0 2),(sN 5 1 0 2),(sQ 6 1 0 2 2),(sQ 9 1 0 2 2)]),bT]),[bo,bZ,gR,eM,bo,bZ,(.fl 111 1 2 [(sN 7 2 0 1),nS]),k4,eZ,eM]⟩
def Jx:Part:=⟨20,[(p0 0)],[KD,bo,bZ,x4,k8,eZ,eM,k0,k1,mF,mG,k5,aY,aY,KE,eZ],(sN 16 2 0 1),[KD,bo,bZ,x4,k8,eZ,eM,k0,k1,mF,mG,k5,aY,aY,KE,eZ,(.fl 24 2 2 [(i64 6),(u64 1),(i64 0),(u64 0)])]⟩
def Jy:Part:=⟨22,[(.ag [(i64 7),(i64 5),(u64 1),(u64 1),(i64 1),(u64 1),(u64 1),(.d (.ro 1 [[(.v (.int IntKind.u8 (Int.ofNat 98)))]])),(u64 0),nS,bF])],[],(.ag [(i64 7),(i64 5),(u64 1),(u64 1),(i64 1),(u64 1),(u64 1),(sN 0 1 0 1),(u64 0),nS,bF]),[eZ]⟩
def Jz:Part:=⟨44,[(.ag [(u64 1),(i64 1),(u64 1),(sN 0 2 0 2),(sN 1 1 0 2),(sQ 2 1 0 2 2),(sQ 5 1 0 2 2)]),nS],[bo,bZ,KF,eY,eZ,eM],(.tu [(.ag [(u64 1),(i64 1),(u64 1),(sN 6 2 0 2),(sN 7 1 0 2),(sQ 8 1 0 2 2),(sQ 11 1 0 2 2)]),(sN 12 4 0 1)]),[bo,bZ,KF,eY,eZ,eM,bo,bZ,(.fl 111 1 2 [(sN 9 2 0 1),nS]),KB,eZ,Eh,KC,eZ]⟩
def JA:Part:=⟨23,[(p0 0),nS],[k6,k0,k1,k7,k8,k5,k1,k9,k5],(.tu []),[(.bx 68 [(i64 5),(u64 1),(i64 0),(u64 0),(i64 5),(u64 1),(sN 9 2 0 1),(sN 10 1 0 1),(sQ 11 1 0 1 1),(sQ 14 1 0 1 1),(u64 1),(u64 0),bF,nS,(i64 0),(i64 0),(u64 0),(u64 0),(i64 0),(u64 0),(u64 0),nS,(u64 0),nS,bF,nS,bF,(u64 0),(i64 0),(u64 0),nS,nS,nS,(u64 0),(i64 0),(u64 0),nS,nS,nS,nS,(i64 0),(i64 0),(u64 0),(u64 0),(i64 0),(u64 0),(u64 0),nS,(u64 0),nS,bF,nS,(sN 15 13 0 2)]),k0,k1,k7,k8,k5,k1,.dead,k5,k0,k1,Ef,Eg,k5,aY,(.fl 58 13 2 [(i64 1),(i64 5),(u64 1),(i64 0),(u64 0),(u64 1),(sN 8 1 0 1),(u64 0),(i64 0),(u64 0),nS,nS,nS,(i64 2),(i64 5),(u64 1),(i64 5),(u64 1),(u64 1),(sN 16 1 0 1),(u64 0),(i64 0),(u64 0),nS,nS,nS]),k5]⟩
def JB:Part:=⟨23,[(p0 0),(sN 8 1 0 1)],[(.bx 68 [(i64 5),(u64 1),(i64 2),(u64 0),(i64 5),(u64 1),(sN 1 2 0 1),(sN 2 1 0 1),(sN 3 1 0 1),(sN 6 1 0 1),(u64 1),(u64 1),bT,(sN 7 2 0 2),(i64 8),(i64 5),(u64 1),(u64 0),(i64 5),(u64 1),(u64 0),nS,(u64 1),(sN 8 1 0 1),bF,nS,bF,(u64 0),(i64 0),(u64 0),nS,nS,nS,(u64 0),(i64 0),(u64 0),nS,nS,nS,nS,(i64 0),(i64 0),(u64 0),(u64 0),(i64 0),(u64 0),(u64 0),nS,(u64 0),nS,bF,(sN 9 13 0 1),(sN 11 13 0 1)]),k0,k1,k7,k8,k5,aY,bo,aY,x5,aY,py],(.tu []),[(.bx 68 [(i64 5),(u64 1),(i64 2),(u64 0),(i64 5),(u64 1),(sN 12 2 0 1),(sN 13 1 0 1),(sQ 14 1 0 1 1),(sQ 17 1 0 1 1),(u64 1),(u64 1),bT,(sN 7 2 0 2),(i64 8),(i64 5),(u64 1),(u64 0),(i64 5),(u64 1),(u64 0),nS,(u64 1),(sN 8 1 0 1),bF,nS,bF,(u64 0),(i64 0),(u64 0),nS,nS,nS,(u64 0),(i64 0),(u64 0),nS,nS,nS,nS,(i64 0),(i64 0),(u64 0),(u64 0),(i64 0),(u64 0),(u64 0),nS,(u64 0),nS,bF,(sN 9 13 0 1),(sN 11 13 0 1)]),k0,k1,k7,k8,k5,aY,bo,aY,x5,aY,py,k0,k1,KG,KH,k5,aY]⟩
def JC:Part:=⟨23,[(p0 0),(sQ 11 1 0 1 1)],[KI,k0,k1,k7,k8,k5,aY,bo,aY,bo,bZ,aY],(.tu []),[(.bx 68 [(i64 5),(u64 1),(i64 2),(u64 0),(i64 5),(u64 1),(sN 12 2 0 1),(sN 13 1 0 1),(sQ 14 1 0 1 1),(sQ 17 1 0 1 1),(u64 1),(u64 1),bT,(sN 7 2 0 2),(i64 8),(i64 5),(u64 1),(u64 0),(i64 5),(u64 1),(u64 0),nS,(u64 1),(sN 8 1 0 1),bF,nS,bT,(u64 1),(i64 1),(u64 1),(sN 9 2 0 2),(sN 10 1 0 2),nS,(u64 0),(i64 0),(u64 0),nS,nS,nS,nS,(i64 0),(i64 0),(u64 0),(u64 0),(i64 0),(u64 0),(u64 0),nS,(u64 0),nS,bF,nS,nS]),k0,k1,k7,k8,k5,aY,bo,aY,bo,bZ,aY,k0,k1,KG,KH,k5,aY]⟩
def JD:Part:=⟨23,[(p0 0),nS],[(.bx 68 [(i64 5),(u64 1),(i64 0),(u64 1),(i64 1),(u64 1),(sN 1 2 0 2),(sN 2 1 0 2),(sQ 3 1 0 2 2),(sQ 4 1 0 2 2),(u64 0),(u64 1),bF,nS,(i64 0),(i64 0),(u64 0),(u64 0),(i64 0),(u64 0),(u64 0),nS,(u64 0),nS,bF,nS,bF,(u64 0),(i64 0),(u64 0),nS,nS,nS,(u64 0),(i64 5),(u64 1),(sN 5 2 0 1),(sN 6 1 0 1),(sQ 7 1 0 1 1),(sQ 10 1 0 1 1),(i64 8),(i64 5),(u64 1),(u64 0),(i64 5),(u64 1),(u64 0),nS,(u64 1),(sN 11 1 0 1),bF,nS,(sN 12 13 0 1)]),bo,bZ,gR,eM,k0,k1,KJ,KK,k5,aY,aY,KM,bo,bZ,k0],(.tu []),[(.bx 68 [(i64 5),(u64 1),(i64 0),(u64 1),(i64 1),(u64 1),(sN 16 2 0 2),(sN 17 1 0 2),(sQ 18 1 0 2 2),(sQ 19 1 0 2 2),(u64 0),(u64 1),bF,nS,(i64 0),(i64 0),(u64 0),(u64 0),(i64 0),(u64 0),(u64 0),nS,(u64 0),nS,bF,nS,bF,(u64 0),(i64 0),(u64 0),nS,nS,nS,(u64 0),(i64 5),(u64 1),(sN 5 2 0 1),(sN 6 1 0 1),(sQ 7 1 0 1 1),(sQ 10 1 0 1 1),(i64 8),(i64 5),(u64 1),(u64 0),(i64 5),(u64 1),(u64 0),nS,(u64 1),(sN 11 1 0 1),bF,nS,(sN 12 13 0 1)]),bo,bZ,gR,eM,k0,k1,KJ,KK,k5,aY,aY,KM,bo,bZ,k0,bo,bZ,gR,eM]⟩
def JE:Part:=⟨23,[(p0 0),nS],[(.bx 68 [(i64 5),(u64 1),(i64 0),(u64 1),(i64 1),(u64 1),(sN 1 2 0 2),(sN 2 1 0 2),(sQ 3 1 0 2 2),(sQ 6 1 0 2 2),(u64 1),(u64 1),bF,nS,(i64 0),(i64 0),(u64 0),(u64 0),(i64 0),(u64 0),(u64 0),nS,(u64 0),nS,bF,nS,bF,(u64 0),(i64 0),(u64 0),nS,nS,nS,(u64 0),(i64 5),(u64 1),(sN 7 2 0 1),(sN 8 1 0 1),(sN 9 1 0 1),(sN 12 1 0 1),(i64 8),(i64 5),(u64 1),(u64 0),(i64 5),(u64 1),(u64 0),nS,(u64 1),(sN 13 1 0 1),bF,(sN 14 13 0 1),(sN 16 13 0 1)]),bo,bZ,x4,k8,eZ,eM,k0,k1,mF,mG,k5,aY,aY,KN,eZ,(.fl 58 13 1 [(i64 1),(i64 5),(u64 1),(i64 0),(u64 0),(u64 1),(sN 17 1 0 1),(u64 0),(i64 0),(u64 0),nS,nS,nS]),eZ],(.tu []),[(.bx 68 [(i64 5),(u64 1),(i64 0),(u64 1),(i64 1),(u64 1),(sN 18 2 0 2),(sN 19 1 0 2),(sQ 20 1 0 2 2),(sQ 23 1 0 2 2),(u64 1),(u64 1),bF,nS,(i64 0),(i64 0),(u64 0),(u64 0),(i64 0),(u64 0),(u64 0),nS,(u64 0),nS,bF,nS,bF,(u64 0),(i64 0),(u64 0),nS,nS,nS,(u64 0),(i64 5),(u64 1),(sN 7 2 0 1),(sN 8 1 0 1),(sN 9 1 0 1),(sN 12 1 0 1),(i64 8),(i64 5),(u64 1),(u64 0),(i64 5),(u64 1),(u64 0),nS,(u64 1),(sN 13 1 0 1),bF,(sN 14 13 0 1),(sN 24 13 0 2)]),bo,bZ,x4,k8,eZ,eM,k0,k1,mF,mG,k5,aY,aY,KN,eZ,.dead,eZ,bo,bZ,(.fl 111 1 2 [(sN 21 2 0 1),nS]),(.fl 113 2 1 [(u64 1),(sN 22 1 0 1)]),eZ,Eh,(.fl 58 13 2 [(i64 1),(i64 5),(u64 1),(i64 0),(u64 0),(u64 1),(sN 17 1 0 1),(u64 0),(i64 0),(u64 0),nS,nS,nS,(i64 2),(i64 5),(u64 1),(i64 5),(u64 1),(u64 1),(sN 25 1 0 1),(u64 0),(i64 0),(u64 0),nS,nS,nS]),eZ]⟩
def JF:Part:=⟨24,[(p0 0)],[(.bx 68 [(i64 5),(u64 1),(i64 2),(u64 0),(i64 5),(u64 1),(sN 1 2 0 1),(sN 2 1 0 1),(sN 3 1 0 1),(sN 6 1 0 1),(u64 1),(u64 1),bT,(sN 7 2 0 2),(i64 0),(i64 0),(u64 0),(u64 0),(i64 0),(u64 0),(u64 0),nS,(u64 0),nS,bF,nS,bF,(u64 0),(i64 0),(u64 0),nS,nS,nS,(u64 0),(i64 0),(u64 0),nS,nS,nS,nS,(i64 0),(i64 0),(u64 0),(u64 0),(i64 0),(u64 0),(u64 0),nS,(u64 0),nS,bF,nS,(sN 8 13 0 1)]),k0,k1,k7,k8,k5,aY,bo,py],(.tu []),[(.bx 68 [(i64 5),(u64 1),(i64 2),(u64 0),(i64 5),(u64 1),(sN 9 2 0 1),(sN 10 1 0 1),(sQ 11 1 0 1 1),(sQ 14 1 0 1 1),(u64 1),(u64 1),bT,(sN 7 2 0 2),(i64 8),(i64 5),(u64 1),(u64 0),(i64 5),(u64 1),(u64 0),nS,(u64 1),(sN 15 1 0 1),bF,nS,bF,(u64 0),(i64 0),(u64 0),nS,nS,nS,(u64 0),(i64 0),(u64 0),nS,nS,nS,nS,(i64 0),(i64 0),(u64 0),(u64 0),(i64 0),(u64 0),(u64 0),nS,(u64 0),nS,bF,(sN 16 13 0 1),(sN 8 13 0 1)]),k0,k1,k7,k8,k5,aY,bo,py,k0,k1,Ef,Eg,k5,aY,aY,(.fl 61 13 1 [(i64 6),(u64 1),(i64 8),(i64 5),(u64 1),(u64 0),(i64 5),(u64 1),(u64 0),nS,(u64 1),(sN 17 1 0 1),bF]),aY]⟩
def JG:Part:=⟨25,[(p0 0)],[KO,k0,k1,k7,k8,k5,aY,bo,aY,x5,aY,py],(.tu []),[KO,k0,k1,k7,k8,k5,aY,bo,aY,x5,aY,py]⟩
def JH:Part:=⟨25,[(p0 0)],[KI,k0,k1,k7,k8,k5,aY,bo,aY,bo,bZ],(.tu []),[(.bx 68 [(i64 5),(u64 1),(i64 0),(u64 1),(i64 1),(u64 1),(sN 11 2 0 2),(sN 12 1 0 2),(sQ 13 1 0 2 2),(sQ 14 1 0 2 2),(u64 0),(u64 1),bF,nS,(i64 0),(i64 0),(u64 0),(u64 0),(i64 0),(u64 0),(u64 0),nS,(u64 0),nS,bF,nS,bF,(u64 0),(i64 0),(u64 0),nS,nS,nS,(u64 0),(i64 5),(u64 1),(sN 15 2 0 1),(sN 16 1 0 1),(sQ 17 1 0 1 1),(sQ 20 1 0 1 1),(i64 8),(i64 5),(u64 1),(u64 0),(i64 5),(u64 1),(u64 0),nS,(u64 1),(sN 8 1 0 1),bF,nS,(sN 21 13 0 1)]),k0,k1,k7,k8,k5,aY,bo,aY,bo,bZ,bo,bZ,gR,eM,k0,k1,(.fl 111 1 1 [(sN 18 2 0 1)]),(.fl 113 2 1 [(u64 1),(sN 19 1 0 1)]),k5,aY,KP,bo,bZ,k0]⟩
def JI:Part:=⟨8,[(.ag [(i64 5),(u64 1),(i64 0),(u64 0),(i64 5),(u64 1),(sN 0 2 0 1),(sN 1 1 0 1),(sQ 2 1 0 1 1),(sQ 3 1 0 1 1),(u64 0),(u64 0),bF,nS,(i64 0),(i64 0),(u64 0),(u64 0),(i64 0),(u64 0),(u64 0),nS,(u64 0),nS,bF,nS,bF,(u64 0),(i64 0),(u64 0),nS,nS,nS,(u64 0),(i64 0),(u64 0),nS,nS,nS,nS,(i64 0),(i64 0),(u64 0),(u64 0),(i64 0),(u64 0),(u64 0),nS,(u64 0),nS,bF]),(.d (.ro 1 [[(.v (.int IntKind.u8 (Int.ofNat 97)))]]))],[k0,k1,k2,k1],(.tu [(.ag [(i64 5),(u64 1),(i64 0),(u64 0),(i64 5),(u64 1),(sN 4 2 0 1),(sN 5 1 0 1),(sQ 6 1 0 1 1),(sQ 9 1 0 1 1),(u64 1),(u64 0),bF,nS,(i64 0),(i64 0),(u64 0),(u64 0),(i64 0),(u64 0),(u64 0),nS,(u64 0),nS,bF,nS,bF,(u64 0),(i64 0),(u64 0),nS,nS,nS,(u64 0),(i64 0),(u64 0),nS,nS,nS,nS,(i64 0),(i64 0),(u64 0),(u64 0),(i64 0),(u64 0),(u64 0),nS,(u64 0),nS,bF]),(.ag [nS,(sN 10 13 0 2)]),(i64 0)]),[k0,k1,k2,k1,k0,k1,k3,k4,k5,aY,(.fl 58 13 2 [(i64 1),(i64 5),(u64 1),(i64 0),(u64 0),(u64 1),(sN 11 1 0 1),(u64 0),(i64 0),(u64 0),nS,nS,nS,(i64 2),(i64 5),(u64 1),(i64 5),(u64 1),(u64 1),(sN 12 1 0 1),(u64 0),(i64 0),(u64 0),nS,nS,nS]),k5,k5]⟩
def JJ:Part:=⟨8,[(.ag [(i64 5),(u64 1),(i64 0),(u64 1),(i64 1),(u64 1),(sN 0 2 0 2),(sN 1 1 0 2),(sQ 2 1 0 2 2),(sQ 3 1 0 2 2),(u64 0),(u64 1),bF,nS,(i64 0),(i64 0),(u64 0),(u64 0),(i64 0),(u64 0),(u64 0),nS,(u64 0),nS,bF,nS,bF,(u64 0),(i64 0),(u64 0),nS,nS,nS,(u64 0),(i64 5),(u64 1),(sN 4 2 0 1),(sN 5 1 0 1),(sQ 6 1 0 1 1),(sQ 9 1 0 1 1),(i64 8),(i64 5),(u64 1),(u64 0),(i64 5),(u64 1),(u64 0),nS,(u64 1),(sN 10 1 0 1),bF]),(.d (.ro 1 [[(.v (.int IntKind.u8 (Int.ofNat 98)))]]))],[bo,bZ,gR,eM,k0,k1,k3,k4,k5,aY,aY],(.tu [(.ag [(i64 5),(u64 1),(i64 0),(u64 1),(i64 1),(u64 1),(sN 11 2 0 2),(sN 12 1 0 2),(sQ 13 1 0 2 2),(sQ 16 1 0 2 2),(u64 1),(u64 1),bF,nS,(i64 0),(i64 0),(u64 0),(u64 0),(i64 0),(u64 0),(u64 0),nS,(u64 0),nS,bF,nS,bF,(u64 0),(i64 0),(u64 0),nS,nS,nS,(u64 0),(i64 5),(u64 1),(sN 17 2 0 1),(sN 18 1 0 1),(sN 19 1 0 1),(sN 22 1 0 1),(i64 8),(i64 5),(u64 1),(u64 0),(i64 5),(u64 1),(u64 0),nS,(u64 1),(sN 23 1 0 1),bF]),(.ag [(sN 24 13 0 1),(sN 26 13 0 2)]),(i64 0)]),[bo,bZ,gR,eM,k0,k1,k3,k4,k5,aY,aY,bo,bZ,(.fl 111 1 2 [(sN 14 2 0 1),nS]),(.fl 113 2 1 [(u64 1),(sN 15 1 0 1)]),eZ,Eh,k0,k1,(.fl 111 1 1 [(sN 20 2 0 1)]),(.fl 113 2 1 [(u64 1),(sN 21 1 0 1)]),k5,aY,aY,(.fl 61 13 1 [(i64 6),(u64 1),(i64 7),(i64 5),(u64 1),(u64 1),(i64 1),(u64 1),(u64 1),(sN 25 1 0 1),(u64 0),nS,bF]),eZ,(.fl 58 13 2 [(i64 1),(i64 5),(u64 1),(i64 0),(u64 0),(u64 1),(sN 27 1 0 1),(u64 0),(i64 0),(u64 0),nS,nS,nS,(i64 2),(i64 5),(u64 1),(i64 5),(u64 1),(u64 1),(sN 28 1 0 1),(u64 0),(i64 0),(u64 0),nS,nS,nS]),eZ,eZ]⟩
def JK:Part:=⟨10,[(.ag [(i64 5),(u64 1),(i64 0),(u64 0),(i64 5),(u64 1),(sN 0 2 0 1),(sN 1 1 0 1),(sQ 2 1 0 1 1),(sQ 5 1 0 1 1),(u64 1),(u64 0),bF,nS,(i64 0),(i64 0),(u64 0),(u64 0),(i64 0),(u64 0),(u64 0),nS,(u64 0),nS,bF,nS,bF,(u64 0),(i64 0),(u64 0),nS,nS,nS,(u64 0),(i64 0),(u64 0),nS,nS,nS,nS,(i64 0),(i64 0),(u64 0),(u64 0),(i64 0),(u64 0),(u64 0),nS,(u64 0),nS,bF]),(u64 1),(sQ 6 2 0 2 2)],[k0,k1,fq,eY,k5,aY,bo],(.tu [(.ag [(i64 5),(u64 1),(i64 1),(u64 0),(i64 5),(u64 1),(sN 7 2 0 1),(sN 8 1 0 1),(sN 9 1 0 1),(sN 12 1 0 1),(u64 1),(u64 1),bT,(sN 13 2 0 2),(i64 0),(i64 0),(u64 0),(u64 0),(i64 0),(u64 0),(u64 0),nS,(u64 0),nS,bF,nS,bF,(u64 0),(i64 0),(u64 0),nS,nS,nS,(u64 0),(i64 0),(u64 0),nS,nS,nS,nS,(i64 0),(i64 0),(u64 0),(u64 0),(i64 0),(u64 0),(u64 0),nS,(u64 0),nS,bF]),(.ag [nS,(sN 14 13 0 1)])]),[k0,k1,fq,eY,k5,aY,bo,k0,k1,mF,mG,k5,aY,bo,(.fl 58 13 1 [(i64 3),(i64 5),(u64 1),(i64 0),(u64 0),(u64 0),nS,(u64 0),(i64 0),(u64 0),nS,nS,nS])]⟩
def JL:Part:=⟨9,[(.ag [(i64 5),(u64 1),(i64 1),(u64 0),(i64 5),(u64 1),(sN 0 2 0 1),(sN 1 1 0 1),(sN 2 1 0 1),(sN 5 1 0 1),(u64 1),(u64 1),bT,(sN 6 2 0 2),(i64 0),(i64 0),(u64 0),(u64 0),(i64 0),(u64 0),(u64 0),nS,(u64 0),nS,bF,nS,bF,(u64 0),(i64 0),(u64 0),nS,nS,nS,(u64 0),(i64 0),(u64 0),nS,nS,nS,nS,(i64 0),(i64 0),(u64 0),(u64 0),(i64 0),(u64 0),(u64 0),nS,(u64 0),nS,bF])],[k0,k1,fq,eY,k5,aY,bo],(.tu [(.ag [(i64 5),(u64 1),(i64 2),(u64 0),(i64 5),(u64 1),(sN 7 2 0 1),(sN 8 1 0 1),(sQ 9 1 0 1 1),(sQ 12 1 0 1 1),(u64 1),(u64 1),bT,(sN 13 2 0 2),(i64 8),(i64 5),(u64 1),(u64 0),(i64 5),(u64 1),(u64 0),nS,(u64 1),(sN 14 1 0 1),bF,nS,bF,(u64 0),(i64 0),(u64 0),nS,nS,nS,(u64 0),(i64 0),(u64 0),nS,nS,nS,nS,(i64 0),(i64 0),(u64 0),(u64 0),(i64 0),(u64 0),(u64 0),nS,(u64 0),nS,bF]),(.ag [(sN 15 13 0 1),(sN 17 13 0 1)]),(i64 0)]),[k0,k1,fq,eY,k5,aY,bo,k0,k1,mF,mG,k5,aY,bo,aY,(.fl 61 13 1 [(i64 6),(u64 1),(i64 8),(i64 5),(u64 1),(u64 0),(i64 5),(u64 1),(u64 0),nS,(u64 1),(sN 16 1 0 1),bF]),aY,py]⟩
def JM:Part:=⟨13,[(.ag [(i64 5),(u64 1),(i64 2),(u64 0),(i64 5),(u64 1),(sN 0 2 0 1),(sN 1 1 0 1),(sQ 2 1 0 1 1),(sQ 5 1 0 1 1),(u64 1),(u64 1),bT,(sN 6 2 0 2),(i64 8),(i64 5),(u64 1),(u64 0),(i64 5),(u64 1),(u64 0),nS,(u64 1),(sN 7 1 0 1),bF,nS,bF,(u64 0),(i64 0),(u64 0),nS,nS,nS,(u64 0),(i64 0),(u64 0),nS,nS,nS,nS,(i64 0),(i64 0),(u64 0),(u64 0),(i64 0),(u64 0),(u64 0),nS,(u64 0),nS,bF]),(.ag [(u64 1),(i64 1),(u64 1),(sQ 8 2 0 2 2),(sQ 9 1 0 2 2)])],[k0,k1,fq,eY,k5,aY,bo,aY,bo,bZ],(.tu [(.ag [(i64 5),(u64 1),(i64 0),(u64 1),(i64 1),(u64 1),(sN 10 2 0 2),(sN 11 1 0 2),(sQ 12 1 0 2 2),(sQ 13 1 0 2 2),(u64 0),(u64 1),bF,nS,(i64 0),(i64 0),(u64 0),(u64 0),(i64 0),(u64 0),(u64 0),nS,(u64 0),nS,bF,nS,bF,(u64 0),(i64 0),(u64 0),nS,nS,nS,(u64 0),(i64 5),(u64 1),(sN 14 2 0 1),(sN 15 1 0 1),(sQ 16 1 0 1 1),(sQ 19 1 0 1 1),(i64 8),(i64 5),(u64 1),(u64 0),(i64 5),(u64 1),(u64 0),nS,(u64 1),(sN 20 1 0 1),bF]),(.ag [nS,(sN 21 13 0 1)])]),[k0,k1,fq,eY,k5,aY,bo,aY,bo,bZ,bo,bZ,gR,eM,k0,k1,(.fl 111 1 1 [(sN 17 2 0 1)]),(.fl 113 2 1 [(u64 1),(sN 18 1 0 1)]),k5,aY,aY,KP,bo,bZ,k0]⟩
end Go.Proofs.YtgkdnnmcjjabdaaGreat
namespace Go.Proofs.YtgkdnnmcjjabdaaGreat
open Go.RowKit
theorem Vv:KQ.Ok Tryz.prog:=Part.cF tk cC tq cA (fuel:=100000) (d:=60) (by kernel_rfl)
theorem Vw:KR.Ok Tryz.prog:=Part.cF tk cC tq cA (fuel:=100000) (d:=60) (by kernel_rfl)
theorem Vx:KS.Ok Tryz.prog:=Part.cF tk cC tq cA (fuel:=100000) (d:=60) (by kernel_rfl)
theorem Vy:KT.Ok Tryz.prog:=Part.cF tk cC tq cA (fuel:=100000) (d:=60) (by kernel_rfl)
theorem Vz:KU.Ok Tryz.prog:=Part.cF tk cC tq cA (fuel:=100000) (d:=60) (by kernel_rfl)
end Go.Proofs.YtgkdnnmcjjabdaaGreat
namespace Go.Proofs.YtgkdnnmcjjabdaaGreat
open Go.RowKit
theorem VA:KV.Ok Tryz.prog:=Part.cF tk cC tq cA (fuel:=100000) (d:=60) (by kernel_rfl)
theorem VB:KW.Ok Tryz.prog:=Part.cF tk cC tq cA (fuel:=100000) (d:=60) (by kernel_rfl)
theorem VC:KX.Ok Tryz.prog:=Part.cF tk cC tq cA (fuel:=100000) (d:=60) (by kernel_rfl)
theorem VD:KY.Ok Tryz.prog:=Part.cF tk cC tq cA (fuel:=100000) (d:=60) (by kernel_rfl)
theorem VE:KZ.Ok Tryz.prog:=Part.cF tk cC tq cA (fuel:=100000) (d:=60) (by kernel_rfl)
end Go.Proofs.YtgkdnnmcjjabdaaGreat
namespace Go.Proofs.YtgkdnnmcjjabdaaGreat
open Go.RowKit
theorem To:Jj.Ok Tryz.prog:=Part.cF tk cC tq cA (fuel:=100000) (d:=60) (by kernel_rfl)
theorem Tp:Jk.Ok Tryz.prog:=Part.cF tk cC tq cA (fuel:=100000) (d:=60) (by kernel_rfl)
theorem Tq:Jl.Ok Tryz.prog:=Part.cF tk cC tq cA (fuel:=100000) (d:=60) (by kernel_rfl)
theorem Ts:Jm.Ok Tryz.prog:=Part.cF tk cC tq cA (fuel:=100000) (d:=60) (by kernel_rfl)
theorem Tw:Jn.Ok Tryz.prog:=Part.cF tk cC tq cA (fuel:=100000) (d:=60) (by kernel_rfl)
end Go.Proofs.YtgkdnnmcjjabdaaGreat
namespace Go.Proofs.YtgkdnnmcjjabdaaGreat
open Go.RowKit
theorem Tx:Jo.Ok Tryz.prog:=Part.cF tk cC tq cA (fuel:=100000) (d:=60) (by kernel_rfl)
theorem Ty:Jp.Ok Tryz.prog:=Part.cF tk cC tq cA (fuel:=100000) (d:=60) (by kernel_rfl)
theorem Tz:Jq.Ok Tryz.prog:=Part.cF tk cC tq cA (fuel:=100000) (d:=60) (by kernel_rfl)
theorem TA:Jr.Ok Tryz.prog:=Part.cF tk cC tq cA (fuel:=100000) (d:=60) (by kernel_rfl)
theorem TB:Js.Ok Tryz.prog:=Part.cF tk cC tq cA (fuel:=100000) (d:=60) (by kernel_rfl)
end Go.Proofs.YtgkdnnmcjjabdaaGreat
namespace Go.Proofs.YtgkdnnmcjjabdaaGreat
open Go.RowKit
theorem TC:Jt.Ok Tryz.prog:=Part.cF tk cC tq cA (fuel:=100000) (d:=60) (by kernel_rfl)
theorem TD:Ju.Ok Tryz.prog:=Part.cF tk cC tq cA (fuel:=100000) (d:=60) (by kernel_rfl)
theorem TE:Jv.Ok Tryz.prog:=Part.cF tk cC tq cA (fuel:=100000) (d:=60) (by kernel_rfl)
theorem TF:Jw.Ok Tryz.prog:=Part.cF tk cC tq cA (fuel:=100000) (d:=60) (by kernel_rfl)
theorem TG:Jx.Ok Tryz.prog:=Part.cF tk cC tq cA (fuel:=100000) (d:=60) (by kernel_rfl)
end Go.Proofs.YtgkdnnmcjjabdaaGreat
namespace Go.Proofs.YtgkdnnmcjjabdaaGreat
open Go.RowKit
theorem TH:Jy.Ok Tryz.prog:=Part.cF tk cC tq cA (fuel:=100000) (d:=60) (by kernel_rfl)
theorem TJ:Jz.Ok Tryz.prog:=Part.cF tk cC tq cA (fuel:=100000) (d:=60) (by kernel_rfl)
end Go.Proofs.YtgkdnnmcjjabdaaGreat
namespace Go.Proofs.YtgkdnnmcjjabdaaGreat
open Go.RowKit
def K1:List Part:=[KQ,KR,KS,KT,KU,KV,KW,KX,KY,KZ,Jj,Jk,Jl,Jm,Jn,Jo,Jp,Jq,Jr,Js,Jt,Ju,Jv,Jw,Jx,Jy,Jz]
theorem iw:a7 Tryz.prog K1:=(.cons Vv (.cons Vw (.cons Vx (.cons Vy (.cons Vz (.cons VA (.cons VB (.cons VC (.cons VD (.cons VE (.cons To (.cons Tp (.cons Tq (.cons Ts (.cons Tw (.cons Tx (.cons Ty (.cons Tz (.cons TA (.cons TB (.cons TC (.cons TD (.cons TE (.cons TF (.cons TG (.cons TH (.cons TJ .nil)))))))))))))))))))))))))))
end Go.Proofs.YtgkdnnmcjjabdaaGreat
namespace Go.Proofs.YtgkdnnmcjjabdaaGreat
open Go.RowKit
theorem iU:JA.Ok Tryz.prog:=Part.cF tk cC tq (ic iw cA) (fuel:=100000) (d:=60) (by kernel_rfl)
theorem jy:JB.Ok Tryz.prog:=Part.cF tk cC tq (ic (a7.cons iU iw) cA) (fuel:=100000) (d:=60) (by kernel_rfl)
theorem ka:JC.Ok Tryz.prog:=Part.cF tk cC tq (ic (a7.cons jy (a7.cons iU iw)) cA) (fuel:=100000) (d:=60) (by kernel_rfl)
theorem kX:JD.Ok Tryz.prog:=Part.cF tk cC tq (ic (a7.cons ka (a7.cons jy (a7.cons iU iw))) cA) (fuel:=100000) (d:=60) (by kernel_rfl)
theorem l6:JE.Ok Tryz.prog:=Part.cF tk cC tq (ic (a7.cons kX (a7.cons ka (a7.cons jy (a7.cons iU iw)))) cA) (fuel:=100000) (d:=60) (by kernel_rfl)
theorem nu:JF.Ok Tryz.prog:=Part.cF tk cC tq (ic (a7.cons l6 (a7.cons kX (a7.cons ka (a7.cons jy (a7.cons iU iw))))) cA) (fuel:=100000) (d:=60) (by kernel_rfl)
theorem oZ:JG.Ok Tryz.prog:=Part.cF tk cC tq (ic (a7.cons nu (a7.cons l6 (a7.cons kX (a7.cons ka (a7.cons jy (a7.cons iU iw)))))) cA) (fuel:=100000) (d:=60) (by kernel_rfl)
theorem qY:JH.Ok Tryz.prog:=Part.cF tk cC tq (ic (a7.cons oZ (a7.cons nu (a7.cons l6 (a7.cons kX (a7.cons ka (a7.cons jy (a7.cons iU iw))))))) cA) (fuel:=100000) (d:=60) (by kernel_rfl)
theorem tz:JI.Ok Tryz.prog:=Part.cF tk cC tq (ic (a7.cons qY (a7.cons oZ (a7.cons nu (a7.cons l6 (a7.cons kX (a7.cons ka (a7.cons jy (a7.cons iU iw)))))))) cA) (fuel:=100000) (d:=60) (by kernel_rfl)
theorem xD:JJ.Ok Tryz.prog:=Part.cF tk cC tq (ic (a7.cons tz (a7.cons qY (a7.cons oZ (a7.cons nu (a7.cons l6 (a7.cons kX (a7.cons ka (a7.cons jy (a7.cons iU iw))))))))) cA) (fuel:=100000) (d:=60) (by kernel_rfl)
theorem Db:JK.Ok Tryz.prog:=Part.cF tk cC tq (ic (a7.cons xD (a7.cons tz (a7.cons qY (a7.cons oZ (a7.cons nu (a7.cons l6 (a7.cons kX (a7.cons ka (a7.cons jy (a7.cons iU iw)))))))))) cA) (fuel:=100000) (d:=60) (by kernel_rfl)
theorem JN:JL.Ok Tryz.prog:=Part.cF tk cC tq (ic (a7.cons Db (a7.cons xD (a7.cons tz (a7.cons qY (a7.cons oZ (a7.cons nu (a7.cons l6 (a7.cons kX (a7.cons ka (a7.cons jy (a7.cons iU iw))))))))))) cA) (fuel:=100000) (d:=60) (by kernel_rfl)
theorem TK:JM.Ok Tryz.prog:=Part.cF tk cC tq (ic (a7.cons JN (a7.cons Db (a7.cons xD (a7.cons tz (a7.cons qY (a7.cons oZ (a7.cons nu (a7.cons l6 (a7.cons kX (a7.cons ka (a7.cons jy (a7.cons iU iw)))))))))))) cA) (fuel:=100000) (d:=60) (by kernel_rfl)
end Go.Proofs.YtgkdnnmcjjabdaaGreat
namespace Go.Proofs.YtgkdnnmcjjabdaaGreat
open Go.RowKit
def K3:List Part:=(JM::(JL::(JK::(JJ::(JI::(JH::(JG::(JF::(JE::(JD::(JC::(JB::(JA::K1)))))))))))))
theorem Su:a7 Tryz.prog K3:=(a7.cons TK (a7.cons JN (a7.cons Db (a7.cons xD (a7.cons tz (a7.cons qY (a7.cons oZ (a7.cons nu (a7.cons l6 (a7.cons kX (a7.cons ka (a7.cons jy (a7.cons iU iw)))))))))))))
theorem Qf:al Tryz.prog 6 [] (.v (.bool true)):=Qd (T:=tb) (KL:=[]) (X:=Cg K3 KA) (fuel:=100000) (d:=60) tk cC tq (ic Su cA) (by kernel_rfl)
end Go.Proofs.YtgkdnnmcjjabdaaGreat
namespace Go.Proofs.YtgkdnnmcjjabdaaGreat
open Go.RowKit
structure ay where
 node:Int
 inc:Nat
deriving DecidableEq
def ay.row (p:ay):List DV:=[.v (.int .i64 p.node),.v (.int .u64 (p.inc:Int))]
abbrev procs (l:List ay):List (List DV):=l.map ay.row
theorem fK {l:List ay} {i:Nat} {p:ay} (h:l[i]?=some p):(procs l)[i]?=some [.v (.int .i64 p.node),.v (.int .u64 (p.inc:Int))]:=by simp [procs,h,ay.row]
abbrev ae (l:List Nat):List (List DV):=l.map fun (n:Nat)=>[.v (.int .u64 (n:Int))]
def ay.may (p:ay):Bool:=decide (1≤p.node∧p.node≤10∧0<p.inc)
theorem GR (d:Nat) (a b c e:Int) (w:World):(Op.equalIn (d+2) 24 (.agg #[.int .i64 a,.int .u64 b]) (.agg #[.int .i64 c,.int .u64 e])).run Tryz.prog w=.ok (a==c&&b==e) w:=
 yV (f0:=⟨"Node",3,0,false, "", "",0⟩) (f1:=⟨"Inc",22,1,false, "", "",8⟩) (by kernel_rfl) (by kernel_rfl) (by decide) (by decide) (n7 w (by kernel_rfl) rfl) (n7 w (by kernel_rfl) rfl) (n7 w (by kernel_rfl) rfl) (n7 w (by kernel_rfl) rfl)
  (yU w d (by kernel_rfl)) (yU w d (by kernel_rfl))
def idx {α:Type} [DecidableEq α]:List α→α→Nat→Int
 | [],_,_ => -1
 | x::r,p,k=>if x=p then (k:Int) else idx r p (k+1)
theorem qg {α:Type} [DecidableEq α] {p:α}:∀ {l:List α} {k i:Nat},l[i]?=some p→(∀ j,j<i→l[j]?≠some p)→idx l p k=((k+i:Nat):Int)
 | [],_,_,h,_=>by simp at h
 | x::r,k,0,h,_=>by simp at h;simp [idx,h]
 | x::r,k,i+1,h,hb=>by
  have h0:x≠p:=by have:=hb 0 (by omega);simpa using this
  rw [idx,if_neg h0,qg (i:=i) (by simpa using h) fun j hj=>by simpa using hb (j+1) (by omega)]
  congr 1;omega
theorem pN {α:Type} [DecidableEq α] {p:α}:∀ {l:List α} {k:Nat},(∀ j,j<l.length→l[j]?≠some p)→idx l p k = -1
 | [],_,_=>rfl
 | x::r,k,h=>by
  have h0:x≠p:=by have:=h 0 (by simp);simpa using this
  rw [idx,if_neg h0]
  exact pN fun j hj=>by simpa using h (j+1) (by simpa using hj)
theorem iv {k:IntKind} {a b:Int} (h:a=b):DV.v (.int k a)=.v (.int k b):=by rw [h]
theorem du {α:Type} {a b:List α} (hl:a.length=b.length) (h:∀ j,j<a.length→a[j]?=b[j]?):a=b:=by
 apply List.ext_getElem?
 intro j
 rcases Nat.lt_or_ge j a.length with hj | hj
 ·exact h j hj
 ·rw [List.getElem?_eq_none hj,List.getElem?_eq_none (by omega)]
theorem fG {t:TypeId} {xs ys:List Value} {c c':Bool} (e:eh Tryz.prog t xs ys c) (h:c=c'):eh Tryz.prog t xs ys c':=h▸e
theorem eH {l:List Nat} {i x:Nat} (h:l[i]?=some x):(ae l)[i]?=some [.v (.int .u64 (x:Int))]:=by simp [ae,h]
theorem Rq (a b c d:Int):eh Tryz.prog 24 [.int .i64 a,.int .u64 b] [.int .i64 c,.int .u64 d] (a==c&&b==d):=⟨by kernel_rfl,fun w=>GR 9998 a b c d w⟩
theorem ji (x y:ay):eh Tryz.prog 24 [.int .i64 x.node,.int .u64 (x.inc:Int)] [.int .i64 y.node,.int .u64 (y.inc:Int)] (decide (x=y)):=by
 have h:=Rq x.node x.inc y.node y.inc
 refine fG h ?_
 cases x with | mk a b=>cases y with | mk c d=>
 rw [Bool.eq_iff_iff]
 simp only [Bool.and_eq_true,beq_iff_eq,decide_eq_true_eq,ay.mk.injEq]
 omega
set_option maxRecDepth 100000 in
theorem vR (p:ay):al Tryz.prog 83 [.ag [.z p.node,.u p.inc]] (DV.v (.bool p.may)):=by
 refine al.intro (by kernel_rfl) rfl rfl 16 rfl rfl fun w0 K ac hK r=>?_
 cases h0:(decide ((1:Int)≤p.node)) with
 | false=>
  have bh:=of_decide_eq_false h0
  rw [show (DV.v (.bool p.may):DV)=.v (.bool false) from (bv (by simp [ay.may];omega))]
  exact aN tk tq hK rfl [(1,[(2,.b false)])] 2000 r (by kernel_rfl) (U h0 trivial)
 | true=>
  have bh:=of_decide_eq_true h0
  cases h1:(decide ((p.node:Int)≤10)) with
  | false=>
   have bM:=of_decide_eq_false h1
   rw [show (DV.v (.bool p.may):DV)=.v (.bool false) from (bv (by simp [ay.may];omega))]
   exact aN tk tq hK rfl [(1,[(2,.b true),(6,.b false)])] 2000 r (by kernel_rfl) (U h0 (U h1 trivial))
  | true=>
   have bM:=of_decide_eq_true h1
   cases h2:(decide ((0:Int)<((p.inc:Nat):Int))) with
   | false=>
    have cK:=of_decide_eq_false h2
    rw [show (DV.v (.bool p.may):DV)=.v (.bool false) from (bv (by simp [ay.may];omega))]
    exact aN tk tq hK rfl [(1,[(2,.b true),(6,.b true),(11,.b false)])] 2000 r (by kernel_rfl) (U h0 (U h1 (U h2 trivial)))
   | true=>
    have cK:=of_decide_eq_true h2
    rw [show (DV.v (.bool p.may):DV)=.v (.bool true) from (bv (by simp [ay.may];omega))]
    exact aN tk tq hK rfl [(1,[(2,.b true),(6,.b true),(11,.b true)])] 2000 r (by kernel_rfl) (U h0 (U h1 (U h2 trivial)))
set_option maxRecDepth 100000 in
theorem Fb (a b:List ay) (hb:a.length<2147483648):al Tryz.prog 91 [.d (.ro 2 (procs a)),.d (.ro 2 (procs b))] (DV.v (.bool (decide (a=b)))):=by
 refine al.intro (by kernel_rfl) rfl rfl 26 rfl rfl fun w0 K ac hK r=>?_
 have u0:=((by simp):(((procs a).length:Nat):Int)=((a.length:Nat):Int))
 have u1:=((by simp):(((procs b).length:Nat):Int)=((b.length:Nat):Int))
 cases h0:((((a.length:Nat):Int):Int) != ((b.length:Nat):Int)) with
 | false=>
  have bh:=fY h0
  refine bD (todo':=hd Tryz.f91 0) (E':=[(0,.d (.ro 2 (procs a))),(1,.d (.ro 2 (procs b))),(12,.n a.length),(13,.n 0)]) (M':=[]) tk tq hK [(1,[(1,.z (((a.length:Nat):Int))),(3,.z (((b.length:Nat):Int))),(4,.b false)]),(3,[(1,.z (((a.length:Nat):Int)))])] 2000 [] [0,1,12,13] r (by kernel_rfl) (U u0 (U u1 (U h0 (U u0 trivial)))) fun ac wd r=>?_
  refine aG.rounds (Φ:=fun (i:Nat) ac wd=>(i≤a.length∧∀ j,j<i→a[j]?=b[j]?)∧dj [] w0 K 26 [(0,.d (.ro 2 (procs a))),(1,.d (.ro 2 (procs b))),(12,.n a.length),(13,.n i)] [] ac wd) (a.length) ?_ (Nat.zero_le _) ⟨⟨by omega,by omega⟩,r⟩
  clear r
  rintro i eX b9 ac wd ⟨aT,r⟩
  obtain ⟨fp,aT⟩:=aT
  cases h1:(decide ((((i:Nat):Int):Int)<((a.length:Nat):Int))) with
  | false=>
   have bM:=of_decide_eq_false h1
   rw [show (DV.v (.bool (decide (a=b))):DV)=.v (.bool true) from (bv (by first | (simp;intro e;subst e;simp_all;done) | (simp;exact du (by omega) fun j hj=>aT j (by omega))))]
   exact aN tk tq hK rfl [(4,[(0,.b false)])] 2000 r (by kernel_rfl) (U h1 trivial)
  | true=>
   have bM:=of_decide_eq_true h1
   obtain ⟨dJ,iq⟩:∃ x,a[i]?=some x:=⟨_,List.getElem?_eq_getElem (by omega)⟩
   obtain ⟨eI,jQ⟩:∃ x,b[i]?=some x:=⟨_,List.getElem?_eq_getElem (by omega)⟩
   cases h2:(decide (dJ=eI)) with
   | false=>
    have cK:=of_decide_eq_false h2
    rw [show (DV.v (.bool (decide (a=b))):DV)=.v (.bool false) from (bv (by first | (simp;intro e;subst e;simp_all;done) | (simp;exact du (by omega) fun j hj=>aT j (by omega))))]
    exact aN tk tq hK rfl [(4,[(0,.b true)]),(6,[(2,.ix (i) [.z dJ.node,.u dJ.inc]),(6,.ix (i) [.z eI.node,.u eI.inc]),(8,.b false)])] 2000 r (by kernel_rfl) (U h1 (U (aJ ((i:Nat):Int)) (U (fK iq) (U (aJ ((i:Nat):Int)) (U (fK jQ) (U ((fG (ji _ _) h2):eh Tryz.prog 24 [(.int .i64 (dJ.node)),(.int .u64 (((dJ.inc:Nat):Int)))] [(.int .i64 (eI.node)),(.int .u64 (((eI.inc:Nat):Int)))] false) trivial))))))
   | true=>
    have cK:=of_decide_eq_true h2
    exact bD (todo':=hd Tryz.f91 0) tk tq hK [(4,[(0,.b true)]),(6,[(2,.ix (i) [.z dJ.node,.u dJ.inc]),(6,.ix (i) [.z eI.node,.u eI.inc]),(8,.b true)]),(8,[(0,.z (((i+1:Nat):Int)))])] 2000 [] [0,1,12,13] r (by kernel_rfl) (U h1 (U (aJ ((i:Nat):Int)) (U (fK iq) (U (aJ ((i:Nat):Int)) (U (fK jQ) (U ((fG (ji _ _) h2):eh Tryz.prog 24 [(.int .i64 (dJ.node)),(.int .u64 (((dJ.inc:Nat):Int)))] [(.int .i64 (eI.node)),(.int .u64 (((eI.inc:Nat):Int)))] true) (U ((wi (by omega)):IntKind.i64.wrap ((((i:Nat):Int):Int)+1)=((i+1:Nat):Int)) trivial))))))) fun ac wd r=>b9 (by omega) ac wd ⟨⟨by omega,fun j hj=>by rcases Nat.lt_succ_iff_lt_or_eq.1 hj with h | rfl;exact aT j h;simp only [iq,jQ,Option.some.injEq];first | assumption | omega⟩,r⟩
 | true=>
  have bh:¬ _=_:=bne_iff_ne.1 h0
  rw [show (DV.v (.bool (decide (a=b))):DV)=.v (.bool false) from (bv (by first | (simp;intro e;subst e;simp_all;done) | (simp;exact du (by omega) fun j hj=>aT j (by omega))))]
  exact aN tk tq hK rfl [(1,[(1,.z (((a.length:Nat):Int))),(3,.z (((b.length:Nat):Int))),(4,.b true)])] 2000 r (by kernel_rfl) (U u0 (U u1 (U h0 trivial)))
set_option maxRecDepth 100000 in
theorem FO (a b:List Nat) (hb:a.length<2147483648):al Tryz.prog 93 [.d (.ro 1 (ae a)),.d (.ro 1 (ae b))] (DV.v (.bool (decide (a=b)))):=by
 refine al.intro (by kernel_rfl) rfl rfl 26 rfl rfl fun w0 K ac hK r=>?_
 have u0:=((by simp):(((ae a).length:Nat):Int)=((a.length:Nat):Int))
 have u1:=((by simp):(((ae b).length:Nat):Int)=((b.length:Nat):Int))
 cases h0:((((a.length:Nat):Int):Int) != ((b.length:Nat):Int)) with
 | false=>
  have bh:=fY h0
  refine bD (todo':=hd Tryz.f93 0) (E':=[(0,.d (.ro 1 (ae a))),(1,.d (.ro 1 (ae b))),(12,.n a.length),(13,.n 0)]) (M':=[]) tk tq hK [(1,[(1,.z (((a.length:Nat):Int))),(3,.z (((b.length:Nat):Int))),(4,.b false)]),(3,[(1,.z (((a.length:Nat):Int)))])] 2000 [] [0,1,12,13] r (by kernel_rfl) (U u0 (U u1 (U h0 (U u0 trivial)))) fun ac wd r=>?_
  refine aG.rounds (Φ:=fun (i:Nat) ac wd=>(i≤a.length∧∀ j,j<i→a[j]?=b[j]?)∧dj [] w0 K 26 [(0,.d (.ro 1 (ae a))),(1,.d (.ro 1 (ae b))),(12,.n a.length),(13,.n i)] [] ac wd) (a.length) ?_ (Nat.zero_le _) ⟨⟨by omega,by omega⟩,r⟩
  clear r
  rintro i eX b9 ac wd ⟨aT,r⟩
  obtain ⟨fp,aT⟩:=aT
  cases h1:(decide ((((i:Nat):Int):Int)<((a.length:Nat):Int))) with
  | false=>
   have bM:=of_decide_eq_false h1
   rw [show (DV.v (.bool (decide (a=b))):DV)=.v (.bool true) from (bv (by first | (simp;intro e;subst e;simp_all;done) | (simp;exact du (by omega) fun j hj=>aT j (by omega))))]
   exact aN tk tq hK rfl [(4,[(0,.b false)])] 2000 r (by kernel_rfl) (U h1 trivial)
  | true=>
   have bM:=of_decide_eq_true h1
   obtain ⟨dJ,iq⟩:∃ x,a[i]?=some x:=⟨_,List.getElem?_eq_getElem (by omega)⟩
   obtain ⟨eI,jQ⟩:∃ x,b[i]?=some x:=⟨_,List.getElem?_eq_getElem (by omega)⟩
   cases h2:((((dJ:Nat):Int):Int) != ((eI:Nat):Int)) with
   | false=>
    have cK:=fY h2
    exact bD (todo':=hd Tryz.f93 0) tk tq hK [(4,[(0,.b true)]),(6,[(2,.ix (i) [.u dJ]),(6,.ix (i) [.u eI]),(8,.b false)]),(8,[(0,.z (((i+1:Nat):Int)))])] 2000 [] [0,1,12,13] r (by kernel_rfl) (U h1 (U (aJ ((i:Nat):Int)) (U (eH iq) (U (aJ ((i:Nat):Int)) (U (eH jQ) (U h2 (U ((wi (by omega)):IntKind.i64.wrap ((((i:Nat):Int):Int)+1)=((i+1:Nat):Int)) trivial))))))) fun ac wd r=>b9 (by omega) ac wd ⟨⟨by omega,fun j hj=>by rcases Nat.lt_succ_iff_lt_or_eq.1 hj with h | rfl;exact aT j h;simp only [iq,jQ,Option.some.injEq];first | assumption | omega⟩,r⟩
   | true=>
    have cK:¬ _=_:=bne_iff_ne.1 h2
    rw [show (DV.v (.bool (decide (a=b))):DV)=.v (.bool false) from (bv (by first | (simp;intro e;subst e;simp_all;done) | (simp;exact du (by omega) fun j hj=>aT j (by omega))))]
    exact aN tk tq hK rfl [(4,[(0,.b true)]),(6,[(2,.ix (i) [.u dJ]),(6,.ix (i) [.u eI]),(8,.b true)])] 2000 r (by kernel_rfl) (U h1 (U (aJ ((i:Nat):Int)) (U (eH iq) (U (aJ ((i:Nat):Int)) (U (eH jQ) (U h2 trivial))))))
 | true=>
  have bh:¬ _=_:=bne_iff_ne.1 h0
  rw [show (DV.v (.bool (decide (a=b))):DV)=.v (.bool false) from (bv (by first | (simp;intro e;subst e;simp_all;done) | (simp;exact du (by omega) fun j hj=>aT j (by omega))))]
  exact aN tk tq hK rfl [(1,[(1,.z (((a.length:Nat):Int))),(3,.z (((b.length:Nat):Int))),(4,.b true)])] 2000 r (by kernel_rfl) (U u0 (U u1 (U h0 trivial)))
set_option maxRecDepth 100000 in
theorem zD (a b:List ay) (hb:a.length<2147483648):al Tryz.prog 29 [.d (.ro 2 (procs a)),.d (.ro 2 (procs b))] (DV.v (.bool (decide (a=b)))):=by
 refine al.intro (by kernel_rfl) rfl rfl 26 rfl rfl fun w0 K ac hK r=>?_
 have u0:=((by simp):(((procs a).length:Nat):Int)=((a.length:Nat):Int))
 have u1:=((by simp):(((procs b).length:Nat):Int)=((b.length:Nat):Int))
 cases h0:((((a.length:Nat):Int):Int) != ((b.length:Nat):Int)) with
 | false=>
  have bh:=fY h0
  refine bD (todo':=hd Tryz.f29 0) (E':=[(0,.d (.ro 2 (procs a))),(1,.d (.ro 2 (procs b))),(5,.n 0)]) (M':=[]) tk tq hK [(1,[(1,.z (((a.length:Nat):Int))),(3,.z (((b.length:Nat):Int))),(4,.b false)])] 2000 [] [0,1,5] r (by kernel_rfl) (U u0 (U u1 (U h0 trivial))) fun ac wd r=>?_
  refine aG.rounds (Φ:=fun (i:Nat) ac wd=>(i≤a.length∧∀ j,j<i→a[j]?=b[j]?)∧dj [] w0 K 26 [(0,.d (.ro 2 (procs a))),(1,.d (.ro 2 (procs b))),(5,.n i)] [] ac wd) (a.length) ?_ (Nat.zero_le _) ⟨⟨by omega,by omega⟩,r⟩
  clear r
  rintro i eX b9 ac wd ⟨aT,r⟩
  obtain ⟨fp,aT⟩:=aT
  cases h1:(decide ((((i:Nat):Int):Int)<((a.length:Nat):Int))) with
  | false=>
   have bM:=of_decide_eq_false h1
   rw [show (DV.v (.bool (decide (a=b))):DV)=.v (.bool true) from (bv (by first | (simp;intro e;subst e;simp_all;done) | (simp;exact du (by omega) fun j hj=>aT j (by omega))))]
   exact aN tk tq hK rfl [(4,[(2,.z (((a.length:Nat):Int))),(3,.b false)])] 2000 r (by kernel_rfl) (U u0 (U h1 trivial))
  | true=>
   have bM:=of_decide_eq_true h1
   obtain ⟨dJ,iq⟩:∃ x,a[i]?=some x:=⟨_,List.getElem?_eq_getElem (by omega)⟩
   obtain ⟨eI,jQ⟩:∃ x,b[i]?=some x:=⟨_,List.getElem?_eq_getElem (by omega)⟩
   cases h2:(decide (dJ=eI)) with
   | false=>
    have cK:=of_decide_eq_false h2
    rw [show (DV.v (.bool (decide (a=b))):DV)=.v (.bool false) from (bv (by first | (simp;intro e;subst e;simp_all;done) | (simp;exact du (by omega) fun j hj=>aT j (by omega))))]
    exact aN tk tq hK rfl [(4,[(2,.z (((a.length:Nat):Int))),(3,.b true)]),(6,[(2,.ix (i) [.z dJ.node,.u dJ.inc]),(6,.ix (i) [.z eI.node,.u eI.inc]),(8,.b false)])] 2000 r (by kernel_rfl) (U u0 (U h1 (U (aJ ((i:Nat):Int)) (U (fK iq) (U (aJ ((i:Nat):Int)) (U (fK jQ) (U ((fG (ji _ _) h2):eh Tryz.prog 24 [(.int .i64 (dJ.node)),(.int .u64 (((dJ.inc:Nat):Int)))] [(.int .i64 (eI.node)),(.int .u64 (((eI.inc:Nat):Int)))] false) trivial)))))))
   | true=>
    have cK:=of_decide_eq_true h2
    exact bD (todo':=hd Tryz.f29 0) tk tq hK [(4,[(2,.z (((a.length:Nat):Int))),(3,.b true)]),(5,[(1,.z (((i+1:Nat):Int)))]),(6,[(2,.ix (i) [.z dJ.node,.u dJ.inc]),(6,.ix (i) [.z eI.node,.u eI.inc]),(8,.b true)])] 2000 [] [0,1,5] r (by kernel_rfl) (U u0 (U h1 (U (aJ ((i:Nat):Int)) (U (fK iq) (U (aJ ((i:Nat):Int)) (U (fK jQ) (U ((fG (ji _ _) h2):eh Tryz.prog 24 [(.int .i64 (dJ.node)),(.int .u64 (((dJ.inc:Nat):Int)))] [(.int .i64 (eI.node)),(.int .u64 (((eI.inc:Nat):Int)))] true) (U ((wi (by omega)):IntKind.i64.wrap ((((i:Nat):Int):Int)+1)=((i+1:Nat):Int)) trivial)))))))) fun ac wd r=>b9 (by omega) ac wd ⟨⟨by omega,fun j hj=>by rcases Nat.lt_succ_iff_lt_or_eq.1 hj with h | rfl;exact aT j h;simp only [iq,jQ,Option.some.injEq];first | assumption | omega⟩,r⟩
 | true=>
  have bh:¬ _=_:=bne_iff_ne.1 h0
  rw [show (DV.v (.bool (decide (a=b))):DV)=.v (.bool false) from (bv (by first | (simp;intro e;subst e;simp_all;done) | (simp;exact du (by omega) fun j hj=>aT j (by omega))))]
  exact aN tk tq hK rfl [(1,[(1,.z (((a.length:Nat):Int))),(3,.z (((b.length:Nat):Int))),(4,.b true)])] 2000 r (by kernel_rfl) (U u0 (U u1 (U h0 trivial)))
set_option maxRecDepth 100000 in
theorem Fc (l:List ay) (p:ay) (hb:l.length<2147483648):al Tryz.prog 88 [.d (.ro 2 (procs l)),.ag [.z p.node,.u p.inc]] (DV.v (.int .i64 (idx l p 0))):=by
 refine al.intro (by kernel_rfl) rfl rfl 19 rfl rfl fun w0 K ac hK r=>?_
 refine bD (todo':=hd Tryz.f88 0) (E':=[(0,.d (.ro 2 (procs l))),(3,.pt 0 0),(7,.n l.length),(8,.n 0)]) (M':=[.bx 24 [.z p.node,.u p.inc]]) tk tq hK [(1,[(1,.z (((l.length:Nat):Int)))])] 2000 [0] [0,3,7,8] r (by kernel_rfl) (U ((by simp):(((procs l).length:Nat):Int)=((l.length:Nat):Int)) trivial) fun ac wd r=>?_
 refine aG.rounds (Φ:=fun (i:Nat) ac wd=>(i≤l.length∧∀ j,j<i→l[j]?≠some p)∧dj [] w0 K 19 [(0,.d (.ro 2 (procs l))),(3,.pt 0 0),(7,.n l.length),(8,.n i)] [.bx 24 [.z p.node,.u p.inc]] ac wd) (l.length) ?_ (Nat.zero_le _) ⟨⟨by omega,by omega⟩,r⟩
 clear r
 rintro i eX b9 ac wd ⟨aT,r⟩
 obtain ⟨fp,aT⟩:=aT
 cases h0:(decide ((((i:Nat):Int):Int)<((l.length:Nat):Int))) with
 | false=>
  have bh:=of_decide_eq_false h0
  rw [show (DV.v (.int .i64 (idx l p 0)):DV)=.z (-1) from (iv (by first | (rw [qg (i:=i) (by rw [cB];congr 1;first | (symm;assumption) | omega) (fun j hj=>aT j hj)];simp;done) | exact pN fun j hj=>aT j (by omega)))]
  exact aN tk tq hK rfl [(2,[(0,.b false)])] 2000 r (by kernel_rfl) (U h0 trivial)
 | true=>
  have bh:=of_decide_eq_true h0
  obtain ⟨bU,cB⟩:∃ x,l[i]?=some x:=⟨_,List.getElem?_eq_getElem (by omega)⟩
  cases h1:(decide (p=bU)) with
  | false=>
   have bM:=of_decide_eq_false h1
   exact bD (todo':=hd Tryz.f88 0) tk tq hK [(2,[(0,.b true)]),(4,[(3,.ix (i) [.z bU.node,.u bU.inc]),(5,.b false)]),(6,[(0,.z (((i+1:Nat):Int)))])] 2000 [0] [0,3,7,8] r (by kernel_rfl) (U h0 (U (aJ ((i:Nat):Int)) (U (fK cB) (U ((fG (ji _ _) h1):eh Tryz.prog 24 [(.int .i64 (p.node)),(.int .u64 (((p.inc:Nat):Int)))] [(.int .i64 (bU.node)),(.int .u64 (((bU.inc:Nat):Int)))] false) (U ((wi (by omega)):IntKind.i64.wrap ((((i:Nat):Int):Int)+1)=((i+1:Nat):Int)) trivial))))) fun ac wd r=>b9 (by omega) ac wd ⟨⟨by omega,fun j hj=>by rcases Nat.lt_succ_iff_lt_or_eq.1 hj with h | rfl;exact aT j h;simp only [cB,Option.some.injEq,ne_eq];intro e;first | omega | simp_all⟩,r⟩
  | true=>
   have bM:=of_decide_eq_true h1
   rw [show (DV.v (.int .i64 (idx l p 0)):DV)=.n i from (iv (by first | (rw [qg (i:=i) (by rw [cB];congr 1;first | (symm;assumption) | omega) (fun j hj=>aT j hj)];simp;done) | exact pN fun j hj=>aT j (by omega)))]
   exact aN tk tq hK rfl [(2,[(0,.b true)]),(4,[(3,.ix (i) [.z bU.node,.u bU.inc]),(5,.b true)])] 2000 r (by kernel_rfl) (U h0 (U (aJ ((i:Nat):Int)) (U (fK cB) (U ((fG (ji _ _) h1):eh Tryz.prog 24 [(.int .i64 (p.node)),(.int .u64 (((p.inc:Nat):Int)))] [(.int .i64 (bU.node)),(.int .u64 (((bU.inc:Nat):Int)))] true) trivial))))
set_option maxRecDepth 100000 in
theorem Nh (l:List Nat) (x:Nat) (hb:l.length<2147483648):al Tryz.prog 94 [.d (.ro 1 (ae l)),.u x] (DV.v (.int .i64 (idx l x 0))):=by
 refine al.intro (by kernel_rfl) rfl rfl 19 rfl rfl fun w0 K ac hK r=>?_
 refine bD (todo':=hd Tryz.f94 0) (E':=[(0,.d (.ro 1 (ae l))),(1,.u x),(7,.n l.length),(8,.n 0)]) (M':=[]) tk tq hK [(1,[(1,.z (((l.length:Nat):Int)))])] 2000 [] [0,1,7,8] r (by kernel_rfl) (U ((by simp):(((ae l).length:Nat):Int)=((l.length:Nat):Int)) trivial) fun ac wd r=>?_
 refine aG.rounds (Φ:=fun (i:Nat) ac wd=>(i≤l.length∧∀ j,j<i→l[j]?≠some x)∧dj [] w0 K 19 [(0,.d (.ro 1 (ae l))),(1,.u x),(7,.n l.length),(8,.n i)] [] ac wd) (l.length) ?_ (Nat.zero_le _) ⟨⟨by omega,by omega⟩,r⟩
 clear r
 rintro i eX b9 ac wd ⟨aT,r⟩
 obtain ⟨fp,aT⟩:=aT
 cases h0:(decide ((((i:Nat):Int):Int)<((l.length:Nat):Int))) with
 | false=>
  have bh:=of_decide_eq_false h0
  rw [show (DV.v (.int .i64 (idx l x 0)):DV)=.z (-1) from (iv (by first | (rw [qg (i:=i) (by rw [cB];congr 1;first | (symm;assumption) | omega) (fun j hj=>aT j hj)];simp;done) | exact pN fun j hj=>aT j (by omega)))]
  exact aN tk tq hK rfl [(2,[(0,.b false)])] 2000 r (by kernel_rfl) (U h0 trivial)
 | true=>
  have bh:=of_decide_eq_true h0
  obtain ⟨bU,cB⟩:∃ x,l[i]?=some x:=⟨_,List.getElem?_eq_getElem (by omega)⟩
  cases h1:((((x:Nat):Int):Int)==((bU:Nat):Int)) with
  | false=>
   have bM:=ne_of_beq_false h1
   exact bD (todo':=hd Tryz.f94 0) tk tq hK [(2,[(0,.b true)]),(4,[(3,.ix (i) [.u bU]),(5,.b false)]),(6,[(0,.z (((i+1:Nat):Int)))])] 2000 [] [0,1,7,8] r (by kernel_rfl) (U h0 (U (aJ ((i:Nat):Int)) (U (eH cB) (U h1 (U ((wi (by omega)):IntKind.i64.wrap ((((i:Nat):Int):Int)+1)=((i+1:Nat):Int)) trivial))))) fun ac wd r=>b9 (by omega) ac wd ⟨⟨by omega,fun j hj=>by rcases Nat.lt_succ_iff_lt_or_eq.1 hj with h | rfl;exact aT j h;simp only [cB,Option.some.injEq,ne_eq];intro e;first | omega | simp_all⟩,r⟩
  | true=>
   have bM:=eq_of_beq h1
   rw [show (DV.v (.int .i64 (idx l x 0)):DV)=.n i from (iv (by first | (rw [qg (i:=i) (by rw [cB];congr 1;first | (symm;assumption) | omega) (fun j hj=>aT j hj)];simp;done) | exact pN fun j hj=>aT j (by omega)))]
   exact aN tk tq hK rfl [(2,[(0,.b true)]),(4,[(3,.ix (i) [.u bU]),(5,.b true)])] 2000 r (by kernel_rfl) (U h0 (U (aJ ((i:Nat):Int)) (U (eH cB) (U h1 trivial))))
def dY (a b:Int):Int:=if a<b then -1 else if b<a then 1 else 0
def ay.cmp (p q:ay):Int:=if dY p.node q.node≠0 then dY p.node q.node else dY p.inc q.inc
def ay.lt (p q:ay):Bool:=decide (p.node<q.node∨p.node=q.node∧p.inc<q.inc)
theorem Rr (p q:ay):(decide (0≤p.cmp q))=!p.lt q:=by
 unfold ay.cmp ay.lt dY
 rw [Bool.eq_iff_iff]
 simp only [decide_eq_true_eq,Bool.not_eq_true',decide_eq_false_iff_not]
 repeat' split
 all_goals omega
set_option maxRecDepth 100000 in
theorem Rs (a b:Int):al Tryz.prog 80 [.z a,.z b] (DV.v (.int .i64 (dY a b))):=by
 refine al.intro (by kernel_rfl) rfl rfl 20 rfl rfl fun w0 K ac hK r=>?_
 cases h0:(decide ((a:Int)<b)) with
 | false=>
  have bh:=of_decide_eq_false h0
  cases h1:(decide ((b:Int)<a)) with
  | false=>
   have bM:=of_decide_eq_false h1
   rw [show (DV.v (.int .i64 (dY a b)):DV)=.z 0 from (iv (by unfold dY;(repeat' split)<;>omega))]
   exact aN tk tq hK rfl [(1,[(1,.cg 200 [(1,[(2,.b false)])])]),(2,[(1,.cg 200 [(1,[(2,.b false)])])]),(9,[(2,.b false)]),(11,[(2,.b false)])] 2000 r (by kernel_rfl) (U ((by simp):((a:Int) != a)=false) (U ((by simp):((b:Int) != b)=false) (U h0 (U h1 trivial))))
  | true=>
   have bM:=of_decide_eq_true h1
   rw [show (DV.v (.int .i64 (dY a b)):DV)=.z 1 from (iv (by unfold dY;(repeat' split)<;>omega))]
   exact aN tk tq hK rfl [(1,[(1,.cg 200 [(1,[(2,.b false)])])]),(2,[(1,.cg 200 [(1,[(2,.b false)])])]),(9,[(2,.b false)]),(11,[(2,.b true)])] 2000 r (by kernel_rfl) (U ((by simp):((a:Int) != a)=false) (U ((by simp):((b:Int) != b)=false) (U h0 (U h1 trivial))))
 | true=>
  have bh:=of_decide_eq_true h0
  rw [show (DV.v (.int .i64 (dY a b)):DV)=.z (-1) from (iv (by unfold dY;(repeat' split)<;>omega))]
  exact aN tk tq hK rfl [(1,[(1,.cg 200 [(1,[(2,.b false)])])]),(2,[(1,.cg 200 [(1,[(2,.b false)])])]),(9,[(2,.b true)])] 2000 r (by kernel_rfl) (U ((by simp):((a:Int) != a)=false) (U ((by simp):((b:Int) != b)=false) (U h0 trivial)))
set_option maxRecDepth 100000 in
theorem Qg (a b:Int):al Tryz.prog 59 [.d (.v (.int .u64 (a))),.d (.v (.int .u64 (b)))] (DV.v (.int .i64 (dY a b))):=by
 refine al.intro (by kernel_rfl) rfl rfl 20 rfl rfl fun w0 K ac hK r=>?_
 cases h0:(decide ((a:Int)<b)) with
 | false=>
  have bh:=of_decide_eq_false h0
  cases h1:(decide ((b:Int)<a)) with
  | false=>
   have bM:=of_decide_eq_false h1
   rw [show (DV.v (.int .i64 (dY a b)):DV)=.z 0 from (iv (by unfold dY;(repeat' split)<;>omega))]
   exact aN tk tq hK rfl [(1,[(1,.cg 200 [(1,[(2,.b false)])])]),(2,[(1,.cg 200 [(1,[(2,.b false)])])]),(9,[(2,.b false)]),(11,[(2,.b false)])] 2000 r (by kernel_rfl) (U ((by simp):((a:Int) != a)=false) (U ((by simp):((b:Int) != b)=false) (U h0 (U h1 trivial))))
  | true=>
   have bM:=of_decide_eq_true h1
   rw [show (DV.v (.int .i64 (dY a b)):DV)=.z 1 from (iv (by unfold dY;(repeat' split)<;>omega))]
   exact aN tk tq hK rfl [(1,[(1,.cg 200 [(1,[(2,.b false)])])]),(2,[(1,.cg 200 [(1,[(2,.b false)])])]),(9,[(2,.b false)]),(11,[(2,.b true)])] 2000 r (by kernel_rfl) (U ((by simp):((a:Int) != a)=false) (U ((by simp):((b:Int) != b)=false) (U h0 (U h1 trivial))))
 | true=>
  have bh:=of_decide_eq_true h0
  rw [show (DV.v (.int .i64 (dY a b)):DV)=.z (-1) from (iv (by unfold dY;(repeat' split)<;>omega))]
  exact aN tk tq hK rfl [(1,[(1,.cg 200 [(1,[(2,.b false)])])]),(2,[(1,.cg 200 [(1,[(2,.b false)])])]),(9,[(2,.b true)])] 2000 r (by kernel_rfl) (U ((by simp):((a:Int) != a)=false) (U ((by simp):((b:Int) != b)=false) (U h0 trivial)))
set_option maxRecDepth 100000 in
theorem LJ (p q:ay):al Tryz.prog 60 [.ag [.z p.node,.u p.inc],.ag [.z q.node,.u q.inc]] (DV.v (.int .i64 (p.cmp q))):=by
 refine al.intro (by kernel_rfl) rfl rfl 14 rfl rfl fun w0 K ac hK r=>?_
 have u0:=(Rs _ _:al Tryz.prog 80 [.z p.node,.z q.node] (.z (dY (p.node) (q.node))))
 cases h0:((dY (p.node) (q.node):Int) != 0) with
 | false=>
  have bh:=fY h0
  rw [show (DV.v (.int .i64 (p.cmp q)):DV)=.z (dY (((p.inc:Nat):Int)) (((q.inc:Nat):Int))) from (iv (by unfold ay.cmp;simp_all))]
  exact aN tk tq hK rfl [(2,[(5,.aM (.z (dY (p.node) (q.node)))),(7,.cg 200 [(1,[(1,.b false)]),(3,[(1,.cg 200 [(1,[(4,.aM (.z (dY (((p.inc:Nat):Int)) (((q.inc:Nat):Int)))))])])])])])] 2000 r (by kernel_rfl) (U u0 (U h0 (U (Qg _ _:al Tryz.prog 59 [.u p.inc,.u q.inc] (.z (dY (((p.inc:Nat):Int)) (((q.inc:Nat):Int))))) trivial)))
 | true=>
  have bh:¬ _=_:=bne_iff_ne.1 h0
  rw [show (DV.v (.int .i64 (p.cmp q)):DV)=.z (dY (p.node) (q.node)) from (iv (by unfold ay.cmp;simp_all))]
  exact aN tk tq hK rfl [(2,[(5,.aM (.z (dY (p.node) (q.node)))),(7,.cg 200 [(1,[(1,.b true)])])])] 2000 r (by kernel_rfl) (U u0 (U h0 trivial))
end Go.Proofs.YtgkdnnmcjjabdaaGreat
namespace Go.Proofs.YtgkdnnmcjjabdaaGreat
open Go.RowKit
def fw (l:List ay) (i:Nat):Prop:=(∀ j p,j<i→l[j]?=some p→p.may=true)∧∀ j p q,j+1<i→l[j]?=some p→l[j+1]?=some q→p.lt q=true
def Dc (l:List ay) (j:Nat):Bool:=match l[j]?,l[j+1]? with | some p,some q=>p.lt q | _,_=>true
def isSet (l:List ay):Bool:=((List.range l.length).all fun j=>match l[j]? with | some p=>p.may | none=>true)&&(List.range (l.length-1)).all (Dc l)
theorem uV (l:List ay):isSet l=true↔fw l l.length:=by
 simp only [isSet,Bool.and_eq_true,List.all_eq_true,List.mem_range,fw]
 constructor
 ·rintro ⟨h1,h2⟩
  refine ⟨fun j p hj hp=>by have:=h1 j hj;simpa [hp] using this,fun j p q hj hp hq=>?_⟩
  have:=h2 j (by omega);simpa [Dc,hp,hq] using this
 ·rintro ⟨h1,h2⟩
  refine ⟨fun j hj=>?_,fun j hj=>?_⟩
  ·rw [List.getElem?_eq_getElem hj];exact h1 j _ hj (List.getElem?_eq_getElem hj)
  ·have e1:l[j]?=some l[j]:=List.getElem?_eq_getElem (by omega)
   have e2:l[j+1]?=some l[j+1]:=List.getElem?_eq_getElem (by omega)
   simp only [Dc,e1,e2];exact h2 j _ _ (by omega) e1 e2
theorem yY {l:List ay} (h:fw l l.length):isSet l=true:=(uV l).2 h
theorem pO {l:List ay} (h:¬ fw l l.length):isSet l=false:=by
 cases hs:isSet l with
 | false=>rfl
 | true=>exact absurd ((uV l).1 hs) h
theorem fw.step {l:List ay} {i:Nat} {p:ay} (h:fw l i) (hp:l[i]?=some p) (hm:p.may=true) (hc:∀ q,0<i→l[i-1]?=some q→q.lt p=true):fw l (i+1):=by
 refine ⟨fun j q hj hq=>?_,fun j a b hj ha hb=>?_⟩
 ·rcases Nat.lt_succ_iff_lt_or_eq.1 hj with h' | rfl
  ·exact h.1 j q h' hq
  ·rw [hp] at hq;cases hq;exact hm
 ·rcases Nat.lt_succ_iff_lt_or_eq.1 hj with h' | h'
  ·exact h.2 j a b h' ha hb
  ·have:j=i-1:=by omega
   subst this
   have hi:i-1+1=i:=by omega
   rw [hi,hp] at hb;cases hb
   exact hc a (by omega) ha
theorem fw.Ei {l:List ay} {i n:Nat} {p:ay} (hp:l[i]?=some p) (hm:p.may=false) (hi:i<n):¬ fw l n:=fun h=>by have:=h.1 i p hi hp;rw [hm] at this;cases this
theorem fw.Ej {l:List ay} {i n:Nat} {p q:ay} (hp:l[i]?=some p) (hq:l[i-1]?=some q) (h0:0<i) (hm:q.lt p=false) (hi:i<n):¬ fw l n:=fun h=>by
 have:=h.2 (i-1) q p (by omega) hq (by rw [show i-1+1=i by omega];exact hp);rw [hm] at this;cases this
theorem rK {p q:ay} {b:Bool} (h:(decide ((0:Int)≤p.cmp q))=b):p.lt q=!b:=by rw [← h,Rr];simp
set_option maxRecDepth 100000 in
theorem At (l:List ay) (hb:l.length<2147483648):al Tryz.prog 51 [.d (.ro 2 (procs l))] (DV.v (.bool (isSet l))):=by
 refine al.intro (by kernel_rfl) rfl rfl 30 rfl rfl fun w0 K ac hK r=>?_
 refine bD (todo':=hd Tryz.f51 0) (E':=[(0,.d (.ro 2 (procs l))),(5,.d (.ro 2 (procs l))),(6,.n l.length),(7,.n 0)]) (M':=[]) tk tq hK [(1,[(1,.z (((l.length:Nat):Int)))])] 2000 [] [0,5,6,7] r (by kernel_rfl) (U ((by simp):(((procs l).length:Nat):Int)=((l.length:Nat):Int)) trivial) fun ac wd r=>?_
 refine aG.rounds (Φ:=fun (i:Nat) ac wd=>(i≤l.length∧fw l i)∧dj [] w0 K 30 [(0,.d (.ro 2 (procs l))),(5,.d (.ro 2 (procs l))),(6,.n l.length),(7,.n i)] [] ac wd) (l.length) ?_ (Nat.zero_le _) ⟨⟨by omega,by simp [fw]⟩,r⟩
 clear r
 rintro i eX b9 ac wd ⟨aT,r⟩
 obtain ⟨fp,aT⟩:=aT
 cases h0:(decide ((((i:Nat):Int):Int)<((l.length:Nat):Int))) with
 | false=>
  have bh:=of_decide_eq_false h0
  rw [show (DV.v (.bool (isSet l)):DV)=.v (.bool true) from (bv (by first | exact yY (by rw [show l.length=i by omega];exact aT) | exact pO (fw.Ei cB (by assumption) (by omega)) | exact pO (fw.Ej cB gy (by omega) (by first | assumption | (rw [rK (by assumption)];rfl)) (by omega))))]
  exact aN tk tq hK rfl [(2,[(0,.b false)])] 2000 r (by kernel_rfl) (U h0 trivial)
 | true=>
  have bh:=of_decide_eq_true h0
  obtain ⟨bU,cB⟩:∃ x,l[i]?=some x:=⟨_,List.getElem?_eq_getElem (by omega)⟩
  cases h1:(bU.may) with
  | false=>
   rw [show (DV.v (.bool (isSet l)):DV)=.v (.bool false) from (bv (by first | exact yY (by rw [show l.length=i by omega];exact aT) | exact pO (fw.Ei cB (by assumption) (by omega)) | exact pO (fw.Ej cB gy (by omega) (by first | assumption | (rw [rK (by assumption)];rfl)) (by omega))))]
   exact aN tk tq hK rfl [(2,[(0,.b true)]),(3,[(1,.ix (i) [.z bU.node,.u bU.inc])]),(4,[(1,.aM (.v (.bool false)))])] 2000 r (by kernel_rfl) (U h0 (U (aJ ((i:Nat):Int)) (U (fK cB) (U ((by have k:=vR bU;rw [h1] at k;exact k):al Tryz.prog 83 [.ag [.z bU.node,.u bU.inc]] (.v (.bool false))) trivial))))
  | true=>
   have u0:=((by have k:=vR bU;rw [h1] at k;exact k):al Tryz.prog 83 [.ag [.z bU.node,.u bU.inc]] (.v (.bool true)))
   cases h2:(decide ((0:Int)<((i:Nat):Int))) with
   | false=>
    have cK:=of_decide_eq_false h2
    exact bD (todo':=hd Tryz.f51 0) tk tq hK [(2,[(0,.b true)]),(3,[(1,.ix (i) [.z bU.node,.u bU.inc])]),(4,[(1,.aM (.v (.bool true))),(5,.b false)]),(6,[(0,.z (((i+1:Nat):Int)))])] 2000 [] [0,5,6,7] r (by kernel_rfl) (U h0 (U (aJ ((i:Nat):Int)) (U (fK cB) (U u0 (U h2 (U ((wi (by omega)):IntKind.i64.wrap ((((i:Nat):Int):Int)+1)=((i+1:Nat):Int)) trivial)))))) fun ac wd r=>b9 (by omega) ac wd ⟨⟨by omega,aT.step cB (by assumption) fun q ko hq=>by first | (exfalso;omega) | (rw [gy] at hq;cases hq;first | assumption | (rw [rK (by assumption)];rfl))⟩,r⟩
   | true=>
    have cK:=of_decide_eq_true h2
    obtain ⟨fe,gy⟩:∃ x,l[i-1]?=some x:=⟨_,List.getElem?_eq_getElem (by omega)⟩
    have u1:=((wi (by omega)):IntKind.i64.wrap ((((i:Nat):Int):Int)-1)=((i-1:Nat):Int))
    have u2:=(LJ _ _:al Tryz.prog 60 [.ag [.z fe.node,.u fe.inc],.ag [.z bU.node,.u bU.inc]] (.z (fe.cmp bU)))
    cases h3:(decide ((0:Int)≤fe.cmp bU)) with
    | false=>
     have fb:=of_decide_eq_false h3
     exact bD (todo':=hd Tryz.f51 0) tk tq hK [(2,[(0,.b true)]),(3,[(1,.ix (i) [.z bU.node,.u bU.inc])]),(4,[(1,.aM (.v (.bool true))),(5,.b true),(9,.z (((i-1:Nat):Int))),(10,.ix (i-1) [.z fe.node,.u fe.inc]),(13,.aM (.z (fe.cmp bU))),(14,.b false)]),(6,[(0,.z (((i+1:Nat):Int)))])] 2000 [] [0,5,6,7] r (by kernel_rfl) (U h0 (U (aJ ((i:Nat):Int)) (U (fK cB) (U u0 (U h2 (U u1 (U (aJ ((i-1:Nat):Int)) (U (fK gy) (U u2 (U h3 (U ((wi (by omega)):IntKind.i64.wrap ((((i:Nat):Int):Int)+1)=((i+1:Nat):Int)) trivial))))))))))) fun ac wd r=>b9 (by omega) ac wd ⟨⟨by omega,aT.step cB (by assumption) fun q ko hq=>by first | (exfalso;omega) | (rw [gy] at hq;cases hq;first | assumption | (rw [rK (by assumption)];rfl))⟩,r⟩
    | true=>
     have fb:=of_decide_eq_true h3
     rw [show (DV.v (.bool (isSet l)):DV)=.v (.bool false) from (bv (by first | exact yY (by rw [show l.length=i by omega];exact aT) | exact pO (fw.Ei cB (by assumption) (by omega)) | exact pO (fw.Ej cB gy (by omega) (by first | assumption | (rw [rK (by assumption)];rfl)) (by omega))))]
     exact aN tk tq hK rfl [(2,[(0,.b true)]),(3,[(1,.ix (i) [.z bU.node,.u bU.inc])]),(4,[(1,.aM (.v (.bool true))),(5,.b true),(9,.z (((i-1:Nat):Int))),(10,.ix (i-1) [.z fe.node,.u fe.inc]),(13,.aM (.z (fe.cmp bU))),(14,.b true)])] 2000 r (by kernel_rfl) (U h0 (U (aJ ((i:Nat):Int)) (U (fK cB) (U u0 (U h2 (U u1 (U (aJ ((i-1:Nat):Int)) (U (fK gy) (U u2 (U h3 trivial))))))))))
end Go.Proofs.YtgkdnnmcjjabdaaGreat
namespace Go.Proofs.YtgkdnnmcjjabdaaGreat
open Go.RowKit
structure eF where
 round:Nat
 server:ay
deriving DecidableEq
structure View where
 id:eF
 members:List ay
 ao:List Nat
deriving DecidableEq
def eF.may (v:eF):Bool:=decide (v.server.may=true∧(v.round=0∨v.server.node≤4))
def View.first (p:ay):View:=⟨⟨0,p⟩,[p],[0]⟩
theorem sM (v w:eF):eh Tryz.prog 30 [.int .u64 (v.round:Int),.int .i64 v.server.node,.int .u64 (v.server.inc:Int)] [.int .u64 (w.round:Int),.int .i64 w.server.node,.int .u64 (w.server.inc:Int)] (decide (v=w)):=by
 have h:eh Tryz.prog 30 [.int .u64 (v.round:Int),.int .i64 v.server.node,.int .u64 (v.server.inc:Int)] [.int .u64 (w.round:Int),.int .i64 w.server.node,.int .u64 (w.server.inc:Int)] (((v.round:Int)==w.round)&&(v.server.node==w.server.node&&(v.server.inc:Int)==w.server.inc)):=
  ⟨by kernel_rfl,fun wd=>yV (d:=9999) (f0:=⟨"Round",22,0,false, "", "",0⟩) (f1:=⟨"Server",24,1,false, "", "",8⟩) (by kernel_rfl) (by kernel_rfl) (by decide) (by decide) (n7 wd (by kernel_rfl) rfl) (n7 wd (by kernel_rfl) rfl) (yT (n:=2) wd (by kernel_rfl)) (yT (n:=2) wd (by kernel_rfl))
   (yU wd 9998 (by kernel_rfl)) (GR 9997 v.server.node v.server.inc w.server.node w.server.inc wd)⟩
 refine fG h ?_
 cases v with | mk a p=>cases w with | mk b q=>
 cases p with | mk x y=>cases q with | mk z u=>
 rw [Bool.eq_iff_iff]
 simp only [Bool.and_eq_true,beq_iff_eq,decide_eq_true_eq,eF.mk.injEq,ay.mk.injEq]
 omega
def View.bounded (v:View):Prop:=v.members.length<1073741824∧v.ao.length<1073741824
set_option maxRecDepth 100000 in
theorem FP (v:eF):al Tryz.prog 56 [.ag [.u v.round,.z v.server.node,.u v.server.inc]] (DV.v (.bool v.may)):=by
 refine al.intro (by kernel_rfl) rfl rfl 17 rfl rfl fun w0 K ac hK r=>?_
 cases h0:(v.server.may) with
 | false=>
  rw [show (DV.v (.bool v.may):DV)=.v (.bool false) from (bv (by simp [eF.may, *];try omega))]
  exact aN tk tq hK rfl [(1,[(2,.aM (.v (.bool false)))])] 2000 r (by kernel_rfl) (U ((by have k:=vR v.server;rw [h0] at k;exact k):al Tryz.prog 83 [.ag [.z v.server.node,.u v.server.inc]] (.v (.bool false))) trivial)
 | true=>
  have u0:=((by have k:=vR v.server;rw [h0] at k;exact k):al Tryz.prog 83 [.ag [.z v.server.node,.u v.server.inc]] (.v (.bool true)))
  cases h1:((((v.round:Nat):Int):Int)==0) with
  | false=>
   have bM:=ne_of_beq_false h1
   cases h2:(decide ((v.server.node:Int)≤4)) with
   | false=>
    have cK:=of_decide_eq_false h2
    rw [show (DV.v (.bool v.may):DV)=.v (.bool false) from (bv (by simp [eF.may, *];try omega))]
    exact aN tk tq hK rfl [(1,[(2,.aM (.v (.bool true))),(6,.b false),(11,.b false)])] 2000 r (by kernel_rfl) (U u0 (U h1 (U h2 trivial)))
   | true=>
    have cK:=of_decide_eq_true h2
    rw [show (DV.v (.bool v.may):DV)=.v (.bool true) from (bv (by simp [eF.may, *];try omega))]
    exact aN tk tq hK rfl [(1,[(2,.aM (.v (.bool true))),(6,.b false),(11,.b true)])] 2000 r (by kernel_rfl) (U u0 (U h1 (U h2 trivial)))
  | true=>
   have bM:=eq_of_beq h1
   rw [show (DV.v (.bool v.may):DV)=.v (.bool true) from (bv (by simp [eF.may, *];try omega))]
   exact aN tk tq hK rfl [(1,[(2,.aM (.v (.bool true))),(6,.b true)])] 2000 r (by kernel_rfl) (U u0 (U h1 trivial))
set_option maxRecDepth 100000 in
theorem yZ (p:ay):al Tryz.prog 15 [.ag [.z p.node,.u p.inc]] (.ag [.v (.int .u64 0),.v (.int .i64 p.node),.v (.int .u64 ((p.inc:Nat):Int)),.em 24 2 (procs [p]),.em 22 1 (ae [0])]):=by
 refine al.intro (by kernel_rfl) rfl rfl 9 rfl rfl fun w0 K ac hK r=>?_
 exact aN tk tq hK rfl [] 2000 r (by kernel_rfl) (U ((by simp):(1)=([[.z p.node,.u p.inc]]:List (List DV)).length) (U ((by simp):(1)=([[.v (.int .u64 0)]]:List (List DV)).length) trivial))
end Go.Proofs.YtgkdnnmcjjabdaaGreat
namespace Go.Proofs.YtgkdnnmcjjabdaaGreat
open Go.RowKit
theorem View.eq_iff {v w:View}:v=w↔v.id=w.id∧v.members=w.members∧v.ao=w.ao:=by cases v;cases w;simp
def lJ (l:List ay) (p:ay):Nat:=(idx l p 0).toNat
def lK (l:List ay) (p:ay):Bool:=decide (0≤idx l p 0)
def Lone (l:List ay) (i:Nat):Prop:=∀ a b p q,a<i→b<a→l[a]?=some p→l[b]?=some q→q.node≠p.node
def lone (l:List ay):Bool:=(List.range l.length).all fun a=>(List.range a).all fun b=>match l[a]?,l[b]? with | some p,some q=>decide (q.node≠p.node) | _,_=>true
theorem GS (l:List ay):lone l=true↔Lone l l.length:=by
 simp only [lone,List.all_eq_true,List.mem_range,Lone]
 constructor
 ·intro h a b p q ha hb hp hq
  have:=h a ha b hb;simpa [hp,hq] using this
 ·intro h a ha b hb
  have e1:l[a]?=some l[a]:=List.getElem?_eq_getElem ha
  have e2:l[b]?=some l[b]:=List.getElem?_eq_getElem (by omega)
  simp only [e1,e2,decide_eq_true_eq];exact h a b _ _ ha hb e1 e2
theorem OU {l:List ay} (h:Lone l l.length):lone l=true:=(GS l).2 h
set_option maxRecDepth 100000 in
theorem GU (v w:View) (hb:v.bounded):al Tryz.prog 57 [.ag [.u v.id.round,.z v.id.server.node,.u v.id.server.inc,.d (.ro 2 (procs v.members)),.d (.ro 1 (ae v.ao))],.ag [.u w.id.round,.z w.id.server.node,.u w.id.server.inc,.d (.ro 2 (procs w.members)),.d (.ro 1 (ae w.ao))]] (DV.v (.bool (decide (v=w)))):=by
 obtain ⟨eE,cv⟩:=hb
 refine al.intro (by kernel_rfl) rfl rfl 20 rfl rfl fun w0 K ac hK r=>?_
 refine bD (todo':=hd Tryz.f57 0) (E':=[(2,.pt 0 0),(3,.pt 1 0),(12,.ag [.fn 89 [.pt 0 0,.pt 1 0],.fn 90 [.pt 0 0,.pt 1 0],.fn 92 [.pt 0 0,.pt 1 0]]),(13,.z 0)]) (M':=[.bx 34 [.u v.id.round,.z v.id.server.node,.u v.id.server.inc,.d (.ro 2 (procs v.members)),.d (.ro 1 (ae v.ao))],.bx 34 [.u w.id.round,.z w.id.server.node,.u w.id.server.inc,.d (.ro 2 (procs w.members)),.d (.ro 1 (ae w.ao))],.bx 149 [.fn 89 [.pt 0 0,.pt 1 0],.fn 90 [.pt 0 0,.pt 1 0],.fn 92 [.pt 0 0,.pt 1 0]]]) tk tq hK [] 2000 [0,1,2] [2,3,12,13] r (by kernel_rfl) trivial fun ac wd r=>?_
 cases h0:(decide (v.id=w.id)) with
 | false=>
  have bh:=of_decide_eq_false h0
  rw [show (DV.v (.bool (decide (v=w))):DV)=.v (.bool false) from (bv (by simp [View.eq_iff, *]))]
  exact aN tk tq hK rfl [(4,[(0,.n 0)]),(5,[(1,.cg 200 [(1,[(4,.b false)])])])] 2000 r (by kernel_rfl) (U (rfl:(0:Int)=((0:Nat):Int)) (U ((by omega):(0)<3) (U ((fG (sM _ _) h0):eh Tryz.prog 30 [(.int .u64 (((v.id.round:Nat):Int))),(.int .i64 (v.id.server.node)),(.int .u64 (((v.id.server.inc:Nat):Int)))] [(.int .u64 (((w.id.round:Nat):Int))),(.int .i64 (w.id.server.node)),(.int .u64 (((w.id.server.inc:Nat):Int)))] false) trivial)))
 | true=>
  have bh:=of_decide_eq_true h0
  refine bD (todo':=hd Tryz.f57 0) (E':=[(2,.pt 0 0),(3,.pt 1 0),(12,.ag [.fn 89 [.pt 0 0,.pt 1 0],.fn 90 [.pt 0 0,.pt 1 0],.fn 92 [.pt 0 0,.pt 1 0]]),(13,.z 1)]) (M':=[.bx 34 [.u v.id.round,.z v.id.server.node,.u v.id.server.inc,.d (.ro 2 (procs v.members)),.d (.ro 1 (ae v.ao))],.bx 34 [.u w.id.round,.z w.id.server.node,.u w.id.server.inc,.d (.ro 2 (procs w.members)),.d (.ro 1 (ae w.ao))],.bx 149 [.fn 89 [.pt 0 0,.pt 1 0],.fn 90 [.pt 0 0,.pt 1 0],.fn 92 [.pt 0 0,.pt 1 0]]]) tk tq hK [(4,[(0,.n 0)]),(5,[(1,.cg 200 [(1,[(4,.b true)])])]),(7,[(0,.z (1))])] 2000 [0,1,2] [2,3,12,13] r (by kernel_rfl) (U (rfl:(0:Int)=((0:Nat):Int)) (U ((by omega):(0)<3) (U ((fG (sM _ _) h0):eh Tryz.prog 30 [(.int .u64 (((v.id.round:Nat):Int))),(.int .i64 (v.id.server.node)),(.int .u64 (((v.id.server.inc:Nat):Int)))] [(.int .u64 (((w.id.round:Nat):Int))),(.int .i64 (w.id.server.node)),(.int .u64 (((w.id.server.inc:Nat):Int)))] true) (U ((wi (by omega)):IntKind.i64.wrap ((0:Int)+1)=1) trivial)))) fun ac wd r=>?_
  cases h1:(decide (v.members=w.members)) with
  | false=>
   have bM:=of_decide_eq_false h1
   rw [show (DV.v (.bool (decide (v=w))):DV)=.v (.bool false) from (bv (by simp [View.eq_iff, *]))]
   exact aN tk tq hK rfl [(4,[(0,.n 1)]),(5,[(1,.cg 200 [(1,[(4,.aM (.v (.bool false)))])])])] 2000 r (by kernel_rfl) (U (rfl:(1:Int)=((1:Nat):Int)) (U ((by omega):(1)<3) (U ((by have k:=Fb v.members w.members (by omega);rw [h1] at k;exact k):al Tryz.prog 91 [.d (.ro 2 (procs v.members)),.d (.ro 2 (procs w.members))] (.v (.bool false))) trivial)))
  | true=>
   have bM:=of_decide_eq_true h1
   refine bD (todo':=hd Tryz.f57 0) (E':=[(2,.pt 0 0),(3,.pt 1 0),(12,.ag [.fn 89 [.pt 0 0,.pt 1 0],.fn 90 [.pt 0 0,.pt 1 0],.fn 92 [.pt 0 0,.pt 1 0]]),(13,.z 2)]) (M':=[.bx 34 [.u v.id.round,.z v.id.server.node,.u v.id.server.inc,.d (.ro 2 (procs v.members)),.d (.ro 1 (ae v.ao))],.bx 34 [.u w.id.round,.z w.id.server.node,.u w.id.server.inc,.d (.ro 2 (procs w.members)),.d (.ro 1 (ae w.ao))],.bx 149 [.fn 89 [.pt 0 0,.pt 1 0],.fn 90 [.pt 0 0,.pt 1 0],.fn 92 [.pt 0 0,.pt 1 0]]]) tk tq hK [(4,[(0,.n 1)]),(5,[(1,.cg 200 [(1,[(4,.aM (.v (.bool true)))])])]),(7,[(0,.z (2))])] 2000 [0,1,2] [2,3,12,13] r (by kernel_rfl) (U (rfl:(1:Int)=((1:Nat):Int)) (U ((by omega):(1)<3) (U ((by have k:=Fb v.members w.members (by omega);rw [h1] at k;exact k):al Tryz.prog 91 [.d (.ro 2 (procs v.members)),.d (.ro 2 (procs w.members))] (.v (.bool true))) (U ((wi (by omega)):IntKind.i64.wrap ((1:Int)+1)=2) trivial)))) fun ac wd r=>?_
   cases h2:(decide (v.ao=w.ao)) with
   | false=>
    have cK:=of_decide_eq_false h2
    rw [show (DV.v (.bool (decide (v=w))):DV)=.v (.bool false) from (bv (by simp [View.eq_iff, *]))]
    exact aN tk tq hK rfl [(4,[(0,.n 2)]),(5,[(1,.cg 200 [(1,[(4,.aM (.v (.bool false)))])])])] 2000 r (by kernel_rfl) (U (rfl:(2:Int)=((2:Nat):Int)) (U ((by omega):(2)<3) (U ((by have k:=FO v.ao w.ao (by omega);rw [h2] at k;exact k):al Tryz.prog 93 [.d (.ro 1 (ae v.ao)),.d (.ro 1 (ae w.ao))] (.v (.bool false))) trivial)))
   | true=>
    have cK:=of_decide_eq_true h2
    refine bD (todo':=hd Tryz.f57 0) (E':=[(2,.pt 0 0),(3,.pt 1 0),(12,.ag [.fn 89 [.pt 0 0,.pt 1 0],.fn 90 [.pt 0 0,.pt 1 0],.fn 92 [.pt 0 0,.pt 1 0]]),(13,.z 3)]) (M':=[.bx 34 [.u v.id.round,.z v.id.server.node,.u v.id.server.inc,.d (.ro 2 (procs v.members)),.d (.ro 1 (ae v.ao))],.bx 34 [.u w.id.round,.z w.id.server.node,.u w.id.server.inc,.d (.ro 2 (procs w.members)),.d (.ro 1 (ae w.ao))],.bx 149 [.fn 89 [.pt 0 0,.pt 1 0],.fn 90 [.pt 0 0,.pt 1 0],.fn 92 [.pt 0 0,.pt 1 0]]]) tk tq hK [(4,[(0,.n 2)]),(5,[(1,.cg 200 [(1,[(4,.aM (.v (.bool true)))])])]),(7,[(0,.z (3))])] 2000 [0,1,2] [2,3,12,13] r (by kernel_rfl) (U (rfl:(2:Int)=((2:Nat):Int)) (U ((by omega):(2)<3) (U ((by have k:=FO v.ao w.ao (by omega);rw [h2] at k;exact k):al Tryz.prog 93 [.d (.ro 1 (ae v.ao)),.d (.ro 1 (ae w.ao))] (.v (.bool true))) (U ((wi (by omega)):IntKind.i64.wrap ((2:Int)+1)=3) trivial)))) fun ac wd r=>?_
    rw [show (DV.v (.bool (decide (v=w))):DV)=.v (.bool true) from (bv (by simp [View.eq_iff, *]))]
    exact aN tk tq hK rfl [] 2000 r (by kernel_rfl) trivial
set_option maxRecDepth 100000 in
theorem yz (v w:View) (hb:v.bounded):al Tryz.prog 32 [.ag [.u v.id.round,.z v.id.server.node,.u v.id.server.inc,.d (.ro 2 (procs v.members)),.d (.ro 1 (ae v.ao))],.ag [.u w.id.round,.z w.id.server.node,.u w.id.server.inc,.d (.ro 2 (procs w.members)),.d (.ro 1 (ae w.ao))]] (DV.v (.bool (decide (v=w)))):=by
 obtain ⟨eE,cv⟩:=hb
 refine al.intro (by kernel_rfl) rfl rfl 46 rfl rfl fun w0 K ac hK r=>?_
 cases h0:(decide (v.id=w.id)) with
 | false=>
  have bh:=of_decide_eq_false h0
  rw [show (DV.v (.bool (decide (v=w))):DV)=.v (.bool false) from (bv (by first | (simp [View.eq_iff, *];done) | (apply decide_eq_false;rw [View.eq_iff];rintro ⟨-,-,e⟩;first | (have:=congrArg List.length e;omega) | (rw [e,mJ] at iF;cases iF;omega)) | (apply decide_eq_true;rw [View.eq_iff];exact ⟨by simp_all,by simp_all,du (by omega) fun j hj=>aT j (by omega)⟩)))]
  exact aN tk tq hK rfl [(1,[(4,.b false)])] 2000 r (by kernel_rfl) (U ((fG (sM _ _) h0):eh Tryz.prog 30 [(.int .u64 (((v.id.round:Nat):Int))),(.int .i64 (v.id.server.node)),(.int .u64 (((v.id.server.inc:Nat):Int)))] [(.int .u64 (((w.id.round:Nat):Int))),(.int .i64 (w.id.server.node)),(.int .u64 (((w.id.server.inc:Nat):Int)))] false) trivial)
 | true=>
  have bh:=of_decide_eq_true h0
  have u0:=((fG (sM _ _) h0):eh Tryz.prog 30 [(.int .u64 (((v.id.round:Nat):Int))),(.int .i64 (v.id.server.node)),(.int .u64 (((v.id.server.inc:Nat):Int)))] [(.int .u64 (((w.id.round:Nat):Int))),(.int .i64 (w.id.server.node)),(.int .u64 (((w.id.server.inc:Nat):Int)))] true)
  cases h1:(decide (v.members=w.members)) with
  | false=>
   have bM:=of_decide_eq_false h1
   rw [show (DV.v (.bool (decide (v=w))):DV)=.v (.bool false) from (bv (by first | (simp [View.eq_iff, *];done) | (apply decide_eq_false;rw [View.eq_iff];rintro ⟨-,-,e⟩;first | (have:=congrArg List.length e;omega) | (rw [e,mJ] at iF;cases iF;omega)) | (apply decide_eq_true;rw [View.eq_iff];exact ⟨by simp_all,by simp_all,du (by omega) fun j hj=>aT j (by omega)⟩)))]
   exact aN tk tq hK rfl [(1,[(4,.b true),(10,.aM (.v (.bool false)))])] 2000 r (by kernel_rfl) (U u0 (U ((by have k:=zD v.members w.members (by omega);rw [h1] at k;exact k):al Tryz.prog 29 [.d (.ro 2 (procs v.members)),.d (.ro 2 (procs w.members))] (.v (.bool false))) trivial))
  | true=>
   have bM:=of_decide_eq_true h1
   have u1:=((by have k:=zD v.members w.members (by omega);rw [h1] at k;exact k):al Tryz.prog 29 [.d (.ro 2 (procs v.members)),.d (.ro 2 (procs w.members))] (.v (.bool true)))
   have u2:=((by simp):(((ae v.ao).length:Nat):Int)=((v.ao.length:Nat):Int))
   have u3:=((by simp):(((ae w.ao).length:Nat):Int)=((w.ao.length:Nat):Int))
   cases h2:((((v.ao.length:Nat):Int):Int) != ((w.ao.length:Nat):Int)) with
   | false=>
    have cK:=fY h2
    refine bD (todo':=hd Tryz.f32 0) (E':=[(2,.pt 0 0),(3,.pt 1 0),(5,.n 0)]) (M':=[.bx 34 [.u v.id.round,.z v.id.server.node,.u v.id.server.inc,.d (.ro 2 (procs v.members)),.d (.ro 1 (ae v.ao))],.bx 34 [.u w.id.round,.z w.id.server.node,.u w.id.server.inc,.d (.ro 2 (procs w.members)),.d (.ro 1 (ae w.ao))]]) tk tq hK [(1,[(4,.b true),(10,.aM (.v (.bool true))),(16,.z (((v.ao.length:Nat):Int))),(19,.z (((w.ao.length:Nat):Int))),(20,.b false)])] 2000 [0,1] [2,3,5] r (by kernel_rfl) (U u0 (U u1 (U u2 (U u3 (U h2 trivial))))) fun ac wd r=>?_
    refine aG.rounds (Φ:=fun (i:Nat) ac wd=>(i≤v.ao.length∧∀ j,j<i→v.ao[j]?=w.ao[j]?)∧dj [] w0 K 46 [(2,.pt 0 0),(3,.pt 1 0),(5,.n i)] [.bx 34 [.u v.id.round,.z v.id.server.node,.u v.id.server.inc,.d (.ro 2 (procs v.members)),.d (.ro 1 (ae v.ao))],.bx 34 [.u w.id.round,.z w.id.server.node,.u w.id.server.inc,.d (.ro 2 (procs w.members)),.d (.ro 1 (ae w.ao))]] ac wd) (v.ao.length) ?_ (Nat.zero_le _) ⟨⟨by omega,by omega⟩,r⟩
    clear r
    rintro i eX b9 ac wd ⟨aT,r⟩
    obtain ⟨fp,aT⟩:=aT
    cases h3:(decide ((((i:Nat):Int):Int)<((v.ao.length:Nat):Int))) with
    | false=>
     have fb:=of_decide_eq_false h3
     rw [show (DV.v (.bool (decide (v=w))):DV)=.v (.bool true) from (bv (by first | (simp [View.eq_iff, *];done) | (apply decide_eq_false;rw [View.eq_iff];rintro ⟨-,-,e⟩;first | (have:=congrArg List.length e;omega) | (rw [e,mJ] at iF;cases iF;omega)) | (apply decide_eq_true;rw [View.eq_iff];exact ⟨by simp_all,by simp_all,du (by omega) fun j hj=>aT j (by omega)⟩)))]
     exact aN tk tq hK rfl [(4,[(3,.z (((v.ao.length:Nat):Int))),(4,.b false)])] 2000 r (by kernel_rfl) (U u2 (U h3 trivial))
    | true=>
     have fb:=of_decide_eq_true h3
     obtain ⟨ye,iF⟩:∃ x,v.ao[i]?=some x:=⟨_,List.getElem?_eq_getElem (by omega)⟩
     obtain ⟨yf,mJ⟩:∃ x,w.ao[i]?=some x:=⟨_,List.getElem?_eq_getElem (by omega)⟩
     cases h4:((((ye:Nat):Int):Int) != ((yf:Nat):Int)) with
     | false=>
      have kv:=fY h4
      exact bD (todo':=hd Tryz.f32 0) tk tq hK [(4,[(3,.z (((v.ao.length:Nat):Int))),(4,.b true)]),(5,[(1,.z (((i+1:Nat):Int)))]),(6,[(3,.ix (i) [.u ye]),(8,.ix (i) [.u yf]),(10,.b false)])] 2000 [0,1] [2,3,5] r (by kernel_rfl) (U u2 (U h3 (U (aJ ((i:Nat):Int)) (U (eH iF) (U (aJ ((i:Nat):Int)) (U (eH mJ) (U h4 (U ((wi (by omega)):IntKind.i64.wrap ((((i:Nat):Int):Int)+1)=((i+1:Nat):Int)) trivial)))))))) fun ac wd r=>b9 (by omega) ac wd ⟨⟨by omega,fun j hj=>by rcases Nat.lt_succ_iff_lt_or_eq.1 hj with h | rfl;exact aT j h;simp only [iF,mJ,Option.some.injEq];first | assumption | omega⟩,r⟩
     | true=>
      have kv:¬ _=_:=bne_iff_ne.1 h4
      rw [show (DV.v (.bool (decide (v=w))):DV)=.v (.bool false) from (bv (by first | (simp [View.eq_iff, *];done) | (apply decide_eq_false;rw [View.eq_iff];rintro ⟨-,-,e⟩;first | (have:=congrArg List.length e;omega) | (rw [e,mJ] at iF;cases iF;omega)) | (apply decide_eq_true;rw [View.eq_iff];exact ⟨by simp_all,by simp_all,du (by omega) fun j hj=>aT j (by omega)⟩)))]
      exact aN tk tq hK rfl [(4,[(3,.z (((v.ao.length:Nat):Int))),(4,.b true)]),(6,[(3,.ix (i) [.u ye]),(8,.ix (i) [.u yf]),(10,.b true)])] 2000 r (by kernel_rfl) (U u2 (U h3 (U (aJ ((i:Nat):Int)) (U (eH iF) (U (aJ ((i:Nat):Int)) (U (eH mJ) (U h4 trivial)))))))
   | true=>
    have cK:¬ _=_:=bne_iff_ne.1 h2
    rw [show (DV.v (.bool (decide (v=w))):DV)=.v (.bool false) from (bv (by first | (simp [View.eq_iff, *];done) | (apply decide_eq_false;rw [View.eq_iff];rintro ⟨-,-,e⟩;first | (have:=congrArg List.length e;omega) | (rw [e,mJ] at iF;cases iF;omega)) | (apply decide_eq_true;rw [View.eq_iff];exact ⟨by simp_all,by simp_all,du (by omega) fun j hj=>aT j (by omega)⟩)))]
    exact aN tk tq hK rfl [(1,[(4,.b true),(10,.aM (.v (.bool true))),(16,.z (((v.ao.length:Nat):Int))),(19,.z (((w.ao.length:Nat):Int))),(20,.b true)])] 2000 r (by kernel_rfl) (U u0 (U u1 (U u2 (U u3 (U h2 trivial)))))
set_option maxRecDepth 100000 in
theorem containsNum (l:List Nat) (x:Nat) (hb:l.length<2147483648):al Tryz.prog 58 [.d (.ro 1 (ae l)),.u x] (DV.v (.bool (decide (0≤idx l x 0)))):=by
 refine al.intro (by kernel_rfl) rfl rfl 9 rfl rfl fun w0 K ac hK r=>?_
 have u0:=(Nh _ _ (by omega):al Tryz.prog 94 [.d (.ro 1 (ae l)),.u x] (.z (idx l x 0)))
 cases h0:(decide ((0:Int)≤idx l x 0)) with
 | false=>
  have bh:=of_decide_eq_false h0
  exact aN tk tq hK rfl [(1,[(2,.aM (.z (idx l x 0))),(3,.b false)])] 2000 r (by kernel_rfl) (U u0 (U h0 trivial))
 | true=>
  have bh:=of_decide_eq_true h0
  exact aN tk tq hK rfl [(1,[(2,.aM (.z (idx l x 0))),(3,.b true)])] 2000 r (by kernel_rfl) (U u0 (U h0 trivial))
set_option maxRecDepth 100000 in
theorem Ni (v:View) (p:ay) (hb:v.bounded):al Tryz.prog 55 [.ag [.u v.id.round,.z v.id.server.node,.u v.id.server.inc,.d (.ro 2 (procs v.members)),.d (.ro 1 (ae v.ao))],.ag [.z p.node,.u p.inc]] (.tu [.v (.int .i64 ((lJ v.members p:Nat):Int)),.v (.bool (lK v.members p))]):=by
 obtain ⟨eE,cv⟩:=hb
 refine al.intro (by kernel_rfl) rfl rfl 14 rfl rfl fun w0 K ac hK r=>?_
 have u0:=(Fc _ _ (by omega):al Tryz.prog 88 [.d (.ro 2 (procs v.members)),.ag [.z p.node,.u p.inc]] (.z (idx v.members p 0)))
 cases h0:(decide ((idx v.members p 0:Int)<0)) with
 | false=>
  have bh:=of_decide_eq_false h0
  rw [show (.tu [.v (.int .i64 ((lJ v.members p:Nat):Int)),.v (.bool (lK v.members p))]:DV)=.tu [.z (idx v.members p 0),.v (.bool true)] from (by unfold lJ lK;simp;omega)]
  exact aN tk tq hK rfl [(1,[(3,.aM (.z (idx v.members p 0)))]),(2,[(1,.b false)])] 2000 r (by kernel_rfl) (U u0 (U h0 trivial))
 | true=>
  have bh:=of_decide_eq_true h0
  rw [show (.tu [.v (.int .i64 ((lJ v.members p:Nat):Int)),.v (.bool (lK v.members p))]:DV)=.tu [.z 0,.v (.bool false)] from (by unfold lJ lK;simp;omega)]
  exact aN tk tq hK rfl [(1,[(3,.aM (.z (idx v.members p 0)))]),(2,[(1,.b true)])] 2000 r (by kernel_rfl) (U u0 (U h0 trivial))
end Go.Proofs.YtgkdnnmcjjabdaaGreat
namespace Go.Proofs.YtgkdnnmcjjabdaaGreat
open Go.RowKit
structure Slot where
 n:Nat
 body:List UInt8
deriving DecidableEq
def Slot.row (s:Slot):List DV:=[.v (.int .u64 (s.n:Int)),.ro 1 (aj s.body)]
abbrev aO (l:List Slot):List (List DV):=l.map Slot.row
theorem df {l:List Slot} {i:Nat} {s:Slot} (h:l[i]?=some s):(aO l)[i]?=some [.v (.int .u64 (s.n:Int)),.ro 1 (aj s.body)]:=by simp [aO,h,Slot.row]
def eJ (l:List Slot) (n:Nat):Int:=idx (l.map Slot.n) n 0
theorem GV {l:List Slot} {n i:Nat} {s:Slot} (h:l[i]?=some s) (e:s.n=n) (hb:∀ j t,j<i→l[j]?=some t→t.n≠n):eJ l n=(i:Int):=by
 unfold eJ
 rw [qg (i:=i) (by simp [h,e]) fun j hj e2=>?_]
 ·simp
 ·rw [List.getElem?_map,Option.map_eq_some_iff] at e2
  obtain ⟨t,h1,h2⟩:=e2
  exact hb j t hj h1 h2
theorem Fe {l:List Slot} {n:Nat} (hb:∀ j t,j<l.length→l[j]?=some t→t.n≠n):eJ l n = -1:=by
 unfold eJ
 refine pN fun j hj e2=>?_
 rw [List.getElem?_map,Option.map_eq_some_iff] at e2
 obtain ⟨t,h1,h2⟩:=e2
 exact hb j t (by simpa using hj) h1 h2
def kY (l:List Nat) (i:Nat):Nat:=(l[i]?).getD 0
theorem FQ {l:List Slot} {n:Nat} (h:0≤eJ l n):n ∈ l.map Slot.n:=by
 apply Decidable.byContradiction;intro hc
 have:eJ l n = -1:=Fe fun j t _ ht e=>hc (e▸List.mem_map.2 ⟨t,List.mem_of_getElem? ht,rfl⟩)
 omega
theorem K4:∀ {k:Nat} {l:List Nat},(∀ j,j<k→j+1 ∈ l)→k≤l.length
 | 0,_,_=>Nat.zero_le _
 | k+1,l,h=>by
  have h1:k+1 ∈ l:=h k (by omega)
  have h2:=K4 (k:=k) (l:=l.erase (k+1)) fun j hj=>(List.mem_erase_of_ne (by omega)).2 (h j (by omega))
  rw [List.length_erase_of_mem h1] at h2
  have:=List.length_pos_of_mem h1
  omega
def mX (l:List Slot):Nat→Nat→Nat
 | 0,k=>k
 | f+1,k=>if 0≤eJ l (k+1) then mX l f (k+1) else k
def b3 (l:List Slot):Nat:=mX l l.length 0
theorem Au {l:List Slot} {k:Nat} (h:∀ j,j<k→0≤eJ l (j+1)):k≤l.length:=by
 have:=K4 (l:=l.map Slot.n) fun j hj=>FQ (h j hj)
 simpa using this
theorem uX {l:List Slot} {k:Nat} (h:∀ j,j<k→0≤eJ l (j+1)) (h1:¬ 0≤eJ l (k+1)):b3 l=k:=by
 have key:∀ f i,i≤k→k≤i+f→mX l f i=k:=by
  intro f
  induction f with
  | zero=>intro i h2 h3;unfold mX;omega
  | succ f ih=>
   intro i h2 h3
   unfold mX
   rcases Nat.lt_or_ge i k with h4 | h4
   ·rw [if_pos (h i h4),ih (i+1) (by omega) (by omega)]
   ·have:i=k:=by omega
    subst this;rw [if_neg h1]
 exact key l.length 0 (by omega) (by have:=Au h;omega)
theorem FR (l:List Slot):b3 l≤l.length:=by
 have key:∀ f i,mX l f i≤i+f:=by
  intro f
  induction f with
  | zero=>intro i;unfold mX;omega
  | succ f ih=>intro i;unfold mX;have:=ih (i+1);split<;>omega
 simpa [b3] using key l.length 0
set_option maxRecDepth 100000 in
theorem K8 (l:List UInt8) (h0:0<l.length) (hb:l.length<2147483648):al Tryz.prog 18 [.d (.ro 1 (aj l))] (DV.em 5 1 (aj l)):=by
 refine al.intro (by kernel_rfl) rfl rfl 8 rfl rfl fun w0 K ac hK r=>?_
 rw [show (DV.em 5 1 (aj l):DV)=.em 5 1 ([]++(aj l)) from rfl]
 exact aN tk tq hK rfl [] 2000 r (by kernel_rfl) (U ((by simpa [aj] using h0):0<(aj l).length) (U ((by simp):(0)=([]:List (List DV)).length) (U ((by simp [aj];omega):(2*((0)+(aj l).length)+192)*1≤281474976710656) (U ((by simp [aj];omega):(0)+(aj l).length<4611686018427387904) (U ((by simp [bY,AV.one,cD,aj]):bY (aj l)) (U ((by simp):(0+(aj l).length)=([]++(aj l):List (List DV)).length) trivial))))))
set_option maxRecDepth 100000 in
theorem x9 (c:Nat):al Tryz.prog 18 [.d (.v (.slice none 0 c))] (DV.v (.slice none 0 0)):=by
 refine al.intro (by kernel_rfl) rfl rfl 8 rfl rfl fun w0 K ac hK r=>?_
 exact aN tk tq hK rfl [] 2000 r (by kernel_rfl) trivial
set_option maxRecDepth 100000 in
theorem Lm (a:Addr) (c:Nat):al Tryz.prog 18 [.d (.v (.slice (some a) 0 c))] (DV.em 5 1 ([]++[])):=by
 refine al.intro (by kernel_rfl) rfl rfl 8 rfl rfl fun w0 K ac hK r=>?_
 exact aN tk tq hK rfl [] 2000 r (by kernel_rfl) (U ((by simp):(0)=([]:List (List DV)).length) (U ((by simp):(2*((0)+0)+192)*1≤281474976710656) (U ((by simp):(0)+0<4611686018427387904) (U ((by simp [bY]):bY (([]:List (List DV)))) (U ((by simp):(0+0)=([]++([]:List (List DV)):List (List DV)).length) trivial)))))
theorem uM (l:List UInt8) (hb:l.length<2147483648):al Tryz.prog 18 [.d (.ro 1 (aj l))] (.em 5 1 (aj l)):=by
 cases l with
 | nil=>
  refine al.empty (pre:=[]) (post:=[]) fun a c=>?_
  cases a with
  | none=>exact al.nil 5 1 (x9 c)
  | some a=>exact Lm a c
 | cons b l=>exact K8 (b::l) (by simp) hb
set_option maxRecDepth 100000 in
theorem K9 (l:List ay) (h0:0<l.length) (hb:l.length<2147483648):al Tryz.prog 27 [.d (.ro 2 (procs l))] (DV.em 24 2 (procs l)):=by
 refine al.intro (by kernel_rfl) rfl rfl 8 rfl rfl fun w0 K ac hK r=>?_
 rw [show (DV.em 24 2 (procs l):DV)=.em 24 2 ([]++(procs l)) from rfl]
 exact aN tk tq hK rfl [] 2000 r (by kernel_rfl) (U ((by simpa using h0):0<(procs l).length) (U ((by simp):(0)=([]:List (List DV)).length) (U ((by simp;omega):(2*((0)+(procs l).length)+192)*16≤281474976710656) (U ((by simp;omega):(0)+(procs l).length<4611686018427387904) (U ((by simp [bY,AV.one,cD,ay.row]):bY (procs l)) (U ((by simp):(0+(procs l).length)=([]++(procs l):List (List DV)).length) trivial))))))
set_option maxRecDepth 100000 in
theorem La (c:Nat):al Tryz.prog 27 [.d (.v (.slice none 0 c))] (DV.v (.slice none 0 0)):=by
 refine al.intro (by kernel_rfl) rfl rfl 8 rfl rfl fun w0 K ac hK r=>?_
 exact aN tk tq hK rfl [] 2000 r (by kernel_rfl) trivial
set_option maxRecDepth 100000 in
theorem Ln (a:Addr) (c:Nat):al Tryz.prog 27 [.d (.v (.slice (some a) 0 c))] (DV.em 24 2 ([]++[])):=by
 refine al.intro (by kernel_rfl) rfl rfl 8 rfl rfl fun w0 K ac hK r=>?_
 exact aN tk tq hK rfl [] 2000 r (by kernel_rfl) (U ((by simp):(0)=([]:List (List DV)).length) (U ((by simp):(2*((0)+0)+192)*16≤281474976710656) (U ((by simp):(0)+0<4611686018427387904) (U ((by simp [bY]):bY (([]:List (List DV)))) (U ((by simp):(0+0)=([]++([]:List (List DV)):List (List DV)).length) trivial)))))
theorem yL (l:List ay) (hb:l.length<2147483648):al Tryz.prog 27 [.d (.ro 2 (procs l))] (.em 24 2 (procs l)):=by
 cases l with
 | nil=>
  refine al.empty (pre:=[]) (post:=[]) fun a c=>?_
  cases a with
  | none=>exact al.nil 24 2 (La c)
  | some a=>exact Ln a c
 | cons b l=>exact K9 (b::l) (by simp) hb
set_option maxRecDepth 100000 in
theorem Lh (l:List Nat) (h0:0<l.length) (hb:l.length<2147483648):al Tryz.prog 37 [.d (.ro 1 (ae l))] (DV.em 22 1 (ae l)):=by
 refine al.intro (by kernel_rfl) rfl rfl 8 rfl rfl fun w0 K ac hK r=>?_
 rw [show (DV.em 22 1 (ae l):DV)=.em 22 1 ([]++(ae l)) from rfl]
 exact aN tk tq hK rfl [] 2000 r (by kernel_rfl) (U ((by simpa using h0):0<(ae l).length) (U ((by simp):(0)=([]:List (List DV)).length) (U ((by simp;omega):(2*((0)+(ae l).length)+192)*8≤281474976710656) (U ((by simp;omega):(0)+(ae l).length<4611686018427387904) (U ((by simp [bY,AV.one,cD]):bY (ae l)) (U ((by simp):(0+(ae l).length)=([]++(ae l):List (List DV)).length) trivial))))))
set_option maxRecDepth 100000 in
theorem Li (c:Nat):al Tryz.prog 37 [.d (.v (.slice none 0 c))] (DV.v (.slice none 0 0)):=by
 refine al.intro (by kernel_rfl) rfl rfl 8 rfl rfl fun w0 K ac hK r=>?_
 exact aN tk tq hK rfl [] 2000 r (by kernel_rfl) trivial
set_option maxRecDepth 100000 in
theorem Lv (a:Addr) (c:Nat):al Tryz.prog 37 [.d (.v (.slice (some a) 0 c))] (DV.em 22 1 ([]++[])):=by
 refine al.intro (by kernel_rfl) rfl rfl 8 rfl rfl fun w0 K ac hK r=>?_
 exact aN tk tq hK rfl [] 2000 r (by kernel_rfl) (U ((by simp):(0)=([]:List (List DV)).length) (U ((by simp):(2*((0)+0)+192)*8≤281474976710656) (U ((by simp):(0)+0<4611686018427387904) (U ((by simp [bY]):bY (([]:List (List DV)))) (U ((by simp):(0+0)=([]++([]:List (List DV)):List (List DV)).length) trivial)))))
theorem FT (l:List Nat) (hb:l.length<2147483648):al Tryz.prog 37 [.d (.ro 1 (ae l))] (.em 22 1 (ae l)):=by
 cases l with
 | nil=>
  refine al.empty (pre:=[]) (post:=[]) fun a c=>?_
  cases a with
  | none=>exact al.nil 22 1 (Li c)
  | some a=>exact Lv a c
 | cons b l=>exact Lh (b::l) (by simp) hb
end Go.Proofs.YtgkdnnmcjjabdaaGreat
namespace Go.Proofs.YtgkdnnmcjjabdaaGreat
open Go.RowKit
def gH:List Slot→Nat→Int
 | [],_ => -1
 | s::r,k=>if s.n≠k+1 then (k:Int) else gH r (k+1)
theorem vS:∀ {l:List Slot} {k i:Nat} {s:Slot},l[i]?=some s→s.n≠k+i+1→(∀ j t,j<i→l[j]?=some t→t.n=k+j+1)→gH l k=((k+i:Nat):Int)
 | [],_,_,_,h,_,_=>by simp at h
 | x::r,k,0,s,h,hn,_=>by simp at h;subst h;simp [gH];omega
 | x::r,k,i+1,s,h,hn,hb=>by
  have h0:x.n=k+1:=by have:=hb 0 x (by omega) rfl;simpa using this
  rw [gH,if_neg (by omega),vS (i:=i) (s:=s) (by simpa using h) (by omega) fun j t hj ht=>by have:=hb (j+1) t (by omega) (by simpa using ht);omega]
  congr 1;omega
theorem uZ:∀ {l:List Slot} {k:Nat},(∀ j t,j<l.length→l[j]?=some t→t.n=k+j+1)→gH l k = -1
 | [],_,_=>rfl
 | x::r,k,h=>by
  have h0:x.n=k+1:=by have:=h 0 x (by simp) rfl;simpa using this
  rw [gH,if_neg (by omega)]
  exact uZ fun j t hj ht=>by have:=h (j+1) t (by simpa using hj) (by simpa using ht);omega
def iV:List Slot→Nat→Nat
 | [],k=>k
 | s::r,k=>if s.n≠k+1 then k+1 else iV r (k+1)
theorem Av:∀ {l:List Slot} {k i:Nat} {s:Slot},l[i]?=some s→s.n≠k+i+1→(∀ j t,j<i→l[j]?=some t→t.n=k+j+1)→iV l k=k+i+1
 | [],_,_,_,h,_,_=>by simp at h
 | x::r,k,0,s,h,hn,_=>by simp at h;subst h;simp [iV];omega
 | x::r,k,i+1,s,h,hn,hb=>by
  have h0:x.n=k+1:=by have:=hb 0 x (by omega) rfl;simpa using this
  rw [iV,if_neg (by omega),Av (i:=i) (s:=s) (by simpa using h) (by omega) fun j t hj ht=>by have:=hb (j+1) t (by omega) (by simpa using ht);omega]
  omega
theorem y4:∀ {l:List Slot} {k:Nat},(∀ j t,j<l.length→l[j]?=some t→t.n=k+j+1)→iV l k=k+l.length
 | [],_,_=>rfl
 | x::r,k,h=>by
  have h0:x.n=k+1:=by have:=h 0 x (by simp) rfl;simpa using this
  rw [iV,if_neg (by omega)]
  rw [y4 fun j t hj ht=>by have:=h (j+1) t (by simpa using hj) (by simpa using ht);omega]
  simp;omega
def gY:List Slot→Nat→Nat→Int
 | [],_,_ => -1
 | s::r,n,k=>if n≤s.n then (k:Int) else gY r n (k+1)
theorem zE:∀ {l:List Slot} {n k i:Nat} {s:Slot},l[i]?=some s→n≤s.n→(∀ j t,j<i→l[j]?=some t→t.n<n)→gY l n k=((k+i:Nat):Int)
 | [],_,_,_,_,h,_,_=>by simp at h
 | x::r,n,k,0,s,h,hn,_=>by simp at h;subst h;simp [gY,hn]
 | x::r,n,k,i+1,s,h,hn,hb=>by
  have h0:x.n<n:=hb 0 x (by omega) rfl
  rw [gY,if_neg (by omega),zE (i:=i) (s:=s) (by simpa using h) hn fun j t hj ht=>hb (j+1) t (by omega) (by simpa using ht)]
  congr 1;omega
theorem uN:∀ {l:List Slot} {n k:Nat},(∀ j t,j<l.length→l[j]?=some t→t.n<n)→gY l n k = -1
 | [],_,_,_=>rfl
 | x::r,n,k,h=>by
  have h0:x.n<n:=h 0 x (by simp) rfl
  rw [gY,if_neg (by omega)]
  exact uN fun j t hj ht=>h (j+1) t (by simpa using hj) (by simpa using ht)
theorem x6 {k:IntKind} {a b:Int} (h:a=b):AV.d (.v (.int k a))=.d (.v (.int k b)):=by rw [h]
theorem K5 {T:TypeId} {k:IntKind} {a b:Int} (h:a=b):[af.bx T [.d (.v (.int k a))]]=[.bx T [.d (.v (.int k b))]]:=by rw [h]
set_option maxRecDepth 100000 in
theorem GW (l:List Slot) (hb:l.length<2147483648):dh Tryz.prog 99 [.d (.ro 2 (aO l)),.fn 103 [.pt 0 0]] [.bx 22 [.d (.v (.int .u64 0))]] (.d (.v (.int .i64 (gH l 0)))) ([.bx 22 [.d (.v (.int .u64 ((iV l 0:Nat):Int)))]]):=by
 refine dh.intro (by kernel_rfl) rfl rfl 19 rfl rfl fun D w0 K bs ac wd hK (bG:bs.m=1) r=>?_
 refine ig (todo':=hd Tryz.f99 0) (E':=[(0,.d (.ro 2 (aO l))),(7,.n l.length),(8,.n 0),(1,.fn 103 [.pt 0 0])]) (M':=[.bx 22 [.u 0]]) tk tq hK bG [(1,[(1,.z (((l.length:Nat):Int)))])] 2000 [0] [0,7,8,1] r (by kernel_rfl) (U ((by simp):(((aO l).length:Nat):Int)=((l.length:Nat):Int)) trivial) fun ac wd r=>?_
 refine aG.rounds (Φ:=fun (i:Nat) ac wd=>(i≤l.length∧∀ j t,j<i→l[j]?=some t→t.n=j+1)∧RB D w0 K 19 bs [(0,.d (.ro 2 (aO l))),(7,.n l.length),(8,.n i),(1,.fn 103 [.pt 0 0])] [.bx 22 [.u i]] ac wd) (l.length) ?_ (Nat.zero_le _) ⟨⟨by omega,by omega⟩,r⟩
 clear r
 rintro i eX b9 ac wd ⟨aT,r⟩
 obtain ⟨fp,aT⟩:=aT
 cases h0:(decide ((((i:Nat):Int):Int)<((l.length:Nat):Int))) with
 | false=>
  have bh:=of_decide_eq_false h0
  refine gC (y:=.z (-1)) (N':=[.bx 22 [.u i]]) ((x6 (by first | (rw [vS cB (by omega) (fun j t hj ht=>by have:=aT j t hj ht;omega)];simp;done) | exact uZ fun j t hj ht=>by have:=aT j t (by omega) ht;omega))) ((K5 (by first | (rw [Av cB (by omega) (fun j t hj ht=>by have:=aT j t hj ht;omega)];simp;done) | (rw [y4 (fun j t hj ht=>by have:=aT j t (by omega) ht;omega)];simp;omega)))) ?_
  exact gA tk tq hK rfl bG [(2,[(0,.b false)])] 2000 [0] r (by kernel_rfl) (U h0 trivial)
 | true=>
  have bh:=of_decide_eq_true h0
  obtain ⟨bU,cB⟩:∃ x,l[i]?=some x:=⟨_,List.getElem?_eq_getElem (by omega)⟩
  have u0:=((wu (by omega)):IntKind.u64.wrap ((((i:Nat):Int):Int)+1)=((i+1:Nat):Int))
  cases h1:((((bU.n:Nat):Int):Int) != ((i+1:Nat):Int)) with
  | false=>
   have bM:=fY h1
   exact ig (todo':=hd Tryz.f99 0) tk tq hK bG [(2,[(0,.b true)]),(4,[(3,.ix (i) [.u bU.n,.ro 1 (aj bU.body)]),(5,.cg 200 [(1,[(1,.z (((i+1:Nat):Int)))]),(2,[(3,.b false)])])]),(6,[(0,.z (((i+1:Nat):Int)))])] 2000 [0] [0,7,8,1] r (by kernel_rfl) (U h0 (U (aJ ((i:Nat):Int)) (U (df cB) (U u0 (U h1 (U ((wi (by omega)):IntKind.i64.wrap ((((i:Nat):Int):Int)+1)=((i+1:Nat):Int)) trivial)))))) fun ac wd r=>b9 (by omega) ac wd ⟨⟨by omega,fun j t hj ht=>by rcases Nat.lt_succ_iff_lt_or_eq.1 hj with h | rfl;exact aT j t h ht;rw [cB] at ht;cases ht;omega⟩,r⟩
  | true=>
   have bM:¬ _=_:=bne_iff_ne.1 h1
   refine gC (y:=.n i) (N':=[.bx 22 [.u (i+1)]]) ((x6 (by first | (rw [vS cB (by omega) (fun j t hj ht=>by have:=aT j t hj ht;omega)];simp;done) | exact uZ fun j t hj ht=>by have:=aT j t (by omega) ht;omega))) ((K5 (by first | (rw [Av cB (by omega) (fun j t hj ht=>by have:=aT j t hj ht;omega)];simp;done) | (rw [y4 (fun j t hj ht=>by have:=aT j t (by omega) ht;omega)];simp;omega)))) ?_
   exact gA tk tq hK rfl bG [(2,[(0,.b true)]),(4,[(3,.ix (i) [.u bU.n,.ro 1 (aj bU.body)]),(5,.cg 200 [(1,[(1,.z (((i+1:Nat):Int)))]),(2,[(3,.b true)])])])] 2000 [0] r (by kernel_rfl) (U h0 (U (aJ ((i:Nat):Int)) (U (df cB) (U u0 (U h1 trivial)))))
structure fX where
 src:ay
 n:Nat
 body:List UInt8
deriving DecidableEq
def fX.row (m:fX):List DV:=[.v (.int .i64 m.src.node),.v (.int .u64 (m.src.inc:Int)),.v (.int .u64 (m.n:Int)),.ro 1 (aj m.body)]
abbrev msgs (l:List fX):List (List DV):=l.map fX.row
def fS (l:List Slot):Nat:=if 0≤gH l 0 then (gH l 0).toNat else l.length
def ng (l:List Slot) (n:Nat):Nat:=if 0≤gY l n 0 then (gY l n 0).toNat else l.length
set_option maxRecDepth 100000 in
theorem OV (l:List Slot) (hb:l.length<2147483648):dh Tryz.prog 65 [.d (.ro 2 (aO l)),.fn 103 [.pt 0 0]] [.bx 22 [.d (.v (.int .u64 0))]] (.d (.v (.int .i64 ((fS l:Nat):Int)))) ([.bx 22 [.u (iV l 0)]]):=by
 refine dh.intro (by kernel_rfl) rfl rfl 14 rfl rfl fun D w0 K bs ac wd hK (bG:bs.m=1) r=>?_
 cases h0:(decide ((0:Int)≤gH l 0)) with
 | false=>
  have bh:=of_decide_eq_false h0
  refine gC (y:=.n l.length) (N':=[.bx 22 [.u (iV l 0)]]) ((x6 (by unfold fS;split<;>omega))) (rfl) ?_
  exact gA tk tq hK rfl bG [(1,[(2,.mem [0] (.z (gH l 0)) [.bx 22 [.u (iV l 0)]])]),(2,[(1,.b false)]),(4,[(1,.z (((l.length:Nat):Int)))])] 2000 [0] r (by kernel_rfl) (U (GW l (by omega)) (U h0 (U ((by simp):(((aO l).length:Nat):Int)=((l.length:Nat):Int)) trivial)))
 | true=>
  have bh:=of_decide_eq_true h0
  refine gC (y:=.z (gH l 0)) (N':=[.bx 22 [.u (iV l 0)]]) ((x6 (by unfold fS;split<;>omega))) (rfl) ?_
  exact gA tk tq hK rfl bG [(1,[(2,.mem [0] (.z (gH l 0)) [.bx 22 [.u (iV l 0)]])]),(2,[(1,.b true)])] 2000 [0] r (by kernel_rfl) (U (GW l (by omega)) (U h0 trivial))
theorem HV:∀ (l:List Slot) (k:Nat),gH l k<((k+l.length:Nat):Int)
 | [],k=>by simp [gH];omega
 | s::r,k=>by
  unfold gH;have:=HV r (k+1);split
  ·simp;omega
  ·simp at this ⊢;omega
theorem Qh (l:List Slot):fS l≤l.length:=by
 unfold fS;have:=HV l 0;split<;>omega
set_option maxRecDepth 100000 in
theorem yA (l:List Slot) (hb:l.length<2147483648):al Tryz.prog 69 [.ag [.d (.ro 2 (aO l))]] (DV.v (.int .u64 ((fS l:Nat):Int))):=by
 have hg:=Qh l
 refine al.intro (by kernel_rfl) rfl rfl 10 rfl rfl fun w0 K ac hK r=>?_
 rw [show (DV.v (.int .u64 ((fS l:Nat):Int)):DV)=.u (fS l) from rfl]
 exact aN tk tq hK rfl [(1,[(2,.cg 200 []),(3,.mem [1] (.n (fS l)) [.bx 22 [.u (iV l 0)]])]),(2,[(1,.z (((fS l:Nat):Int)))])] 2000 r (by kernel_rfl) (U (OV l (by omega)) (U ((wu (by omega)):IntKind.u64.wrap (((fS l:Nat):Int))=((fS l:Nat):Int)) trivial))
end Go.Proofs.YtgkdnnmcjjabdaaGreat
namespace Go.Proofs.YtgkdnnmcjjabdaaGreat
open Go.RowKit
theorem lV (x:Value):de (.v x):=by intro K K2 y H h;cases h;exact .v _
def View.may (v:View):Bool:=
 if v.id.round=0 then v.id.server.may&&decide (v=View.first v.id.server)
 else v.id.may&&decide (1≤v.members.length)&&decide (v.members.length≤6)&&decide (v.ao.length=v.members.length)&&isSet v.members&&lone v.members&&v.ao.all fun n=>decide (n≠0)
theorem Qi {l:List Nat} {q:Nat→Bool} (h:∀ (j x:Nat),j<l.length→l[j]?=some x→q x=true):l.all q=true:=by
 rw [List.all_eq_true];intro x hx
 obtain ⟨j,hj,rfl⟩:=List.getElem_of_mem hx
 exact h j _ hj (List.getElem?_eq_getElem hj)
theorem Rt {l:List Nat} {q:Nat→Bool} {j x:Nat} (h:l[j]?=some x) (hq:q x=false):l.all q=false:=by
 cases ha:l.all q with
 | false=>rfl
 | true=>rw [List.all_eq_true] at ha;have:=ha x (List.mem_of_getElem? h);rw [hq] at this;cases this
theorem View.Ru {v:View} {i x:Nat} (h:v.id.round≠0) (hx:v.ao[i]?=some x) (h0:x=0):v.may=false:=by
 unfold View.may;rw [if_neg h,Rt hx (by simp [h0])];simp
theorem View.kG {v:View} {i:Nat} (h:v.id.round≠0) (h1:v.id.may=true) (h2:1≤v.members.length) (h3:v.members.length≤6) (h4:v.ao.length=v.members.length) (h5:isSet v.members=true) (h6:lone v.members=true) (hi:v.ao.length≤i) (hs:∀ (j x:Nat),j<i→v.ao[j]?=some x→x≠0):v.may=true:=by
 unfold View.may;rw [if_neg h,Qi fun j x hj hx=>decide_eq_true (hs j x (Nat.lt_of_lt_of_le hj hi) hx)];simp [*]
theorem View.FU {v:View} (h:v.id.round=0):v.may=(v.id.server.may&&decide (v=View.first v.id.server)):=by unfold View.may;rw [if_pos h]
theorem View.kx {v:View} {c:Bool} (h:v.id.round=0) (h1:v.id.server.may=true) (h2:decide (v=View.first v.id.server)=c):v.may=c:=by rw [View.FU h,h1,h2];rfl
theorem View.kH {v:View} (h:v.id.round≠0) (hb:v.id.may=false∨v.members.length<1∨6<v.members.length∨v.ao.length≠v.members.length∨isSet v.members=false∨lone v.members=false):v.may=false:=by
 unfold View.may;rw [if_neg h]
 rcases hb with h | h | h | h | h | h
 ·simp [h]
 ·rw [decide_eq_false (by omega:¬ 1≤v.members.length)];simp
 ·rw [decide_eq_false (by omega:¬ v.members.length≤6)];simp
 ·simp [h]
 ·simp [h]
 ·simp [h]
end Go.Proofs.YtgkdnnmcjjabdaaGreat
namespace Go.Proofs.YtgkdnnmcjjabdaaGreat
open Go.RowKit
abbrev streams (l:List (List Slot)):List (List DV):=l.map fun s=>[.ro 2 (aO s)]
theorem jd {l:List (List Slot)} {i:Nat} {s:List Slot} (h:l[i]?=some s):(streams l)[i]?=some [.ro 2 (aO s)]:=by simp [streams,h]
structure aA where
 view:View
 streams:List (List Slot)
 az:List Nat
deriving DecidableEq
def wq (l:List Slot):Prop:=l.length<1073741824∧∀ x ∈ l,x.body.length<1073741824
def aA.bounded (f:aA):Prop:=f.view.bounded∧f.streams.length<1073741824∧f.az.length<1073741824∧∀ l ∈ f.streams,wq l
theorem wq.at {l:List Slot} (h:wq l) {i:Nat} {x:Slot} (g:l[i]?=some x):x.body.length<1073741824:=h.2 x (List.mem_of_getElem? g)
theorem aA.bounded.at {f:aA} (h:f.bounded) {i:Nat} {l:List Slot} (g:f.streams[i]?=some l):wq l:=h.2.2.2 l (List.mem_of_getElem? g)
def Good (l:List Slot) (n:Nat):Prop:=∀ (k:Nat) x,k<n→l[k]?=some x→1≤x.n∧x.n≤16∧x.body.length≤64∧∀ y,0<k→l[k-1]?=some y→y.n<x.n
def aA.Ok (f:aA):Prop:=f.view.may=true∧f.streams.length=f.view.members.length∧f.az.length=f.view.members.length∧∀ (i:Nat) l h,f.streams[i]?=some l→f.az[i]?=some h→Good l l.length∧h≤b3 l
open Classical in
noncomputable def aA.may (f:aA):Bool:=decide f.Ok
theorem aA.yes {f:aA} {i:Nat} (h1:f.view.may=true) (h2:f.streams.length=f.view.members.length) (h3:f.az.length=f.view.members.length) (hi:f.streams.length≤i) (h4:∀ (j:Nat) l h,j<i→f.streams[j]?=some l→f.az[j]?=some h→Good l l.length∧h≤b3 l):f.may=true:=by
 unfold aA.may
 exact @decide_eq_true _ (Classical.propDecidable _) ⟨h1,h2,h3,fun j l h hl hh=>h4 j l h (Nat.lt_of_lt_of_le (List.getElem?_eq_some_iff.1 hl).1 hi) hl hh⟩
theorem aA.no {f:aA} (h:¬ f.Ok):f.may=false:=by unfold aA.may;exact @decide_eq_false _ (Classical.propDecidable _) h
theorem aA.mT {f:aA} (h:f.view.may=false):f.may=false:=aA.no fun ok=>by rw [ok.1] at h;cases h
theorem aA.mY {f:aA} (h:f.streams.length≠f.view.members.length∨f.az.length≠f.view.members.length):f.may=false:=aA.no fun ok=>by have h1:=ok.2.1;have h2:=ok.2.2.1;omega
theorem aA.kJ {f:aA} {i k:Nat} {l:List Slot} {x:Slot} (hl:f.streams[i]?=some l) (hx:l[k]?=some x) (h:x.n<1∨16<x.n∨64<x.body.length∨∃ y,0<k∧l[k-1]?=some y∧x.n≤y.n):f.may=false:=aA.no fun ok=>by
 obtain ⟨-,h1,h2,h3⟩:=ok
 have hi:=(List.getElem?_eq_some_iff.1 hl).1
 obtain ⟨g1,g2,g3,g4⟩:=(h3 i l _ hl (List.getElem?_eq_getElem (by omega))).1 k x (List.getElem?_eq_some_iff.1 hx).1 hx
 rcases h with h | h | h | ⟨y,hk,hy,h⟩
 ·omega
 ·omega
 ·omega
 ·have:=g4 y hk hy;omega
theorem aA.Qj {f:aA} {i h:Nat} {l:List Slot} (hl:f.streams[i]?=some l) (hh:f.az[i]?=some h) (hc:b3 l<h):f.may=false:=aA.no fun ok=>by
 have:=(ok.2.2.2 i l h hl hh).2;omega
theorem Good.next {l:List Slot} {k:Nat} {x:Slot} (h:Good l k) (hx:l[k]?=some x) (h1:1≤x.n) (h2:x.n≤16) (h3:x.body.length≤64) (h4:∀ y,0<k→l[k-1]?=some y→y.n<x.n):Good l (k+1):=by
 intro j y hj hy
 rcases Nat.lt_succ_iff_lt_or_eq.1 hj with h' | rfl
 ·exact h j y h' hy
 ·rw [hx] at hy;cases hy;exact ⟨h1,h2,h3,h4⟩
end Go.Proofs.YtgkdnnmcjjabdaaGreat
namespace Go.Proofs.YtgkdnnmcjjabdaaGreat
open Go.RowKit
theorem aA.eq_iff {f g:aA}:f=g↔f.view=g.view∧f.streams=g.streams∧f.az=g.az:=by cases f;cases g;simp
theorem Slot.eq_iff {x y:Slot}:x=y↔x.n=y.n∧x.body=y.body:=by cases x;cases y;simp
set_option maxRecDepth 100000 in
theorem FV (a b:aA) (ha:a.bounded):al Tryz.prog 28 [.ag [.u a.view.id.round,.z a.view.id.server.node,.u a.view.id.server.inc,.d (.ro 2 (procs a.view.members)),.d (.ro 1 (ae a.view.ao)),.d (.ro 1 (streams a.streams)),.d (.ro 1 (ae a.az))],.ag [.u b.view.id.round,.z b.view.id.server.node,.u b.view.id.server.inc,.d (.ro 2 (procs b.view.members)),.d (.ro 1 (ae b.view.ao)),.d (.ro 1 (streams b.streams)),.d (.ro 1 (ae b.az))]] (DV.v (.bool (decide (a=b)))):=by
 obtain ⟨pz,eE,cv,kj⟩:=id ha
 refine al.intro (by kernel_rfl) rfl rfl 108 rfl rfl fun w0 K ac hK r=>?_
 cases h0:(decide (a.view=b.view)) with
 | false=>
  have bh:=of_decide_eq_false h0
  rw [show (DV.v (.bool (decide (a=b))):DV)=.v (.bool false) from (bv (by first | (apply decide_eq_true;exact aA.eq_iff.2 ⟨by assumption,du (by omega) fun j hj=>cN j (by omega),du (by omega) fun j hj=>aT j (by omega)⟩) | (apply decide_eq_false;intro e;subst e;first | omega | (simp_all;done))))]
  exact aN tk tq hK rfl [(1,[(4,.aM (.v (.bool false)))])] 2000 r (by kernel_rfl) (U ((by have k:=yz a.view b.view pz;rw [h0] at k;exact k):al Tryz.prog 32 [.ag [.u a.view.id.round,.z a.view.id.server.node,.u a.view.id.server.inc,.d (.ro 2 (procs a.view.members)),.d (.ro 1 (ae a.view.ao))],.ag [.u b.view.id.round,.z b.view.id.server.node,.u b.view.id.server.inc,.d (.ro 2 (procs b.view.members)),.d (.ro 1 (ae b.view.ao))]] (.v (.bool false))) trivial)
 | true=>
  have bh:=of_decide_eq_true h0
  have u0:=((by have k:=yz a.view b.view pz;rw [h0] at k;exact k):al Tryz.prog 32 [.ag [.u a.view.id.round,.z a.view.id.server.node,.u a.view.id.server.inc,.d (.ro 2 (procs a.view.members)),.d (.ro 1 (ae a.view.ao))],.ag [.u b.view.id.round,.z b.view.id.server.node,.u b.view.id.server.inc,.d (.ro 2 (procs b.view.members)),.d (.ro 1 (ae b.view.ao))]] (.v (.bool true)))
  have u1:=((by simp):(((streams a.streams).length:Nat):Int)=((a.streams.length:Nat):Int))
  have u2:=((by simp):(((streams b.streams).length:Nat):Int)=((b.streams.length:Nat):Int))
  cases h1:((((a.streams.length:Nat):Int):Int) != ((b.streams.length:Nat):Int)) with
  | false=>
   have bM:=fY h1
   have u3:=((by simp):(((ae a.az).length:Nat):Int)=((a.az.length:Nat):Int))
   have u4:=((by simp):(((ae b.az).length:Nat):Int)=((b.az.length:Nat):Int))
   cases h2:((((a.az.length:Nat):Int):Int) != ((b.az.length:Nat):Int)) with
   | false=>
    have cK:=fY h2
    refine bD (todo':=hd Tryz.f28 0) (E':=[(2,.pt 0 0),(3,.pt 1 0),(5,.n 0)]) (M':=[.bx 37 [.u a.view.id.round,.z a.view.id.server.node,.u a.view.id.server.inc,.d (.ro 2 (procs a.view.members)),.d (.ro 1 (ae a.view.ao)),.d (.ro 1 (streams a.streams)),.d (.ro 1 (ae a.az))],.bx 37 [.u b.view.id.round,.z b.view.id.server.node,.u b.view.id.server.inc,.d (.ro 2 (procs b.view.members)),.d (.ro 1 (ae b.view.ao)),.d (.ro 1 (streams b.streams)),.d (.ro 1 (ae b.az))]]) tk tq hK [(1,[(4,.aM (.v (.bool true))),(9,.z (((a.streams.length:Nat):Int))),(12,.z (((b.streams.length:Nat):Int))),(13,.b false),(18,.z (((a.az.length:Nat):Int))),(21,.z (((b.az.length:Nat):Int))),(22,.b false)])] 2000 [0,1] [2,3,5] r (by kernel_rfl) (U u0 (U u1 (U u2 (U h1 (U u3 (U u4 (U h2 trivial))))))) fun ac wd r=>?_
    refine aG.rounds (Φ:=fun (i:Nat) ac wd=>(i≤a.az.length∧∀ j,j<i→a.az[j]?=b.az[j]?)∧dj [] w0 K 108 [(2,.pt 0 0),(3,.pt 1 0),(5,.n i)] [.bx 37 [.u a.view.id.round,.z a.view.id.server.node,.u a.view.id.server.inc,.d (.ro 2 (procs a.view.members)),.d (.ro 1 (ae a.view.ao)),.d (.ro 1 (streams a.streams)),.d (.ro 1 (ae a.az))],.bx 37 [.u b.view.id.round,.z b.view.id.server.node,.u b.view.id.server.inc,.d (.ro 2 (procs b.view.members)),.d (.ro 1 (ae b.view.ao)),.d (.ro 1 (streams b.streams)),.d (.ro 1 (ae b.az))]] ac wd) (a.az.length) ?_ (Nat.zero_le _) ⟨⟨by omega,by omega⟩,r⟩
    clear r
    rintro i eX b9 ac wd ⟨aT,r⟩
    obtain ⟨fp,aT⟩:=aT
    cases h3:(decide ((((i:Nat):Int):Int)<((a.az.length:Nat):Int))) with
    | false=>
     have fb:=of_decide_eq_false h3
     refine bD (todo':=hd Tryz.f28 1) (E':=[(2,.pt 0 0),(3,.pt 1 0),(6,.n 0)]) (M':=[.bx 37 [.u a.view.id.round,.z a.view.id.server.node,.u a.view.id.server.inc,.d (.ro 2 (procs a.view.members)),.d (.ro 1 (ae a.view.ao)),.d (.ro 1 (streams a.streams)),.d (.ro 1 (ae a.az))],.bx 37 [.u b.view.id.round,.z b.view.id.server.node,.u b.view.id.server.inc,.d (.ro 2 (procs b.view.members)),.d (.ro 1 (ae b.view.ao)),.d (.ro 1 (streams b.streams)),.d (.ro 1 (ae b.az))]]) tk tq hK [(4,[(3,.z (((a.az.length:Nat):Int))),(4,.b false)])] 2000 [0,1] [2,3,6] r (by kernel_rfl) (U u3 (U h3 trivial)) fun ac wd r=>?_
     refine aG.rounds (Φ:=fun (u:Nat) ac wd=>(u≤a.streams.length∧∀ j,j<u→a.streams[j]?=b.streams[j]?)∧dj [] w0 K 108 [(2,.pt 0 0),(3,.pt 1 0),(6,.n u)] [.bx 37 [.u a.view.id.round,.z a.view.id.server.node,.u a.view.id.server.inc,.d (.ro 2 (procs a.view.members)),.d (.ro 1 (ae a.view.ao)),.d (.ro 1 (streams a.streams)),.d (.ro 1 (ae a.az))],.bx 37 [.u b.view.id.round,.z b.view.id.server.node,.u b.view.id.server.inc,.d (.ro 2 (procs b.view.members)),.d (.ro 1 (ae b.view.ao)),.d (.ro 1 (streams b.streams)),.d (.ro 1 (ae b.az))]] ac wd) (a.streams.length) ?_ (Nat.zero_le _) ⟨⟨by omega,by omega⟩,r⟩
     clear r
     rintro u fp fP ac wd ⟨cN,r⟩
     obtain ⟨px,cN⟩:=cN
     cases h4:(decide ((((u:Nat):Int):Int)<((a.streams.length:Nat):Int))) with
     | false=>
      have kv:=of_decide_eq_false h4
      rw [show (DV.v (.bool (decide (a=b))):DV)=.v (.bool true) from (bv (by first | (apply decide_eq_true;exact aA.eq_iff.2 ⟨by assumption,du (by omega) fun j hj=>cN j (by omega),du (by omega) fun j hj=>aT j (by omega)⟩) | (apply decide_eq_false;intro e;subst e;first | omega | (simp_all;done))))]
      exact aN tk tq hK rfl [(9,[(3,.z (((a.streams.length:Nat):Int))),(4,.b false)])] 2000 r (by kernel_rfl) (U u1 (U h4 trivial))
     | true=>
      have kv:=of_decide_eq_true h4
      obtain ⟨fH,uz⟩:∃ x,a.streams[u]?=some x:=⟨_,List.getElem?_eq_getElem (by omega)⟩
      have VK:=(ha.at uz).1
      obtain ⟨jE,ya⟩:∃ x,b.streams[u]?=some x:=⟨_,List.getElem?_eq_getElem (by omega)⟩
      have u5:=((by simp):(((aO fH).length:Nat):Int)=((fH.length:Nat):Int))
      have u6:=((by simp):(((aO jE).length:Nat):Int)=((jE.length:Nat):Int))
      cases h5:((((fH.length:Nat):Int):Int) != ((jE.length:Nat):Int)) with
      | false=>
       have mH:=fY h5
       refine bD (todo':=hd Tryz.f28 2) (E':=[(2,.pt 0 0),(3,.pt 1 0),(6,.n u),(7,.d (.ro 2 (aO fH))),(8,.d (.ro 2 (aO jE))),(9,.n 0)]) (M':=[.bx 37 [.u a.view.id.round,.z a.view.id.server.node,.u a.view.id.server.inc,.d (.ro 2 (procs a.view.members)),.d (.ro 1 (ae a.view.ao)),.d (.ro 1 (streams a.streams)),.d (.ro 1 (ae a.az))],.bx 37 [.u b.view.id.round,.z b.view.id.server.node,.u b.view.id.server.inc,.d (.ro 2 (procs b.view.members)),.d (.ro 1 (ae b.view.ao)),.d (.ro 1 (streams b.streams)),.d (.ro 1 (ae b.az))]]) tk tq hK [(9,[(3,.z (((a.streams.length:Nat):Int))),(4,.b true)]),(11,[(3,.ix (u) [.ro 2 (aO fH)]),(9,.ix (u) [.ro 2 (aO jE)])]),(12,[(1,.z (((fH.length:Nat):Int))),(3,.z (((jE.length:Nat):Int))),(4,.b false)])] 2000 [0,1] [2,3,6,7,8,9] r (by kernel_rfl) (U u1 (U h4 (U (aJ ((u:Nat):Int)) (U (jd uz) (U (aJ ((u:Nat):Int)) (U (jd ya) (U u5 (U u6 (U h5 trivial))))))))) fun ac wd r=>?_
       refine aG.rounds (Φ:=fun (k:Nat) ac wd=>(k≤fH.length∧∀ j,j<k→fH[j]?=jE[j]?)∧dj [] w0 K 108 [(2,.pt 0 0),(3,.pt 1 0),(6,.n u),(7,.d (.ro 2 (aO fH))),(8,.d (.ro 2 (aO jE))),(9,.n k)] [.bx 37 [.u a.view.id.round,.z a.view.id.server.node,.u a.view.id.server.inc,.d (.ro 2 (procs a.view.members)),.d (.ro 1 (ae a.view.ao)),.d (.ro 1 (streams a.streams)),.d (.ro 1 (ae a.az))],.bx 37 [.u b.view.id.round,.z b.view.id.server.node,.u b.view.id.server.inc,.d (.ro 2 (procs b.view.members)),.d (.ro 1 (ae b.view.ao)),.d (.ro 1 (streams b.streams)),.d (.ro 1 (ae b.az))]] ac wd) (fH.length) ?_ (Nat.zero_le _) ⟨⟨by omega,by omega⟩,r⟩
       clear r
       rintro k VF Rv ac wd ⟨rl,r⟩
       obtain ⟨hO,rl⟩:=rl
       cases h6:(decide ((((k:Nat):Int):Int)<((fH.length:Nat):Int))) with
       | false=>
        have lj:=of_decide_eq_false h6
        exact bD (todo':=hd Tryz.f28 1) tk tq hK [(10,[(1,.z (((u+1:Nat):Int)))]),(15,[(2,.z (((fH.length:Nat):Int))),(3,.b false)])] 2000 [0,1] [2,3,6] r (by kernel_rfl) (U u5 (U h6 (U ((wi (by omega)):IntKind.i64.wrap ((((u:Nat):Int):Int)+1)=((u+1:Nat):Int)) trivial))) fun ac wd r=>fP (by omega) ac wd ⟨⟨by omega,fun j hj=>by rcases Nat.lt_succ_iff_lt_or_eq.1 hj with h | rfl;exact cN j h;rw [uz,ya,Option.some.injEq];exact du (by omega) fun j hj=>rl j (by omega)⟩,r⟩
       | true=>
        have lj:=of_decide_eq_true h6
        obtain ⟨eP,pP⟩:∃ x,fH[k]?=some x:=⟨_,List.getElem?_eq_getElem (by omega)⟩
        obtain ⟨eQ,pQ⟩:∃ x,jE[k]?=some x:=⟨_,List.getElem?_eq_getElem (by omega)⟩
        cases h7:((((eP.n:Nat):Int):Int) != ((eQ.n:Nat):Int)) with
        | false=>
         have ln:=fY h7
         cases h8:(eP.body==eQ.body) with
         | false=>
          have ur:eP.body≠eQ.body:=by simpa using h8
          rw [show (DV.v (.bool (decide (a=b))):DV)=.v (.bool false) from (bv (by first | (apply decide_eq_true;exact aA.eq_iff.2 ⟨by assumption,du (by omega) fun j hj=>cN j (by omega),du (by omega) fun j hj=>aT j (by omega)⟩) | (apply decide_eq_false;intro e;subst e;first | omega | (simp_all;done))))]
          exact aN tk tq hK rfl [(15,[(2,.z (((fH.length:Nat):Int))),(3,.b true)]),(17,[(2,.ix (k) [.u eP.n,.ro 1 (aj eP.body)]),(7,.ix (k) [.u eQ.n,.ro 1 (aj eQ.body)]),(10,.b false),(14,.ix (k) [.u eP.n,.ro 1 (aj eP.body)]),(17,.res (.v (.string ⟨(eP.body).toArray⟩))),(20,.ix (k) [.u eQ.n,.ro 1 (aj eQ.body)]),(23,.res (.v (.string ⟨(eQ.body).toArray⟩))),(24,.b true)])] 2000 r (by kernel_rfl) (U u5 (U h6 (U (aJ ((k:Nat):Int)) (U (df pP) (U (aJ ((k:Nat):Int)) (U (df pQ) (U h7 (U (aJ ((k:Nat):Int)) (U (df pP) (U (rfl:aj eP.body=aj (eP.body)) (U (aJ ((k:Nat):Int)) (U (df pQ) (U (rfl:aj eQ.body=aj (eQ.body)) (U ((by simpa [bne] using h8):(eP.body != eQ.body)=true) trivial))))))))))))))
         | true=>
          have ur:eP.body=eQ.body:=by simpa using h8
          exact bD (todo':=hd Tryz.f28 2) tk tq hK [(15,[(2,.z (((fH.length:Nat):Int))),(3,.b true)]),(16,[(1,.z (((k+1:Nat):Int)))]),(17,[(2,.ix (k) [.u eP.n,.ro 1 (aj eP.body)]),(7,.ix (k) [.u eQ.n,.ro 1 (aj eQ.body)]),(10,.b false),(14,.ix (k) [.u eP.n,.ro 1 (aj eP.body)]),(17,.res (.v (.string ⟨(eP.body).toArray⟩))),(20,.ix (k) [.u eQ.n,.ro 1 (aj eQ.body)]),(23,.res (.v (.string ⟨(eQ.body).toArray⟩))),(24,.b false)])] 2000 [0,1] [2,3,6,7,8,9] r (by kernel_rfl) (U u5 (U h6 (U (aJ ((k:Nat):Int)) (U (df pP) (U (aJ ((k:Nat):Int)) (U (df pQ) (U h7 (U (aJ ((k:Nat):Int)) (U (df pP) (U (rfl:aj eP.body=aj (eP.body)) (U (aJ ((k:Nat):Int)) (U (df pQ) (U (rfl:aj eQ.body=aj (eQ.body)) (U ((by simpa [bne] using h8):(eP.body != eQ.body)=false) (U ((wi (by omega)):IntKind.i64.wrap ((((k:Nat):Int):Int)+1)=((k+1:Nat):Int)) trivial))))))))))))))) fun ac wd r=>Rv (by omega) ac wd ⟨⟨by omega,fun j hj=>by rcases Nat.lt_succ_iff_lt_or_eq.1 hj with h | rfl;exact rl j h;rw [pP,pQ,Option.some.injEq,Slot.eq_iff];exact ⟨by omega,by assumption⟩⟩,r⟩
        | true=>
         have ln:¬ _=_:=bne_iff_ne.1 h7
         rw [show (DV.v (.bool (decide (a=b))):DV)=.v (.bool false) from (bv (by first | (apply decide_eq_true;exact aA.eq_iff.2 ⟨by assumption,du (by omega) fun j hj=>cN j (by omega),du (by omega) fun j hj=>aT j (by omega)⟩) | (apply decide_eq_false;intro e;subst e;first | omega | (simp_all;done))))]
         exact aN tk tq hK rfl [(15,[(2,.z (((fH.length:Nat):Int))),(3,.b true)]),(17,[(2,.ix (k) [.u eP.n,.ro 1 (aj eP.body)]),(7,.ix (k) [.u eQ.n,.ro 1 (aj eQ.body)]),(10,.b true)])] 2000 r (by kernel_rfl) (U u5 (U h6 (U (aJ ((k:Nat):Int)) (U (df pP) (U (aJ ((k:Nat):Int)) (U (df pQ) (U h7 trivial)))))))
      | true=>
       have mH:¬ _=_:=bne_iff_ne.1 h5
       rw [show (DV.v (.bool (decide (a=b))):DV)=.v (.bool false) from (bv (by first | (apply decide_eq_true;exact aA.eq_iff.2 ⟨by assumption,du (by omega) fun j hj=>cN j (by omega),du (by omega) fun j hj=>aT j (by omega)⟩) | (apply decide_eq_false;intro e;subst e;first | omega | (simp_all;done))))]
       exact aN tk tq hK rfl [(9,[(3,.z (((a.streams.length:Nat):Int))),(4,.b true)]),(11,[(3,.ix (u) [.ro 2 (aO fH)]),(9,.ix (u) [.ro 2 (aO jE)])]),(12,[(1,.z (((fH.length:Nat):Int))),(3,.z (((jE.length:Nat):Int))),(4,.b true)])] 2000 r (by kernel_rfl) (U u1 (U h4 (U (aJ ((u:Nat):Int)) (U (jd uz) (U (aJ ((u:Nat):Int)) (U (jd ya) (U u5 (U u6 (U h5 trivial)))))))))
    | true=>
     have fb:=of_decide_eq_true h3
     obtain ⟨yi,yc⟩:∃ x,a.az[i]?=some x:=⟨_,List.getElem?_eq_getElem (by omega)⟩
     obtain ⟨yj,yd⟩:∃ x,b.az[i]?=some x:=⟨_,List.getElem?_eq_getElem (by omega)⟩
     cases h9:((((yi:Nat):Int):Int) != ((yj:Nat):Int)) with
     | false=>
      have VG:=fY h9
      exact bD (todo':=hd Tryz.f28 0) tk tq hK [(4,[(3,.z (((a.az.length:Nat):Int))),(4,.b true)]),(5,[(1,.z (((i+1:Nat):Int)))]),(6,[(3,.ix (i) [.u yi]),(8,.ix (i) [.u yj]),(10,.b false)])] 2000 [0,1] [2,3,5] r (by kernel_rfl) (U u3 (U h3 (U (aJ ((i:Nat):Int)) (U (eH yc) (U (aJ ((i:Nat):Int)) (U (eH yd) (U h9 (U ((wi (by omega)):IntKind.i64.wrap ((((i:Nat):Int):Int)+1)=((i+1:Nat):Int)) trivial)))))))) fun ac wd r=>b9 (by omega) ac wd ⟨⟨by omega,fun j hj=>by rcases Nat.lt_succ_iff_lt_or_eq.1 hj with h | rfl;exact aT j h;rw [yc,yd,Option.some.injEq];omega⟩,r⟩
     | true=>
      have VG:¬ _=_:=bne_iff_ne.1 h9
      rw [show (DV.v (.bool (decide (a=b))):DV)=.v (.bool false) from (bv (by first | (apply decide_eq_true;exact aA.eq_iff.2 ⟨by assumption,du (by omega) fun j hj=>cN j (by omega),du (by omega) fun j hj=>aT j (by omega)⟩) | (apply decide_eq_false;intro e;subst e;first | omega | (simp_all;done))))]
      exact aN tk tq hK rfl [(4,[(3,.z (((a.az.length:Nat):Int))),(4,.b true)]),(6,[(3,.ix (i) [.u yi]),(8,.ix (i) [.u yj]),(10,.b true)])] 2000 r (by kernel_rfl) (U u3 (U h3 (U (aJ ((i:Nat):Int)) (U (eH yc) (U (aJ ((i:Nat):Int)) (U (eH yd) (U h9 trivial)))))))
   | true=>
    have cK:¬ _=_:=bne_iff_ne.1 h2
    rw [show (DV.v (.bool (decide (a=b))):DV)=.v (.bool false) from (bv (by first | (apply decide_eq_true;exact aA.eq_iff.2 ⟨by assumption,du (by omega) fun j hj=>cN j (by omega),du (by omega) fun j hj=>aT j (by omega)⟩) | (apply decide_eq_false;intro e;subst e;first | omega | (simp_all;done))))]
    exact aN tk tq hK rfl [(1,[(4,.aM (.v (.bool true))),(9,.z (((a.streams.length:Nat):Int))),(12,.z (((b.streams.length:Nat):Int))),(13,.b false),(18,.z (((a.az.length:Nat):Int))),(21,.z (((b.az.length:Nat):Int))),(22,.b true)])] 2000 r (by kernel_rfl) (U u0 (U u1 (U u2 (U h1 (U u3 (U u4 (U h2 trivial)))))))
  | true=>
   have bM:¬ _=_:=bne_iff_ne.1 h1
   rw [show (DV.v (.bool (decide (a=b))):DV)=.v (.bool false) from (bv (by first | (apply decide_eq_true;exact aA.eq_iff.2 ⟨by assumption,du (by omega) fun j hj=>cN j (by omega),du (by omega) fun j hj=>aT j (by omega)⟩) | (apply decide_eq_false;intro e;subst e;first | omega | (simp_all;done))))]
   exact aN tk tq hK rfl [(1,[(4,.aM (.v (.bool true))),(9,.z (((a.streams.length:Nat):Int))),(12,.z (((b.streams.length:Nat):Int))),(13,.b true)])] 2000 r (by kernel_rfl) (U u0 (U u1 (U u2 (U h1 trivial))))
end Go.Proofs.YtgkdnnmcjjabdaaGreat
namespace Go.Proofs.YtgkdnnmcjjabdaaGreat
open Go.RowKit
def bK (l:List Slot):List (List DV):=l.map fun s=>[.v (.int .u64 (s.n:Int)),.em 5 1 (aj s.body)]
def aQ (l:List (List Slot)):List (List DV):=l.map fun s=>[.em 113 2 (bK s)]
def View.own (v:View):List DV:=[.v (.int .u64 (v.id.round:Int)),.v (.int .i64 v.id.server.node),.v (.int .u64 (v.id.server.inc:Int)),.em 24 2 (procs v.members),.em 22 1 (ae v.ao)]
def aA.own (f:aA):List DV:=[.v (.int .u64 (f.view.id.round:Int)),.v (.int .i64 f.view.id.server.node),.v (.int .u64 (f.view.id.server.inc:Int)),.em 24 2 (procs f.view.members),.em 22 1 (ae f.view.ao),.em 111 1 (aQ f.streams),.em 22 1 (ae f.az)]
@[simp] theorem VL (l:List Slot):(bK l).length=l.length:=by simp [bK]
@[simp] theorem Lw (l:List (List Slot)):(aQ l).length=l.length:=by simp [aQ]
theorem cU (l:List UInt8):(aj l).length=l.length:=by simp [aj]
end Go.Proofs.YtgkdnnmcjjabdaaGreat
namespace Go.Proofs.YtgkdnnmcjjabdaaGreat
open Go.RowKit
def aA.zero:aA:=⟨⟨⟨0,⟨0,0⟩⟩,[],[]⟩,[],[]⟩
noncomputable def aA.owned (f:aA):aA:=if f.may=true then f else aA.zero
theorem aA.jH {f:aA} (h:f.may=true):f.owned=f:=by unfold aA.owned;rw [if_pos h]
theorem aA.rY {f:aA} (h:f.may=false):f.owned=aA.zero:=by unfold aA.owned;rw [if_neg (by rw [h];simp)]
def aA.fresh (v:View):aA:=⟨v,List.replicate v.members.length [],List.replicate v.members.length 0⟩
theorem aA.Ev {f:aA} (h:f.bounded):f.owned.bounded:=by
 cases hm:f.may with
 | true=>rw [aA.jH hm];exact h
 | false=>
  rw [aA.rY hm]
  exact ⟨⟨by simp [aA.zero],by simp [aA.zero]⟩,by simp [aA.zero],by simp [aA.zero],by simp [aA.zero]⟩
end Go.Proofs.YtgkdnnmcjjabdaaGreat
namespace Go.Proofs.YtgkdnnmcjjabdaaGreat
open Go.RowKit
theorem Mb (l:List UInt8):bO (aj l)=aj l:=by simp [b8,aj,bd]
theorem pC (l:List Slot):bO (bK l)=aO l:=by
 rw [b8];unfold bK aO;rw [List.map_map]
 apply List.map_congr_left;intro s _
 show [bd (.v _),bd (.em 5 1 (aj s.body))]=_
 rw [bd,bd,Mb];rfl
theorem yn (l:List (List Slot)):bO (aQ l)=streams l:=by
 rw [b8];unfold aQ streams;rw [List.map_map]
 apply List.map_congr_left;intro s _
 show [bd (.em 113 2 (bK s))]=_
 rw [bd,pC]
theorem Nj {α:Type} {l:List α} {g:α→Nat} {k:Nat} {x:α} (h:l[k]?=some x):ae ((l.take k).map g)++[[.v (.int .u64 ((g x:Nat):Int))]]=ae ((l.take (k+1)).map g):=by
 obtain ⟨hk,rfl⟩:=List.getElem?_eq_some_iff.1 h
 rw [List.take_succ_eq_append_getElem hk,List.map_append]
 unfold ae;rw [List.map_append];rfl
noncomputable def aA.counts (f:aA):List Nat:=f.owned.streams.map b3
end Go.Proofs.YtgkdnnmcjjabdaaGreat
namespace Go.Proofs.YtgkdnnmcjjabdaaGreat
open Go.RowKit
set_option maxRecDepth 100000 in
theorem FW (f:aA) (i:Nat) (x:Slot) (hi:i<f.view.members.length) (hx:x.body.length<2147483648) {p:ay} (gp:f.view.members[i]?=some p):al Tryz.prog 70 [.ag [.u f.view.id.round,.z f.view.id.server.node,.u f.view.id.server.inc,.d (.ro 2 (procs f.view.members)),.d (.ro 1 (ae f.view.ao)),.d (.ro 1 (streams f.streams)),.d (.ro 1 (ae f.az))],.n i,.ag [.u x.n,.d (.ro 1 (aj x.body))]] (.ag [.v (.int .i64 p.node),.v (.int .u64 ((p.inc:Nat):Int)),.v (.int .u64 ((x.n:Nat):Int)),.em 5 1 (aj x.body)]):=by
 refine al.intro (by kernel_rfl) rfl rfl 20 rfl rfl fun w0 K ac hK r=>?_
 rw [show (.ag [.v (.int .i64 p.node),.v (.int .u64 ((p.inc:Nat):Int)),.v (.int .u64 ((x.n:Nat):Int)),.em 5 1 (aj x.body)]:DV)=.ag [.z p.node,.u p.inc,.u x.n,.em 5 1 (aj x.body)] from rfl]
 exact aN tk tq hK rfl [(1,[(5,.ix (i) [.z p.node,.u p.inc]),(11,.aM (.em 5 1 (aj x.body)))])] 2000 r (by kernel_rfl) (U (aJ ((i:Nat):Int)) (U (fK gp) (U (uM x.body (by omega)) (U (b7 ((aj x.body).length)) trivial))))
set_option maxRecDepth 100000 in
theorem Sv (v:View) (hb:v.bounded):al Tryz.prog 14 [.ag [.u v.id.round,.z v.id.server.node,.u v.id.server.inc,.d (.ro 2 (procs v.members)),.d (.ro 1 (ae v.ao))]] (.ag (v.own++[.em 111 1 (List.replicate v.members.length [.v (.slice none 0 0)]),.em 22 1 (List.replicate v.members.length [.v (.int .u64 0)])])):=by
 obtain ⟨eE,cv⟩:=id hb
 refine al.intro (by kernel_rfl) rfl rfl 21 rfl rfl fun w0 K ac hK r=>?_
 have JO:=(yL v.members (by omega))
 have JP:=(FT v.ao (by omega))
 have JQ:=((by simp):(((procs v.members).length:Nat):Int)=((v.members.length:Nat):Int))
 have nv:=(aJ ((v.members.length:Nat):Int))
 have JR:=((by first | omega | (simp;omega)):24*(v.members.length)≤281474976710656)
 have xE:=((by first | omega | (simp;omega)):(v.members.length)<4611686018427387904)
 have JS:=((by first | omega | (simp;omega)):8*(v.members.length)≤281474976710656)
 refine lI (todo':=aft Tryz.f14 4) (E':=[(2,.pt 1 0)]) (M':=[.bx 34 [.u v.id.round,.z v.id.server.node,.u v.id.server.inc,.sl 2 ((procs v.members).length),.sl 3 ((ae v.ao).length)],.bx 37 [.u v.id.round,.z v.id.server.node,.u v.id.server.inc,.sl 2 ((procs v.members).length),.sl 3 ((ae v.ao).length),.sl 4 (v.members.length),.sl 5 (v.members.length)],.rw 24 2 (procs v.members),.rw 22 1 (ae v.ao),.rw 111 1 (List.replicate (v.members.length) [.v (.slice none 0 0)]),.rw 22 1 (List.replicate (v.members.length) [.v (.int .u64 0)])]) tk tq hK [(1,[(2,.aM (.em 24 2 (procs v.members)))]),(2,[(2,.aM (.em 22 1 (ae v.ao)))]),(3,[(2,.z (((v.members.length:Nat):Int)))]),(4,[(2,.n (v.members.length)),(4,.n (v.members.length))])] 9 2 [] [[0,1,2,3,4,5],[0,1,2,3,5,4]] [2] r (by kernel_rfl) (U (U JO (U JP (U JQ (U nv (U nv (U JR (U xE (U nv (U nv (U JS (U xE trivial))))))))))) (U (U JO (U JP (U JQ (U nv (U nv (U JS (U xE (U nv (U nv (U JR (U xE trivial))))))))))) trivial)) fun ac wd r=>?_
 rw [show (.ag (v.own++[.em 111 1 (List.replicate v.members.length [.v (.slice none 0 0)]),.em 22 1 (List.replicate v.members.length [.v (.int .u64 0)])]):DV)=.ag [.u v.id.round,.z v.id.server.node,.u v.id.server.inc,.em 24 2 (procs v.members),.em 22 1 (ae v.ao),.em 111 1 (List.replicate (v.members.length) [.v (.slice none 0 0)]),.em 22 1 (List.replicate (v.members.length) [.v (.int .u64 0)])] from rfl]
 exact aN tk tq hK rfl [] 2000 r (by kernel_rfl) (U (b7 ((procs v.members).length)) (U (b7 ((ae v.ao).length)) (U ((by simp):(v.members.length)=(List.replicate (v.members.length) [.v (.slice none 0 0)]:List (List DV)).length) (U ((by simp):(v.members.length)=(List.replicate (v.members.length) [.v (.int .u64 0)]:List (List DV)).length) trivial))))
theorem Iw (v:View) (hb:v.bounded):al Tryz.prog 14 [.ag [.u v.id.round,.z v.id.server.node,.u v.id.server.inc,.d (.ro 2 (procs v.members)),.d (.ro 1 (ae v.ao))]] (.ag (aA.fresh v).own):=by
 refine (Sv v hb).le ?_
 unfold aA.own aA.fresh View.own aQ ae
 simp only [List.map_replicate]
 exact gO.ag (.cons (.refl _) (.cons (.refl _) (.cons (.refl _) (.cons (.refl _) (.cons (.refl _) (.cons (.rep _ (.cons (.Sj 113 2) .nil)) (.cons (.refl _) .nil)))))))
end Go.Proofs.YtgkdnnmcjjabdaaGreat
namespace Go.Proofs.YtgkdnnmcjjabdaaGreat
open Go.RowKit
theorem HW {α:Type} [DecidableEq α] {p:α}:∀ {l:List α} {k:Nat},p ∈ l→0≤idx l p k
 | [],_,h=>by cases h
 | x::r,k,h=>by
  unfold idx
  split
  ·omega
  ·rename_i hx
   rcases List.mem_cons.1 h with rfl | h
   ·exact absurd rfl hx
   ·exact HW h
theorem OW {l:List Slot} {i:Nat} {s:Slot} (h:l[i]?=some s):0≤eJ l s.n:=HW (List.mem_map.2 ⟨s,List.mem_of_getElem? h,rfl⟩)
theorem yM (l:List Slot):∃ k,(∀ j,j<k→0≤eJ l (j+1))∧¬ 0≤eJ l (k+1):=by
 apply Classical.byContradiction;intro hn
 have key:∀ m,∀ j,j<m→0≤eJ l (j+1):=by
  intro m
  induction m with
  | zero=>intro j hj;omega
  | succ m ih=>
   intro j hj
   rcases Nat.lt_succ_iff_lt_or_eq.1 hj with h | rfl
   ·exact ih j h
   ·exact Classical.byContradiction fun hc=>hn ⟨j,ih,hc⟩
 have:=Au (key (l.length+1));omega
theorem Good.from {l:List Slot} (h:Good l l.length):∀ (p:Nat) x,l[p]?=some x→p+1≤x.n:=by
 intro p
 induction p with
 | zero=>intro x hx;exact (h 0 x (List.getElem?_eq_some_iff.1 hx).1 hx).1
 | succ p ih=>
  intro x hx
  have hp:=(List.getElem?_eq_some_iff.1 hx).1
  have h1:=ih _ (List.getElem?_eq_getElem (by omega:p<l.length))
  have h2:=(h (p+1) x hp hx).2.2.2 _ (by omega) (List.getElem?_eq_getElem (by omega:p<l.length))
  omega
theorem HX {l:List Slot} (h:Good l l.length) {k:Nat} (hk:∀ j,j<k→0≤eJ l (j+1)):∀ (j:Nat) x,j<k→l[j]?=some x→x.n=j+1:=by
 intro j
 induction j using Nat.strongRecOn with
 | ind j ih=>
  intro x hj hx
  have hm:=FQ (hk j hj)
  obtain ⟨s,hs,hn⟩:=List.mem_map.1 hm
  obtain ⟨p,hp,rfl⟩:=List.getElem_of_mem hs
  have e:=List.getElem?_eq_getElem hp
  have h1:=h.from p _ e
  rcases Nat.lt_trichotomy p j with h2 | h2 | h2
  ·have:=ih p h2 _ (by omega) e;omega
  ·subst h2;rw [hx,Option.some.injEq] at e;rw [e];exact hn
  ·omega
theorem zF {l:List Slot} (h:Good l l.length):fS l=b3 l:=by
 obtain ⟨k,h1,h2⟩:=yM l
 rw [uX h1 h2]
 have h3:=HX h h1
 have hle:=Au h1
 unfold fS
 rcases Nat.lt_or_ge k l.length with hk | hk
 ·have e:=List.getElem?_eq_getElem hk
  have dD:l[k].n≠k+1:=fun he=>h2 (by rw [← he];exact OW e)
  rw [vS e (by omega) fun j t hj ht=>by have:=h3 j t hj ht;omega]
  simp
 ·have:k=l.length:=by omega
  subst this
  rw [uZ fun j t hj ht=>by have:=h3 j t hj ht;omega]
  simp
def kR (l:List Slot) (k:Nat):Nat:=if k=0 then 0 else ((l[k-1]?).map Slot.n).getD 0
theorem Mc {l:List Slot} {k:Nat} {x:Slot} (h:l[k]?=some x):kR l (k+1)=x.n:=by unfold kR;rw [if_neg (by omega)];simp [h]
theorem OX {l:List Slot} {k n:Nat} (h:kR l k<n):∀ y:Slot,0<k→l[k-1]?=some y→y.n<n:=by
 intro y hk hy
 unfold kR at h;rw [if_neg (by omega),hy] at h;simpa using h
theorem OY {l:List Slot} {k n:Nat} (hn:0<n) (hk:k≤l.length) (h:n≤kR l k):∃ y:Slot,0<k∧l[k-1]?=some y∧n≤y.n:=by
 unfold kR at h
 rcases Nat.eq_zero_or_pos k with h0 | h0
 ·rw [if_pos h0] at h;omega
 ·rw [if_neg (by omega),List.getElem?_eq_getElem (by omega:k-1<l.length)] at h
  exact ⟨_,h0,List.getElem?_eq_getElem (by omega),by simpa using h⟩
theorem aA.mU {f:aA} {i k:Nat} {l:List Slot} {x:Slot} (hl:f.streams[i]?=some l) (hx:l[k]?=some x) (h:x.n≤kR l k):f.may=false:=by
 rcases Nat.eq_zero_or_pos x.n with h0 | h0
 ·exact aA.kJ hl hx (.inl (by omega))
 ·exact aA.kJ hl hx (.inr (.inr (.inr (OY h0 (Nat.le_of_lt (List.getElem?_eq_some_iff.1 hx).1) h))))
theorem aA.mZ {f:aA} {i h k:Nat} {l:List Slot} (hl:f.streams[i]?=some l) (hh:f.az[i]?=some h) (hg:Good l k) (hk:l.length≤k) (hc:fS l<h):f.may=false:=by
 refine aA.Qj hl hh ?_
 rw [← zF (l:=l) fun j x hj hx=>hg j x (by omega) hx];exact hc
set_option maxRecDepth 100000 in
theorem HY (hV:∀ v:View,v.bounded→al Tryz.prog 34 [.ag [.u v.id.round,.z v.id.server.node,.u v.id.server.inc,.d (.ro 2 (procs v.members)),.d (.ro 1 (ae v.ao))]] (DV.v (.bool v.may))) (f:aA) (hb:f.bounded):al Tryz.prog 98 [.ag [.u f.view.id.round,.z f.view.id.server.node,.u f.view.id.server.inc,.d (.ro 2 (procs f.view.members)),.d (.ro 1 (ae f.view.ao)),.d (.ro 1 (streams f.streams)),.d (.ro 1 (ae f.az))]] (DV.v (.bool f.may)):=by
 obtain ⟨pz,eE,cv,kj⟩:=id hb
 have VH:=pz
 obtain ⟨V2,V3⟩:=VH
 refine al.intro (by kernel_rfl) rfl rfl 73 rfl rfl fun w0 K ac hK r=>?_
 have u0:=((by simp [aj]):(((procs f.view.members).length:Nat):Int)=((f.view.members.length:Nat):Int))
 cases h0:(f.view.may) with
 | false=>
  rw [show (DV.v (.bool f.may):DV)=.v (.bool false) from (bv (by first | exact aA.mT (by assumption) | exact aA.mY (by omega) | exact aA.yes (by assumption) (by omega) (by omega) (by omega) aT | exact aA.mU cL cO (by omega) | exact aA.kJ cL cO (by omega) | exact aA.mZ cL jF cN (by omega) (by omega)))]
  exact aN tk tq hK rfl [(1,[(3,.z (((f.view.members.length:Nat):Int)))]),(2,[(2,.aM (.v (.bool false)))])] 2000 r (by kernel_rfl) (U u0 (U ((by have k:=hV f.view (by assumption);rw [h0] at k;exact k):al Tryz.prog 34 [.ag [.u f.view.id.round,.z f.view.id.server.node,.u f.view.id.server.inc,.d (.ro 2 (procs f.view.members)),.d (.ro 1 (ae f.view.ao))]] (.v (.bool false))) trivial))
 | true=>
  have u1:=((by have k:=hV f.view (by assumption);rw [h0] at k;exact k):al Tryz.prog 34 [.ag [.u f.view.id.round,.z f.view.id.server.node,.u f.view.id.server.inc,.d (.ro 2 (procs f.view.members)),.d (.ro 1 (ae f.view.ao))]] (.v (.bool true)))
  have u2:=((by simp [aj]):(((streams f.streams).length:Nat):Int)=((f.streams.length:Nat):Int))
  cases h1:((((f.streams.length:Nat):Int):Int) != ((f.view.members.length:Nat):Int)) with
  | false=>
   have bM:=fY h1
   have u3:=((by simp [aj]):(((ae f.az).length:Nat):Int)=((f.az.length:Nat):Int))
   cases h2:((((f.az.length:Nat):Int):Int) != ((f.view.members.length:Nat):Int)) with
   | false=>
    have cK:=fY h2
    refine bD (todo':=hd Tryz.f98 0) (E':=[(1,.pt 0 0),(3,.n f.view.members.length),(32,.d (.ro 1 (streams f.streams))),(33,.n f.streams.length),(34,.n 0)]) (M':=[.bx 37 [.u f.view.id.round,.z f.view.id.server.node,.u f.view.id.server.inc,.d (.ro 2 (procs f.view.members)),.d (.ro 1 (ae f.view.ao)),.d (.ro 1 (streams f.streams)),.d (.ro 1 (ae f.az))]]) tk tq hK [(1,[(3,.z (((f.view.members.length:Nat):Int)))]),(2,[(2,.aM (.v (.bool true))),(7,.z (((f.streams.length:Nat):Int))),(9,.b false),(14,.z (((f.az.length:Nat):Int))),(16,.b false)]),(4,[(2,.z (((f.streams.length:Nat):Int)))])] 2000 [0] [1,3,32,33,34] r (by kernel_rfl) (U u0 (U u1 (U u2 (U h1 (U u3 (U h2 (U u2 trivial))))))) fun ac wd r=>?_
    refine aG.rounds (Φ:=fun (i:Nat) ac wd=>(i≤f.streams.length∧∀ (j:Nat) l h,j<i→f.streams[j]?=some l→f.az[j]?=some h→Good l l.length∧h≤b3 l)∧dj [] w0 K 73 [(1,.pt 0 0),(3,.n f.view.members.length),(32,.d (.ro 1 (streams f.streams))),(33,.n f.streams.length),(34,.n i)] [.bx 37 [.u f.view.id.round,.z f.view.id.server.node,.u f.view.id.server.inc,.d (.ro 2 (procs f.view.members)),.d (.ro 1 (ae f.view.ao)),.d (.ro 1 (streams f.streams)),.d (.ro 1 (ae f.az))]] ac wd) (f.streams.length) ?_ (Nat.zero_le _) ⟨⟨by omega,by omega⟩,r⟩
    clear r
    rintro i eX b9 ac wd ⟨aT,r⟩
    obtain ⟨fp,aT⟩:=aT
    cases h3:(decide ((((i:Nat):Int):Int)<((f.streams.length:Nat):Int))) with
    | false=>
     have fb:=of_decide_eq_false h3
     rw [show (DV.v (.bool f.may):DV)=.v (.bool true) from (bv (by first | exact aA.mT (by assumption) | exact aA.mY (by omega) | exact aA.yes (by assumption) (by omega) (by omega) (by omega) aT | exact aA.mU cL cO (by omega) | exact aA.kJ cL cO (by omega) | exact aA.mZ cL jF cN (by omega) (by omega)))]
     exact aN tk tq hK rfl [(5,[(0,.b false)])] 2000 r (by kernel_rfl) (U h3 trivial)
    | true=>
     have fb:=of_decide_eq_true h3
     obtain ⟨aV,cL⟩:∃ x,f.streams[i]?=some x:=⟨_,List.getElem?_eq_getElem (by omega)⟩
     have Lj:=(hb.at cL).1
     have yb:=hb.at cL
     obtain ⟨yo,jF⟩:∃ x,f.az[i]?=some x:=⟨_,List.getElem?_eq_getElem (by omega)⟩
     refine bD (todo':=hd Tryz.f98 1) (E':=[(1,.pt 0 0),(3,.n f.view.members.length),(32,.d (.ro 1 (streams f.streams))),(33,.n f.streams.length),(34,.n i),(4,.n i),(5,.pt 1 0),(6,.u (kR aV 0)),(40,.d (.ro 2 (aO aV))),(41,.n aV.length),(42,.n 0)]) (M':=[.bx 37 [.u f.view.id.round,.z f.view.id.server.node,.u f.view.id.server.inc,.d (.ro 2 (procs f.view.members)),.d (.ro 1 (ae f.view.ao)),.d (.ro 1 (streams f.streams)),.d (.ro 1 (ae f.az))],.bx 111 [.d (.ro 2 (aO aV))]]) tk tq hK [(5,[(0,.b true)]),(6,[(1,.ix (i) [.ro 2 (aO aV)])]),(8,[(2,.z (((aV.length:Nat):Int)))])] 2000 [0,1] [1,3,32,33,34,4,5,6,40,41,42] r (by kernel_rfl) (U h3 (U (aJ ((i:Nat):Int)) (U (jd cL) (U ((by simp [aj]):(((aO aV).length:Nat):Int)=((aV.length:Nat):Int)) trivial)))) fun ac wd r=>?_
     refine aG.rounds (Φ:=fun (k:Nat) ac wd=>(k≤aV.length∧Good aV k)∧dj [] w0 K 73 [(1,.pt 0 0),(3,.n f.view.members.length),(32,.d (.ro 1 (streams f.streams))),(33,.n f.streams.length),(34,.n i),(4,.n i),(5,.pt 1 0),(6,.u (kR aV k)),(40,.d (.ro 2 (aO aV))),(41,.n aV.length),(42,.n k)] [.bx 37 [.u f.view.id.round,.z f.view.id.server.node,.u f.view.id.server.inc,.d (.ro 2 (procs f.view.members)),.d (.ro 1 (ae f.view.ao)),.d (.ro 1 (streams f.streams)),.d (.ro 1 (ae f.az))],.bx 111 [.d (.ro 2 (aO aV))]] ac wd) (aV.length) ?_ (Nat.zero_le _) ⟨⟨by omega,fun k x hk=>by omega⟩,r⟩
     clear r
     rintro k fp fP ac wd ⟨cN,r⟩
     obtain ⟨hO,cN⟩:=cN
     cases h4:(decide ((((k:Nat):Int):Int)<((aV.length:Nat):Int))) with
     | false=>
      have kv:=of_decide_eq_false h4
      cases h5:(decide ((((fS aV:Nat):Int):Int)<((yo:Nat):Int))) with
      | false=>
       have mH:=of_decide_eq_false h5
       exact bD (todo':=hd Tryz.f98 0) tk tq hK [(9,[(0,.b false)]),(15,[(3,.ix (i) [.u yo]),(6,.aM (.u (fS aV))),(7,.b false)]),(17,[(0,.z (((i+1:Nat):Int)))])] 2000 [0] [1,3,32,33,34] r (by kernel_rfl) (U h4 (U (aJ ((i:Nat):Int)) (U (eH jF) (U (yA aV (by omega)) (U h5 (U ((wi (by omega)):IntKind.i64.wrap ((((i:Nat):Int):Int)+1)=((i+1:Nat):Int)) trivial)))))) fun ac wd r=>b9 (by omega) ac wd ⟨⟨by omega,fun j l h hj hl hh=>by rcases Nat.lt_succ_iff_lt_or_eq.1 hj with h' | rfl;exact aT j l h h' hl hh;rw [cL] at hl;rw [jF] at hh;cases hl;cases hh;have hG:Good aV aV.length:=(by rw [show aV.length=k by omega];exact cN);exact ⟨hG,by rw [← zF hG];omega⟩⟩,r⟩
      | true=>
       have mH:=of_decide_eq_true h5
       rw [show (DV.v (.bool f.may):DV)=.v (.bool false) from (bv (by first | exact aA.mT (by assumption) | exact aA.mY (by omega) | exact aA.yes (by assumption) (by omega) (by omega) (by omega) aT | exact aA.mU cL cO (by omega) | exact aA.kJ cL cO (by omega) | exact aA.mZ cL jF cN (by omega) (by omega)))]
       exact aN tk tq hK rfl [(9,[(0,.b false)]),(15,[(3,.ix (i) [.u yo]),(6,.aM (.u (fS aV))),(7,.b true)])] 2000 r (by kernel_rfl) (U h4 (U (aJ ((i:Nat):Int)) (U (eH jF) (U (yA aV (by omega)) (U h5 trivial)))))
     | true=>
      have kv:=of_decide_eq_true h4
      obtain ⟨bV,cO⟩:∃ x,aV[k]?=some x:=⟨_,List.getElem?_eq_getElem (by omega)⟩
      have OZ:=yb.at cO
      cases h6:(decide ((((bV.n:Nat):Int):Int)≤((kR aV k:Nat):Int))) with
      | false=>
       have lj:=of_decide_eq_false h6
       cases h7:(decide ((16:Int)<((bV.n:Nat):Int))) with
       | false=>
        have ln:=of_decide_eq_false h7
        have u4:=((by simp [aj]):(((aj bV.body).length:Nat):Int)=((bV.body.length:Nat):Int))
        cases h8:(decide ((64:Int)<((bV.body.length:Nat):Int))) with
        | false=>
         have ur:=of_decide_eq_false h8
         exact bD (todo':=hd Tryz.f98 1) (E':=[(1,.pt 0 0),(3,.n f.view.members.length),(32,.d (.ro 1 (streams f.streams))),(33,.n f.streams.length),(34,.n i),(4,.n i),(5,.pt 1 0),(6,.u bV.n),(40,.d (.ro 2 (aO aV))),(41,.n aV.length),(42,.n (k+1))]) (M':=[.bx 37 [.u f.view.id.round,.z f.view.id.server.node,.u f.view.id.server.inc,.d (.ro 2 (procs f.view.members)),.d (.ro 1 (ae f.view.ao)),.d (.ro 1 (streams f.streams)),.d (.ro 1 (ae f.az))],.bx 111 [.d (.ro 2 (aO aV))]]) tk tq hK [(9,[(0,.b true)]),(10,[(0,.ix (k) [.u bV.n,.ro 1 (aj bV.body)])]),(11,[(3,.b false),(7,.b false),(12,.z (((bV.body.length:Nat):Int))),(13,.b false)]),(14,[(0,.z (((k+1:Nat):Int)))])] 2000 [0,1] [1,3,32,33,34,4,5,6,40,41,42] r (by kernel_rfl) (U h4 (U (aJ ((k:Nat):Int)) (U (df cO) (U h6 (U h7 (U u4 (U h8 (U ((wi (by omega)):IntKind.i64.wrap ((((k:Nat):Int):Int)+1)=((k+1:Nat):Int)) trivial)))))))) fun ac wd r=>fP (by omega) ac wd ⟨⟨by omega,cN.next cO (by omega) (by omega) (by omega) (OX (by omega))⟩,r.cast (by rw [Mc cO]) rfl⟩
        | true=>
         have ur:=of_decide_eq_true h8
         rw [show (DV.v (.bool f.may):DV)=.v (.bool false) from (bv (by first | exact aA.mT (by assumption) | exact aA.mY (by omega) | exact aA.yes (by assumption) (by omega) (by omega) (by omega) aT | exact aA.mU cL cO (by omega) | exact aA.kJ cL cO (by omega) | exact aA.mZ cL jF cN (by omega) (by omega)))]
         exact aN tk tq hK rfl [(9,[(0,.b true)]),(10,[(0,.ix (k) [.u bV.n,.ro 1 (aj bV.body)])]),(11,[(3,.b false),(7,.b false),(12,.z (((bV.body.length:Nat):Int))),(13,.b true)])] 2000 r (by kernel_rfl) (U h4 (U (aJ ((k:Nat):Int)) (U (df cO) (U h6 (U h7 (U u4 (U h8 trivial)))))))
       | true=>
        have ln:=of_decide_eq_true h7
        rw [show (DV.v (.bool f.may):DV)=.v (.bool false) from (bv (by first | exact aA.mT (by assumption) | exact aA.mY (by omega) | exact aA.yes (by assumption) (by omega) (by omega) (by omega) aT | exact aA.mU cL cO (by omega) | exact aA.kJ cL cO (by omega) | exact aA.mZ cL jF cN (by omega) (by omega)))]
        exact aN tk tq hK rfl [(9,[(0,.b true)]),(10,[(0,.ix (k) [.u bV.n,.ro 1 (aj bV.body)])]),(11,[(3,.b false),(7,.b true)])] 2000 r (by kernel_rfl) (U h4 (U (aJ ((k:Nat):Int)) (U (df cO) (U h6 (U h7 trivial)))))
      | true=>
       have lj:=of_decide_eq_true h6
       rw [show (DV.v (.bool f.may):DV)=.v (.bool false) from (bv (by first | exact aA.mT (by assumption) | exact aA.mY (by omega) | exact aA.yes (by assumption) (by omega) (by omega) (by omega) aT | exact aA.mU cL cO (by omega) | exact aA.kJ cL cO (by omega) | exact aA.mZ cL jF cN (by omega) (by omega)))]
       exact aN tk tq hK rfl [(9,[(0,.b true)]),(10,[(0,.ix (k) [.u bV.n,.ro 1 (aj bV.body)])]),(11,[(3,.b true)])] 2000 r (by kernel_rfl) (U h4 (U (aJ ((k:Nat):Int)) (U (df cO) (U h6 trivial))))
   | true=>
    have cK:¬ _=_:=bne_iff_ne.1 h2
    rw [show (DV.v (.bool f.may):DV)=.v (.bool false) from (bv (by first | exact aA.mT (by assumption) | exact aA.mY (by omega) | exact aA.yes (by assumption) (by omega) (by omega) (by omega) aT | exact aA.mU cL cO (by omega) | exact aA.kJ cL cO (by omega) | exact aA.mZ cL jF cN (by omega) (by omega)))]
    exact aN tk tq hK rfl [(1,[(3,.z (((f.view.members.length:Nat):Int)))]),(2,[(2,.aM (.v (.bool true))),(7,.z (((f.streams.length:Nat):Int))),(9,.b false),(14,.z (((f.az.length:Nat):Int))),(16,.b true)])] 2000 r (by kernel_rfl) (U u0 (U u1 (U u2 (U h1 (U u3 (U h2 trivial))))))
  | true=>
   have bM:¬ _=_:=bne_iff_ne.1 h1
   rw [show (DV.v (.bool f.may):DV)=.v (.bool false) from (bv (by first | exact aA.mT (by assumption) | exact aA.mY (by omega) | exact aA.yes (by assumption) (by omega) (by omega) (by omega) aT | exact aA.mU cL cO (by omega) | exact aA.kJ cL cO (by omega) | exact aA.mZ cL jF cN (by omega) (by omega)))]
   exact aN tk tq hK rfl [(1,[(3,.z (((f.view.members.length:Nat):Int)))]),(2,[(2,.aM (.v (.bool true))),(7,.z (((f.streams.length:Nat):Int))),(9,.b true)])] 2000 r (by kernel_rfl) (U u0 (U u1 (U u2 (U h1 trivial))))
end Go.Proofs.YtgkdnnmcjjabdaaGreat
namespace Go.Proofs.YtgkdnnmcjjabdaaGreat
open Go.RowKit
def wR (p:ay) (l:List Slot) (n:Nat):fX:=⟨p,n,((l[(eJ l n).toNat]?).map Slot.body).getD []⟩
theorem zG {α:Type} [DecidableEq α] {p:α}:∀ {l:List α} {k:Nat},0≤idx l p k→∃ i,idx l p k=((k+i:Nat):Int)∧l[i]?=some p
 | [],k,h=>by simp [idx] at h
 | x::r,k,h=>by
  unfold idx at h ⊢
  split
  ·rename_i hx;exact ⟨0,by simp,by simp [hx]⟩
  ·rename_i hx
   rw [if_neg hx] at h
   obtain ⟨i,h1,h2⟩:=zG h
   exact ⟨i+1,by rw [h1];congr 1;omega,by simpa using h2⟩
theorem Md {l:List Slot} {k:Nat} (h:k<b3 l):0≤eJ l (k+1):=by
 obtain ⟨m,h1,h2⟩:=yM l
 rw [uX h1 h2] at h
 exact h1 k h
theorem aA.FX (f:aA):f.owned.streams.length=f.owned.view.members.length∧f.owned.az.length=f.owned.view.members.length:=by
 cases hm:f.may with
 | true=>
  rw [aA.jH hm]
  unfold aA.may at hm
  have ok:=@of_decide_eq_true _ (Classical.propDecidable _) hm
  exact ⟨ok.2.1,ok.2.2.1⟩
 | false=>rw [aA.rY hm];simp [aA.zero]
end Go.Proofs.YtgkdnnmcjjabdaaGreat
namespace Go.Proofs.YtgkdnnmcjjabdaaGreat
open Go.RowKit
theorem de.ag {l:List DV} (h:∀ c ∈ l,de c):de (.ag l):=by
 intro K K' y H r
 cases r with | ag ys F hl hr=>exact .ag ys F hl fun j c y h1 h2=>h c (List.mem_of_getElem? h1) _ _ _ _ (hr j c y h1 h2)
theorem de.tu {l:List DV} (h:∀ c ∈ l,de c):de (.tu l):=by
 intro K K' y H r
 cases r with | tu ys F hl hr=>exact .tu ys F hl fun j c y h1 h2=>h c (List.mem_of_getElem? h1) _ _ _ _ (hr j c y h1 h2)
theorem de.em {T k:Nat} {rows:List (List DV)} (h:∀ r ∈ rows,∀ c ∈ r,de c):de (.em T k rows):=by
 intro K K' y H r
 cases r with | em X F hl hs hr=>exact .em X F hl hs fun i r j c x h1 h2 h3=>h r (List.mem_of_getElem? h1) c (List.mem_of_getElem? h2) _ _ _ _ (hr i r j c x h1 h2 h3)
theorem de.two (x y:Value):de (.tu [.v x,.v y]):=.tu (by simp only [List.mem_cons,List.not_mem_nil,or_false];rintro c (rfl | rfl)<;>exact lV _)
def aA.half (f:aA):List DV:=[.v (.int .u64 (f.view.id.round:Int)),.v (.int .i64 f.view.id.server.node),.v (.int .u64 (f.view.id.server.inc:Int)),.em 24 2 (procs f.view.members),.em 22 1 (ae f.view.ao),.em 111 1 (f.streams.map fun s=>[.ro 2 (aO s)]),.em 22 1 (ae f.az)]
def O0 (f:aA) (i:Nat):List Slot:=(f.streams[i]?).getD []
def aA.IU (f:aA) (m:fX):Prop:=lK f.view.members m.src=true∧1≤m.n∧m.n≤16∧m.body.length≤64∧eJ (O0 f (lJ f.view.members m.src)) m.n<0
instance (f:aA) (m:fX):Decidable (f.IU m):=by unfold aA.IU;infer_instance
theorem pB (l:List Slot):bO (aO l)=aO l:=by
 rw [b8];unfold aO;rw [List.map_map];apply List.map_congr_left;intro s _;show [bd (.v _),bd (.ro _ _)]=_;rw [bd,bd];rfl
end Go.Proofs.YtgkdnnmcjjabdaaGreat
namespace Go.Proofs.YtgkdnnmcjjabdaaGreat
open Go.RowKit
def br (l:List Slot) (u:List Nat) (i:Nat):Nat:=if u.length=0 then b3 l else min (b3 l) (kY u i)
def bW (p:ay) (l:List Slot) (h k:Nat):List fX:=(List.range k).map fun j=>wR p l (h+1+j)
def bR (f:aA) (u:List Nat) (i:Nat):List fX:=(List.range i).flatMap fun i=>match f.streams[i]?,f.view.members[i]?,f.az[i]? with | some l,some p,some h=>bW p l h (br l u i-h) | _,_,_=>[]
def cb (f:aA) (u:List Nat):Nat→List Nat
 | 0=>f.az
 | i+1=>(match f.streams[i]?,f.az[i]? with | some l,some h=>(cb f u i).set i (max h (br l u i)) | _,_=>cb f u i)
theorem uH {f:aA} {u:List Nat} {i:Nat} {l:List Slot} {p:ay} {h:Nat} (hl:f.streams[i]?=some l) (hp:f.view.members[i]?=some p) (hh:f.az[i]?=some h):bR f u (i+1)=bR f u i++bW p l h (br l u i-h):=by
 unfold bR;rw [List.range_succ,List.flatMap_append];simp [hl,hp,hh]
theorem Lx {p:ay} {l:List Slot} {h k:Nat} {s:Slot} (hs:l[(eJ l (h+1+k)).toNat]?=some s):bW p l h (k+1)=bW p l h k++[⟨p,h+1+k,s.body⟩]:=by
 unfold bW;rw [List.range_succ,List.map_append];simp [wR,hs]
theorem n6 (p:ay) (l:List Slot) (h k:Nat):(bW p l h k).length=k:=by simp [bW]
theorem FY {f:aA} {u:List Nat} {i:Nat} {l:List Slot} {h:Nat} (hl:f.streams[i]?=some l) (hh:f.az[i]?=some h):cb f u (i+1)=(cb f u i).set i (max h (br l u i)):=by rw [cb,hl,hh]
theorem jg (f:aA) (u:List Nat):∀ i,(cb f u i).length=f.az.length
 | 0=>rfl
 | i+1=>by rw [cb];split;rw [List.length_set,jg f u i];exact jg f u i
theorem p8 {f:aA} {u:List Nat} {k h:Nat} (hh:f.az[k]?=some h):∀ {i:Nat},i≤k→(cb f u i)[k]?=some h
 | 0,_=>hh
 | i+1,hi=>by
  rw [cb];split
  ·rw [List.getElem?_set,if_neg (by omega)];exact p8 hh (by omega)
  ·exact p8 hh (by omega)
theorem GX (l:List Nat) (i n:Nat):List.set (ae l) i [.v (.int .u64 ((n:Nat):Int))]=ae (l.set i n):=by unfold ae;rw [List.map_set]
theorem aA.zH {f:aA} {i h:Nat} {l:List Slot} (hl:f.owned.streams[i]?=some l) (hh:f.owned.az[i]?=some h):Good l l.length∧h≤b3 l:=by
 cases hm:f.may with
 | true=>
  rw [aA.jH hm] at hl hh
  unfold aA.may at hm
  exact (@of_decide_eq_true _ (Classical.propDecidable _) hm).2.2.2 i l h hl hh
 | false=>rw [aA.rY hm] at hl;simp [aA.zero] at hl
theorem zI {l:List Slot} (g:Good l l.length):b3 l≤16:=by
 rcases Nat.lt_or_ge 16 (b3 l) with h | h
 ·have h1:=Md (l:=l) (k:=b3 l-1) (by omega)
  obtain ⟨i,h2,h3⟩:=zG h1
  rw [List.getElem?_map,Option.map_eq_some_iff] at h3
  obtain ⟨s,h3,h4⟩:=h3
  have:=(g i s (List.getElem?_eq_some_iff.1 h3).1 h3).2.1
  omega
 ·exact h
theorem HZ (l:List Slot) (u:List Nat) (i:Nat):br l u i≤b3 l:=by unfold br;split<;>omega
def aA.hand (f:aA) (u:List Nat):aA:={ f with az:=cb f u f.streams.length }
theorem Me {f:aA} {u:List Nat} (hg:∀ (i:Nat) l h,f.streams[i]?=some l→f.az[i]?=some h→Good l l.length) (i:Nat):(bR f u i).length≤16*i:=by
 induction i with
 | zero=>simp [bR]
 | succ i ih=>
  have key:bR f u (i+1)=bR f u i++(match f.streams[i]?,f.view.members[i]?,f.az[i]? with | some l,some p,some h=>bW p l h (br l u i-h) | _,_,_=>[]):=by
   unfold bR;rw [List.range_succ,List.flatMap_append];simp
  rw [key,List.length_append]
  split
  ·rename_i l p h hl hp hh
   have:=zI (hg i l h hl hh)
   have:=HZ l u i
   rw [n6];omega
  ·simp;omega
end Go.Proofs.YtgkdnnmcjjabdaaGreat
namespace Go.Proofs.YtgkdnnmcjjabdaaGreat
open Go.RowKit
def b6 (f:aA) (i:Nat):List (List Slot):=f.streams.take i++List.replicate (f.streams.length-i) []
theorem rL (f:aA) (i:Nat) (hi:i≤f.streams.length):(b6 f i).length=f.streams.length:=by unfold b6;simp;omega
theorem O1 {f:aA} {i:Nat} (hi:i<f.streams.length):(b6 f i)[i]?=some []:=by
 unfold b6
 rw [List.getElem?_append_right (by simp;omega),List.getElem?_replicate,if_pos (by simp;omega)]
theorem Mf {f:aA} {i:Nat} (hi:i<f.streams.length):(b6 f i).set i []=b6 f i:=by
 apply List.ext_getElem?;intro k
 rw [List.getElem?_set];split
 ·rename_i e;subst e;rw [if_pos (by rw [rL f _ (by omega)];exact hi),O1 hi]
 ·rfl
theorem Mg {f:aA} {i:Nat} {l:List Slot} (hl:f.streams[i]?=some l):(b6 f i).set i l=b6 f (i+1):=by
 obtain ⟨hi,rfl⟩:=List.getElem?_eq_some_iff.1 hl
 apply List.ext_getElem?;intro k
 rw [List.getElem?_set]
 unfold b6
 rcases Nat.lt_trichotomy k i with h | h | h
 ·rw [if_neg (by omega),List.getElem?_append_left (by simp;omega),List.getElem?_append_left (by simp;omega),List.getElem?_take,List.getElem?_take,if_pos h,if_pos (by omega)]
 ·subst h
  rw [if_pos rfl,if_pos (by simp;omega),List.getElem?_append_left (by simp;omega),List.getElem?_take,if_pos (by omega),List.getElem?_eq_getElem hi]
 ·rw [if_neg (by omega),List.getElem?_append_right (by simp;omega),List.getElem?_append_right (by simp;omega),List.getElem?_replicate,List.getElem?_replicate]
  simp only [List.length_take]
  rw [Nat.min_eq_left (by omega),Nat.min_eq_left (by omega)]
  by_cases hk:k<f.streams.length
  ·rw [if_pos (by omega),if_pos (by omega)]
  ·rw [if_neg (by omega),if_neg (by omega)]
theorem FZ {f:aA} {i:Nat} (hi:f.streams.length≤i):b6 f i=f.streams:=by unfold b6;rw [List.take_of_length_le hi,Nat.sub_eq_zero_of_le hi];simp
theorem aA.Qk {f:aA} (h:f.may=true):f.view.may=true∧f.streams.length=f.view.members.length∧f.az.length=f.view.members.length:=by
 unfold aA.may at h
 have ok:=@of_decide_eq_true _ (Classical.propDecidable _) h
 exact ⟨ok.1,ok.2.1,ok.2.2.1⟩
theorem LK {l:List (List Slot)} {i:Nat} {s:List Slot} (h:l[i]?=some s):(aQ l)[i]?=some [.em 113 2 (bK s)]:=by unfold aQ;rw [List.getElem?_map,h];rfl
theorem Ly (l:List (List Slot)) (i:Nat) (s:List Slot):List.set (aQ l) i [.em 113 2 (bK s)]=aQ (l.set i s):=by unfold aQ;rw [List.map_set]
theorem Lz {l:List Slot} {k:Nat} {x:Slot} (h:l[k]?=some x):bK (l.take k)++[[.v (.int .u64 ((x.n:Nat):Int)),.em 5 1 (aj x.body)]]=bK (l.take (k+1)):=by
 rw [List.take_succ_eq_append_getElem (List.getElem?_eq_some_iff.1 h).1]
 obtain ⟨hk,rfl⟩:=List.getElem?_eq_some_iff.1 h
 unfold bK;rw [List.map_append];rfl
theorem Sw (f:aA) (hb:f.view.bounded) (hs:f.streams.length=f.view.members.length):al Tryz.prog 14 [.ag [.u f.view.id.round,.z f.view.id.server.node,.u f.view.id.server.inc,.d (.ro 2 (procs f.view.members)),.d (.ro 1 (ae f.view.ao))]] (.ag [.u f.view.id.round,.z f.view.id.server.node,.u f.view.id.server.inc,.em 24 2 (procs f.view.members),.em 22 1 (ae f.view.ao),.em 111 1 (aQ (b6 f 0)),.em 22 1 (ae (aA.fresh f.view).az)]):=by
 have h:=Iw f.view hb
 have e:b6 f 0=(aA.fresh f.view).streams:=by unfold b6 aA.fresh;simp [hs]
 rw [e];exact h
theorem O2 {l m:List (List DV)} {n:Nat} (h:m.length=l.length∧n=l.length):l.take n++m.drop n=l:=by
 rw [List.take_of_length_le (by omega),List.drop_of_length_le (by omega),List.append_nil]
set_option maxRecDepth 100000 in
theorem Bg (hV:∀ v:View,v.bounded→al Tryz.prog 34 [.ag [.u v.id.round,.z v.id.server.node,.u v.id.server.inc,.d (.ro 2 (procs v.members)),.d (.ro 1 (ae v.ao))]] (DV.v (.bool v.may))) (f:aA) (hb:f.bounded):al Tryz.prog 64 [.ag [.u f.view.id.round,.z f.view.id.server.node,.u f.view.id.server.inc,.d (.ro 2 (procs f.view.members)),.d (.ro 1 (ae f.view.ao)),.d (.ro 1 (streams f.streams)),.d (.ro 1 (ae f.az))]] (.ag f.owned.own):=by
 obtain ⟨pz,eE,cv,kj⟩:=id hb
 refine al.intro (by kernel_rfl) rfl rfl 61 rfl rfl fun w0 K ac hK r=>?_
 cases h0:(f.may) with
 | false=>
  refine nk (todo':=aft Tryz.f64 2) (E':=[(1,.pt 0 0),(2,.pt 1 0)]) (M':=[.bx 37 [.u f.view.id.round,.z f.view.id.server.node,.u f.view.id.server.inc,.d (.ro 2 (procs f.view.members)),.d (.ro 1 (ae f.view.ao)),.d (.ro 1 (streams f.streams)),.d (.ro 1 (ae f.az))],.bx 124 [.d (.v (.int .u64 0)),.z 0,.d (.v (.int .u64 0)),.d (.v (.slice none 0 0)),.d (.v (.slice none 0 0)),.d (.v (.slice none 0 0)),.d (.v (.slice none 0 0))]]) tk tq hK [(1,[(1,.aM (.v (.bool false)))])] 8 [0,1] [1,2] r (by kernel_rfl) (U ((by have k:=HY hV f (by assumption);rw [h0] at k;exact k):al Tryz.prog 98 [.ag [.u f.view.id.round,.z f.view.id.server.node,.u f.view.id.server.inc,.d (.ro 2 (procs f.view.members)),.d (.ro 1 (ae f.view.ao)),.d (.ro 1 (streams f.streams)),.d (.ro 1 (ae f.az))]] (.v (.bool false))) trivial) fun ac wd r=>?_
  have r:=r.BQ (E1:=[(1,.pt 0 0),(2,.pt 1 0)]) (M1:=[.bx 37 [.u f.view.id.round,.z f.view.id.server.node,.u f.view.id.server.inc,.d (.ro 2 (procs f.view.members)),.d (.ro 1 (ae f.view.ao)),.d (.ro 1 (streams f.streams)),.d (.ro 1 (ae f.az))],.bx 124 [.d (.v (.int .u64 0)),.z 0,.d (.v (.int .u64 0)),.d (.v (.slice none 0 0)),.d (.v (.slice none 0 0)),.d (.v (.slice none 0 0)),.d (.v (.slice none 0 0))]]) (M2:=[.bx 37 [.u f.view.id.round,.z f.view.id.server.node,.u f.view.id.server.inc,.d (.ro 2 (procs f.view.members)),.d (.ro 1 (ae f.view.ao)),.d (.ro 1 (streams f.streams)),.d (.ro 1 (ae f.az))],.bx 124 [.d (.v (.int .u64 0)),.z 0,.d (.v (.int .u64 0)),.sl 2 (0),.sl 3 (0),.sl 4 (0),.sl 5 (0)],.rw 24 2 ([]),.rw 22 1 ([]),.rw 111 1 ([]),.rw 22 1 ([])]) [] [(1,3,24,2),(1,4,22,1),(1,5,111,1),(1,6,22,1)] (by kernel_rfl) (by kernel_rfl)
  rw [show (.ag f.owned.own:DV)=.ag [.v (.int .u64 0),.z 0,.v (.int .u64 0),.em 24 2 ([]),.em 22 1 ([]),.em 111 1 ([]),.em 22 1 ([])] from (by first | (rw [aA.rY (by assumption)];rfl) | (rw [aA.jH (by assumption),FZ (by omega)];rfl))]
  exact aN tk tq hK rfl [] 2000 r (by kernel_rfl) (U ((by simp<;>omega):(0)=([]:List (List DV)).length) (U ((by simp<;>omega):(0)=([]:List (List DV)).length) (U ((by simp<;>omega):(0)=([]:List (List DV)).length) (U ((by simp<;>omega):(0)=([]:List (List DV)).length) trivial))))
 | true=>
  obtain ⟨fa,cn,Wr⟩:=aA.Qk (by assumption)
  have f0:=rL f 0 (by omega)
  have fh:(aA.fresh f.view).az.length=f.view.members.length:=by simp [aA.fresh]
  refine nk (todo':=aft Tryz.f64 4) (E':=[(1,.pt 0 0),(2,.pt 1 0),(3,.pt 6 0)]) (M':=[.bx 37 [.u f.view.id.round,.z f.view.id.server.node,.u f.view.id.server.inc,.d (.ro 2 (procs f.view.members)),.d (.ro 1 (ae f.view.ao)),.d (.ro 1 (streams f.streams)),.d (.ro 1 (ae f.az))],.bx 124 [.d (.v (.int .u64 0)),.z 0,.d (.v (.int .u64 0)),.d (.v (.slice none 0 0)),.d (.v (.slice none 0 0)),.d (.v (.slice none 0 0)),.d (.v (.slice none 0 0))],.rw 24 2 (procs f.view.members),.rw 22 1 (ae f.view.ao),.rw 111 1 (aQ (b6 f 0)),.rw 22 1 ((ae f.az).take (f.az.length)++(ae (aA.fresh f.view).az).drop (f.az.length)),.bx 124 [.u f.view.id.round,.z f.view.id.server.node,.u f.view.id.server.inc,.sl 2 ((procs f.view.members).length),.sl 3 ((ae f.view.ao).length),.sl 4 ((aQ (b6 f 0)).length),.sl 5 ((ae (aA.fresh f.view).az).length)]]) tk tq hK [(1,[(1,.aM (.v (.bool true)))]),(3,[(2,.aM (.ag [.u f.view.id.round,.z f.view.id.server.node,.u f.view.id.server.inc,.em 24 2 (procs f.view.members),.em 22 1 (ae f.view.ao),.em 111 1 (aQ (b6 f 0)),.em 22 1 (ae (aA.fresh f.view).az)]))]),(4,[(5,.n (f.az.length))])] 11 [0,1,2,3,4,5,6] [1,2,3] r (by kernel_rfl) (U ((by have k:=HY hV f (by assumption);rw [h0] at k;exact k):al Tryz.prog 98 [.ag [.u f.view.id.round,.z f.view.id.server.node,.u f.view.id.server.inc,.d (.ro 2 (procs f.view.members)),.d (.ro 1 (ae f.view.ao)),.d (.ro 1 (streams f.streams)),.d (.ro 1 (ae f.az))]] (.v (.bool true))) (U (Sw f (by assumption) (by omega)) (U (b7 ((ae (aA.fresh f.view).az).length)) (U ((by simp [aA.fresh];omega):min (ae f.az).length ((ae (aA.fresh f.view).az).length)=f.az.length) (U ((by simp [bY,AV.one,cD,aj]):bY (ae f.az)) trivial))))) fun ac wd r=>?_
  have r:=r.freeze (M1:=[.bx 37 [.u f.view.id.round,.z f.view.id.server.node,.u f.view.id.server.inc,.d (.ro 2 (procs f.view.members)),.d (.ro 1 (ae f.view.ao)),.d (.ro 1 (streams f.streams)),.d (.ro 1 (ae f.az))],.bx 124 [.d (.v (.int .u64 0)),.z 0,.d (.v (.int .u64 0)),.d (.v (.slice none 0 0)),.d (.v (.slice none 0 0)),.d (.v (.slice none 0 0)),.d (.v (.slice none 0 0))],.rw 24 2 (procs f.view.members),.rw 22 1 (ae f.view.ao),.rw 111 1 (aQ (b6 f 0)),.rw 22 1 ((ae f.az).take (f.az.length)++(ae (aA.fresh f.view).az).drop (f.az.length)),.bx 124 [.u f.view.id.round,.z f.view.id.server.node,.u f.view.id.server.inc,.sl 2 ((procs f.view.members).length),.sl 3 ((ae f.view.ao).length),.sl 4 ((aQ (b6 f 0)).length),.sl 5 ((ae (aA.fresh f.view).az).length)]]) (M2:=[.bx 37 [.u f.view.id.round,.z f.view.id.server.node,.u f.view.id.server.inc,.d (.ro 2 (procs f.view.members)),.d (.ro 1 (ae f.view.ao)),.d (.ro 1 (streams f.streams)),.d (.ro 1 (ae f.az))],.bx 124 [.d (.v (.int .u64 0)),.z 0,.d (.v (.int .u64 0)),.d (.v (.slice none 0 0)),.d (.v (.slice none 0 0)),.d (.v (.slice none 0 0)),.d (.v (.slice none 0 0))],.rw 24 2 (procs f.view.members),.rw 22 1 (ae f.view.ao),.rw 111 1 (aQ (b6 f 0)),.rw 22 1 (ae f.az),.bx 124 [.u f.view.id.round,.z f.view.id.server.node,.u f.view.id.server.inc,.sl 2 ((procs f.view.members).length),.sl 3 ((ae f.view.ao).length),.sl 4 ((aQ (b6 f 0)).length),.sl 5 ((ae (aA.fresh f.view).az).length)]]) [] (by kernel_rfl) (by rw [O2 (by simp [aA.fresh];omega)])
  refine bD (todo':=hd Tryz.f64 0) (E':=[(2,.pt 1 0),(3,.pt 6 0),(23,.d (.ro 1 (streams f.streams))),(24,.n f.streams.length),(25,.n 0)]) (M':=[.bx 37 [.u f.view.id.round,.z f.view.id.server.node,.u f.view.id.server.inc,.d (.ro 2 (procs f.view.members)),.d (.ro 1 (ae f.view.ao)),.d (.ro 1 (streams f.streams)),.d (.ro 1 (ae f.az))],.bx 124 [.d (.v (.int .u64 0)),.z 0,.d (.v (.int .u64 0)),.d (.v (.slice none 0 0)),.d (.v (.slice none 0 0)),.d (.v (.slice none 0 0)),.d (.v (.slice none 0 0))],.rw 24 2 (procs f.view.members),.rw 22 1 (ae f.view.ao),.rw 111 1 (aQ (b6 f 0)),.rw 22 1 (ae f.az),.bx 124 [.u f.view.id.round,.z f.view.id.server.node,.u f.view.id.server.inc,.sl 2 ((procs f.view.members).length),.sl 3 ((ae f.view.ao).length),.sl 4 ((aQ (b6 f 0)).length),.sl 5 ((ae (aA.fresh f.view).az).length)]]) tk tq hK [(5,[(2,.z (((f.streams.length:Nat):Int)))])] 2000 [0,1,2,3,4,5,6] [2,3,23,24,25] r (by kernel_rfl) (U ((by simp [aj]):(((streams f.streams).length:Nat):Int)=((f.streams.length:Nat):Int)) trivial) fun ac wd r=>?_
  refine aG.rounds (Φ:=fun (i:Nat) ac wd=>(i≤f.streams.length)∧dj [] w0 K 61 [(2,.pt 1 0),(3,.pt 6 0),(23,.d (.ro 1 (streams f.streams))),(24,.n f.streams.length),(25,.n i)] [.bx 37 [.u f.view.id.round,.z f.view.id.server.node,.u f.view.id.server.inc,.d (.ro 2 (procs f.view.members)),.d (.ro 1 (ae f.view.ao)),.d (.ro 1 (streams f.streams)),.d (.ro 1 (ae f.az))],.bx 124 [.d (.v (.int .u64 0)),.z 0,.d (.v (.int .u64 0)),.d (.v (.slice none 0 0)),.d (.v (.slice none 0 0)),.d (.v (.slice none 0 0)),.d (.v (.slice none 0 0))],.rw 24 2 (procs f.view.members),.rw 22 1 (ae f.view.ao),.rw 111 1 (aQ (b6 f i)),.rw 22 1 (ae f.az),.bx 124 [.u f.view.id.round,.z f.view.id.server.node,.u f.view.id.server.inc,.sl 2 ((procs f.view.members).length),.sl 3 ((ae f.view.ao).length),.sl 4 ((aQ (b6 f 0)).length),.sl 5 ((ae (aA.fresh f.view).az).length)]] ac wd) (f.streams.length) ?_ (Nat.zero_le _) ⟨by omega,r⟩
  clear r
  rintro i eX b9 ac wd ⟨aT,r⟩
  have fi:=rL f i aT
  cases h1:(decide ((((i:Nat):Int):Int)<((f.streams.length:Nat):Int))) with
  | false=>
   have bM:=of_decide_eq_false h1
   rw [show (.ag f.owned.own:DV)=.ag [.u f.view.id.round,.z f.view.id.server.node,.u f.view.id.server.inc,.em 24 2 (procs f.view.members),.em 22 1 (ae f.view.ao),.em 111 1 (aQ (b6 f i)),.em 22 1 (ae f.az)] from (by first | (rw [aA.rY (by assumption)];rfl) | (rw [aA.jH (by assumption),FZ (by omega)];rfl))]
   exact aN tk tq hK rfl [(6,[(0,.b false)])] 2000 r (by kernel_rfl) (U h1 (U (b7 ((procs f.view.members).length)) (U (b7 ((ae f.view.ao).length)) (U ((by simp<;>omega):((aQ (b6 f 0)).length)=(aQ (b6 f i)).length) (U ((by simp<;>omega):((ae (aA.fresh f.view).az).length)=(ae f.az).length) trivial)))))
  | true=>
   have bM:=of_decide_eq_true h1
   obtain ⟨aV,cL⟩:∃ x,f.streams[i]?=some x:=⟨_,List.getElem?_eq_getElem (by omega)⟩
   have Lj:=(hb.at cL).1
   have yb:=hb.at cL
   refine bD (todo':=hd Tryz.f64 1) (E':=[(2,.pt 1 0),(3,.pt 6 0),(23,.d (.ro 1 (streams f.streams))),(24,.n f.streams.length),(25,.n i),(4,.n i),(5,.pt 7 0),(31,.d (.ro 2 (aO aV))),(32,.n aV.length),(33,.z 0)]) (M':=[.bx 37 [.u f.view.id.round,.z f.view.id.server.node,.u f.view.id.server.inc,.d (.ro 2 (procs f.view.members)),.d (.ro 1 (ae f.view.ao)),.d (.ro 1 (streams f.streams)),.d (.ro 1 (ae f.az))],.bx 124 [.d (.v (.int .u64 0)),.z 0,.d (.v (.int .u64 0)),.d (.v (.slice none 0 0)),.d (.v (.slice none 0 0)),.d (.v (.slice none 0 0)),.d (.v (.slice none 0 0))],.rw 24 2 (procs f.view.members),.rw 22 1 (ae f.view.ao),.rw 111 1 (aQ (b6 f i)),.rw 22 1 (ae f.az),.bx 124 [.u f.view.id.round,.z f.view.id.server.node,.u f.view.id.server.inc,.sl 2 ((procs f.view.members).length),.sl 3 ((ae f.view.ao).length),.sl 4 ((aQ (b6 f 0)).length),.sl 5 ((ae (aA.fresh f.view).az).length)],.bx 111 [.d (.ro 2 (aO aV))]]) tk tq hK [(6,[(0,.b true)]),(7,[(1,.ix (i) [.ro 2 (aO aV)])]),(8,[(2,.z (((aV.length:Nat):Int)))])] 2000 [0,1,2,3,4,5,6,7] [2,3,23,24,25,4,5,31,32,33] r (by kernel_rfl) (U h1 (U (aJ ((i:Nat):Int)) (U (jd cL) (U ((by simp [aj]):(((aO aV).length:Nat):Int)=((aV.length:Nat):Int)) trivial)))) fun ac wd r=>?_
   refine aG.rounds (Φ:=fun (k:Nat) ac wd=>(k≤aV.length)∧dj [] w0 K 61 [(2,.pt 1 0),(3,.pt 6 0),(23,.d (.ro 1 (streams f.streams))),(24,.n f.streams.length),(25,.n i),(4,.n i),(5,.pt 7 0),(31,.d (.ro 2 (aO aV))),(32,.n aV.length),(33,.n k)] [.bx 37 [.u f.view.id.round,.z f.view.id.server.node,.u f.view.id.server.inc,.d (.ro 2 (procs f.view.members)),.d (.ro 1 (ae f.view.ao)),.d (.ro 1 (streams f.streams)),.d (.ro 1 (ae f.az))],.bx 124 [.d (.v (.int .u64 0)),.z 0,.d (.v (.int .u64 0)),.d (.v (.slice none 0 0)),.d (.v (.slice none 0 0)),.d (.v (.slice none 0 0)),.d (.v (.slice none 0 0))],.rw 24 2 (procs f.view.members),.rw 22 1 (ae f.view.ao),.rw 111 1 (aQ ((b6 f i).set i (aV.take k))),.rw 22 1 (ae f.az),.bx 124 [.u f.view.id.round,.z f.view.id.server.node,.u f.view.id.server.inc,.sl 2 ((procs f.view.members).length),.sl 3 ((ae f.view.ao).length),.sl 4 ((aQ (b6 f 0)).length),.sl 5 ((ae (aA.fresh f.view).az).length)],.bx 111 [.d (.ro 2 (aO aV))]] ac wd) (aV.length) ?_ (Nat.zero_le _) ⟨by omega,(r).cast rfl (by rw [show aV.take 0=[] from rfl,Mf (by omega)])⟩
   clear r
   rintro k fp fP ac wd ⟨cN,r⟩
   cases h2:(decide ((((k:Nat):Int):Int)<((aV.length:Nat):Int))) with
   | false=>
    have cK:=of_decide_eq_false h2
    exact bD (todo':=hd Tryz.f64 0) (E':=[(2,.pt 1 0),(3,.pt 6 0),(23,.d (.ro 1 (streams f.streams))),(24,.n f.streams.length),(25,.n (i+1))]) (M':=[.bx 37 [.u f.view.id.round,.z f.view.id.server.node,.u f.view.id.server.inc,.d (.ro 2 (procs f.view.members)),.d (.ro 1 (ae f.view.ao)),.d (.ro 1 (streams f.streams)),.d (.ro 1 (ae f.az))],.bx 124 [.d (.v (.int .u64 0)),.z 0,.d (.v (.int .u64 0)),.d (.v (.slice none 0 0)),.d (.v (.slice none 0 0)),.d (.v (.slice none 0 0)),.d (.v (.slice none 0 0))],.rw 24 2 (procs f.view.members),.rw 22 1 (ae f.view.ao),.rw 111 1 (aQ ((b6 f i).set i (aV.take k))),.rw 22 1 (ae f.az),.bx 124 [.u f.view.id.round,.z f.view.id.server.node,.u f.view.id.server.inc,.sl 2 ((procs f.view.members).length),.sl 3 ((ae f.view.ao).length),.sl 4 ((aQ (b6 f 0)).length),.sl 5 ((ae (aA.fresh f.view).az).length)]]) tk tq hK [(9,[(0,.b false)]),(13,[(0,.z (((i+1:Nat):Int)))])] 2000 [0,1,2,3,4,5,6] [2,3,23,24,25] r (by kernel_rfl) (U h2 (U ((wi (by omega)):IntKind.i64.wrap ((((i:Nat):Int):Int)+1)=((i+1:Nat):Int)) trivial)) fun ac wd r=>b9 (by omega) ac wd ⟨by omega,r.cast rfl (by rw [show aV.take k=aV from List.take_of_length_le (by omega),Mg cL])⟩
   | true=>
    have cK:=of_decide_eq_true h2
    obtain ⟨bV,cO⟩:∃ x,aV[k]?=some x:=⟨_,List.getElem?_eq_getElem (by omega)⟩
    have OZ:=yb.at cO
    have dg:=((by first | omega | (simp;omega)):(i)<((aQ (b6 f 0)).length))
    have dQ:=((by simp<;>omega):((aQ (b6 f 0)).length)≤(aQ ((b6 f i).set i (aV.take k))).length)
    have dR:=(LK (by rw [List.getElem?_set,if_pos rfl,if_pos (by rw [rL f i (by omega)];omega)]):(aQ ((b6 f i).set i (aV.take k)))[i]?=some [.em 113 2 (bK (aV.take k))])
    have qy:=(uM bV.body (by omega))
    have qz:=(b7 ((aj bV.body).length))
    have qA:=(b7 ((bK (aV.take k)).length))
    have qB:=((by simp<;>omega):(1)=([[.u bV.n,.em 5 1 (aj bV.body)]]:List (List DV)).length)
    have qC:=((by first | omega | (simp [cU];done) | (simp [cU];omega)):(2*(((bK (aV.take k)).length)+(1))+192)*32≤281474976710656)
    have qD:=((by first | omega | (simp [cU];done) | (simp [cU];omega)):((bK (aV.take k)).length)+(1)<4611686018427387904)
    have qE:=((by simp [bY,AV.one,cD,aj]):bY ([[.u bV.n,.em 5 1 (aj bV.body)]]))
    have qh:=((by simp<;>omega):((aQ (b6 f 0)).length)≤(List.set (aQ ((b6 f i).set i (aV.take k))) (i) [.jk]:List (List DV)).length)
    have qi:=((by rw [List.getElem?_set,if_pos rfl,if_pos (by rw [Lw,List.length_set,rL f i (by omega)];omega)]):(List.set (aQ ((b6 f i).set i (aV.take k))) (i) [.jk])[i]?=some [.jk])
    have qj:=((by simp<;>omega):((bK (aV.take k)).length+(1))=(bK (aV.take k)++[[.u bV.n,.em 5 1 (aj bV.body)]]:List (List DV)).length)
    refine lI (todo':=aft Tryz.f64 11) (E':=[(2,.pt 1 0),(3,.pt 6 0),(23,.d (.ro 1 (streams f.streams))),(24,.n f.streams.length),(25,.n i),(4,.n i),(5,.pt 7 0),(31,.d (.ro 2 (aO aV))),(32,.n aV.length),(33,.n k),(34,.d (.v (.bool true))),(35,.rp [.u bV.n,.ro 1 (aj bV.body)] 0),(36,.ag [.u bV.n,.d (.ro 1 (aj bV.body))]),(7,.pt 8 0),(37,.pt 6 0),(38,.pt 6 5),(39,.sl 4 ((aQ (b6 f 0)).length)),(40,.n i),(41,.pt 6 0),(42,.pt 6 5),(43,.sl 4 ((aQ (b6 f 0)).length)),(44,.n i),(48,.pt 8 0),(49,.u bV.n),(50,.pt 8 1),(51,.d (.ro 1 (aj bV.body))),(45,.ep 4 1 (i) 0),(46,.ep 4 1 (i) 0),(52,.sl 10 ((aj bV.body).length)),(53,.ag [.u bV.n,.sl 10 ((aj bV.body).length)]),(54,.sl 11 (1)),(55,.sl 9 ((bK (aV.take k)).length+(1))),(56,.ep 4 1 (i) 0),(57,.ep 4 1 (i) 0)]) (M':=[.bx 37 [.u f.view.id.round,.z f.view.id.server.node,.u f.view.id.server.inc,.d (.ro 2 (procs f.view.members)),.d (.ro 1 (ae f.view.ao)),.d (.ro 1 (streams f.streams)),.d (.ro 1 (ae f.az))],.bx 124 [.d (.v (.int .u64 0)),.z 0,.d (.v (.int .u64 0)),.d (.v (.slice none 0 0)),.d (.v (.slice none 0 0)),.d (.v (.slice none 0 0)),.d (.v (.slice none 0 0))],.rw 24 2 (procs f.view.members),.rw 22 1 (ae f.view.ao),.rw 111 1 (List.set (List.set (aQ ((b6 f i).set i (aV.take k))) (i) [.jk]) (i) [.em 113 2 (bK (aV.take k)++[[.u bV.n,.em 5 1 (aj bV.body)]])]),.rw 22 1 (ae f.az),.bx 124 [.u f.view.id.round,.z f.view.id.server.node,.u f.view.id.server.inc,.sl 2 ((procs f.view.members).length),.sl 3 ((ae f.view.ao).length),.sl 4 ((aQ (b6 f 0)).length),.sl 5 ((ae (aA.fresh f.view).az).length)],.bx 111 [.d (.ro 2 (aO aV))],.bx 113 [.u bV.n,.d (.ro 1 (aj bV.body))],.dead,.dead,.dead]) tk tq hK [(9,[(0,.b true)]),(10,[(0,.ix (k) [.u bV.n,.ro 1 (aj bV.body)])]),(11,[(8,.n (i)),(10,.ix 0 [.em 113 2 (bK (aV.take k))]),(15,.aM (.em 5 1 (aj bV.body))),(19,.n (i)),(21,.ix 0 [.jk])])] 9 6 [8,10,19] [[0,1,2,3,4,5,6,7,8,9,10,11],[0,1,2,3,4,5,6,7,8,10,9,11],[0,1,2,3,4,5,6,7,8,11,9,10],[0,1,2,3,4,5,6,7,8,10,9,11],[0,1,2,3,4,5,6,7,8,11,9,10],[0,1,2,3,4,5,6,7,8,11,9,10]] [2,3,23,24,25,4,5,31,32,33,34,35,36,7,37,38,39,40,41,42,43,44,48,49,50,51,45,46,52,53,54,55,56,57] r (by kernel_rfl) (U (U h2 (U (aJ ((k:Nat):Int)) (U (df cO) (U (aJ ((i:Nat):Int)) (U dg (U dQ (U dR (U qy (U qz (U qA (U qB (U qC (U qD (U qE (U (aJ ((i:Nat):Int)) (U dg (U qh (U qi (U qj trivial))))))))))))))))))) (U (U h2 (U (aJ ((k:Nat):Int)) (U (df cO) (U (aJ ((i:Nat):Int)) (U dg (U dQ (U qy (U dR (U qz (U qA (U qB (U qC (U qD (U qE (U (aJ ((i:Nat):Int)) (U dg (U qh (U qi (U qj trivial))))))))))))))))))) (U (U h2 (U (aJ ((k:Nat):Int)) (U (df cO) (U (aJ ((i:Nat):Int)) (U dg (U dQ (U qy (U qz (U dR (U qA (U qB (U qC (U qD (U qE (U (aJ ((i:Nat):Int)) (U dg (U qh (U qi (U qj trivial))))))))))))))))))) (U (U h2 (U (aJ ((k:Nat):Int)) (U (df cO) (U qy (U (aJ ((i:Nat):Int)) (U dg (U dQ (U dR (U qz (U qA (U qB (U qC (U qD (U qE (U (aJ ((i:Nat):Int)) (U dg (U qh (U qi (U qj trivial))))))))))))))))))) (U (U h2 (U (aJ ((k:Nat):Int)) (U (df cO) (U qy (U (aJ ((i:Nat):Int)) (U dg (U dQ (U qz (U dR (U qA (U qB (U qC (U qD (U qE (U (aJ ((i:Nat):Int)) (U dg (U qh (U qi (U qj trivial))))))))))))))))))) (U (U h2 (U (aJ ((k:Nat):Int)) (U (df cO) (U qy (U qz (U (aJ ((i:Nat):Int)) (U dg (U dQ (U dR (U qA (U qB (U qC (U qD (U qE (U (aJ ((i:Nat):Int)) (U dg (U qh (U qi (U qj trivial))))))))))))))))))) trivial)))))) fun ac wd r=>?_
    exact bD (todo':=hd Tryz.f64 1) (E':=[(2,.pt 1 0),(3,.pt 6 0),(23,.d (.ro 1 (streams f.streams))),(24,.n f.streams.length),(25,.n i),(4,.n i),(5,.pt 7 0),(31,.d (.ro 2 (aO aV))),(32,.n aV.length),(33,.n (k+1))]) (M':=[.bx 37 [.u f.view.id.round,.z f.view.id.server.node,.u f.view.id.server.inc,.d (.ro 2 (procs f.view.members)),.d (.ro 1 (ae f.view.ao)),.d (.ro 1 (streams f.streams)),.d (.ro 1 (ae f.az))],.bx 124 [.d (.v (.int .u64 0)),.z 0,.d (.v (.int .u64 0)),.d (.v (.slice none 0 0)),.d (.v (.slice none 0 0)),.d (.v (.slice none 0 0)),.d (.v (.slice none 0 0))],.rw 24 2 (procs f.view.members),.rw 22 1 (ae f.view.ao),.rw 111 1 (List.set (List.set (aQ ((b6 f i).set i (aV.take k))) (i) [.jk]) (i) [.em 113 2 (bK (aV.take k)++[[.u bV.n,.em 5 1 (aj bV.body)]])]),.rw 22 1 (ae f.az),.bx 124 [.u f.view.id.round,.z f.view.id.server.node,.u f.view.id.server.inc,.sl 2 ((procs f.view.members).length),.sl 3 ((ae f.view.ao).length),.sl 4 ((aQ (b6 f 0)).length),.sl 5 ((ae (aA.fresh f.view).az).length)],.bx 111 [.d (.ro 2 (aO aV))]]) tk tq hK [(12,[(0,.z (((k+1:Nat):Int)))])] 2000 [0,1,2,3,4,5,6,7] [2,3,23,24,25,4,5,31,32,33] r (by kernel_rfl) (U ((wi (by omega)):IntKind.i64.wrap ((((k:Nat):Int):Int)+1)=((k+1:Nat):Int)) trivial) fun ac wd r=>fP (by omega) ac wd ⟨by omega,r.cast rfl (by rw [List.set_set,Lz cO,Ly,List.set_set])⟩
end Go.Proofs.YtgkdnnmcjjabdaaGreat
namespace Go.Proofs.YtgkdnnmcjjabdaaGreat
open Go.RowKit
def dK (l:List fX):List (List DV):=l.map fun m=>[.v (.int .i64 m.src.node),.v (.int .u64 (m.src.inc:Int)),.v (.int .u64 (m.n:Int)),.em 5 1 (aj m.body)]
@[simp] theorem VM (l:List fX):(dK l).length=l.length:=by simp [dK]
theorem pH (l:List fX) (m:fX):dK (l++[m])=dK l++[[.v (.int .i64 m.src.node),.v (.int .u64 (m.src.inc:Int)),.v (.int .u64 (m.n:Int)),.em 5 1 (aj m.body)]]:=by unfold dK;rw [List.map_append];rfl
theorem mP (l:List (List Slot)):bO (streams l)=streams l:=by
 rw [b8];unfold streams;rw [List.map_map];apply List.map_congr_left;intro s _;show [bd (.ro _ _)]=_;rw [bd]
theorem de.bytes (T:Nat) (l:List UInt8):de (.em T 1 (aj l)):=.em (by
 intro r hr c hc
 obtain ⟨b,-,rfl⟩:=List.mem_map.1 hr
 rw [List.mem_singleton] at hc;subst hc;exact lV _)
theorem de.msg (x y z:Value) (T:Nat) (l:List UInt8):de (.ag [.v x,.v y,.v z,.em T 1 (aj l)]):=.ag (by
 simp only [List.mem_cons,List.not_mem_nil,or_false];rintro c (rfl | rfl | rfl | rfl)<;>first | exact lV _ | exact de.bytes _ _)
theorem yp {l:List Slot} (g:Good l l.length) (hb:l.length<1073741824):al Tryz.prog 69 [.ag [.d (.ro 2 (aO l))]] (.v (.int .u64 ((b3 l:Nat):Int))):=by rw [← zF g];exact yA l (by omega)
def dZ (h:List Nat) (n:Nat):List Nat:=(List.range n).map (kY h)
@[simp] theorem VN (h:List Nat) (n:Nat):(dZ h n).length=n:=by simp [dZ]
theorem Ql {h:List Nat} {n i:Nat} (hi:i<n):(dZ h n)[i]?=some (kY h i):=by unfold dZ;rw [List.getElem?_map,List.getElem?_range hi];rfl
theorem O3 (h:List Nat) (n:Nat):(ae h).take (min h.length n)++(List.replicate n [DV.v (.int .u64 0)]).drop (min h.length n)=ae (dZ h n):=by
 apply List.ext_getElem?;intro k
 unfold ae dZ kY
 rw [List.getElem?_map,List.getElem?_map]
 rcases Nat.lt_or_ge k n with hk | hk
 ·rw [List.getElem?_range hk]
  rcases Nat.lt_or_ge k h.length with h1 | h1
  ·rw [List.getElem?_append_left (by simp;omega),List.getElem?_take,if_pos (by omega),List.getElem?_map,Option.map_some,List.getElem?_eq_getElem h1];simp
  ·rw [List.getElem?_append_right (by simp;omega),List.getElem?_drop,List.getElem?_replicate,if_pos (by simp;omega)]
   simp [List.getElem?_eq_none h1]
 ·rw [List.getElem?_eq_none (by simp;omega)];simp [List.getElem?_eq_none,hk]
theorem wv {l:List Slot} (g:Good l l.length) {k:Nat} {x:Slot} (hx:l[k]?=some x):(k<b3 l→x.n=k+1)∧(b3 l≤k→b3 l<x.n):=by
 obtain ⟨c,h1,h2⟩:=yM l
 rw [uX h1 h2]
 have h3:=HX g h1
 have h4:=g.from k x hx
 exact ⟨fun hk=>h3 k x hk hx,fun hk=>by omega⟩
theorem Nk {l:List Slot} (g:Good l l.length) {k:Nat} {x:Slot} (hx:l[k]?=some x) (hk:k<b3 l):eJ l (k+1)=(k:Int):=by
 refine GV hx ((wv g hx).1 hk) fun j t hj ht=>?_
 have:=(wv g ht).1 (by omega);omega
theorem O4 {l:List Slot} (g:Good l l.length) {k:Nat} {x:Slot} (hx:l[k]?=some x) (hk:k<b3 l):l[(eJ l (k+1)).toNat]?=some x:=by rw [Nk g hx hk];simpa using hx
set_option maxRecDepth 100000 in
theorem O5 (hV:∀ v:View,v.bounded→al Tryz.prog 34 [.ag [.u v.id.round,.z v.id.server.node,.u v.id.server.inc,.d (.ro 2 (procs v.members)),.d (.ro 1 (ae v.ao))]] (DV.v (.bool v.may))) (f:aA) (hb:f.bounded):al Tryz.prog 45 [.ag [.u f.view.id.round,.z f.view.id.server.node,.u f.view.id.server.inc,.d (.ro 2 (procs f.view.members)),.d (.ro 1 (ae f.view.ao)),.d (.ro 1 (streams f.streams)),.d (.ro 1 (ae f.az))]] (.em 22 1 (ae f.counts)):=by
 have uu:=aA.Ev hb
 obtain ⟨nA,VI⟩:=aA.FX f
 obtain ⟨pz,eE,cv,kj⟩:=id uu
 refine al.intro (by kernel_rfl) rfl rfl 22 rfl rfl fun w0 K ac hK r=>?_
 refine nk (todo':=aft Tryz.f45 2) (E':=[(2,.d (.v (.slice none 0 0))),(3,.d (.v (.slice none 0 0))),(9,.sl 3 ((aQ f.owned.streams).length)),(10,.n f.owned.streams.length),(11,.z 0)]) (M':=[.bx 37 [.u f.view.id.round,.z f.view.id.server.node,.u f.view.id.server.inc,.d (.ro 2 (procs f.view.members)),.d (.ro 1 (ae f.view.ao)),.d (.ro 1 (streams f.streams)),.d (.ro 1 (ae f.az))],.rw 24 2 (procs f.owned.view.members),.rw 22 1 (ae f.owned.view.ao),.rw 111 1 (aQ f.owned.streams),.rw 22 1 (ae f.owned.az)]) tk tq hK [(2,[(1,.aM (.ag [.u f.owned.view.id.round,.z f.owned.view.id.server.node,.u f.owned.view.id.server.inc,.em 24 2 (procs f.owned.view.members),.em 22 1 (ae f.owned.view.ao),.em 111 1 (aQ f.owned.streams),.em 22 1 (ae f.owned.az)])),(4,.z (((f.owned.streams.length:Nat):Int)))])] 7 [0,1,2,3,4] [2,3,9,10,11] r (by kernel_rfl) (U (Bg hV f (by assumption)) (U ((by simp [aj]):(((aQ f.owned.streams).length:Nat):Int)=((f.owned.streams.length:Nat):Int)) trivial)) fun ac wd r=>?_
 have r:=r.freeze (M1:=[.bx 37 [.u f.view.id.round,.z f.view.id.server.node,.u f.view.id.server.inc,.d (.ro 2 (procs f.view.members)),.d (.ro 1 (ae f.view.ao)),.d (.ro 1 (streams f.streams)),.d (.ro 1 (ae f.az))],.rw 24 2 (procs f.owned.view.members),.rw 22 1 (ae f.owned.view.ao),.rw 111 1 (bO (aQ f.owned.streams)),.rw 22 1 (ae f.owned.az)]) (M2:=[.bx 37 [.u f.view.id.round,.z f.view.id.server.node,.u f.view.id.server.inc,.d (.ro 2 (procs f.view.members)),.d (.ro 1 (ae f.view.ao)),.d (.ro 1 (streams f.streams)),.d (.ro 1 (ae f.az))],.rw 24 2 (procs f.owned.view.members),.rw 22 1 (ae f.owned.view.ao),.rw 111 1 (streams f.owned.streams),.rw 22 1 (ae f.owned.az)]) [3] (by kernel_rfl) (by rw [yn])
 refine bD (todo':=hd Tryz.f45 0) (E':=[(3,.d (.v (.slice none 0 0))),(9,.sl 3 ((aQ f.owned.streams).length)),(10,.n f.owned.streams.length),(11,.z 0)]) (M':=[.bx 37 [.u f.view.id.round,.z f.view.id.server.node,.u f.view.id.server.inc,.d (.ro 2 (procs f.view.members)),.d (.ro 1 (ae f.view.ao)),.d (.ro 1 (streams f.streams)),.d (.ro 1 (ae f.az))],.rw 24 2 (procs f.owned.view.members),.rw 22 1 (ae f.owned.view.ao),.rw 111 1 (streams f.owned.streams),.rw 22 1 (ae f.owned.az)]) tk tq hK [] 2000 [0,1,2,3,4] [3,9,10,11] r (by kernel_rfl) trivial fun ac wd r=>?_
 refine aG.rounds (Φ:=fun (i:Nat) ac wd=>(i≤f.owned.streams.length)∧dj [] w0 K 22 [(3,.sl 5 (i)),(9,.sl 3 ((aQ f.owned.streams).length)),(10,.n f.owned.streams.length),(11,.n i)] [.bx 37 [.u f.view.id.round,.z f.view.id.server.node,.u f.view.id.server.inc,.d (.ro 2 (procs f.view.members)),.d (.ro 1 (ae f.view.ao)),.d (.ro 1 (streams f.streams)),.d (.ro 1 (ae f.az))],.rw 24 2 (procs f.owned.view.members),.rw 22 1 (ae f.owned.view.ao),.rw 111 1 (streams f.owned.streams),.rw 22 1 (ae f.owned.az),.rw 22 1 (ae ((f.owned.streams.take i).map b3))] ac wd) (f.owned.streams.length) ?_ (Nat.zero_le _) ⟨by omega,r.BQ (M1:=[.bx 37 [.u f.view.id.round,.z f.view.id.server.node,.u f.view.id.server.inc,.d (.ro 2 (procs f.view.members)),.d (.ro 1 (ae f.view.ao)),.d (.ro 1 (streams f.streams)),.d (.ro 1 (ae f.az))],.rw 24 2 (procs f.owned.view.members),.rw 22 1 (ae f.owned.view.ao),.rw 111 1 (streams f.owned.streams),.rw 22 1 (ae f.owned.az),.rw 22 1 []]) [(3,22,1)] [] (by kernel_rfl) (by kernel_rfl)⟩
 clear r
 rintro i eX b9 ac wd ⟨aT,r⟩
 cases h0:(decide ((((i:Nat):Int):Int)<((f.owned.streams.length:Nat):Int))) with
 | false=>
  have bh:=of_decide_eq_false h0
  rw [show (.em 22 1 (ae f.counts):DV)=.em 22 1 (ae ((f.owned.streams.take i).map b3)) from (by unfold aA.counts;rw [show f.owned.streams.take i=f.owned.streams from List.take_of_length_le (by omega)])]
  exact aN tk tq hK rfl [(3,[(0,.b false)])] 2000 r (by kernel_rfl) (U h0 (U ((by simp<;>omega):(i)=(ae ((f.owned.streams.take i).map b3)).length) trivial))
 | true=>
  have bh:=of_decide_eq_true h0
  obtain ⟨aK,gW⟩:∃ x,f.owned.streams[i]?=some x:=⟨_,List.getElem?_eq_getElem (by omega)⟩
  have rZ:=uu.at gW
  have O6:=rZ.1
  obtain ⟨bQ,oe⟩:∃ x,f.owned.view.members[i]?=some x:=⟨_,List.getElem?_eq_getElem (by omega)⟩
  obtain ⟨bc,iH⟩:∃ x,f.owned.az[i]?=some x:=⟨_,List.getElem?_eq_getElem (by omega)⟩
  obtain ⟨gd,hle⟩:=aA.zH gW iH
  have bC:=FR aK
  have lq:=zI gd
  exact bD (todo':=hd Tryz.f45 0) (E':=[(3,.sl 5 (i+(1))),(9,.sl 3 ((aQ f.owned.streams).length)),(10,.n f.owned.streams.length),(11,.n (i+1))]) (M':=[.bx 37 [.u f.view.id.round,.z f.view.id.server.node,.u f.view.id.server.inc,.d (.ro 2 (procs f.view.members)),.d (.ro 1 (ae f.view.ao)),.d (.ro 1 (streams f.streams)),.d (.ro 1 (ae f.az))],.rw 24 2 (procs f.owned.view.members),.rw 22 1 (ae f.owned.view.ao),.rw 111 1 (streams f.owned.streams),.rw 22 1 (ae f.owned.az),.rw 22 1 (ae ((f.owned.streams.take i).map b3)++[[.u (b3 aK)]])]) tk tq hK [(3,[(0,.b true)]),(4,[(0,.n (i)),(1,.ix 0 [.ro 2 (aO aK)])]),(5,[(2,.aM (.u (b3 aK)))]),(6,[(0,.z (((i+1:Nat):Int)))])] 2000 [0,1,2,3,4,5] [3,9,10,11] r (by kernel_rfl) (U h0 (U (aJ ((i:Nat):Int)) (U ((by first | omega | (simp;omega) | (simp [jg];omega)):(i)<((aQ f.owned.streams).length)) (U ((by simp<;>omega):((aQ f.owned.streams).length)≤(streams f.owned.streams).length) (U (jd gW) (U (yp gd (by omega)) (U ((by simp<;>omega):(i)=(ae ((f.owned.streams.take i).map b3)).length) (U ((by simp<;>omega):(1)=([[.u (b3 aK)]]:List (List DV)).length) (U ((by first | omega | (simp [cU];done) | (simp [cU,n6];omega)):(2*((i)+(1))+192)*8≤281474976710656) (U ((by first | omega | (simp [cU];done) | (simp [cU,n6];omega)):(i)+(1)<4611686018427387904) (U ((by simp [bY,AV.one,cD,aj]):bY ([[.u (b3 aK)]])) (U ((wi (by omega)):IntKind.i64.wrap ((((i:Nat):Int):Int)+1)=((i+1:Nat):Int)) trivial)))))))))))) fun ac wd r=>b9 (by omega) ac wd ⟨by omega,r.cast rfl (by rw [Nj gW])⟩
end Go.Proofs.YtgkdnnmcjjabdaaGreat
namespace Go.Proofs.YtgkdnnmcjjabdaaGreat
open Go.RowKit
theorem jj {l:List Slot} (g:Good l l.length) {k h e:Nat} {p:ay} {x:Slot} (he:e≤b3 l) (hx:l[k]?=some x) (hn:¬ (h<x.n∧x.n≤e)):bW p l h (min (k+1) e-h)=bW p l h (min k e-h):=by
 obtain ⟨h1,h2⟩:=wv g hx
 rcases Nat.lt_or_ge k (b3 l) with hk | hk
 ·have:=h1 hk;congr 1;omega
 ·congr 1;omega
theorem fL {l:List Slot} (g:Good l l.length) {k h e:Nat} {p:ay} {x:Slot} (he:e≤b3 l) (hx:l[k]?=some x) (ha:h<x.n) (hc:x.n≤e):bW p l h (min (k+1) e-h)=bW p l h (min k e-h)++[⟨p,x.n,x.body⟩]:=by
 obtain ⟨h1,h2⟩:=wv g hx
 have hk:k<b3 l:=by
  rcases Nat.lt_or_ge k (b3 l) with hk | hk
  ·exact hk
  ·have:=h2 hk;omega
 have e1:=h1 hk
 rw [show min (k+1) e-h=(k-h)+1 by omega,show min k e-h=k-h by omega,e1]
 have e2:h+1+(k-h)=k+1:=by omega
 have:=Lx (p:=p) (l:=l) (h:=h) (k:=k-h) (s:=x) (by rw [e2];exact O4 g hx hk)
 rw [e2] at this;exact this
set_option maxRecDepth 100000 in
theorem Ix (hV:∀ v:View,v.bounded→al Tryz.prog 34 [.ag [.u v.id.round,.z v.id.server.node,.u v.id.server.inc,.d (.ro 2 (procs v.members)),.d (.ro 1 (ae v.ao))]] (DV.v (.bool v.may))) (f:aA) (u:List Nat) (hb:f.bounded) (hu:u.length≤9223372036854775807):al Tryz.prog 44 [.ag [.u f.view.id.round,.z f.view.id.server.node,.u f.view.id.server.inc,.d (.ro 2 (procs f.view.members)),.d (.ro 1 (ae f.view.ao)),.d (.ro 1 (streams f.streams)),.d (.ro 1 (ae f.az))],.d (.ro 1 (ae u))] (.tu [.ag (f.owned.hand u).half,.em 94 4 (dK (bR f.owned u f.owned.streams.length))]):=by
 have uu:=aA.Ev hb
 obtain ⟨nA,VI⟩:=aA.FX f
 obtain ⟨pz,eE,cv,kj⟩:=id uu
 refine al.intro (by kernel_rfl) rfl rfl 91 rfl rfl fun w0 K ac hK r=>?_
 refine nk (todo':=aft Tryz.f44 2) (E':=[(1,.d (.ro 1 (ae u))),(4,.pt 1 0),(5,.d (.v (.slice none 0 0))),(6,.pt 6 0),(7,.sl 7 (f.owned.streams.length))]) (M':=[.bx 37 [.u f.view.id.round,.z f.view.id.server.node,.u f.view.id.server.inc,.d (.ro 2 (procs f.view.members)),.d (.ro 1 (ae f.view.ao)),.d (.ro 1 (streams f.streams)),.d (.ro 1 (ae f.az))],.bx 37 [.d (.v (.int .u64 0)),.z 0,.d (.v (.int .u64 0)),.d (.v (.slice none 0 0)),.d (.v (.slice none 0 0)),.d (.v (.slice none 0 0)),.d (.v (.slice none 0 0))],.rw 24 2 (procs f.owned.view.members),.rw 22 1 (ae f.owned.view.ao),.rw 111 1 (aQ f.owned.streams),.rw 22 1 (ae f.owned.az),.bx 124 [.u f.owned.view.id.round,.z f.owned.view.id.server.node,.u f.owned.view.id.server.inc,.sl 2 ((procs f.owned.view.members).length),.sl 3 ((ae f.owned.view.ao).length),.sl 4 ((aQ f.owned.streams).length),.sl 5 ((ae f.owned.az).length)],.rw 22 1 (List.replicate (f.owned.streams.length) [.v (.int .u64 0)])]) tk tq hK [(1,[(1,.aM (.ag [.u f.owned.view.id.round,.z f.owned.view.id.server.node,.u f.owned.view.id.server.inc,.em 24 2 (procs f.owned.view.members),.em 22 1 (ae f.owned.view.ao),.em 111 1 (aQ f.owned.streams),.em 22 1 (ae f.owned.az)]))]),(2,[(3,.z (((f.owned.streams.length:Nat):Int))),(4,.n (f.owned.streams.length))])] 6 [0,1,2,3,4,5,6,7] [1,4,5,6,7] r (by kernel_rfl) (U (Bg hV f (by assumption)) (U ((by simp [aj]):(((aQ f.owned.streams).length:Nat):Int)=((f.owned.streams.length:Nat):Int)) (U (aJ ((f.owned.streams.length:Nat):Int)) (U (aJ ((f.owned.streams.length:Nat):Int)) (U ((by first | omega | (simp;omega) | (simp [jg];omega)):8*(f.owned.streams.length)≤281474976710656) (U ((by first | omega | (simp;omega) | (simp [jg];omega)):(f.owned.streams.length)<4611686018427387904) trivial)))))) fun ac wd r=>?_
 have r:=r.freeze (M1:=[.bx 37 [.u f.view.id.round,.z f.view.id.server.node,.u f.view.id.server.inc,.d (.ro 2 (procs f.view.members)),.d (.ro 1 (ae f.view.ao)),.d (.ro 1 (streams f.streams)),.d (.ro 1 (ae f.az))],.bx 37 [.d (.v (.int .u64 0)),.z 0,.d (.v (.int .u64 0)),.d (.v (.slice none 0 0)),.d (.v (.slice none 0 0)),.d (.v (.slice none 0 0)),.d (.v (.slice none 0 0))],.rw 24 2 (procs f.owned.view.members),.rw 22 1 (ae f.owned.view.ao),.rw 111 1 (bO (aQ f.owned.streams)),.rw 22 1 (ae f.owned.az),.bx 124 [.u f.owned.view.id.round,.z f.owned.view.id.server.node,.u f.owned.view.id.server.inc,.sl 2 ((procs f.owned.view.members).length),.sl 3 ((ae f.owned.view.ao).length),.sl 4 ((aQ f.owned.streams).length),.sl 5 ((ae f.owned.az).length)],.rw 22 1 (List.replicate (f.owned.streams.length) [.v (.int .u64 0)])]) (M2:=[.bx 37 [.u f.view.id.round,.z f.view.id.server.node,.u f.view.id.server.inc,.d (.ro 2 (procs f.view.members)),.d (.ro 1 (ae f.view.ao)),.d (.ro 1 (streams f.streams)),.d (.ro 1 (ae f.az))],.bx 37 [.d (.v (.int .u64 0)),.z 0,.d (.v (.int .u64 0)),.d (.v (.slice none 0 0)),.d (.v (.slice none 0 0)),.d (.v (.slice none 0 0)),.d (.v (.slice none 0 0))],.rw 24 2 (procs f.owned.view.members),.rw 22 1 (ae f.owned.view.ao),.rw 111 1 (streams f.owned.streams),.rw 22 1 (ae f.owned.az),.bx 124 [.u f.owned.view.id.round,.z f.owned.view.id.server.node,.u f.owned.view.id.server.inc,.sl 2 ((procs f.owned.view.members).length),.sl 3 ((ae f.owned.view.ao).length),.sl 4 ((aQ f.owned.streams).length),.sl 5 ((ae f.owned.az).length)],.rw 22 1 (List.replicate (f.owned.streams.length) [.v (.int .u64 0)])]) [4] (by kernel_rfl) (by rw [yn])
 refine nk (todo':=aft Tryz.f44 3) (E':=[(1,.d (.ro 1 (ae u))),(4,.pt 1 0),(5,.d (.v (.slice none 0 0))),(6,.pt 6 0),(7,.sl 7 (f.owned.streams.length))]) (M':=[.bx 37 [.u f.view.id.round,.z f.view.id.server.node,.u f.view.id.server.inc,.d (.ro 2 (procs f.view.members)),.d (.ro 1 (ae f.view.ao)),.d (.ro 1 (streams f.streams)),.d (.ro 1 (ae f.az))],.bx 37 [.d (.v (.int .u64 0)),.z 0,.d (.v (.int .u64 0)),.d (.v (.slice none 0 0)),.d (.v (.slice none 0 0)),.d (.v (.slice none 0 0)),.d (.v (.slice none 0 0))],.rw 24 2 (procs f.owned.view.members),.rw 22 1 (ae f.owned.view.ao),.rw 111 1 (streams f.owned.streams),.rw 22 1 (ae f.owned.az),.bx 124 [.u f.owned.view.id.round,.z f.owned.view.id.server.node,.u f.owned.view.id.server.inc,.sl 2 ((procs f.owned.view.members).length),.sl 3 ((ae f.owned.view.ao).length),.sl 4 ((aQ f.owned.streams).length),.sl 5 ((ae f.owned.az).length)],.rw 22 1 ((ae u).take (min u.length f.owned.streams.length)++(List.replicate (f.owned.streams.length) [.v (.int .u64 0)]).drop (min u.length f.owned.streams.length))]) tk tq hK [(3,[(2,.n (min u.length f.owned.streams.length))])] 2 [0,1,2,3,4,5,6,7] [1,4,5,6,7] r (by kernel_rfl) (U ((by simp<;>omega):(f.owned.streams.length)=(List.replicate (f.owned.streams.length) [.v (.int .u64 0)]:List (List DV)).length) (U ((by simp):min (ae u).length (f.owned.streams.length)=min u.length f.owned.streams.length) (U ((by simp [bY,AV.one,cD,aj]):bY (ae u)) trivial))) fun ac wd r=>?_
 have r:=r.freeze (M1:=[.bx 37 [.u f.view.id.round,.z f.view.id.server.node,.u f.view.id.server.inc,.d (.ro 2 (procs f.view.members)),.d (.ro 1 (ae f.view.ao)),.d (.ro 1 (streams f.streams)),.d (.ro 1 (ae f.az))],.bx 37 [.d (.v (.int .u64 0)),.z 0,.d (.v (.int .u64 0)),.d (.v (.slice none 0 0)),.d (.v (.slice none 0 0)),.d (.v (.slice none 0 0)),.d (.v (.slice none 0 0))],.rw 24 2 (procs f.owned.view.members),.rw 22 1 (ae f.owned.view.ao),.rw 111 1 (streams f.owned.streams),.rw 22 1 (ae f.owned.az),.bx 124 [.u f.owned.view.id.round,.z f.owned.view.id.server.node,.u f.owned.view.id.server.inc,.sl 2 ((procs f.owned.view.members).length),.sl 3 ((ae f.owned.view.ao).length),.sl 4 ((aQ f.owned.streams).length),.sl 5 ((ae f.owned.az).length)],.rw 22 1 ((ae u).take (min u.length f.owned.streams.length)++(List.replicate (f.owned.streams.length) [.v (.int .u64 0)]).drop (min u.length f.owned.streams.length))]) (M2:=[.bx 37 [.u f.view.id.round,.z f.view.id.server.node,.u f.view.id.server.inc,.d (.ro 2 (procs f.view.members)),.d (.ro 1 (ae f.view.ao)),.d (.ro 1 (streams f.streams)),.d (.ro 1 (ae f.az))],.bx 37 [.d (.v (.int .u64 0)),.z 0,.d (.v (.int .u64 0)),.d (.v (.slice none 0 0)),.d (.v (.slice none 0 0)),.d (.v (.slice none 0 0)),.d (.v (.slice none 0 0))],.rw 24 2 (procs f.owned.view.members),.rw 22 1 (ae f.owned.view.ao),.rw 111 1 (streams f.owned.streams),.rw 22 1 (ae f.owned.az),.bx 124 [.u f.owned.view.id.round,.z f.owned.view.id.server.node,.u f.owned.view.id.server.inc,.sl 2 ((procs f.owned.view.members).length),.sl 3 ((ae f.owned.view.ao).length),.sl 4 ((aQ f.owned.streams).length),.sl 5 ((ae f.owned.az).length)],.rw 22 1 (ae (dZ u f.owned.streams.length))]) [] (by kernel_rfl) (by rw [O3])
 refine bD (todo':=hd Tryz.f44 0) (E':=[(1,.d (.ro 1 (ae u))),(4,.pt 1 0),(6,.pt 6 0),(7,.sl 7 (f.owned.streams.length)),(26,.sl 4 ((aQ f.owned.streams).length)),(27,.n f.owned.streams.length),(28,.z 0),(8,.d (.v (.slice none 0 0)))]) (M':=[.bx 37 [.u f.view.id.round,.z f.view.id.server.node,.u f.view.id.server.inc,.d (.ro 2 (procs f.view.members)),.d (.ro 1 (ae f.view.ao)),.d (.ro 1 (streams f.streams)),.d (.ro 1 (ae f.az))],.bx 37 [.d (.v (.int .u64 0)),.z 0,.d (.v (.int .u64 0)),.d (.v (.slice none 0 0)),.d (.v (.slice none 0 0)),.d (.v (.slice none 0 0)),.d (.v (.slice none 0 0))],.rw 24 2 (procs f.owned.view.members),.rw 22 1 (ae f.owned.view.ao),.rw 111 1 (streams f.owned.streams),.rw 22 1 (ae f.owned.az),.bx 124 [.u f.owned.view.id.round,.z f.owned.view.id.server.node,.u f.owned.view.id.server.inc,.sl 2 ((procs f.owned.view.members).length),.sl 3 ((ae f.owned.view.ao).length),.sl 4 ((aQ f.owned.streams).length),.sl 5 ((ae f.owned.az).length)],.rw 22 1 (ae (dZ u f.owned.streams.length))]) tk tq hK [(5,[(3,.z (((f.owned.streams.length:Nat):Int)))])] 2000 [0,1,2,3,4,5,6,7] [1,4,6,7,26,27,28,8] r (by kernel_rfl) (U ((by simp [aj]):(((aQ f.owned.streams).length:Nat):Int)=((f.owned.streams.length:Nat):Int)) trivial) fun ac wd r=>?_
 refine aG.rounds (Φ:=fun (i:Nat) ac wd=>(i≤f.owned.streams.length)∧dj [] w0 K 91 [(1,.d (.ro 1 (ae u))),(4,.pt 1 0),(6,.pt 6 0),(7,.sl 7 (f.owned.streams.length)),(26,.sl 4 ((aQ f.owned.streams).length)),(27,.n f.owned.streams.length),(28,.n i),(8,.sl 8 ((bR f.owned u i).length))] [.bx 37 [.u f.view.id.round,.z f.view.id.server.node,.u f.view.id.server.inc,.d (.ro 2 (procs f.view.members)),.d (.ro 1 (ae f.view.ao)),.d (.ro 1 (streams f.streams)),.d (.ro 1 (ae f.az))],.bx 37 [.d (.v (.int .u64 0)),.z 0,.d (.v (.int .u64 0)),.d (.v (.slice none 0 0)),.d (.v (.slice none 0 0)),.d (.v (.slice none 0 0)),.d (.v (.slice none 0 0))],.rw 24 2 (procs f.owned.view.members),.rw 22 1 (ae f.owned.view.ao),.rw 111 1 (streams f.owned.streams),.rw 22 1 (ae (cb f.owned u i)),.bx 124 [.u f.owned.view.id.round,.z f.owned.view.id.server.node,.u f.owned.view.id.server.inc,.sl 2 ((procs f.owned.view.members).length),.sl 3 ((ae f.owned.view.ao).length),.sl 4 ((aQ f.owned.streams).length),.sl 5 ((ae f.owned.az).length)],.rw 22 1 (ae (dZ u f.owned.streams.length)),.rw 94 4 (dK (bR f.owned u i))] ac wd) (f.owned.streams.length) ?_ (Nat.zero_le _) ⟨by omega,r.BQ (M1:=[.bx 37 [.u f.view.id.round,.z f.view.id.server.node,.u f.view.id.server.inc,.d (.ro 2 (procs f.view.members)),.d (.ro 1 (ae f.view.ao)),.d (.ro 1 (streams f.streams)),.d (.ro 1 (ae f.az))],.bx 37 [.d (.v (.int .u64 0)),.z 0,.d (.v (.int .u64 0)),.d (.v (.slice none 0 0)),.d (.v (.slice none 0 0)),.d (.v (.slice none 0 0)),.d (.v (.slice none 0 0))],.rw 24 2 (procs f.owned.view.members),.rw 22 1 (ae f.owned.view.ao),.rw 111 1 (streams f.owned.streams),.rw 22 1 (ae f.owned.az),.bx 124 [.u f.owned.view.id.round,.z f.owned.view.id.server.node,.u f.owned.view.id.server.inc,.sl 2 ((procs f.owned.view.members).length),.sl 3 ((ae f.owned.view.ao).length),.sl 4 ((aQ f.owned.streams).length),.sl 5 ((ae f.owned.az).length)],.rw 22 1 (ae (dZ u f.owned.streams.length)),.rw 94 4 []]) [(8,94,4)] [] (by kernel_rfl) (by kernel_rfl)⟩
 clear r
 rintro i eX b9 ac wd ⟨aT,r⟩
 have xL:=jg f.owned u i
 cases h0:(decide ((((i:Nat):Int):Int)<((f.owned.streams.length:Nat):Int))) with
 | false=>
  have bh:=of_decide_eq_false h0
  rw [show (.tu [.ag (f.owned.hand u).half,.em 94 4 (dK (bR f.owned u f.owned.streams.length))]:DV)=.tu [.ag [.u f.owned.view.id.round,.z f.owned.view.id.server.node,.u f.owned.view.id.server.inc,.em 24 2 (procs f.owned.view.members),.em 22 1 (ae f.owned.view.ao),.em 111 1 (streams f.owned.streams),.em 22 1 (ae (cb f.owned u i))],.em 94 4 (dK (bR f.owned u i))] from (by unfold aA.hand;rw [show f.owned.streams.length=i by omega];rfl)]
  exact aN tk tq hK rfl [(6,[(0,.b false)])] 2000 r (by kernel_rfl) (U h0 (U (b7 ((procs f.owned.view.members).length)) (U (b7 ((ae f.owned.view.ao).length)) (U ((by simp<;>omega):((aQ f.owned.streams).length)=(streams f.owned.streams).length) (U ((by simp<;>omega):((ae f.owned.az).length)=(ae (cb f.owned u i)).length) (U ((by simp<;>omega):((bR f.owned u i).length)=(dK (bR f.owned u i)).length) trivial))))))
 | true=>
  have bh:=of_decide_eq_true h0
  obtain ⟨aK,gW⟩:∃ x,f.owned.streams[i]?=some x:=⟨_,List.getElem?_eq_getElem (by omega)⟩
  have rZ:=uu.at gW
  have O6:=rZ.1
  obtain ⟨bQ,oe⟩:∃ x,f.owned.view.members[i]?=some x:=⟨_,List.getElem?_eq_getElem (by omega)⟩
  obtain ⟨bc,iH⟩:∃ x,f.owned.az[i]?=some x:=⟨_,List.getElem?_eq_getElem (by omega)⟩
  obtain ⟨gd,hle⟩:=aA.zH gW iH
  have bC:=FR aK
  have lq:=zI gd
  have dG:=HZ aK u i
  have VU:=Me (f:=f.owned) (u:=u) (fun i l h hl hh=>(aA.zH hl hh).1) i
  have u0:=((by first | omega | (simp;omega) | (simp [jg];omega)):(i)<((aQ f.owned.streams).length))
  have u1:=((by simp<;>omega):((aQ f.owned.streams).length)≤(streams f.owned.streams).length)
  have u2:=((by simp [aj]):(((ae u).length:Nat):Int)=((u.length:Nat):Int))
  cases h1:(decide ((0:Int)<((u.length:Nat):Int))) with
  | false=>
   have bM:=of_decide_eq_false h1
   refine bD (todo':=hd Tryz.f44 1) (E':=[(1,.d (.ro 1 (ae u))),(4,.pt 1 0),(6,.pt 6 0),(7,.sl 7 (f.owned.streams.length)),(26,.sl 4 ((aQ f.owned.streams).length)),(27,.n f.owned.streams.length),(28,.n i),(8,.sl 8 ((bR f.owned u i).length)),(9,.n i),(10,.pt 9 0),(11,.u (b3 aK)),(45,.d (.ro 2 (aO aK))),(46,.n aK.length),(47,.z 0)]) (M':=[.bx 37 [.u f.view.id.round,.z f.view.id.server.node,.u f.view.id.server.inc,.d (.ro 2 (procs f.view.members)),.d (.ro 1 (ae f.view.ao)),.d (.ro 1 (streams f.streams)),.d (.ro 1 (ae f.az))],.bx 37 [.d (.v (.int .u64 0)),.z 0,.d (.v (.int .u64 0)),.d (.v (.slice none 0 0)),.d (.v (.slice none 0 0)),.d (.v (.slice none 0 0)),.d (.v (.slice none 0 0))],.rw 24 2 (procs f.owned.view.members),.rw 22 1 (ae f.owned.view.ao),.rw 111 1 (streams f.owned.streams),.rw 22 1 (ae (cb f.owned u i)),.bx 124 [.u f.owned.view.id.round,.z f.owned.view.id.server.node,.u f.owned.view.id.server.inc,.sl 2 ((procs f.owned.view.members).length),.sl 3 ((ae f.owned.view.ao).length),.sl 4 ((aQ f.owned.streams).length),.sl 5 ((ae f.owned.az).length)],.rw 22 1 (ae (dZ u f.owned.streams.length)),.rw 94 4 (dK (bR f.owned u i)),.bx 111 [.d (.ro 2 (aO aK))]]) tk tq hK [(6,[(0,.b true)]),(7,[(1,.n (i)),(2,.ix 0 [.ro 2 (aO aK)])]),(8,[(1,.aM (.u (b3 aK)))]),(9,[(1,.z (((u.length:Nat):Int))),(2,.b false)]),(11,[(2,.z (((aK.length:Nat):Int)))])] 2000 [0,1,2,3,4,5,6,7,8,9] [1,4,6,7,26,27,28,8,9,10,11,45,46,47] r (by kernel_rfl) (U h0 (U (aJ ((i:Nat):Int)) (U u0 (U u1 (U (jd gW) (U (yp gd (by omega)) (U u2 (U h1 (U ((by simp [aj]):(((aO aK).length:Nat):Int)=((aK.length:Nat):Int)) trivial))))))))) fun ac wd r=>?_
   refine aG.rounds (Φ:=fun (k:Nat) ac wd=>(k≤aK.length)∧dj [] w0 K 91 [(1,.d (.ro 1 (ae u))),(4,.pt 1 0),(6,.pt 6 0),(7,.sl 7 (f.owned.streams.length)),(26,.sl 4 ((aQ f.owned.streams).length)),(27,.n f.owned.streams.length),(28,.n i),(8,.sl 8 ((bR f.owned u i++bW bQ aK bc (min k (br aK u i)-bc)).length)),(9,.n i),(10,.pt 9 0),(11,.u (br aK u i)),(45,.d (.ro 2 (aO aK))),(46,.n aK.length),(47,.n k)] [.bx 37 [.u f.view.id.round,.z f.view.id.server.node,.u f.view.id.server.inc,.d (.ro 2 (procs f.view.members)),.d (.ro 1 (ae f.view.ao)),.d (.ro 1 (streams f.streams)),.d (.ro 1 (ae f.az))],.bx 37 [.d (.v (.int .u64 0)),.z 0,.d (.v (.int .u64 0)),.d (.v (.slice none 0 0)),.d (.v (.slice none 0 0)),.d (.v (.slice none 0 0)),.d (.v (.slice none 0 0))],.rw 24 2 (procs f.owned.view.members),.rw 22 1 (ae f.owned.view.ao),.rw 111 1 (streams f.owned.streams),.rw 22 1 (ae (cb f.owned u i)),.bx 124 [.u f.owned.view.id.round,.z f.owned.view.id.server.node,.u f.owned.view.id.server.inc,.sl 2 ((procs f.owned.view.members).length),.sl 3 ((ae f.owned.view.ao).length),.sl 4 ((aQ f.owned.streams).length),.sl 5 ((ae f.owned.az).length)],.rw 22 1 (ae (dZ u f.owned.streams.length)),.rw 94 4 (dK (bR f.owned u i++bW bQ aK bc (min k (br aK u i)-bc))),.bx 111 [.d (.ro 2 (aO aK))]] ac wd) (aK.length) ?_ (Nat.zero_le _) ⟨by omega,(r).cast (by unfold br;first | (rw [if_pos (by omega)];simp [bW];done) | (rw [if_neg (by omega)];simp [bW])) (by simp [bW])⟩
   clear r
   rintro k fp fP ac wd ⟨cN,r⟩
   cases h2:(decide ((((k:Nat):Int):Int)<((aK.length:Nat):Int))) with
   | false=>
    have cK:=of_decide_eq_false h2
    have sO:=((by first | omega | (simp;omega) | (simp [jg];omega)):(i)<((ae f.owned.az).length))
    have sP:=((by simp<;>omega):((ae f.owned.az).length)≤(ae (cb f.owned u i)).length)
    have sR:=(eH (p8 iH (by omega)):(ae (cb f.owned u i))[i]?=some [.u bc])
    have Ch:=((by omega):(max (((bc:Nat):Int)) (((br aK u i:Nat):Int)):Int)=((max (bc) (br aK u i):Nat):Int))
    refine lI (todo':=aft Tryz.f44 17) (E':=[(1,.d (.ro 1 (ae u))),(4,.pt 1 0),(6,.pt 6 0),(7,.sl 7 (f.owned.streams.length)),(26,.sl 4 ((aQ f.owned.streams).length)),(27,.n f.owned.streams.length),(28,.n i),(8,.sl 8 ((bR f.owned u i++bW bQ aK bc (min k (br aK u i)-bc)).length)),(9,.n i),(10,.pt 9 0),(11,.u (br aK u i)),(45,.d (.ro 2 (aO aK))),(46,.n aK.length),(47,.n k),(48,.d (.v (.bool false))),(74,.pt 6 0),(75,.pt 6 6),(76,.sl 5 ((ae f.owned.az).length)),(77,.n i),(78,.pt 6 0),(79,.pt 6 6),(80,.sl 5 ((ae f.owned.az).length)),(81,.n i),(84,.u (br aK u i)),(82,.ep 5 1 (i) 0),(83,.u bc),(85,.u (max (bc) (br aK u i))),(86,.ep 5 1 (i) 0)]) (M':=[.bx 37 [.u f.view.id.round,.z f.view.id.server.node,.u f.view.id.server.inc,.d (.ro 2 (procs f.view.members)),.d (.ro 1 (ae f.view.ao)),.d (.ro 1 (streams f.streams)),.d (.ro 1 (ae f.az))],.bx 37 [.d (.v (.int .u64 0)),.z 0,.d (.v (.int .u64 0)),.d (.v (.slice none 0 0)),.d (.v (.slice none 0 0)),.d (.v (.slice none 0 0)),.d (.v (.slice none 0 0))],.rw 24 2 (procs f.owned.view.members),.rw 22 1 (ae f.owned.view.ao),.rw 111 1 (streams f.owned.streams),.rw 22 1 (List.set (ae (cb f.owned u i)) (i) [.u (max (bc) (br aK u i))]),.bx 124 [.u f.owned.view.id.round,.z f.owned.view.id.server.node,.u f.owned.view.id.server.inc,.sl 2 ((procs f.owned.view.members).length),.sl 3 ((ae f.owned.view.ao).length),.sl 4 ((aQ f.owned.streams).length),.sl 5 ((ae f.owned.az).length)],.rw 22 1 (ae (dZ u f.owned.streams.length)),.rw 94 4 (dK (bR f.owned u i++bW bQ aK bc (min k (br aK u i)-bc))),.bx 111 [.d (.ro 2 (aO aK))]]) tk tq hK [(12,[(0,.b false)]),(17,[(8,.n (i)),(9,.ix 0 [.u bc]),(11,.z (((max (bc) (br aK u i):Nat):Int))),(12,.n (i)),(13,.ix 0 [.u bc])])] 5 1 [8,9,12] [[0,1,2,3,4,5,6,7,8,9]] [1,4,6,7,26,27,28,8,9,10,11,45,46,47,48,74,75,76,77,78,79,80,81,84,82,83,85,86] r (by kernel_rfl) (U (U h2 (U (aJ ((i:Nat):Int)) (U sO (U sP (U sR (U Ch (U (aJ ((i:Nat):Int)) (U sO (U sP (U sR trivial)))))))))) trivial) fun ac wd r=>?_
    exact bD (todo':=hd Tryz.f44 0) (E':=[(1,.d (.ro 1 (ae u))),(4,.pt 1 0),(6,.pt 6 0),(7,.sl 7 (f.owned.streams.length)),(26,.sl 4 ((aQ f.owned.streams).length)),(27,.n f.owned.streams.length),(28,.n (i+1)),(8,.sl 8 ((bR f.owned u i++bW bQ aK bc (min k (br aK u i)-bc)).length))]) (M':=[.bx 37 [.u f.view.id.round,.z f.view.id.server.node,.u f.view.id.server.inc,.d (.ro 2 (procs f.view.members)),.d (.ro 1 (ae f.view.ao)),.d (.ro 1 (streams f.streams)),.d (.ro 1 (ae f.az))],.bx 37 [.d (.v (.int .u64 0)),.z 0,.d (.v (.int .u64 0)),.d (.v (.slice none 0 0)),.d (.v (.slice none 0 0)),.d (.v (.slice none 0 0)),.d (.v (.slice none 0 0))],.rw 24 2 (procs f.owned.view.members),.rw 22 1 (ae f.owned.view.ao),.rw 111 1 (streams f.owned.streams),.rw 22 1 (List.set (ae (cb f.owned u i)) (i) [.u (max (bc) (br aK u i))]),.bx 124 [.u f.owned.view.id.round,.z f.owned.view.id.server.node,.u f.owned.view.id.server.inc,.sl 2 ((procs f.owned.view.members).length),.sl 3 ((ae f.owned.view.ao).length),.sl 4 ((aQ f.owned.streams).length),.sl 5 ((ae f.owned.az).length)],.rw 22 1 (ae (dZ u f.owned.streams.length)),.rw 94 4 (dK (bR f.owned u i++bW bQ aK bc (min k (br aK u i)-bc)))]) tk tq hK [(18,[(0,.z (((i+1:Nat):Int)))])] 2000 [0,1,2,3,4,5,6,7,8] [1,4,6,7,26,27,28,8] r (by kernel_rfl) (U ((wi (by omega)):IntKind.i64.wrap ((((i:Nat):Int):Int)+1)=((i+1:Nat):Int)) trivial) fun ac wd r=>b9 (by omega) ac wd ⟨by omega,r.cast (by have e:min k (br aK u i)=br aK u i:=(by omega);rw [uH gW oe iH,e]) (by have e:min k (br aK u i)=br aK u i:=(by omega);rw [uH gW oe iH,FY gW iH,e,GX])⟩
   | true=>
    have cK:=of_decide_eq_true h2
    obtain ⟨b4,cG⟩:∃ x,aK[k]?=some x:=⟨_,List.getElem?_eq_getElem (by omega)⟩
    have LA:=rZ.at cG
    have u3:=((by first | omega | (simp;omega) | (simp [jg];omega)):(i)<((ae f.owned.az).length))
    have u4:=((by simp<;>omega):((ae f.owned.az).length)≤(ae (cb f.owned u i)).length)
    have u5:=(eH (p8 iH (by omega)):(ae (cb f.owned u i))[i]?=some [.u bc])
    cases h3:(decide ((((bc:Nat):Int):Int)<((b4.n:Nat):Int))) with
    | false=>
     have fb:=of_decide_eq_false h3
     exact bD (todo':=hd Tryz.f44 1) (E':=[(1,.d (.ro 1 (ae u))),(4,.pt 1 0),(6,.pt 6 0),(7,.sl 7 (f.owned.streams.length)),(26,.sl 4 ((aQ f.owned.streams).length)),(27,.n f.owned.streams.length),(28,.n i),(8,.sl 8 ((bR f.owned u i++bW bQ aK bc (min k (br aK u i)-bc)).length)),(9,.n i),(10,.pt 9 0),(11,.u (br aK u i)),(45,.d (.ro 2 (aO aK))),(46,.n aK.length),(47,.n (k+1))]) (M':=[.bx 37 [.u f.view.id.round,.z f.view.id.server.node,.u f.view.id.server.inc,.d (.ro 2 (procs f.view.members)),.d (.ro 1 (ae f.view.ao)),.d (.ro 1 (streams f.streams)),.d (.ro 1 (ae f.az))],.bx 37 [.d (.v (.int .u64 0)),.z 0,.d (.v (.int .u64 0)),.d (.v (.slice none 0 0)),.d (.v (.slice none 0 0)),.d (.v (.slice none 0 0)),.d (.v (.slice none 0 0))],.rw 24 2 (procs f.owned.view.members),.rw 22 1 (ae f.owned.view.ao),.rw 111 1 (streams f.owned.streams),.rw 22 1 (ae (cb f.owned u i)),.bx 124 [.u f.owned.view.id.round,.z f.owned.view.id.server.node,.u f.owned.view.id.server.inc,.sl 2 ((procs f.owned.view.members).length),.sl 3 ((ae f.owned.view.ao).length),.sl 4 ((aQ f.owned.streams).length),.sl 5 ((ae f.owned.az).length)],.rw 22 1 (ae (dZ u f.owned.streams.length)),.rw 94 4 (dK (bR f.owned u i++bW bQ aK bc (min k (br aK u i)-bc))),.bx 111 [.d (.ro 2 (aO aK))]]) tk tq hK [(12,[(0,.b true)]),(13,[(0,.ix (k) [.u b4.n,.ro 1 (aj b4.body)])]),(14,[(6,.n (i)),(7,.ix 0 [.u bc]),(8,.b false)]),(16,[(0,.z (((k+1:Nat):Int)))])] 2000 [0,1,2,3,4,5,6,7,8,9] [1,4,6,7,26,27,28,8,9,10,11,45,46,47] r (by kernel_rfl) (U h2 (U (aJ ((k:Nat):Int)) (U (df cG) (U (aJ ((i:Nat):Int)) (U u3 (U u4 (U u5 (U h3 (U ((wi (by omega)):IntKind.i64.wrap ((((k:Nat):Int):Int)+1)=((k+1:Nat):Int)) trivial))))))))) fun ac wd r=>fP (by omega) ac wd ⟨by omega,r.cast (by first | rw [jj gd dG cG (by omega)] | (rw [fL gd dG cG (by omega) (by omega)];simp;done) | (rw [fL gd dG cG (by omega) (by omega)];simp;omega)) (by first | rw [jj gd dG cG (by omega)] | rw [fL gd dG cG (by omega) (by omega),← List.append_assoc,pH])⟩
    | true=>
     have fb:=of_decide_eq_true h3
     cases h4:(decide ((((b4.n:Nat):Int):Int)≤((br aK u i:Nat):Int))) with
     | false=>
      have kv:=of_decide_eq_false h4
      exact bD (todo':=hd Tryz.f44 1) (E':=[(1,.d (.ro 1 (ae u))),(4,.pt 1 0),(6,.pt 6 0),(7,.sl 7 (f.owned.streams.length)),(26,.sl 4 ((aQ f.owned.streams).length)),(27,.n f.owned.streams.length),(28,.n i),(8,.sl 8 ((bR f.owned u i++bW bQ aK bc (min k (br aK u i)-bc)).length)),(9,.n i),(10,.pt 9 0),(11,.u (br aK u i)),(45,.d (.ro 2 (aO aK))),(46,.n aK.length),(47,.n (k+1))]) (M':=[.bx 37 [.u f.view.id.round,.z f.view.id.server.node,.u f.view.id.server.inc,.d (.ro 2 (procs f.view.members)),.d (.ro 1 (ae f.view.ao)),.d (.ro 1 (streams f.streams)),.d (.ro 1 (ae f.az))],.bx 37 [.d (.v (.int .u64 0)),.z 0,.d (.v (.int .u64 0)),.d (.v (.slice none 0 0)),.d (.v (.slice none 0 0)),.d (.v (.slice none 0 0)),.d (.v (.slice none 0 0))],.rw 24 2 (procs f.owned.view.members),.rw 22 1 (ae f.owned.view.ao),.rw 111 1 (streams f.owned.streams),.rw 22 1 (ae (cb f.owned u i)),.bx 124 [.u f.owned.view.id.round,.z f.owned.view.id.server.node,.u f.owned.view.id.server.inc,.sl 2 ((procs f.owned.view.members).length),.sl 3 ((ae f.owned.view.ao).length),.sl 4 ((aQ f.owned.streams).length),.sl 5 ((ae f.owned.az).length)],.rw 22 1 (ae (dZ u f.owned.streams.length)),.rw 94 4 (dK (bR f.owned u i++bW bQ aK bc (min k (br aK u i)-bc))),.bx 111 [.d (.ro 2 (aO aK))]]) tk tq hK [(12,[(0,.b true)]),(13,[(0,.ix (k) [.u b4.n,.ro 1 (aj b4.body)])]),(14,[(6,.n (i)),(7,.ix 0 [.u bc]),(8,.b true),(13,.b false)]),(16,[(0,.z (((k+1:Nat):Int)))])] 2000 [0,1,2,3,4,5,6,7,8,9] [1,4,6,7,26,27,28,8,9,10,11,45,46,47] r (by kernel_rfl) (U h2 (U (aJ ((k:Nat):Int)) (U (df cG) (U (aJ ((i:Nat):Int)) (U u3 (U u4 (U u5 (U h3 (U h4 (U ((wi (by omega)):IntKind.i64.wrap ((((k:Nat):Int):Int)+1)=((k+1:Nat):Int)) trivial)))))))))) fun ac wd r=>fP (by omega) ac wd ⟨by omega,r.cast (by first | rw [jj gd dG cG (by omega)] | (rw [fL gd dG cG (by omega) (by omega)];simp;done) | (rw [fL gd dG cG (by omega) (by omega)];simp;omega)) (by first | rw [jj gd dG cG (by omega)] | rw [fL gd dG cG (by omega) (by omega),← List.append_assoc,pH])⟩
     | true=>
      have kv:=of_decide_eq_true h4
      exact bD (todo':=hd Tryz.f44 1) (E':=[(1,.d (.ro 1 (ae u))),(4,.pt 1 0),(6,.pt 6 0),(7,.sl 7 (f.owned.streams.length)),(26,.sl 4 ((aQ f.owned.streams).length)),(27,.n f.owned.streams.length),(28,.n i),(8,.sl 8 ((bR f.owned u i++bW bQ aK bc (min k (br aK u i)-bc)).length+(1))),(9,.n i),(10,.pt 9 0),(11,.u (br aK u i)),(45,.d (.ro 2 (aO aK))),(46,.n aK.length),(47,.n (k+1))]) (M':=[.bx 37 [.u f.view.id.round,.z f.view.id.server.node,.u f.view.id.server.inc,.d (.ro 2 (procs f.view.members)),.d (.ro 1 (ae f.view.ao)),.d (.ro 1 (streams f.streams)),.d (.ro 1 (ae f.az))],.bx 37 [.d (.v (.int .u64 0)),.z 0,.d (.v (.int .u64 0)),.d (.v (.slice none 0 0)),.d (.v (.slice none 0 0)),.d (.v (.slice none 0 0)),.d (.v (.slice none 0 0))],.rw 24 2 (procs f.owned.view.members),.rw 22 1 (ae f.owned.view.ao),.rw 111 1 (streams f.owned.streams),.rw 22 1 (ae (cb f.owned u i)),.bx 124 [.u f.owned.view.id.round,.z f.owned.view.id.server.node,.u f.owned.view.id.server.inc,.sl 2 ((procs f.owned.view.members).length),.sl 3 ((ae f.owned.view.ao).length),.sl 4 ((aQ f.owned.streams).length),.sl 5 ((ae f.owned.az).length)],.rw 22 1 (ae (dZ u f.owned.streams.length)),.rw 94 4 (dK (bR f.owned u i++bW bQ aK bc (min k (br aK u i)-bc))++[[.z bQ.node,.u bQ.inc,.u b4.n,.em 5 1 (aj b4.body)]]),.bx 111 [.d (.ro 2 (aO aK))]]) tk tq hK [(12,[(0,.b true)]),(13,[(0,.ix (k) [.u b4.n,.ro 1 (aj b4.body)])]),(14,[(6,.n (i)),(7,.ix 0 [.u bc]),(8,.b true),(13,.b true)]),(15,[(4,.call [.ag [.u f.owned.view.id.round,.z f.owned.view.id.server.node,.u f.owned.view.id.server.inc,.d (.ro 2 (procs f.owned.view.members)),.d (.ro 1 (ae f.owned.view.ao)),.d (.ro 1 (streams f.owned.streams)),.d (.ro 1 (ae (cb f.owned u i)))],.n i,.ag [.u b4.n,.d (.ro 1 (aj b4.body))]] (.ag [.z bQ.node,.u bQ.inc,.u b4.n,.em 5 1 (aj b4.body)]))]),(16,[(0,.z (((k+1:Nat):Int)))])] 2000 [0,1,2,3,4,5,6,7,8,9] [1,4,6,7,26,27,28,8,9,10,11,45,46,47] r (by kernel_rfl) (U h2 (U (aJ ((k:Nat):Int)) (U (df cG) (U (aJ ((i:Nat):Int)) (U u3 (U u4 (U u5 (U h3 (U h4 (U (FW { f.owned with az:=cb f.owned u i } i b4 (by show i<f.owned.view.members.length;omega) (by omega) oe) (U ((by first | exact lV _ | exact de.two _ _ | exact de.msg _ _ _ _ _):de (.ag [.z bQ.node,.u bQ.inc,.u b4.n,.em 5 1 (aj b4.body)])) (U (bk (.u f.owned.view.id.round)) (U (bk (.z f.owned.view.id.server.node)) (U (bk (.u f.owned.view.id.server.inc)) (U (b7 (2)) (U (b7 ((procs f.owned.view.members).length)) (U ((by first | exact mP _ | (simp [b8,bd,ay.row];done) | (simp [b8,bd,ay.row])):bO (procs f.owned.view.members)=procs f.owned.view.members) (U (b7 (1)) (U (b7 ((ae f.owned.view.ao).length)) (U ((by first | exact mP _ | (simp [b8,bd,ay.row];done) | (simp [b8,bd,ay.row])):bO (ae f.owned.view.ao)=ae f.owned.view.ao) (U (b7 (1)) (U ((by simp<;>omega):((aQ f.owned.streams).length)=(streams f.owned.streams).length) (U ((by first | exact mP _ | (simp [b8,bd,ay.row];done) | (simp [b8,bd,ay.row])):bO (streams f.owned.streams)=streams f.owned.streams) (U (b7 (1)) (U ((by simp<;>omega):((ae f.owned.az).length)=(ae (cb f.owned u i)).length) (U ((by first | exact mP _ | (simp [b8,bd,ay.row];done) | (simp [b8,bd,ay.row])):bO (ae (cb f.owned u i))=ae (cb f.owned u i)) (U (bk (.n i)) (U (bk (.u b4.n)) (U (bk (.ro 1 (aj b4.body))) (U (b7 ((aj b4.body).length)) (U ((by simp<;>omega):((bR f.owned u i++bW bQ aK bc (min k (br aK u i)-bc)).length)=(dK (bR f.owned u i++bW bQ aK bc (min k (br aK u i)-bc)):List (List DV)).length) (U ((by simp<;>omega):(1)=([[.z bQ.node,.u bQ.inc,.u b4.n,.em 5 1 (aj b4.body)]]:List (List DV)).length) (U ((by first | omega | (simp [cU];done) | (simp [cU,n6];omega)):(2*(((bR f.owned u i++bW bQ aK bc (min k (br aK u i)-bc)).length)+(1))+192)*48≤281474976710656) (U ((by first | omega | (simp [cU];done) | (simp [cU,n6];omega)):((bR f.owned u i++bW bQ aK bc (min k (br aK u i)-bc)).length)+(1)<4611686018427387904) (U ((by simp [bY,AV.one,cD,aj]):bY ([[.z bQ.node,.u bQ.inc,.u b4.n,.em 5 1 (aj b4.body)]])) (U ((wi (by omega)):IntKind.i64.wrap ((((k:Nat):Int):Int)+1)=((k+1:Nat):Int)) trivial)))))))))))))))))))))))))))))))))))) fun ac wd r=>fP (by omega) ac wd ⟨by omega,r.cast (by first | rw [jj gd dG cG (by omega)] | (rw [fL gd dG cG (by omega) (by omega)];simp;done) | (rw [fL gd dG cG (by omega) (by omega)];simp;omega)) (by first | rw [jj gd dG cG (by omega)] | rw [fL gd dG cG (by omega) (by omega),← List.append_assoc,pH])⟩
  | true=>
   have bM:=of_decide_eq_true h1
   refine bD (todo':=hd Tryz.f44 1) (E':=[(1,.d (.ro 1 (ae u))),(4,.pt 1 0),(6,.pt 6 0),(7,.sl 7 (f.owned.streams.length)),(26,.sl 4 ((aQ f.owned.streams).length)),(27,.n f.owned.streams.length),(28,.n i),(8,.sl 8 ((bR f.owned u i).length)),(9,.n i),(10,.pt 9 0),(11,.u (min (b3 aK) (kY u i))),(45,.d (.ro 2 (aO aK))),(46,.n aK.length),(47,.z 0)]) (M':=[.bx 37 [.u f.view.id.round,.z f.view.id.server.node,.u f.view.id.server.inc,.d (.ro 2 (procs f.view.members)),.d (.ro 1 (ae f.view.ao)),.d (.ro 1 (streams f.streams)),.d (.ro 1 (ae f.az))],.bx 37 [.d (.v (.int .u64 0)),.z 0,.d (.v (.int .u64 0)),.d (.v (.slice none 0 0)),.d (.v (.slice none 0 0)),.d (.v (.slice none 0 0)),.d (.v (.slice none 0 0))],.rw 24 2 (procs f.owned.view.members),.rw 22 1 (ae f.owned.view.ao),.rw 111 1 (streams f.owned.streams),.rw 22 1 (ae (cb f.owned u i)),.bx 124 [.u f.owned.view.id.round,.z f.owned.view.id.server.node,.u f.owned.view.id.server.inc,.sl 2 ((procs f.owned.view.members).length),.sl 3 ((ae f.owned.view.ao).length),.sl 4 ((aQ f.owned.streams).length),.sl 5 ((ae f.owned.az).length)],.rw 22 1 (ae (dZ u f.owned.streams.length)),.rw 94 4 (dK (bR f.owned u i)),.bx 111 [.d (.ro 2 (aO aK))]]) tk tq hK [(6,[(0,.b true)]),(7,[(1,.n (i)),(2,.ix 0 [.ro 2 (aO aK)])]),(8,[(1,.aM (.u (b3 aK)))]),(9,[(1,.z (((u.length:Nat):Int))),(2,.b true)]),(10,[(3,.n (i)),(4,.ix 0 [.u (kY u i)]),(5,.z (((min (b3 aK) (kY u i):Nat):Int)))]),(11,[(2,.z (((aK.length:Nat):Int)))])] 2000 [0,1,2,3,4,5,6,7,8,9] [1,4,6,7,26,27,28,8,9,10,11,45,46,47] r (by kernel_rfl) (U h0 (U (aJ ((i:Nat):Int)) (U u0 (U u1 (U (jd gW) (U (yp gd (by omega)) (U u2 (U h1 (U (aJ ((i:Nat):Int)) (U ((by first | omega | (simp;omega) | (simp [jg];omega)):(i)<(f.owned.streams.length)) (U ((by simp<;>omega):(f.owned.streams.length)≤(ae (dZ u f.owned.streams.length)).length) (U (eH (Ql (by omega)):(ae (dZ u f.owned.streams.length))[i]?=some [.u (kY u i)]) (U ((by omega):(min (((b3 aK:Nat):Int)) (((kY u i:Nat):Int)):Int)=((min (b3 aK) (kY u i):Nat):Int)) (U ((by simp [aj]):(((aO aK).length:Nat):Int)=((aK.length:Nat):Int)) trivial)))))))))))))) fun ac wd r=>?_
   refine aG.rounds (Φ:=fun (k:Nat) ac wd=>(k≤aK.length)∧dj [] w0 K 91 [(1,.d (.ro 1 (ae u))),(4,.pt 1 0),(6,.pt 6 0),(7,.sl 7 (f.owned.streams.length)),(26,.sl 4 ((aQ f.owned.streams).length)),(27,.n f.owned.streams.length),(28,.n i),(8,.sl 8 ((bR f.owned u i++bW bQ aK bc (min k (br aK u i)-bc)).length)),(9,.n i),(10,.pt 9 0),(11,.u (br aK u i)),(45,.d (.ro 2 (aO aK))),(46,.n aK.length),(47,.n k)] [.bx 37 [.u f.view.id.round,.z f.view.id.server.node,.u f.view.id.server.inc,.d (.ro 2 (procs f.view.members)),.d (.ro 1 (ae f.view.ao)),.d (.ro 1 (streams f.streams)),.d (.ro 1 (ae f.az))],.bx 37 [.d (.v (.int .u64 0)),.z 0,.d (.v (.int .u64 0)),.d (.v (.slice none 0 0)),.d (.v (.slice none 0 0)),.d (.v (.slice none 0 0)),.d (.v (.slice none 0 0))],.rw 24 2 (procs f.owned.view.members),.rw 22 1 (ae f.owned.view.ao),.rw 111 1 (streams f.owned.streams),.rw 22 1 (ae (cb f.owned u i)),.bx 124 [.u f.owned.view.id.round,.z f.owned.view.id.server.node,.u f.owned.view.id.server.inc,.sl 2 ((procs f.owned.view.members).length),.sl 3 ((ae f.owned.view.ao).length),.sl 4 ((aQ f.owned.streams).length),.sl 5 ((ae f.owned.az).length)],.rw 22 1 (ae (dZ u f.owned.streams.length)),.rw 94 4 (dK (bR f.owned u i++bW bQ aK bc (min k (br aK u i)-bc))),.bx 111 [.d (.ro 2 (aO aK))]] ac wd) (aK.length) ?_ (Nat.zero_le _) ⟨by omega,(r).cast (by unfold br;first | (rw [if_pos (by omega)];simp [bW];done) | (rw [if_neg (by omega)];simp [bW])) (by simp [bW])⟩
   clear r
   rintro k fp fP ac wd ⟨cN,r⟩
   cases h5:(decide ((((k:Nat):Int):Int)<((aK.length:Nat):Int))) with
   | false=>
    have mH:=of_decide_eq_false h5
    have sO:=((by first | omega | (simp;omega) | (simp [jg];omega)):(i)<((ae f.owned.az).length))
    have sP:=((by simp<;>omega):((ae f.owned.az).length)≤(ae (cb f.owned u i)).length)
    have sR:=(eH (p8 iH (by omega)):(ae (cb f.owned u i))[i]?=some [.u bc])
    have Ch:=((by omega):(max (((bc:Nat):Int)) (((br aK u i:Nat):Int)):Int)=((max (bc) (br aK u i):Nat):Int))
    refine lI (todo':=aft Tryz.f44 17) (E':=[(1,.d (.ro 1 (ae u))),(4,.pt 1 0),(6,.pt 6 0),(7,.sl 7 (f.owned.streams.length)),(26,.sl 4 ((aQ f.owned.streams).length)),(27,.n f.owned.streams.length),(28,.n i),(8,.sl 8 ((bR f.owned u i++bW bQ aK bc (min k (br aK u i)-bc)).length)),(9,.n i),(10,.pt 9 0),(11,.u (br aK u i)),(45,.d (.ro 2 (aO aK))),(46,.n aK.length),(47,.n k),(48,.d (.v (.bool false))),(74,.pt 6 0),(75,.pt 6 6),(76,.sl 5 ((ae f.owned.az).length)),(77,.n i),(78,.pt 6 0),(79,.pt 6 6),(80,.sl 5 ((ae f.owned.az).length)),(81,.n i),(84,.u (br aK u i)),(82,.ep 5 1 (i) 0),(83,.u bc),(85,.u (max (bc) (br aK u i))),(86,.ep 5 1 (i) 0)]) (M':=[.bx 37 [.u f.view.id.round,.z f.view.id.server.node,.u f.view.id.server.inc,.d (.ro 2 (procs f.view.members)),.d (.ro 1 (ae f.view.ao)),.d (.ro 1 (streams f.streams)),.d (.ro 1 (ae f.az))],.bx 37 [.d (.v (.int .u64 0)),.z 0,.d (.v (.int .u64 0)),.d (.v (.slice none 0 0)),.d (.v (.slice none 0 0)),.d (.v (.slice none 0 0)),.d (.v (.slice none 0 0))],.rw 24 2 (procs f.owned.view.members),.rw 22 1 (ae f.owned.view.ao),.rw 111 1 (streams f.owned.streams),.rw 22 1 (List.set (ae (cb f.owned u i)) (i) [.u (max (bc) (br aK u i))]),.bx 124 [.u f.owned.view.id.round,.z f.owned.view.id.server.node,.u f.owned.view.id.server.inc,.sl 2 ((procs f.owned.view.members).length),.sl 3 ((ae f.owned.view.ao).length),.sl 4 ((aQ f.owned.streams).length),.sl 5 ((ae f.owned.az).length)],.rw 22 1 (ae (dZ u f.owned.streams.length)),.rw 94 4 (dK (bR f.owned u i++bW bQ aK bc (min k (br aK u i)-bc))),.bx 111 [.d (.ro 2 (aO aK))]]) tk tq hK [(12,[(0,.b false)]),(17,[(8,.n (i)),(9,.ix 0 [.u bc]),(11,.z (((max (bc) (br aK u i):Nat):Int))),(12,.n (i)),(13,.ix 0 [.u bc])])] 5 1 [8,9,12] [[0,1,2,3,4,5,6,7,8,9]] [1,4,6,7,26,27,28,8,9,10,11,45,46,47,48,74,75,76,77,78,79,80,81,84,82,83,85,86] r (by kernel_rfl) (U (U h5 (U (aJ ((i:Nat):Int)) (U sO (U sP (U sR (U Ch (U (aJ ((i:Nat):Int)) (U sO (U sP (U sR trivial)))))))))) trivial) fun ac wd r=>?_
    exact bD (todo':=hd Tryz.f44 0) (E':=[(1,.d (.ro 1 (ae u))),(4,.pt 1 0),(6,.pt 6 0),(7,.sl 7 (f.owned.streams.length)),(26,.sl 4 ((aQ f.owned.streams).length)),(27,.n f.owned.streams.length),(28,.n (i+1)),(8,.sl 8 ((bR f.owned u i++bW bQ aK bc (min k (br aK u i)-bc)).length))]) (M':=[.bx 37 [.u f.view.id.round,.z f.view.id.server.node,.u f.view.id.server.inc,.d (.ro 2 (procs f.view.members)),.d (.ro 1 (ae f.view.ao)),.d (.ro 1 (streams f.streams)),.d (.ro 1 (ae f.az))],.bx 37 [.d (.v (.int .u64 0)),.z 0,.d (.v (.int .u64 0)),.d (.v (.slice none 0 0)),.d (.v (.slice none 0 0)),.d (.v (.slice none 0 0)),.d (.v (.slice none 0 0))],.rw 24 2 (procs f.owned.view.members),.rw 22 1 (ae f.owned.view.ao),.rw 111 1 (streams f.owned.streams),.rw 22 1 (List.set (ae (cb f.owned u i)) (i) [.u (max (bc) (br aK u i))]),.bx 124 [.u f.owned.view.id.round,.z f.owned.view.id.server.node,.u f.owned.view.id.server.inc,.sl 2 ((procs f.owned.view.members).length),.sl 3 ((ae f.owned.view.ao).length),.sl 4 ((aQ f.owned.streams).length),.sl 5 ((ae f.owned.az).length)],.rw 22 1 (ae (dZ u f.owned.streams.length)),.rw 94 4 (dK (bR f.owned u i++bW bQ aK bc (min k (br aK u i)-bc)))]) tk tq hK [(18,[(0,.z (((i+1:Nat):Int)))])] 2000 [0,1,2,3,4,5,6,7,8] [1,4,6,7,26,27,28,8] r (by kernel_rfl) (U ((wi (by omega)):IntKind.i64.wrap ((((i:Nat):Int):Int)+1)=((i+1:Nat):Int)) trivial) fun ac wd r=>b9 (by omega) ac wd ⟨by omega,r.cast (by have e:min k (br aK u i)=br aK u i:=(by omega);rw [uH gW oe iH,e]) (by have e:min k (br aK u i)=br aK u i:=(by omega);rw [uH gW oe iH,FY gW iH,e,GX])⟩
   | true=>
    have mH:=of_decide_eq_true h5
    obtain ⟨b4,cG⟩:∃ x,aK[k]?=some x:=⟨_,List.getElem?_eq_getElem (by omega)⟩
    have LA:=rZ.at cG
    have u6:=((by first | omega | (simp;omega) | (simp [jg];omega)):(i)<((ae f.owned.az).length))
    have u7:=((by simp<;>omega):((ae f.owned.az).length)≤(ae (cb f.owned u i)).length)
    have u8:=(eH (p8 iH (by omega)):(ae (cb f.owned u i))[i]?=some [.u bc])
    cases h6:(decide ((((bc:Nat):Int):Int)<((b4.n:Nat):Int))) with
    | false=>
     have lj:=of_decide_eq_false h6
     exact bD (todo':=hd Tryz.f44 1) (E':=[(1,.d (.ro 1 (ae u))),(4,.pt 1 0),(6,.pt 6 0),(7,.sl 7 (f.owned.streams.length)),(26,.sl 4 ((aQ f.owned.streams).length)),(27,.n f.owned.streams.length),(28,.n i),(8,.sl 8 ((bR f.owned u i++bW bQ aK bc (min k (br aK u i)-bc)).length)),(9,.n i),(10,.pt 9 0),(11,.u (br aK u i)),(45,.d (.ro 2 (aO aK))),(46,.n aK.length),(47,.n (k+1))]) (M':=[.bx 37 [.u f.view.id.round,.z f.view.id.server.node,.u f.view.id.server.inc,.d (.ro 2 (procs f.view.members)),.d (.ro 1 (ae f.view.ao)),.d (.ro 1 (streams f.streams)),.d (.ro 1 (ae f.az))],.bx 37 [.d (.v (.int .u64 0)),.z 0,.d (.v (.int .u64 0)),.d (.v (.slice none 0 0)),.d (.v (.slice none 0 0)),.d (.v (.slice none 0 0)),.d (.v (.slice none 0 0))],.rw 24 2 (procs f.owned.view.members),.rw 22 1 (ae f.owned.view.ao),.rw 111 1 (streams f.owned.streams),.rw 22 1 (ae (cb f.owned u i)),.bx 124 [.u f.owned.view.id.round,.z f.owned.view.id.server.node,.u f.owned.view.id.server.inc,.sl 2 ((procs f.owned.view.members).length),.sl 3 ((ae f.owned.view.ao).length),.sl 4 ((aQ f.owned.streams).length),.sl 5 ((ae f.owned.az).length)],.rw 22 1 (ae (dZ u f.owned.streams.length)),.rw 94 4 (dK (bR f.owned u i++bW bQ aK bc (min k (br aK u i)-bc))),.bx 111 [.d (.ro 2 (aO aK))]]) tk tq hK [(12,[(0,.b true)]),(13,[(0,.ix (k) [.u b4.n,.ro 1 (aj b4.body)])]),(14,[(6,.n (i)),(7,.ix 0 [.u bc]),(8,.b false)]),(16,[(0,.z (((k+1:Nat):Int)))])] 2000 [0,1,2,3,4,5,6,7,8,9] [1,4,6,7,26,27,28,8,9,10,11,45,46,47] r (by kernel_rfl) (U h5 (U (aJ ((k:Nat):Int)) (U (df cG) (U (aJ ((i:Nat):Int)) (U u6 (U u7 (U u8 (U h6 (U ((wi (by omega)):IntKind.i64.wrap ((((k:Nat):Int):Int)+1)=((k+1:Nat):Int)) trivial))))))))) fun ac wd r=>fP (by omega) ac wd ⟨by omega,r.cast (by first | rw [jj gd dG cG (by omega)] | (rw [fL gd dG cG (by omega) (by omega)];simp;done) | (rw [fL gd dG cG (by omega) (by omega)];simp;omega)) (by first | rw [jj gd dG cG (by omega)] | rw [fL gd dG cG (by omega) (by omega),← List.append_assoc,pH])⟩
    | true=>
     have lj:=of_decide_eq_true h6
     cases h7:(decide ((((b4.n:Nat):Int):Int)≤((br aK u i:Nat):Int))) with
     | false=>
      have ln:=of_decide_eq_false h7
      exact bD (todo':=hd Tryz.f44 1) (E':=[(1,.d (.ro 1 (ae u))),(4,.pt 1 0),(6,.pt 6 0),(7,.sl 7 (f.owned.streams.length)),(26,.sl 4 ((aQ f.owned.streams).length)),(27,.n f.owned.streams.length),(28,.n i),(8,.sl 8 ((bR f.owned u i++bW bQ aK bc (min k (br aK u i)-bc)).length)),(9,.n i),(10,.pt 9 0),(11,.u (br aK u i)),(45,.d (.ro 2 (aO aK))),(46,.n aK.length),(47,.n (k+1))]) (M':=[.bx 37 [.u f.view.id.round,.z f.view.id.server.node,.u f.view.id.server.inc,.d (.ro 2 (procs f.view.members)),.d (.ro 1 (ae f.view.ao)),.d (.ro 1 (streams f.streams)),.d (.ro 1 (ae f.az))],.bx 37 [.d (.v (.int .u64 0)),.z 0,.d (.v (.int .u64 0)),.d (.v (.slice none 0 0)),.d (.v (.slice none 0 0)),.d (.v (.slice none 0 0)),.d (.v (.slice none 0 0))],.rw 24 2 (procs f.owned.view.members),.rw 22 1 (ae f.owned.view.ao),.rw 111 1 (streams f.owned.streams),.rw 22 1 (ae (cb f.owned u i)),.bx 124 [.u f.owned.view.id.round,.z f.owned.view.id.server.node,.u f.owned.view.id.server.inc,.sl 2 ((procs f.owned.view.members).length),.sl 3 ((ae f.owned.view.ao).length),.sl 4 ((aQ f.owned.streams).length),.sl 5 ((ae f.owned.az).length)],.rw 22 1 (ae (dZ u f.owned.streams.length)),.rw 94 4 (dK (bR f.owned u i++bW bQ aK bc (min k (br aK u i)-bc))),.bx 111 [.d (.ro 2 (aO aK))]]) tk tq hK [(12,[(0,.b true)]),(13,[(0,.ix (k) [.u b4.n,.ro 1 (aj b4.body)])]),(14,[(6,.n (i)),(7,.ix 0 [.u bc]),(8,.b true),(13,.b false)]),(16,[(0,.z (((k+1:Nat):Int)))])] 2000 [0,1,2,3,4,5,6,7,8,9] [1,4,6,7,26,27,28,8,9,10,11,45,46,47] r (by kernel_rfl) (U h5 (U (aJ ((k:Nat):Int)) (U (df cG) (U (aJ ((i:Nat):Int)) (U u6 (U u7 (U u8 (U h6 (U h7 (U ((wi (by omega)):IntKind.i64.wrap ((((k:Nat):Int):Int)+1)=((k+1:Nat):Int)) trivial)))))))))) fun ac wd r=>fP (by omega) ac wd ⟨by omega,r.cast (by first | rw [jj gd dG cG (by omega)] | (rw [fL gd dG cG (by omega) (by omega)];simp;done) | (rw [fL gd dG cG (by omega) (by omega)];simp;omega)) (by first | rw [jj gd dG cG (by omega)] | rw [fL gd dG cG (by omega) (by omega),← List.append_assoc,pH])⟩
     | true=>
      have ln:=of_decide_eq_true h7
      exact bD (todo':=hd Tryz.f44 1) (E':=[(1,.d (.ro 1 (ae u))),(4,.pt 1 0),(6,.pt 6 0),(7,.sl 7 (f.owned.streams.length)),(26,.sl 4 ((aQ f.owned.streams).length)),(27,.n f.owned.streams.length),(28,.n i),(8,.sl 8 ((bR f.owned u i++bW bQ aK bc (min k (br aK u i)-bc)).length+(1))),(9,.n i),(10,.pt 9 0),(11,.u (br aK u i)),(45,.d (.ro 2 (aO aK))),(46,.n aK.length),(47,.n (k+1))]) (M':=[.bx 37 [.u f.view.id.round,.z f.view.id.server.node,.u f.view.id.server.inc,.d (.ro 2 (procs f.view.members)),.d (.ro 1 (ae f.view.ao)),.d (.ro 1 (streams f.streams)),.d (.ro 1 (ae f.az))],.bx 37 [.d (.v (.int .u64 0)),.z 0,.d (.v (.int .u64 0)),.d (.v (.slice none 0 0)),.d (.v (.slice none 0 0)),.d (.v (.slice none 0 0)),.d (.v (.slice none 0 0))],.rw 24 2 (procs f.owned.view.members),.rw 22 1 (ae f.owned.view.ao),.rw 111 1 (streams f.owned.streams),.rw 22 1 (ae (cb f.owned u i)),.bx 124 [.u f.owned.view.id.round,.z f.owned.view.id.server.node,.u f.owned.view.id.server.inc,.sl 2 ((procs f.owned.view.members).length),.sl 3 ((ae f.owned.view.ao).length),.sl 4 ((aQ f.owned.streams).length),.sl 5 ((ae f.owned.az).length)],.rw 22 1 (ae (dZ u f.owned.streams.length)),.rw 94 4 (dK (bR f.owned u i++bW bQ aK bc (min k (br aK u i)-bc))++[[.z bQ.node,.u bQ.inc,.u b4.n,.em 5 1 (aj b4.body)]]),.bx 111 [.d (.ro 2 (aO aK))]]) tk tq hK [(12,[(0,.b true)]),(13,[(0,.ix (k) [.u b4.n,.ro 1 (aj b4.body)])]),(14,[(6,.n (i)),(7,.ix 0 [.u bc]),(8,.b true),(13,.b true)]),(15,[(4,.call [.ag [.u f.owned.view.id.round,.z f.owned.view.id.server.node,.u f.owned.view.id.server.inc,.d (.ro 2 (procs f.owned.view.members)),.d (.ro 1 (ae f.owned.view.ao)),.d (.ro 1 (streams f.owned.streams)),.d (.ro 1 (ae (cb f.owned u i)))],.n i,.ag [.u b4.n,.d (.ro 1 (aj b4.body))]] (.ag [.z bQ.node,.u bQ.inc,.u b4.n,.em 5 1 (aj b4.body)]))]),(16,[(0,.z (((k+1:Nat):Int)))])] 2000 [0,1,2,3,4,5,6,7,8,9] [1,4,6,7,26,27,28,8,9,10,11,45,46,47] r (by kernel_rfl) (U h5 (U (aJ ((k:Nat):Int)) (U (df cG) (U (aJ ((i:Nat):Int)) (U u6 (U u7 (U u8 (U h6 (U h7 (U (FW { f.owned with az:=cb f.owned u i } i b4 (by show i<f.owned.view.members.length;omega) (by omega) oe) (U ((by first | exact lV _ | exact de.two _ _ | exact de.msg _ _ _ _ _):de (.ag [.z bQ.node,.u bQ.inc,.u b4.n,.em 5 1 (aj b4.body)])) (U (bk (.u f.owned.view.id.round)) (U (bk (.z f.owned.view.id.server.node)) (U (bk (.u f.owned.view.id.server.inc)) (U (b7 (2)) (U (b7 ((procs f.owned.view.members).length)) (U ((by first | exact mP _ | (simp [b8,bd,ay.row];done) | (simp [b8,bd,ay.row])):bO (procs f.owned.view.members)=procs f.owned.view.members) (U (b7 (1)) (U (b7 ((ae f.owned.view.ao).length)) (U ((by first | exact mP _ | (simp [b8,bd,ay.row];done) | (simp [b8,bd,ay.row])):bO (ae f.owned.view.ao)=ae f.owned.view.ao) (U (b7 (1)) (U ((by simp<;>omega):((aQ f.owned.streams).length)=(streams f.owned.streams).length) (U ((by first | exact mP _ | (simp [b8,bd,ay.row];done) | (simp [b8,bd,ay.row])):bO (streams f.owned.streams)=streams f.owned.streams) (U (b7 (1)) (U ((by simp<;>omega):((ae f.owned.az).length)=(ae (cb f.owned u i)).length) (U ((by first | exact mP _ | (simp [b8,bd,ay.row];done) | (simp [b8,bd,ay.row])):bO (ae (cb f.owned u i))=ae (cb f.owned u i)) (U (bk (.n i)) (U (bk (.u b4.n)) (U (bk (.ro 1 (aj b4.body))) (U (b7 ((aj b4.body).length)) (U ((by simp<;>omega):((bR f.owned u i++bW bQ aK bc (min k (br aK u i)-bc)).length)=(dK (bR f.owned u i++bW bQ aK bc (min k (br aK u i)-bc)):List (List DV)).length) (U ((by simp<;>omega):(1)=([[.z bQ.node,.u bQ.inc,.u b4.n,.em 5 1 (aj b4.body)]]:List (List DV)).length) (U ((by first | omega | (simp [cU];done) | (simp [cU,n6];omega)):(2*(((bR f.owned u i++bW bQ aK bc (min k (br aK u i)-bc)).length)+(1))+192)*48≤281474976710656) (U ((by first | omega | (simp [cU];done) | (simp [cU,n6];omega)):((bR f.owned u i++bW bQ aK bc (min k (br aK u i)-bc)).length)+(1)<4611686018427387904) (U ((by simp [bY,AV.one,cD,aj]):bY ([[.z bQ.node,.u bQ.inc,.u b4.n,.em 5 1 (aj b4.body)]])) (U ((wi (by omega)):IntKind.i64.wrap ((((k:Nat):Int):Int)+1)=((k+1:Nat):Int)) trivial)))))))))))))))))))))))))))))))))))) fun ac wd r=>fP (by omega) ac wd ⟨by omega,r.cast (by first | rw [jj gd dG cG (by omega)] | (rw [fL gd dG cG (by omega) (by omega)];simp;done) | (rw [fL gd dG cG (by omega) (by omega)];simp;omega)) (by first | rw [jj gd dG cG (by omega)] | rw [fL gd dG cG (by omega) (by omega),← List.append_assoc,pH])⟩
end Go.Proofs.YtgkdnnmcjjabdaaGreat
