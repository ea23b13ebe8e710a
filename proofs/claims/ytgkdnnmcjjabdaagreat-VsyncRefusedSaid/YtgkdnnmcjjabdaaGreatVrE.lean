/-
  vsyncRefused_holds, part 5 of 7: merged by program from the texts that it needs.
-/
import Derived.Test.YtgkdnnmcjjabdaaGreatVrC
import Derived.Test.YtgkdnnmcjjabdaaGreatVrD
set_option linter.unusedSimpArgs false
set_option linter.unusedVariables false
set_option linter.unnecessarySimpa false
namespace Go.Proofs.YtgkdnnmcjjabdaaGreat
open Go.RowKit
abbrev u8 (n:Nat):AV:=.d (.v (.int .u8 (.ofNat n)))
abbrev u32 (n:Nat):AV:=.d (.v (.int .u32 (.ofNat n)))
abbrev u64 (n:Nat):AV:=.d (.v (.int .u64 (.ofNat n)))
abbrev i64 (n:Nat):AV:=.d (.v (.int .i64 (.ofNat n)))
abbrev nS:AV:=.d (.v (.slice none 0 0))
abbrev bT:AV:=.d (.v (.bool true))
abbrev bF:AV:=.d (.v (.bool false))
abbrev sN (u k o n:Nat):AV:=.sf u k o n none
abbrev sQ (u k o n q:Nat):AV:=.sf u k o n (some q)
abbrev p0 (u:Nat):AV:=.pt u 0
def Part.cmp (e:Part):Option Out→Bool
 | some ⟨[],x,M',_,[],none⟩=>im x e.x&&jP M' e.M'
 | _=>false
theorem Part.cD {P:Program} {T:aD} (hT:aN P T=true) {KL:List TypeId} (hL:fc P KL) (hm:P.follows .mixedOrders=true) {X:bW} (hX:dh P X) {fuel d:Nat} {e:Part} (h:e.cmp (uW P T KL X fuel d (.fn e.f) e.args e.M (.n 0))=true):e.Ok P:=by
 generalize ho:uW P T KL X fuel d (.fn e.f) e.args e.M (.n 0)=o at h
 unfold Part.cmp at h
 split at h
 ·rename_i x M' tc
  obtain ⟨h1,h2⟩:=Bool.and_eq_true_iff.1 h
  obtain rfl:=r7 h1
  obtain rfl:=rM h2
  exact Part.of hT hL hm hX ho
 ·cases h
def a7 (P:Program) (l:List Part):Prop:=∀ e ∈ l,e.Ok P
theorem a7.nil {P:Program}:a7 P []:=fun _ h=>by cases h
theorem a7.cons {P:Program} {e:Part} {l:List Part} (h:e.Ok P) (k:a7 P l):a7 P (e::l):=List.forall_mem_cons.2 ⟨h,k⟩
def k0:af:=(.fl 24 2 1 [(i64 5),(u64 1)])
def k1:af:=(.fl 22 1 1 [(u64 0)])
def k2:af:=(.fl 111 1 1 [nS])
def k3:af:=(.fl 111 1 1 [(sN 7 2 0 1)])
def k4:af:=(.fl 113 2 1 [(u64 1),(sN 8 1 0 1)])
def k5:af:=(.fl 5 1 1 [(u8 97)])
def k6:af:=(.bx 68 [(i64 5),(u64 1),(i64 0),(u64 0),(i64 5),(u64 1),(sN 1 2 0 1),(sN 2 1 0 1),(sQ 3 1 0 1 1),(sQ 6 1 0 1 1),(u64 1),(u64 0),bF,nS,(i64 0),(i64 0),(u64 0),(u64 0),(i64 0),(u64 0),(u64 0),nS,(u64 0),nS,bF,nS,bF,(u64 0),(i64 0),(u64 0),nS,nS,nS,(u64 0),(i64 0),(u64 0),nS,nS,nS,nS,(i64 0),(i64 0),(u64 0),(u64 0),(i64 0),(u64 0),(u64 0),nS,(u64 0),nS,bF,nS,(sN 7 13 0 1)])
def k7:af:=(.fl 111 1 1 [(sN 4 2 0 1)])
def k8:af:=(.fl 113 2 1 [(u64 1),(sN 5 1 0 1)])
def k9:af:=(.fl 58 13 1 [(i64 1),(i64 5),(u64 1),(i64 0),(u64 0),(u64 1),(sN 8 1 0 1),(u64 0),(i64 0),(u64 0),nS,nS,nS])
def fa:af:=(.fl 111 1 1 [(sN 3 2 0 1)])
def eL:af:=(.fl 113 2 1 [(u64 1),(sN 4 1 0 1)])
def Kc:af:=(.fl 113 2 1 [(u64 1),(sN 10 1 0 1)])
def aY:af:=(.fl 22 1 1 [(u64 1)])
def Kd:af:=(.fl 94 4 1 [(i64 5),(u64 1),(u64 1),(sN 13 1 0 1)])
def mj:af:=(.fl 111 1 1 [(sN 10 2 0 1)])
def ml:af:=(.fl 113 2 1 [(u64 1),(sN 11 1 0 1)])
def bk:af:=(.fl 24 2 2 [(i64 5),(u64 1),(i64 6),(u64 1)])
def DW:af:=(.fl 111 1 1 [(sN 12 2 0 1)])
def DX:af:=(.fl 113 2 1 [(u64 1),(sN 13 1 0 1)])
def bY:af:=(.fl 22 1 2 [(u64 1),(u64 1)])
def gH:af:=(.fl 111 1 2 [nS,nS])
def eC:af:=(.fl 22 1 2 [(u64 0),(u64 0)])
def eM:af:=(.fl 5 1 1 [(u8 98)])
def Ke:af:=(.bx 68 [(i64 5),(u64 1),(i64 0),(u64 1),(i64 1),(u64 1),(sN 1 2 0 2),(sN 2 1 0 2),(sQ 3 1 0 2 2),(sQ 6 1 0 2 2),(u64 1),(u64 1),bF,nS,(i64 0),(i64 0),(u64 0),(u64 0),(i64 0),(u64 0),(u64 0),nS,(u64 0),nS,bF,nS,bF,(u64 0),(i64 0),(u64 0),nS,nS,nS,(u64 0),(i64 5),(u64 1),(sN 7 2 0 1),(sN 8 1 0 1),(sN 9 1 0 1),(sN 12 1 0 1),(i64 8),(i64 5),(u64 1),(u64 0),(i64 5),(u64 1),(u64 0),nS,(u64 1),(sN 13 1 0 1),bF,nS,(sN 14 13 0 1)])
def xR:af:=(.fl 111 1 2 [(sN 4 2 0 1),nS])
def Kf:af:=(.fl 58 13 1 [(i64 1),(i64 5),(u64 1),(i64 0),(u64 0),(u64 1),(sN 15 1 0 1),(u64 0),(i64 0),(u64 0),nS,nS,nS])
def Kg:af:=(.fl 111 1 2 [(sN 3 2 0 1),nS])
def DY:af:=(.fl 22 1 2 [(u64 1),(u64 0)])
def xS:af:=(.fl 61 13 1 [(i64 6),(u64 1),(i64 8),(i64 5),(u64 1),(u64 0),(i64 5),(u64 1),(u64 0),nS,(u64 1),(sN 10 1 0 1),bF])
def pd:af:=(.fl 58 13 1 [(i64 4),(i64 5),(u64 1),(i64 0),(u64 0),(u64 0),nS,(u64 0),(i64 0),(u64 0),nS,nS,nS])
def Kh:af:=(.fl 111 1 1 [(sN 15 2 0 1)])
def Ki:af:=(.fl 113 2 1 [(u64 1),(sN 16 1 0 1)])
def Kj:af:=(.bx 68 [(i64 5),(u64 1),(i64 2),(u64 0),(i64 5),(u64 1),(sN 1 2 0 1),(sN 2 1 0 1),(sN 3 1 0 1),(sN 6 1 0 1),(u64 1),(u64 1),bT,(sN 7 2 0 2),(i64 8),(i64 5),(u64 1),(u64 0),(i64 5),(u64 1),(u64 0),nS,(u64 1),(sN 8 1 0 1),bF,nS,bT,(u64 1),(i64 1),(u64 1),(sN 9 2 0 2),(sN 10 1 0 2),nS,(u64 0),(i64 0),(u64 0),nS,nS,nS,nS,(i64 0),(i64 0),(u64 0),(u64 0),(i64 0),(u64 0),(u64 0),nS,(u64 0),nS,bF,nS,nS])
def Kk:af:=(.fl 111 1 1 [(sN 8 2 0 1)])
def Kl:af:=(.fl 113 2 1 [(u64 1),(sN 9 1 0 1)])
def Km:af:=(.fl 58 13 1 [(i64 5),(i64 5),(u64 1),(i64 0),(u64 0),(u64 0),nS,(u64 1),(i64 1),(u64 1),(sN 13 2 0 2),(sN 14 1 0 2),(sN 15 2 0 1)])
def Kn:af:=(.fl 61 13 1 [(i64 6),(u64 1),(i64 7),(i64 5),(u64 1),(u64 1),(i64 1),(u64 1),(u64 1),(sN 15 1 0 1),(u64 0),nS,bF])
def Ko:af:=(.bx 68 [(i64 5),(u64 1),(i64 2),(u64 0),(i64 5),(u64 1),(sN 1 2 0 1),(sN 2 1 0 1),(sQ 3 1 0 1 1),(sQ 6 1 0 1 1),(u64 1),(u64 1),bT,(sN 7 2 0 2),(i64 8),(i64 5),(u64 1),(u64 0),(i64 5),(u64 1),(u64 0),nS,(u64 1),(sN 8 1 0 1),bF,nS,bF,(u64 0),(i64 0),(u64 0),nS,nS,nS,(u64 0),(i64 0),(u64 0),nS,nS,nS,nS,(i64 0),(i64 0),(u64 0),(u64 0),(i64 0),(u64 0),(u64 0),nS,(u64 0),nS,bF,(sN 9 13 0 1),(sN 11 13 0 1)])
def Kq:af:=(.fl 58 13 1 [(i64 5),(i64 5),(u64 1),(i64 0),(u64 0),(u64 0),nS,(u64 1),(i64 1),(u64 1),(sN 22 2 0 2),(sN 23 1 0 2),(sN 24 2 0 1)])
def Kr:Part:=⟨14,[(.ag [(u64 0),(i64 5),(u64 1),(sQ 0 2 0 1 1),(sQ 1 1 0 1 1)])],[k0,k1],(.ag [(u64 0),(i64 5),(u64 1),(sN 2 2 0 1),(sN 3 1 0 1),(sQ 4 1 0 1 1),(sQ 5 1 0 1 1)]),[k0,k1,k0,k1,k2,k1]⟩
def Ks:Part:=⟨16,[(.ag [(i64 5),(u64 1),(i64 0),(u64 0),(i64 5),(u64 1),(sN 0 2 0 1),(sN 1 1 0 1),(sQ 2 1 0 1 1),(sQ 3 1 0 1 1),(u64 0),(u64 0),bF,nS,(i64 0),(i64 0),(u64 0),(u64 0),(i64 0),(u64 0),(u64 0),nS,(u64 0),nS,bF,nS,bF,(u64 0),(i64 0),(u64 0),nS,nS,nS,(u64 0),(i64 0),(u64 0),nS,nS,nS,nS,(i64 0),(i64 0),(u64 0),(u64 0),(i64 0),(u64 0),(u64 0),nS,(u64 0),nS,bF])],[k0,k1,k2,k1],(p0 4),[k0,k1,k2,k1,(.bx 68 [(i64 5),(u64 1),(i64 0),(u64 0),(i64 5),(u64 1),(sN 5 2 0 1),(sN 6 1 0 1),(sN 7 1 0 1),(sN 8 1 0 1),(u64 0),(u64 0),bF,nS,(i64 0),(i64 0),(u64 0),(u64 0),(i64 0),(u64 0),(u64 0),nS,(u64 0),nS,bF,nS,bF,(u64 0),(i64 0),(u64 0),nS,nS,nS,(u64 0),(i64 0),(u64 0),nS,nS,nS,nS,(i64 0),(i64 0),(u64 0),(u64 0),(i64 0),(u64 0),(u64 0),nS,(u64 0),nS,bF,nS,nS]),k0,k1,k2,k1]⟩
def Kt:Part:=⟨40,[(.ag [(u64 0),(i64 5),(u64 1),(sN 0 2 0 1),(sN 1 1 0 1),(sN 2 1 0 1),(sN 3 1 0 1)]),(.ag [(i64 5),(u64 1),(u64 1),(.d (.ro 1 [[(.v (.int IntKind.u8 (Int.ofNat 97)))]]))])],[k0,k1,k2,k1],(.tu [(.ag [(u64 0),(i64 5),(u64 1),(sN 4 2 0 1),(sN 5 1 0 1),(sQ 6 1 0 1 1),(sQ 9 1 0 1 1)]),bT]),[k0,k1,k2,k1,k0,k1,k3,k4,k5,k1]⟩
def Ku:Part:=⟨20,[(p0 0)],[k6,k0,k1,k7,k8,k5,k1,k9,k5],(sN 9 2 0 0),[k6,k0,k1,k7,k8,k5,k1,k9,k5,(.fl 24 2 1 [(i64 0),(u64 0)])]⟩
def Kv:Part:=⟨44,[(.ag [(u64 0),(i64 5),(u64 1),(sN 0 2 0 1),(sN 1 1 0 1),(sQ 2 1 0 1 1),(sQ 5 1 0 1 1)]),nS],[k0,k1,fa,eL,k5,k1],(.tu [(.ag [(u64 0),(i64 5),(u64 1),(sN 6 2 0 1),(sN 7 1 0 1),(sQ 8 1 0 1 1),(sQ 11 1 0 1 1)]),(sN 12 4 0 1)]),[k0,k1,fa,eL,k5,k1,k0,k1,(.fl 111 1 1 [(sN 9 2 0 1)]),Kc,k5,aY,Kd,k5]⟩
def Kw:Part:=⟨16,[(.ag [(i64 5),(u64 1),(i64 0),(u64 0),(i64 5),(u64 1),(sN 0 2 0 1),(sN 1 1 0 1),(sQ 2 1 0 1 1),(sQ 5 1 0 1 1),(u64 1),(u64 0),bF,nS,(i64 0),(i64 0),(u64 0),(u64 0),(i64 0),(u64 0),(u64 0),nS,(u64 0),nS,bF,nS,bF,(u64 0),(i64 0),(u64 0),nS,nS,nS,(u64 0),(i64 0),(u64 0),nS,nS,nS,nS,(i64 0),(i64 0),(u64 0),(u64 0),(i64 0),(u64 0),(u64 0),nS,(u64 0),nS,bF])],[k0,k1,fa,eL,k5,aY],(p0 6),[k0,k1,fa,eL,k5,aY,(.bx 68 [(i64 5),(u64 1),(i64 0),(u64 0),(i64 5),(u64 1),(sN 7 2 0 1),(sN 8 1 0 1),(sN 9 1 0 1),(sN 12 1 0 1),(u64 1),(u64 0),bF,nS,(i64 0),(i64 0),(u64 0),(u64 0),(i64 0),(u64 0),(u64 0),nS,(u64 0),nS,bF,nS,bF,(u64 0),(i64 0),(u64 0),nS,nS,nS,(u64 0),(i64 0),(u64 0),nS,nS,nS,nS,(i64 0),(i64 0),(u64 0),(u64 0),(i64 0),(u64 0),(u64 0),nS,(u64 0),nS,bF,nS,nS]),k0,k1,mj,ml,k5,aY]⟩
def Kx:Part:=⟨26,[(.ag [(i64 5),(u64 1)]),(sQ 0 2 0 2 2)],[bk],bT,[bk]⟩
def Ky:Part:=⟨16,[(.ag [(i64 5),(u64 1),(i64 1),(u64 0),(i64 5),(u64 1),(sN 0 2 0 1),(sN 1 1 0 1),(sN 2 1 0 1),(sN 5 1 0 1),(u64 1),(u64 1),bT,(sN 6 2 0 2),(i64 0),(i64 0),(u64 0),(u64 0),(i64 0),(u64 0),(u64 0),nS,(u64 0),nS,bF,nS,bF,(u64 0),(i64 0),(u64 0),nS,nS,nS,(u64 0),(i64 0),(u64 0),nS,nS,nS,nS,(i64 0),(i64 0),(u64 0),(u64 0),(i64 0),(u64 0),(u64 0),nS,(u64 0),nS,bF])],[k0,k1,fa,eL,k5,aY,bk],(p0 7),[k0,k1,fa,eL,k5,aY,bk,(.bx 68 [(i64 5),(u64 1),(i64 1),(u64 0),(i64 5),(u64 1),(sN 8 2 0 1),(sN 9 1 0 1),(sN 10 1 0 1),(sN 13 1 0 1),(u64 1),(u64 1),bT,(sN 14 2 0 2),(i64 0),(i64 0),(u64 0),(u64 0),(i64 0),(u64 0),(u64 0),nS,(u64 0),nS,bF,nS,bF,(u64 0),(i64 0),(u64 0),nS,nS,nS,(u64 0),(i64 0),(u64 0),nS,nS,nS,nS,(i64 0),(i64 0),(u64 0),(u64 0),(i64 0),(u64 0),(u64 0),nS,(u64 0),nS,bF,nS,nS]),k0,k1,(.fl 111 1 1 [(sN 11 2 0 1)]),(.fl 113 2 1 [(u64 1),(sN 12 1 0 1)]),k5,aY,bk]⟩
def Kz:Part:=⟨45,[(.ag [(u64 0),(i64 5),(u64 1),(sN 0 2 0 1),(sN 1 1 0 1),(sN 2 1 0 1),(sN 5 1 0 1)])],[k0,k1,fa,eL,k5,aY],(sN 6 1 0 1),[k0,k1,fa,eL,k5,aY,aY]⟩
def KA:Part:=⟨22,[(.ag [(i64 8),(i64 5),(u64 1),(u64 0),(i64 5),(u64 1),(u64 0),nS,(u64 1),(sN 0 1 0 1),bF])],[aY],(.ag [(i64 8),(i64 5),(u64 1),(u64 0),(i64 5),(u64 1),(u64 0),nS,(u64 1),(sN 1 1 0 1),bF]),[aY,aY]⟩
def IN:Part:=⟨44,[(.ag [(u64 0),(i64 5),(u64 1),(sN 0 2 0 1),(sN 1 1 0 1),(sN 2 1 0 1),(sN 5 1 0 1)]),(sN 6 1 0 1)],[k0,k1,fa,eL,k5,aY,aY],(.tu [(.ag [(u64 0),(i64 5),(u64 1),(sN 7 2 0 1),(sN 8 1 0 1),(sQ 9 1 0 1 1),(sQ 12 1 0 1 1)]),nS]),[k0,k1,fa,eL,k5,aY,aY,k0,k1,mj,ml,k5,aY]⟩
def IP:Part:=⟨16,[(.ag [(i64 5),(u64 1),(i64 2),(u64 0),(i64 5),(u64 1),(sN 0 2 0 1),(sN 1 1 0 1),(sQ 2 1 0 1 1),(sQ 5 1 0 1 1),(u64 1),(u64 1),bT,(sN 6 2 0 2),(i64 8),(i64 5),(u64 1),(u64 0),(i64 5),(u64 1),(u64 0),nS,(u64 1),(sN 7 1 0 1),bF,nS,bF,(u64 0),(i64 0),(u64 0),nS,nS,nS,(u64 0),(i64 0),(u64 0),nS,nS,nS,nS,(i64 0),(i64 0),(u64 0),(u64 0),(i64 0),(u64 0),(u64 0),nS,(u64 0),nS,bF])],[k0,k1,fa,eL,k5,aY,bk,aY],(p0 8),[k0,k1,fa,eL,k5,aY,bk,aY,(.bx 68 [(i64 5),(u64 1),(i64 2),(u64 0),(i64 5),(u64 1),(sN 9 2 0 1),(sN 10 1 0 1),(sN 11 1 0 1),(sN 14 1 0 1),(u64 1),(u64 1),bT,(sN 15 2 0 2),(i64 8),(i64 5),(u64 1),(u64 0),(i64 5),(u64 1),(u64 0),nS,(u64 1),(sN 16 1 0 1),bF,nS,bF,(u64 0),(i64 0),(u64 0),nS,nS,nS,(u64 0),(i64 0),(u64 0),nS,nS,nS,nS,(i64 0),(i64 0),(u64 0),(u64 0),(i64 0),(u64 0),(u64 0),nS,(u64 0),nS,bF,nS,nS]),k0,k1,DW,DX,k5,aY,bk,aY]⟩
def IQ:Part:=⟨34,[(.ag [(u64 1),(i64 1),(u64 1),(sQ 0 2 0 2 2),(sQ 1 1 0 2 2)])],[bk,bY],bT,[bk,bY]⟩
def IS:Part:=⟨36,[(.ag [(u64 1),(i64 1),(u64 1),(sQ 0 2 0 2 2),(sQ 1 1 0 2 2)])],[bk,bY],(.ag [(u64 1),(i64 1),(u64 1),(sN 2 2 0 2),(sN 3 1 0 2)]),[bk,bY,bk,bY]⟩
def IT:Part:=⟨47,[(.ag [(u64 0),(i64 5),(u64 1),(sN 0 2 0 1),(sN 1 1 0 1)]),(.ag [(u64 1),(i64 1),(u64 1),(sN 2 2 0 2),(sN 3 1 0 2)]),(.ag [(i64 5),(u64 1)]),nS],[k0,k1,bk,bY],bT,[k0,k1,bk,bY]⟩
def IU:Part:=⟨48,[(.ag [(u64 0),(i64 5),(u64 1),(sN 0 2 0 1),(sN 1 1 0 1)]),(.ag [(u64 1),(i64 1),(u64 1),(sN 2 2 0 2),(sN 3 1 0 2)]),(.ag [(i64 5),(u64 1)]),nS],[k0,k1,bk,bY],(sN 4 2 0 1),[k0,k1,bk,bY,k0]⟩
def IV:Part:=⟨49,[(.ag [(u64 0),(i64 5),(u64 1),(sN 0 2 0 1),(sN 1 1 0 1)]),(.ag [(u64 1),(i64 1),(u64 1),(sN 2 2 0 2),(sN 3 1 0 2)]),(.ag [(i64 5),(u64 1)]),(sN 4 1 0 1),nS],[k0,k1,bk,bY,aY],(sQ 5 1 0 1 1),[k0,k1,bk,bY,aY,aY]⟩
def IW:Part:=⟨44,[(.ag [(u64 0),(i64 5),(u64 1),(sN 0 2 0 1),(sN 1 1 0 1),(sN 2 1 0 1),(sN 5 1 0 1)]),(sQ 6 1 0 1 1)],[k0,k1,fa,eL,k5,aY,aY],(.tu [(.ag [(u64 0),(i64 5),(u64 1),(sN 7 2 0 1),(sN 8 1 0 1),(sQ 9 1 0 1 1),(sQ 12 1 0 1 1)]),nS]),[k0,k1,fa,eL,k5,aY,aY,k0,k1,mj,ml,k5,aY]⟩
def IX:Part:=⟨36,[(.ag [(u64 1),(i64 1),(u64 1),(sN 0 2 0 2),(sN 1 1 0 2)])],[bk,bY],(.ag [(u64 1),(i64 1),(u64 1),(sN 2 2 0 2),(sN 3 1 0 2)]),[bk,bY,bk,bY]⟩
def IY:Part:=⟨14,[(.ag [(u64 1),(i64 1),(u64 1),(sN 0 2 0 2),(sN 1 1 0 2)])],[bk,bY],(.ag [(u64 1),(i64 1),(u64 1),(sN 2 2 0 2),(sN 3 1 0 2),(sQ 4 1 0 2 2),(sQ 5 1 0 2 2)]),[bk,bY,bk,bY,gH,eC]⟩
def IZ:Part:=⟨50,[nS,(.ag [(i64 0),(i64 0),(u64 0),(u64 0),(i64 0),(u64 0),(u64 0),nS,(u64 0),nS,bF]),(sN 0 2 0 2)],[bk],nS,[bk]⟩
def I4:Part:=⟨44,[(.ag [(u64 1),(i64 1),(u64 1),(sN 0 2 0 2),(sN 1 1 0 2),(sQ 2 1 0 2 2),(sQ 3 1 0 2 2)]),nS],[bk,bY,gH,eC],(.tu [(.ag [(u64 1),(i64 1),(u64 1),(sN 4 2 0 2),(sN 5 1 0 2),(sQ 6 1 0 2 2),(sQ 7 1 0 2 2)]),nS]),[bk,bY,gH,eC,bk,bY,gH,eC]⟩
def I5:Part:=⟨16,[(.ag [(i64 5),(u64 1),(i64 0),(u64 1),(i64 1),(u64 1),(sN 0 2 0 2),(sN 1 1 0 2),(sQ 2 1 0 2 2),(sQ 3 1 0 2 2),(u64 0),(u64 1),bF,nS,(i64 0),(i64 0),(u64 0),(u64 0),(i64 0),(u64 0),(u64 0),nS,(u64 0),nS,bF,nS,bF,(u64 0),(i64 0),(u64 0),nS,nS,nS,(u64 0),(i64 5),(u64 1),(sN 4 2 0 1),(sN 5 1 0 1),(sQ 6 1 0 1 1),(sQ 9 1 0 1 1),(i64 8),(i64 5),(u64 1),(u64 0),(i64 5),(u64 1),(u64 0),nS,(u64 1),(sN 10 1 0 1),bF])],[bk,bY,gH,eC,k0,k1,k3,k4,k5,aY,aY],(p0 11),[bk,bY,gH,eC,k0,k1,k3,k4,k5,aY,aY,(.bx 68 [(i64 5),(u64 1),(i64 0),(u64 1),(i64 1),(u64 1),(sN 12 2 0 2),(sN 13 1 0 2),(sN 14 1 0 2),(sN 15 1 0 2),(u64 0),(u64 1),bF,nS,(i64 0),(i64 0),(u64 0),(u64 0),(i64 0),(u64 0),(u64 0),nS,(u64 0),nS,bF,nS,bF,(u64 0),(i64 0),(u64 0),nS,nS,nS,(u64 0),(i64 5),(u64 1),(sN 16 2 0 1),(sN 17 1 0 1),(sN 18 1 0 1),(sN 21 1 0 1),(i64 8),(i64 5),(u64 1),(u64 0),(i64 5),(u64 1),(u64 0),nS,(u64 1),(sN 22 1 0 1),bF,nS,nS]),bk,bY,gH,eC,k0,k1,(.fl 111 1 1 [(sN 19 2 0 1)]),(.fl 113 2 1 [(u64 1),(sN 20 1 0 1)]),k5,aY,aY]⟩
def I6:Part:=⟨40,[(.ag [(u64 1),(i64 1),(u64 1),(sN 0 2 0 2),(sN 1 1 0 2),(sN 2 1 0 2),(sN 3 1 0 2)]),(.ag [(i64 5),(u64 1),(u64 1),(.d (.ro 1 [[(.v (.int IntKind.u8 (Int.ofNat 98)))]]))])],[bk,bY,gH,eC],(.tu [(.ag [(u64 1),(i64 1),(u64 1),(sN 4 2 0 2),(sN 5 1 0 2),(sQ 6 1 0 2 2),(sQ 9 1 0 2 2)]),bT]),[bk,bY,gH,eC,bk,bY,(.fl 111 1 2 [(sN 7 2 0 1),nS]),k4,eM,eC]⟩
def I7:Part:=⟨20,[(p0 0)],[Ke,bk,bY,xR,k8,eM,eC,k0,k1,mj,ml,k5,aY,aY,Kf,eM],(sN 16 2 0 1),[Ke,bk,bY,xR,k8,eM,eC,k0,k1,mj,ml,k5,aY,aY,Kf,eM,(.fl 24 2 2 [(i64 6),(u64 1),(i64 0),(u64 0)])]⟩
def I8:Part:=⟨22,[(.ag [(i64 7),(i64 5),(u64 1),(u64 1),(i64 1),(u64 1),(u64 1),(.d (.ro 1 [[(.v (.int IntKind.u8 (Int.ofNat 98)))]])),(u64 0),nS,bF])],[],(.ag [(i64 7),(i64 5),(u64 1),(u64 1),(i64 1),(u64 1),(u64 1),(sN 0 1 0 1),(u64 0),nS,bF]),[eM]⟩
def I9:Part:=⟨44,[(.ag [(u64 1),(i64 1),(u64 1),(sN 0 2 0 2),(sN 1 1 0 2),(sQ 2 1 0 2 2),(sQ 5 1 0 2 2)]),nS],[bk,bY,Kg,eL,eM,eC],(.tu [(.ag [(u64 1),(i64 1),(u64 1),(sN 6 2 0 2),(sN 7 1 0 2),(sQ 8 1 0 2 2),(sQ 11 1 0 2 2)]),(sN 12 4 0 1)]),[bk,bY,Kg,eL,eM,eC,bk,bY,(.fl 111 1 2 [(sN 9 2 0 1),nS]),Kc,eM,DY,Kd,eM]⟩
def Ja:Part:=⟨23,[(p0 0),nS],[k6,k0,k1,k7,k8,k5,k1,k9,k5],(.tu []),[(.bx 68 [(i64 5),(u64 1),(i64 0),(u64 0),(i64 5),(u64 1),(sN 9 2 0 1),(sN 10 1 0 1),(sQ 11 1 0 1 1),(sQ 14 1 0 1 1),(u64 1),(u64 0),bF,nS,(i64 0),(i64 0),(u64 0),(u64 0),(i64 0),(u64 0),(u64 0),nS,(u64 0),nS,bF,nS,bF,(u64 0),(i64 0),(u64 0),nS,nS,nS,(u64 0),(i64 0),(u64 0),nS,nS,nS,nS,(i64 0),(i64 0),(u64 0),(u64 0),(i64 0),(u64 0),(u64 0),nS,(u64 0),nS,bF,nS,(sN 15 13 0 2)]),k0,k1,k7,k8,k5,k1,.dead,k5,k0,k1,DW,DX,k5,aY,(.fl 58 13 2 [(i64 1),(i64 5),(u64 1),(i64 0),(u64 0),(u64 1),(sN 8 1 0 1),(u64 0),(i64 0),(u64 0),nS,nS,nS,(i64 2),(i64 5),(u64 1),(i64 5),(u64 1),(u64 1),(sN 16 1 0 1),(u64 0),(i64 0),(u64 0),nS,nS,nS]),k5]⟩
def Jb:Part:=⟨23,[(p0 0),(sN 8 1 0 1)],[(.bx 68 [(i64 5),(u64 1),(i64 2),(u64 0),(i64 5),(u64 1),(sN 1 2 0 1),(sN 2 1 0 1),(sN 3 1 0 1),(sN 6 1 0 1),(u64 1),(u64 1),bT,(sN 7 2 0 2),(i64 8),(i64 5),(u64 1),(u64 0),(i64 5),(u64 1),(u64 0),nS,(u64 1),(sN 8 1 0 1),bF,nS,bF,(u64 0),(i64 0),(u64 0),nS,nS,nS,(u64 0),(i64 0),(u64 0),nS,nS,nS,nS,(i64 0),(i64 0),(u64 0),(u64 0),(i64 0),(u64 0),(u64 0),nS,(u64 0),nS,bF,(sN 9 13 0 1),(sN 11 13 0 1)]),k0,k1,k7,k8,k5,aY,bk,aY,xS,aY,pd],(.tu []),[(.bx 68 [(i64 5),(u64 1),(i64 2),(u64 0),(i64 5),(u64 1),(sN 12 2 0 1),(sN 13 1 0 1),(sQ 14 1 0 1 1),(sQ 17 1 0 1 1),(u64 1),(u64 1),bT,(sN 7 2 0 2),(i64 8),(i64 5),(u64 1),(u64 0),(i64 5),(u64 1),(u64 0),nS,(u64 1),(sN 8 1 0 1),bF,nS,bF,(u64 0),(i64 0),(u64 0),nS,nS,nS,(u64 0),(i64 0),(u64 0),nS,nS,nS,nS,(i64 0),(i64 0),(u64 0),(u64 0),(i64 0),(u64 0),(u64 0),nS,(u64 0),nS,bF,(sN 9 13 0 1),(sN 11 13 0 1)]),k0,k1,k7,k8,k5,aY,bk,aY,xS,aY,pd,k0,k1,Kh,Ki,k5,aY]⟩
def Jc:Part:=⟨23,[(p0 0),(sQ 11 1 0 1 1)],[Kj,k0,k1,k7,k8,k5,aY,bk,aY,bk,bY,aY],(.tu []),[(.bx 68 [(i64 5),(u64 1),(i64 2),(u64 0),(i64 5),(u64 1),(sN 12 2 0 1),(sN 13 1 0 1),(sQ 14 1 0 1 1),(sQ 17 1 0 1 1),(u64 1),(u64 1),bT,(sN 7 2 0 2),(i64 8),(i64 5),(u64 1),(u64 0),(i64 5),(u64 1),(u64 0),nS,(u64 1),(sN 8 1 0 1),bF,nS,bT,(u64 1),(i64 1),(u64 1),(sN 9 2 0 2),(sN 10 1 0 2),nS,(u64 0),(i64 0),(u64 0),nS,nS,nS,nS,(i64 0),(i64 0),(u64 0),(u64 0),(i64 0),(u64 0),(u64 0),nS,(u64 0),nS,bF,nS,nS]),k0,k1,k7,k8,k5,aY,bk,aY,bk,bY,aY,k0,k1,Kh,Ki,k5,aY]⟩
def Jd:Part:=⟨23,[(p0 0),nS],[(.bx 68 [(i64 5),(u64 1),(i64 0),(u64 1),(i64 1),(u64 1),(sN 1 2 0 2),(sN 2 1 0 2),(sQ 3 1 0 2 2),(sQ 4 1 0 2 2),(u64 0),(u64 1),bF,nS,(i64 0),(i64 0),(u64 0),(u64 0),(i64 0),(u64 0),(u64 0),nS,(u64 0),nS,bF,nS,bF,(u64 0),(i64 0),(u64 0),nS,nS,nS,(u64 0),(i64 5),(u64 1),(sN 5 2 0 1),(sN 6 1 0 1),(sQ 7 1 0 1 1),(sQ 10 1 0 1 1),(i64 8),(i64 5),(u64 1),(u64 0),(i64 5),(u64 1),(u64 0),nS,(u64 1),(sN 11 1 0 1),bF,nS,(sN 12 13 0 1)]),bk,bY,gH,eC,k0,k1,Kk,Kl,k5,aY,aY,Km,bk,bY,k0],(.tu []),[(.bx 68 [(i64 5),(u64 1),(i64 0),(u64 1),(i64 1),(u64 1),(sN 16 2 0 2),(sN 17 1 0 2),(sQ 18 1 0 2 2),(sQ 19 1 0 2 2),(u64 0),(u64 1),bF,nS,(i64 0),(i64 0),(u64 0),(u64 0),(i64 0),(u64 0),(u64 0),nS,(u64 0),nS,bF,nS,bF,(u64 0),(i64 0),(u64 0),nS,nS,nS,(u64 0),(i64 5),(u64 1),(sN 5 2 0 1),(sN 6 1 0 1),(sQ 7 1 0 1 1),(sQ 10 1 0 1 1),(i64 8),(i64 5),(u64 1),(u64 0),(i64 5),(u64 1),(u64 0),nS,(u64 1),(sN 11 1 0 1),bF,nS,(sN 12 13 0 1)]),bk,bY,gH,eC,k0,k1,Kk,Kl,k5,aY,aY,Km,bk,bY,k0,bk,bY,gH,eC]⟩
def Je:Part:=⟨23,[(p0 0),nS],[(.bx 68 [(i64 5),(u64 1),(i64 0),(u64 1),(i64 1),(u64 1),(sN 1 2 0 2),(sN 2 1 0 2),(sQ 3 1 0 2 2),(sQ 6 1 0 2 2),(u64 1),(u64 1),bF,nS,(i64 0),(i64 0),(u64 0),(u64 0),(i64 0),(u64 0),(u64 0),nS,(u64 0),nS,bF,nS,bF,(u64 0),(i64 0),(u64 0),nS,nS,nS,(u64 0),(i64 5),(u64 1),(sN 7 2 0 1),(sN 8 1 0 1),(sN 9 1 0 1),(sN 12 1 0 1),(i64 8),(i64 5),(u64 1),(u64 0),(i64 5),(u64 1),(u64 0),nS,(u64 1),(sN 13 1 0 1),bF,(sN 14 13 0 1),(sN 16 13 0 1)]),bk,bY,xR,k8,eM,eC,k0,k1,mj,ml,k5,aY,aY,Kn,eM,(.fl 58 13 1 [(i64 1),(i64 5),(u64 1),(i64 0),(u64 0),(u64 1),(sN 17 1 0 1),(u64 0),(i64 0),(u64 0),nS,nS,nS]),eM],(.tu []),[(.bx 68 [(i64 5),(u64 1),(i64 0),(u64 1),(i64 1),(u64 1),(sN 18 2 0 2),(sN 19 1 0 2),(sQ 20 1 0 2 2),(sQ 23 1 0 2 2),(u64 1),(u64 1),bF,nS,(i64 0),(i64 0),(u64 0),(u64 0),(i64 0),(u64 0),(u64 0),nS,(u64 0),nS,bF,nS,bF,(u64 0),(i64 0),(u64 0),nS,nS,nS,(u64 0),(i64 5),(u64 1),(sN 7 2 0 1),(sN 8 1 0 1),(sN 9 1 0 1),(sN 12 1 0 1),(i64 8),(i64 5),(u64 1),(u64 0),(i64 5),(u64 1),(u64 0),nS,(u64 1),(sN 13 1 0 1),bF,(sN 14 13 0 1),(sN 24 13 0 2)]),bk,bY,xR,k8,eM,eC,k0,k1,mj,ml,k5,aY,aY,Kn,eM,.dead,eM,bk,bY,(.fl 111 1 2 [(sN 21 2 0 1),nS]),(.fl 113 2 1 [(u64 1),(sN 22 1 0 1)]),eM,DY,(.fl 58 13 2 [(i64 1),(i64 5),(u64 1),(i64 0),(u64 0),(u64 1),(sN 17 1 0 1),(u64 0),(i64 0),(u64 0),nS,nS,nS,(i64 2),(i64 5),(u64 1),(i64 5),(u64 1),(u64 1),(sN 25 1 0 1),(u64 0),(i64 0),(u64 0),nS,nS,nS]),eM]⟩
def Jf:Part:=⟨24,[(p0 0)],[(.bx 68 [(i64 5),(u64 1),(i64 2),(u64 0),(i64 5),(u64 1),(sN 1 2 0 1),(sN 2 1 0 1),(sN 3 1 0 1),(sN 6 1 0 1),(u64 1),(u64 1),bT,(sN 7 2 0 2),(i64 0),(i64 0),(u64 0),(u64 0),(i64 0),(u64 0),(u64 0),nS,(u64 0),nS,bF,nS,bF,(u64 0),(i64 0),(u64 0),nS,nS,nS,(u64 0),(i64 0),(u64 0),nS,nS,nS,nS,(i64 0),(i64 0),(u64 0),(u64 0),(i64 0),(u64 0),(u64 0),nS,(u64 0),nS,bF,nS,(sN 8 13 0 1)]),k0,k1,k7,k8,k5,aY,bk,pd],(.tu []),[(.bx 68 [(i64 5),(u64 1),(i64 2),(u64 0),(i64 5),(u64 1),(sN 9 2 0 1),(sN 10 1 0 1),(sQ 11 1 0 1 1),(sQ 14 1 0 1 1),(u64 1),(u64 1),bT,(sN 7 2 0 2),(i64 8),(i64 5),(u64 1),(u64 0),(i64 5),(u64 1),(u64 0),nS,(u64 1),(sN 15 1 0 1),bF,nS,bF,(u64 0),(i64 0),(u64 0),nS,nS,nS,(u64 0),(i64 0),(u64 0),nS,nS,nS,nS,(i64 0),(i64 0),(u64 0),(u64 0),(i64 0),(u64 0),(u64 0),nS,(u64 0),nS,bF,(sN 16 13 0 1),(sN 8 13 0 1)]),k0,k1,k7,k8,k5,aY,bk,pd,k0,k1,DW,DX,k5,aY,aY,(.fl 61 13 1 [(i64 6),(u64 1),(i64 8),(i64 5),(u64 1),(u64 0),(i64 5),(u64 1),(u64 0),nS,(u64 1),(sN 17 1 0 1),bF]),aY]⟩
def Jg:Part:=⟨25,[(p0 0)],[Ko,k0,k1,k7,k8,k5,aY,bk,aY,xS,aY,pd],(.tu []),[Ko,k0,k1,k7,k8,k5,aY,bk,aY,xS,aY,pd]⟩
def Jh:Part:=⟨25,[(p0 0)],[Kj,k0,k1,k7,k8,k5,aY,bk,aY,bk,bY],(.tu []),[(.bx 68 [(i64 5),(u64 1),(i64 0),(u64 1),(i64 1),(u64 1),(sN 11 2 0 2),(sN 12 1 0 2),(sQ 13 1 0 2 2),(sQ 14 1 0 2 2),(u64 0),(u64 1),bF,nS,(i64 0),(i64 0),(u64 0),(u64 0),(i64 0),(u64 0),(u64 0),nS,(u64 0),nS,bF,nS,bF,(u64 0),(i64 0),(u64 0),nS,nS,nS,(u64 0),(i64 5),(u64 1),(sN 15 2 0 1),(sN 16 1 0 1),(sQ 17 1 0 1 1),(sQ 20 1 0 1 1),(i64 8),(i64 5),(u64 1),(u64 0),(i64 5),(u64 1),(u64 0),nS,(u64 1),(sN 8 1 0 1),bF,nS,(sN 21 13 0 1)]),k0,k1,k7,k8,k5,aY,bk,aY,bk,bY,bk,bY,gH,eC,k0,k1,(.fl 111 1 1 [(sN 18 2 0 1)]),(.fl 113 2 1 [(u64 1),(sN 19 1 0 1)]),k5,aY,Kq,bk,bY,k0]⟩
def Ji:Part:=⟨8,[(.ag [(i64 5),(u64 1),(i64 0),(u64 0),(i64 5),(u64 1),(sN 0 2 0 1),(sN 1 1 0 1),(sQ 2 1 0 1 1),(sQ 3 1 0 1 1),(u64 0),(u64 0),bF,nS,(i64 0),(i64 0),(u64 0),(u64 0),(i64 0),(u64 0),(u64 0),nS,(u64 0),nS,bF,nS,bF,(u64 0),(i64 0),(u64 0),nS,nS,nS,(u64 0),(i64 0),(u64 0),nS,nS,nS,nS,(i64 0),(i64 0),(u64 0),(u64 0),(i64 0),(u64 0),(u64 0),nS,(u64 0),nS,bF]),(.d (.ro 1 [[(.v (.int IntKind.u8 (Int.ofNat 97)))]]))],[k0,k1,k2,k1],(.tu [(.ag [(i64 5),(u64 1),(i64 0),(u64 0),(i64 5),(u64 1),(sN 4 2 0 1),(sN 5 1 0 1),(sQ 6 1 0 1 1),(sQ 9 1 0 1 1),(u64 1),(u64 0),bF,nS,(i64 0),(i64 0),(u64 0),(u64 0),(i64 0),(u64 0),(u64 0),nS,(u64 0),nS,bF,nS,bF,(u64 0),(i64 0),(u64 0),nS,nS,nS,(u64 0),(i64 0),(u64 0),nS,nS,nS,nS,(i64 0),(i64 0),(u64 0),(u64 0),(i64 0),(u64 0),(u64 0),nS,(u64 0),nS,bF]),(.ag [nS,(sN 10 13 0 2)]),(i64 0)]),[k0,k1,k2,k1,k0,k1,k3,k4,k5,aY,(.fl 58 13 2 [(i64 1),(i64 5),(u64 1),(i64 0),(u64 0),(u64 1),(sN 11 1 0 1),(u64 0),(i64 0),(u64 0),nS,nS,nS,(i64 2),(i64 5),(u64 1),(i64 5),(u64 1),(u64 1),(sN 12 1 0 1),(u64 0),(i64 0),(u64 0),nS,nS,nS]),k5,k5]⟩
def Jj:Part:=⟨8,[(.ag [(i64 5),(u64 1),(i64 0),(u64 1),(i64 1),(u64 1),(sN 0 2 0 2),(sN 1 1 0 2),(sQ 2 1 0 2 2),(sQ 3 1 0 2 2),(u64 0),(u64 1),bF,nS,(i64 0),(i64 0),(u64 0),(u64 0),(i64 0),(u64 0),(u64 0),nS,(u64 0),nS,bF,nS,bF,(u64 0),(i64 0),(u64 0),nS,nS,nS,(u64 0),(i64 5),(u64 1),(sN 4 2 0 1),(sN 5 1 0 1),(sQ 6 1 0 1 1),(sQ 9 1 0 1 1),(i64 8),(i64 5),(u64 1),(u64 0),(i64 5),(u64 1),(u64 0),nS,(u64 1),(sN 10 1 0 1),bF]),(.d (.ro 1 [[(.v (.int IntKind.u8 (Int.ofNat 98)))]]))],[bk,bY,gH,eC,k0,k1,k3,k4,k5,aY,aY],(.tu [(.ag [(i64 5),(u64 1),(i64 0),(u64 1),(i64 1),(u64 1),(sN 11 2 0 2),(sN 12 1 0 2),(sQ 13 1 0 2 2),(sQ 16 1 0 2 2),(u64 1),(u64 1),bF,nS,(i64 0),(i64 0),(u64 0),(u64 0),(i64 0),(u64 0),(u64 0),nS,(u64 0),nS,bF,nS,bF,(u64 0),(i64 0),(u64 0),nS,nS,nS,(u64 0),(i64 5),(u64 1),(sN 17 2 0 1),(sN 18 1 0 1),(sN 19 1 0 1),(sN 22 1 0 1),(i64 8),(i64 5),(u64 1),(u64 0),(i64 5),(u64 1),(u64 0),nS,(u64 1),(sN 23 1 0 1),bF]),(.ag [(sN 24 13 0 1),(sN 26 13 0 2)]),(i64 0)]),[bk,bY,gH,eC,k0,k1,k3,k4,k5,aY,aY,bk,bY,(.fl 111 1 2 [(sN 14 2 0 1),nS]),(.fl 113 2 1 [(u64 1),(sN 15 1 0 1)]),eM,DY,k0,k1,(.fl 111 1 1 [(sN 20 2 0 1)]),(.fl 113 2 1 [(u64 1),(sN 21 1 0 1)]),k5,aY,aY,(.fl 61 13 1 [(i64 6),(u64 1),(i64 7),(i64 5),(u64 1),(u64 1),(i64 1),(u64 1),(u64 1),(sN 25 1 0 1),(u64 0),nS,bF]),eM,(.fl 58 13 2 [(i64 1),(i64 5),(u64 1),(i64 0),(u64 0),(u64 1),(sN 27 1 0 1),(u64 0),(i64 0),(u64 0),nS,nS,nS,(i64 2),(i64 5),(u64 1),(i64 5),(u64 1),(u64 1),(sN 28 1 0 1),(u64 0),(i64 0),(u64 0),nS,nS,nS]),eM,eM]⟩
def Jk:Part:=⟨10,[(.ag [(i64 5),(u64 1),(i64 0),(u64 0),(i64 5),(u64 1),(sN 0 2 0 1),(sN 1 1 0 1),(sQ 2 1 0 1 1),(sQ 5 1 0 1 1),(u64 1),(u64 0),bF,nS,(i64 0),(i64 0),(u64 0),(u64 0),(i64 0),(u64 0),(u64 0),nS,(u64 0),nS,bF,nS,bF,(u64 0),(i64 0),(u64 0),nS,nS,nS,(u64 0),(i64 0),(u64 0),nS,nS,nS,nS,(i64 0),(i64 0),(u64 0),(u64 0),(i64 0),(u64 0),(u64 0),nS,(u64 0),nS,bF]),(u64 1),(sQ 6 2 0 2 2)],[k0,k1,fa,eL,k5,aY,bk],(.tu [(.ag [(i64 5),(u64 1),(i64 1),(u64 0),(i64 5),(u64 1),(sN 7 2 0 1),(sN 8 1 0 1),(sN 9 1 0 1),(sN 12 1 0 1),(u64 1),(u64 1),bT,(sN 13 2 0 2),(i64 0),(i64 0),(u64 0),(u64 0),(i64 0),(u64 0),(u64 0),nS,(u64 0),nS,bF,nS,bF,(u64 0),(i64 0),(u64 0),nS,nS,nS,(u64 0),(i64 0),(u64 0),nS,nS,nS,nS,(i64 0),(i64 0),(u64 0),(u64 0),(i64 0),(u64 0),(u64 0),nS,(u64 0),nS,bF]),(.ag [nS,(sN 14 13 0 1)])]),[k0,k1,fa,eL,k5,aY,bk,k0,k1,mj,ml,k5,aY,bk,(.fl 58 13 1 [(i64 3),(i64 5),(u64 1),(i64 0),(u64 0),(u64 0),nS,(u64 0),(i64 0),(u64 0),nS,nS,nS])]⟩
def Jl:Part:=⟨9,[(.ag [(i64 5),(u64 1),(i64 1),(u64 0),(i64 5),(u64 1),(sN 0 2 0 1),(sN 1 1 0 1),(sN 2 1 0 1),(sN 5 1 0 1),(u64 1),(u64 1),bT,(sN 6 2 0 2),(i64 0),(i64 0),(u64 0),(u64 0),(i64 0),(u64 0),(u64 0),nS,(u64 0),nS,bF,nS,bF,(u64 0),(i64 0),(u64 0),nS,nS,nS,(u64 0),(i64 0),(u64 0),nS,nS,nS,nS,(i64 0),(i64 0),(u64 0),(u64 0),(i64 0),(u64 0),(u64 0),nS,(u64 0),nS,bF])],[k0,k1,fa,eL,k5,aY,bk],(.tu [(.ag [(i64 5),(u64 1),(i64 2),(u64 0),(i64 5),(u64 1),(sN 7 2 0 1),(sN 8 1 0 1),(sQ 9 1 0 1 1),(sQ 12 1 0 1 1),(u64 1),(u64 1),bT,(sN 13 2 0 2),(i64 8),(i64 5),(u64 1),(u64 0),(i64 5),(u64 1),(u64 0),nS,(u64 1),(sN 14 1 0 1),bF,nS,bF,(u64 0),(i64 0),(u64 0),nS,nS,nS,(u64 0),(i64 0),(u64 0),nS,nS,nS,nS,(i64 0),(i64 0),(u64 0),(u64 0),(i64 0),(u64 0),(u64 0),nS,(u64 0),nS,bF]),(.ag [(sN 15 13 0 1),(sN 17 13 0 1)]),(i64 0)]),[k0,k1,fa,eL,k5,aY,bk,k0,k1,mj,ml,k5,aY,bk,aY,(.fl 61 13 1 [(i64 6),(u64 1),(i64 8),(i64 5),(u64 1),(u64 0),(i64 5),(u64 1),(u64 0),nS,(u64 1),(sN 16 1 0 1),bF]),aY,pd]⟩
def Jm:Part:=⟨13,[(.ag [(i64 5),(u64 1),(i64 2),(u64 0),(i64 5),(u64 1),(sN 0 2 0 1),(sN 1 1 0 1),(sQ 2 1 0 1 1),(sQ 5 1 0 1 1),(u64 1),(u64 1),bT,(sN 6 2 0 2),(i64 8),(i64 5),(u64 1),(u64 0),(i64 5),(u64 1),(u64 0),nS,(u64 1),(sN 7 1 0 1),bF,nS,bF,(u64 0),(i64 0),(u64 0),nS,nS,nS,(u64 0),(i64 0),(u64 0),nS,nS,nS,nS,(i64 0),(i64 0),(u64 0),(u64 0),(i64 0),(u64 0),(u64 0),nS,(u64 0),nS,bF]),(.ag [(u64 1),(i64 1),(u64 1),(sQ 8 2 0 2 2),(sQ 9 1 0 2 2)])],[k0,k1,fa,eL,k5,aY,bk,aY,bk,bY],(.tu [(.ag [(i64 5),(u64 1),(i64 0),(u64 1),(i64 1),(u64 1),(sN 10 2 0 2),(sN 11 1 0 2),(sQ 12 1 0 2 2),(sQ 13 1 0 2 2),(u64 0),(u64 1),bF,nS,(i64 0),(i64 0),(u64 0),(u64 0),(i64 0),(u64 0),(u64 0),nS,(u64 0),nS,bF,nS,bF,(u64 0),(i64 0),(u64 0),nS,nS,nS,(u64 0),(i64 5),(u64 1),(sN 14 2 0 1),(sN 15 1 0 1),(sQ 16 1 0 1 1),(sQ 19 1 0 1 1),(i64 8),(i64 5),(u64 1),(u64 0),(i64 5),(u64 1),(u64 0),nS,(u64 1),(sN 20 1 0 1),bF]),(.ag [nS,(sN 21 13 0 1)])]),[k0,k1,fa,eL,k5,aY,bk,aY,bk,bY,bk,bY,gH,eC,k0,k1,(.fl 111 1 1 [(sN 17 2 0 1)]),(.fl 113 2 1 [(u64 1),(sN 18 1 0 1)]),k5,aY,aY,Kq,bk,bY,k0]⟩
end Go.Proofs.YtgkdnnmcjjabdaaGreat
namespace Go.Proofs.YtgkdnnmcjjabdaaGreat
open Go.RowKit
theorem Ve:Kr.Ok Tryz.prog:=Part.cD tk cx tq cu (fuel:=100000) (d:=60) (by kernel_rfl)
theorem Vf:Ks.Ok Tryz.prog:=Part.cD tk cx tq cu (fuel:=100000) (d:=60) (by kernel_rfl)
theorem Vg:Kt.Ok Tryz.prog:=Part.cD tk cx tq cu (fuel:=100000) (d:=60) (by kernel_rfl)
theorem Vh:Ku.Ok Tryz.prog:=Part.cD tk cx tq cu (fuel:=100000) (d:=60) (by kernel_rfl)
theorem Vi:Kv.Ok Tryz.prog:=Part.cD tk cx tq cu (fuel:=100000) (d:=60) (by kernel_rfl)
end Go.Proofs.YtgkdnnmcjjabdaaGreat
namespace Go.Proofs.YtgkdnnmcjjabdaaGreat
open Go.RowKit
theorem Vj:Kw.Ok Tryz.prog:=Part.cD tk cx tq cu (fuel:=100000) (d:=60) (by kernel_rfl)
theorem Vk:Kx.Ok Tryz.prog:=Part.cD tk cx tq cu (fuel:=100000) (d:=60) (by kernel_rfl)
theorem Vl:Ky.Ok Tryz.prog:=Part.cD tk cx tq cu (fuel:=100000) (d:=60) (by kernel_rfl)
theorem Vm:Kz.Ok Tryz.prog:=Part.cD tk cx tq cu (fuel:=100000) (d:=60) (by kernel_rfl)
theorem Vn:KA.Ok Tryz.prog:=Part.cD tk cx tq cu (fuel:=100000) (d:=60) (by kernel_rfl)
end Go.Proofs.YtgkdnnmcjjabdaaGreat
namespace Go.Proofs.YtgkdnnmcjjabdaaGreat
open Go.RowKit
theorem S1:IN.Ok Tryz.prog:=Part.cD tk cx tq cu (fuel:=100000) (d:=60) (by kernel_rfl)
theorem S2:IP.Ok Tryz.prog:=Part.cD tk cx tq cu (fuel:=100000) (d:=60) (by kernel_rfl)
theorem S3:IQ.Ok Tryz.prog:=Part.cD tk cx tq cu (fuel:=100000) (d:=60) (by kernel_rfl)
theorem S4:IS.Ok Tryz.prog:=Part.cD tk cx tq cu (fuel:=100000) (d:=60) (by kernel_rfl)
theorem S5:IT.Ok Tryz.prog:=Part.cD tk cx tq cu (fuel:=100000) (d:=60) (by kernel_rfl)
end Go.Proofs.YtgkdnnmcjjabdaaGreat
namespace Go.Proofs.YtgkdnnmcjjabdaaGreat
open Go.RowKit
theorem S6:IU.Ok Tryz.prog:=Part.cD tk cx tq cu (fuel:=100000) (d:=60) (by kernel_rfl)
theorem S7:IV.Ok Tryz.prog:=Part.cD tk cx tq cu (fuel:=100000) (d:=60) (by kernel_rfl)
theorem S8:IW.Ok Tryz.prog:=Part.cD tk cx tq cu (fuel:=100000) (d:=60) (by kernel_rfl)
theorem S9:IX.Ok Tryz.prog:=Part.cD tk cx tq cu (fuel:=100000) (d:=60) (by kernel_rfl)
theorem Ta:IY.Ok Tryz.prog:=Part.cD tk cx tq cu (fuel:=100000) (d:=60) (by kernel_rfl)
end Go.Proofs.YtgkdnnmcjjabdaaGreat
namespace Go.Proofs.YtgkdnnmcjjabdaaGreat
open Go.RowKit
theorem Tc:IZ.Ok Tryz.prog:=Part.cD tk cx tq cu (fuel:=100000) (d:=60) (by kernel_rfl)
theorem Td:I4.Ok Tryz.prog:=Part.cD tk cx tq cu (fuel:=100000) (d:=60) (by kernel_rfl)
theorem Tf:I5.Ok Tryz.prog:=Part.cD tk cx tq cu (fuel:=100000) (d:=60) (by kernel_rfl)
theorem Tg:I6.Ok Tryz.prog:=Part.cD tk cx tq cu (fuel:=100000) (d:=60) (by kernel_rfl)
theorem Th:I7.Ok Tryz.prog:=Part.cD tk cx tq cu (fuel:=100000) (d:=60) (by kernel_rfl)
end Go.Proofs.YtgkdnnmcjjabdaaGreat
namespace Go.Proofs.YtgkdnnmcjjabdaaGreat
open Go.RowKit
theorem Ti:I8.Ok Tryz.prog:=Part.cD tk cx tq cu (fuel:=100000) (d:=60) (by kernel_rfl)
theorem Tj:I9.Ok Tryz.prog:=Part.cD tk cx tq cu (fuel:=100000) (d:=60) (by kernel_rfl)
end Go.Proofs.YtgkdnnmcjjabdaaGreat
namespace Go.Proofs.YtgkdnnmcjjabdaaGreat
open Go.RowKit
def KB:List Part:=[Kr,Ks,Kt,Ku,Kv,Kw,Kx,Ky,Kz,KA,IN,IP,IQ,IS,IT,IU,IV,IW,IX,IY,IZ,I4,I5,I6,I7,I8,I9]
theorem hU:a7 Tryz.prog KB:=(.cons Ve (.cons Vf (.cons Vg (.cons Vh (.cons Vi (.cons Vj (.cons Vk (.cons Vl (.cons Vm (.cons Vn (.cons S1 (.cons S2 (.cons S3 (.cons S4 (.cons S5 (.cons S6 (.cons S7 (.cons S8 (.cons S9 (.cons Ta (.cons Tc (.cons Td (.cons Tf (.cons Tg (.cons Th (.cons Ti (.cons Tj .nil)))))))))))))))))))))))))))
end Go.Proofs.YtgkdnnmcjjabdaaGreat
namespace Go.Proofs.YtgkdnnmcjjabdaaGreat
open Go.RowKit
theorem iO:Ja.Ok Tryz.prog:=Part.cD tk cx tq (gX hU cu) (fuel:=100000) (d:=60) (by kernel_rfl)
theorem jr:Jb.Ok Tryz.prog:=Part.cD tk cx tq (gX (a7.cons iO hU) cu) (fuel:=100000) (d:=60) (by kernel_rfl)
theorem jV:Jc.Ok Tryz.prog:=Part.cD tk cx tq (gX (a7.cons jr (a7.cons iO hU)) cu) (fuel:=100000) (d:=60) (by kernel_rfl)
theorem kK:Jd.Ok Tryz.prog:=Part.cD tk cx tq (gX (a7.cons jV (a7.cons jr (a7.cons iO hU))) cu) (fuel:=100000) (d:=60) (by kernel_rfl)
theorem lQ:Je.Ok Tryz.prog:=Part.cD tk cx tq (gX (a7.cons kK (a7.cons jV (a7.cons jr (a7.cons iO hU)))) cu) (fuel:=100000) (d:=60) (by kernel_rfl)
theorem m8:Jf.Ok Tryz.prog:=Part.cD tk cx tq (gX (a7.cons lQ (a7.cons kK (a7.cons jV (a7.cons jr (a7.cons iO hU))))) cu) (fuel:=100000) (d:=60) (by kernel_rfl)
theorem oN:Jg.Ok Tryz.prog:=Part.cD tk cx tq (gX (a7.cons m8 (a7.cons lQ (a7.cons kK (a7.cons jV (a7.cons jr (a7.cons iO hU)))))) cu) (fuel:=100000) (d:=60) (by kernel_rfl)
theorem qQ:Jh.Ok Tryz.prog:=Part.cD tk cx tq (gX (a7.cons oN (a7.cons m8 (a7.cons lQ (a7.cons kK (a7.cons jV (a7.cons jr (a7.cons iO hU))))))) cu) (fuel:=100000) (d:=60) (by kernel_rfl)
theorem ti:Ji.Ok Tryz.prog:=Part.cD tk cx tq (gX (a7.cons qQ (a7.cons oN (a7.cons m8 (a7.cons lQ (a7.cons kK (a7.cons jV (a7.cons jr (a7.cons iO hU)))))))) cu) (fuel:=100000) (d:=60) (by kernel_rfl)
theorem xq:Jj.Ok Tryz.prog:=Part.cD tk cx tq (gX (a7.cons ti (a7.cons qQ (a7.cons oN (a7.cons m8 (a7.cons lQ (a7.cons kK (a7.cons jV (a7.cons jr (a7.cons iO hU))))))))) cu) (fuel:=100000) (d:=60) (by kernel_rfl)
theorem CS:Jk.Ok Tryz.prog:=Part.cD tk cx tq (gX (a7.cons xq (a7.cons ti (a7.cons qQ (a7.cons oN (a7.cons m8 (a7.cons lQ (a7.cons kK (a7.cons jV (a7.cons jr (a7.cons iO hU)))))))))) cu) (fuel:=100000) (d:=60) (by kernel_rfl)
theorem Jn:Jl.Ok Tryz.prog:=Part.cD tk cx tq (gX (a7.cons CS (a7.cons xq (a7.cons ti (a7.cons qQ (a7.cons oN (a7.cons m8 (a7.cons lQ (a7.cons kK (a7.cons jV (a7.cons jr (a7.cons iO hU))))))))))) cu) (fuel:=100000) (d:=60) (by kernel_rfl)
theorem Tk:Jm.Ok Tryz.prog:=Part.cD tk cx tq (gX (a7.cons Jn (a7.cons CS (a7.cons xq (a7.cons ti (a7.cons qQ (a7.cons oN (a7.cons m8 (a7.cons lQ (a7.cons kK (a7.cons jV (a7.cons jr (a7.cons iO hU)))))))))))) cu) (fuel:=100000) (d:=60) (by kernel_rfl)
end Go.Proofs.YtgkdnnmcjjabdaaGreat
namespace Go.Proofs.YtgkdnnmcjjabdaaGreat
open Go.RowKit
def KC:List Part:=(Jm::(Jl::(Jk::(Jj::(Ji::(Jh::(Jg::(Jf::(Je::(Jd::(Jc::(Jb::(Ja::KB)))))))))))))
theorem R6:a7 Tryz.prog KC:=(a7.cons Tk (a7.cons Jn (a7.cons CS (a7.cons xq (a7.cons ti (a7.cons qQ (a7.cons oN (a7.cons m8 (a7.cons lQ (a7.cons kK (a7.cons jV (a7.cons jr (a7.cons iO hU)))))))))))))
theorem PQ:aj Tryz.prog 6 [] (.v (.bool true)):=PN (T:=tb) (KL:=[]) (X:=BX KC Kb) (fuel:=100000) (d:=60) tk cx tq (gX R6 cu) (by kernel_rfl)
end Go.Proofs.YtgkdnnmcjjabdaaGreat
namespace Go.Proofs.YtgkdnnmcjjabdaaGreat
open Go.RowKit
structure au where
 node:Int
 inc:Nat
deriving DecidableEq
def au.row (p:au):List DV:=[.v (.int .i64 p.node),.v (.int .u64 (p.inc:Int))]
abbrev procs (l:List au):List (List DV):=l.map au.row
theorem gY {l:List au} {i:Nat} {p:au} (h:l[i]?=some p):(procs l)[i]?=some [.v (.int .i64 p.node),.v (.int .u64 (p.inc:Int))]:=by simp [procs,h,au.row]
abbrev ae (l:List Nat):List (List DV):=l.map fun (n:Nat)=>[.v (.int .u64 (n:Int))]
def au.may (p:au):Bool:=decide (1≤p.node∧p.node≤10∧0<p.inc)
theorem Gs (d:Nat) (a b c e:Int) (w:World):(Op.equalIn (d+2) 24 (.agg #[.int .i64 a,.int .u64 b]) (.agg #[.int .i64 c,.int .u64 e])).run Tryz.prog w=.ok (a==c&&b==e) w:=
 yE (f0:=⟨"Node",3,0,false, "", "",0⟩) (f1:=⟨"Inc",22,1,false, "", "",8⟩) (by kernel_rfl) (by kernel_rfl) (by decide) (by decide) (nN w (by kernel_rfl) rfl) (nN w (by kernel_rfl) rfl) (nN w (by kernel_rfl) rfl) (nN w (by kernel_rfl) rfl)
  (yD w d (by kernel_rfl)) (yD w d (by kernel_rfl))
def idx {α:Type} [DecidableEq α]:List α→α→Nat→Int
 | [],_,_ => -1
 | x::r,p,k=>if x=p then (k:Int) else idx r p (k+1)
theorem p5 {α:Type} [DecidableEq α] {p:α}:∀ {l:List α} {k i:Nat},l[i]?=some p→(∀ j,j<i→l[j]?≠some p)→idx l p k=((k+i:Nat):Int)
 | [],_,_,h,_=>by simp at h
 | x::r,k,0,h,_=>by simp at h;simp [idx,h]
 | x::r,k,i+1,h,hb=>by
  have h0:x≠p:=by have:=hb 0 (by omega);simpa using this
  rw [idx,if_neg h0,p5 (i:=i) (by simpa using h) fun j hj=>by simpa using hb (j+1) (by omega)]
  congr 1;omega
theorem pE {α:Type} [DecidableEq α] {p:α}:∀ {l:List α} {k:Nat},(∀ j,j<l.length→l[j]?≠some p)→idx l p k = -1
 | [],_,_=>rfl
 | x::r,k,h=>by
  have h0:x≠p:=by have:=h 0 (by simp);simpa using this
  rw [idx,if_neg h0]
  exact pE fun j hj=>by simpa using h (j+1) (by simpa using hj)
theorem iv {k:IntKind} {a b:Int} (h:a=b):DV.v (.int k a)=.v (.int k b):=by rw [h]
theorem p6 {α:Type} {a b:List α} (hl:a.length=b.length) (h:∀ j,j<a.length→a[j]?=b[j]?):a=b:=by
 apply List.ext_getElem?
 intro j
 rcases Nat.lt_or_ge j a.length with hj | hj
 ·exact h j hj
 ·rw [List.getElem?_eq_none hj,List.getElem?_eq_none (by omega)]
theorem kU {t:TypeId} {xs ys:List Value} {c c':Bool} (e:gi Tryz.prog t xs ys c) (h:c=c'):gi Tryz.prog t xs ys c':=h▸e
theorem iy {l:List Nat} {i x:Nat} (h:l[i]?=some x):(ae l)[i]?=some [.v (.int .u64 (x:Int))]:=by simp [ae,h]
theorem QW (a b c d:Int):gi Tryz.prog 24 [.int .i64 a,.int .u64 b] [.int .i64 c,.int .u64 d] (a==c&&b==d):=⟨by kernel_rfl,fun w=>Gs 9998 a b c d w⟩
theorem pR (x y:au):gi Tryz.prog 24 [.int .i64 x.node,.int .u64 (x.inc:Int)] [.int .i64 y.node,.int .u64 (y.inc:Int)] (decide (x=y)):=by
 have h:=QW x.node x.inc y.node y.inc
 refine kU h ?_
 cases x with | mk a b=>cases y with | mk c d=>
 rw [Bool.eq_iff_iff]
 simp only [Bool.and_eq_true,beq_iff_eq,decide_eq_true_eq,au.mk.injEq]
 omega
set_option maxRecDepth 100000 in
theorem vI (p:au):aj Tryz.prog 83 [.ag [.z p.node,.u p.inc]] (DV.v (.bool p.may)):=by
 refine aj.intro (by kernel_rfl) rfl rfl 16 rfl rfl fun w0 K ac hK r=>?_
 cases h0:(decide ((1:Int)≤p.node)) with
 | false=>
  have bq:=of_decide_eq_false h0
  rw [show (DV.v (.bool p.may):DV)=.v (.bool false) from (bv (by simp [au.may];omega))]
  exact aM tk tq hK rfl [(1,[(2,.b false)])] 2000 r (by kernel_rfl) (U h0 trivial)
 | true=>
  have bq:=of_decide_eq_true h0
  cases h1:(decide ((p.node:Int)≤10)) with
  | false=>
   have b6:=of_decide_eq_false h1
   rw [show (DV.v (.bool p.may):DV)=.v (.bool false) from (bv (by simp [au.may];omega))]
   exact aM tk tq hK rfl [(1,[(2,.b true),(6,.b false)])] 2000 r (by kernel_rfl) (U h0 (U h1 trivial))
  | true=>
   have b6:=of_decide_eq_true h1
   cases h2:(decide ((0:Int)<((p.inc:Nat):Int))) with
   | false=>
    have dg:=of_decide_eq_false h2
    rw [show (DV.v (.bool p.may):DV)=.v (.bool false) from (bv (by simp [au.may];omega))]
    exact aM tk tq hK rfl [(1,[(2,.b true),(6,.b true),(11,.b false)])] 2000 r (by kernel_rfl) (U h0 (U h1 (U h2 trivial)))
   | true=>
    have dg:=of_decide_eq_true h2
    rw [show (DV.v (.bool p.may):DV)=.v (.bool true) from (bv (by simp [au.may];omega))]
    exact aM tk tq hK rfl [(1,[(2,.b true),(6,.b true),(11,.b true)])] 2000 r (by kernel_rfl) (U h0 (U h1 (U h2 trivial)))
set_option maxRecDepth 100000 in
theorem EK (a b:List au) (hb:a.length<2147483648):aj Tryz.prog 91 [.d (.ro 2 (procs a)),.d (.ro 2 (procs b))] (DV.v (.bool (decide (a=b)))):=by
 refine aj.intro (by kernel_rfl) rfl rfl 26 rfl rfl fun w0 K ac hK r=>?_
 have u0:=((by simp):(((procs a).length:Nat):Int)=((a.length:Nat):Int))
 have u1:=((by simp):(((procs b).length:Nat):Int)=((b.length:Nat):Int))
 cases h0:((((a.length:Nat):Int):Int) != ((b.length:Nat):Int)) with
 | false=>
  have bq:=kY h0
  refine bI (todo':=hd Tryz.f91 0) (E':=[(0,.d (.ro 2 (procs a))),(1,.d (.ro 2 (procs b))),(12,.n a.length),(13,.n 0)]) (M':=[]) tk tq hK [(1,[(1,.z (((a.length:Nat):Int))),(3,.z (((b.length:Nat):Int))),(4,.b false)]),(3,[(1,.z (((a.length:Nat):Int)))])] 2000 [] [0,1,12,13] r (by kernel_rfl) (U u0 (U u1 (U h0 (U u0 trivial)))) fun ac wd r=>?_
  refine aJ.rounds (Φ:=fun (i:Nat) ac wd=>(i≤a.length∧∀ j,j<i→a[j]?=b[j]?)∧dH [] w0 K 26 [(0,.d (.ro 2 (procs a))),(1,.d (.ro 2 (procs b))),(12,.n a.length),(13,.n i)] [] ac wd) (a.length) ?_ (Nat.zero_le _) ⟨⟨by omega,by omega⟩,r⟩
  clear r
  rintro i fI cX ac wd ⟨bh,r⟩
  obtain ⟨gB,bh⟩:=bh
  cases h1:(decide ((((i:Nat):Int):Int)<((a.length:Nat):Int))) with
  | false=>
   have b6:=of_decide_eq_false h1
   rw [show (DV.v (.bool (decide (a=b))):DV)=.v (.bool true) from (bv (by first | (simp;intro e;subst e;simp_all;done) | (simp;exact p6 (by omega) fun j hj=>bh j (by omega))))]
   exact aM tk tq hK rfl [(4,[(0,.b false)])] 2000 r (by kernel_rfl) (U h1 trivial)
  | true=>
   have b6:=of_decide_eq_true h1
   obtain ⟨iD,n5⟩:∃ x,a[i]?=some x:=⟨_,List.getElem?_eq_getElem (by omega)⟩
   obtain ⟨iE,n6⟩:∃ x,b[i]?=some x:=⟨_,List.getElem?_eq_getElem (by omega)⟩
   cases h2:(decide (iD=iE)) with
   | false=>
    have dg:=of_decide_eq_false h2
    rw [show (DV.v (.bool (decide (a=b))):DV)=.v (.bool false) from (bv (by first | (simp;intro e;subst e;simp_all;done) | (simp;exact p6 (by omega) fun j hj=>bh j (by omega))))]
    exact aM tk tq hK rfl [(4,[(0,.b true)]),(6,[(2,.ix (i) [.z iD.node,.u iD.inc]),(6,.ix (i) [.z iE.node,.u iE.inc]),(8,.b false)])] 2000 r (by kernel_rfl) (U h1 (U (aS ((i:Nat):Int)) (U (gY n5) (U (aS ((i:Nat):Int)) (U (gY n6) (U ((kU (pR _ _) h2):gi Tryz.prog 24 [(.int .i64 (iD.node)),(.int .u64 (((iD.inc:Nat):Int)))] [(.int .i64 (iE.node)),(.int .u64 (((iE.inc:Nat):Int)))] false) trivial))))))
   | true=>
    have dg:=of_decide_eq_true h2
    exact bI (todo':=hd Tryz.f91 0) tk tq hK [(4,[(0,.b true)]),(6,[(2,.ix (i) [.z iD.node,.u iD.inc]),(6,.ix (i) [.z iE.node,.u iE.inc]),(8,.b true)]),(8,[(0,.z (((i+1:Nat):Int)))])] 2000 [] [0,1,12,13] r (by kernel_rfl) (U h1 (U (aS ((i:Nat):Int)) (U (gY n5) (U (aS ((i:Nat):Int)) (U (gY n6) (U ((kU (pR _ _) h2):gi Tryz.prog 24 [(.int .i64 (iD.node)),(.int .u64 (((iD.inc:Nat):Int)))] [(.int .i64 (iE.node)),(.int .u64 (((iE.inc:Nat):Int)))] true) (U ((wi (by omega)):IntKind.i64.wrap ((((i:Nat):Int):Int)+1)=((i+1:Nat):Int)) trivial))))))) fun ac wd r=>cX (by omega) ac wd ⟨⟨by omega,fun j hj=>by rcases Nat.lt_succ_iff_lt_or_eq.1 hj with h | rfl;exact bh j h;simp only [n5,n6,Option.some.injEq];first | assumption | omega⟩,r⟩
 | true=>
  have bq:¬ _=_:=bne_iff_ne.1 h0
  rw [show (DV.v (.bool (decide (a=b))):DV)=.v (.bool false) from (bv (by first | (simp;intro e;subst e;simp_all;done) | (simp;exact p6 (by omega) fun j hj=>bh j (by omega))))]
  exact aM tk tq hK rfl [(1,[(1,.z (((a.length:Nat):Int))),(3,.z (((b.length:Nat):Int))),(4,.b true)])] 2000 r (by kernel_rfl) (U u0 (U u1 (U h0 trivial)))
set_option maxRecDepth 100000 in
theorem Fq (a b:List Nat) (hb:a.length<2147483648):aj Tryz.prog 93 [.d (.ro 1 (ae a)),.d (.ro 1 (ae b))] (DV.v (.bool (decide (a=b)))):=by
 refine aj.intro (by kernel_rfl) rfl rfl 26 rfl rfl fun w0 K ac hK r=>?_
 have u0:=((by simp):(((ae a).length:Nat):Int)=((a.length:Nat):Int))
 have u1:=((by simp):(((ae b).length:Nat):Int)=((b.length:Nat):Int))
 cases h0:((((a.length:Nat):Int):Int) != ((b.length:Nat):Int)) with
 | false=>
  have bq:=kY h0
  refine bI (todo':=hd Tryz.f93 0) (E':=[(0,.d (.ro 1 (ae a))),(1,.d (.ro 1 (ae b))),(12,.n a.length),(13,.n 0)]) (M':=[]) tk tq hK [(1,[(1,.z (((a.length:Nat):Int))),(3,.z (((b.length:Nat):Int))),(4,.b false)]),(3,[(1,.z (((a.length:Nat):Int)))])] 2000 [] [0,1,12,13] r (by kernel_rfl) (U u0 (U u1 (U h0 (U u0 trivial)))) fun ac wd r=>?_
  refine aJ.rounds (Φ:=fun (i:Nat) ac wd=>(i≤a.length∧∀ j,j<i→a[j]?=b[j]?)∧dH [] w0 K 26 [(0,.d (.ro 1 (ae a))),(1,.d (.ro 1 (ae b))),(12,.n a.length),(13,.n i)] [] ac wd) (a.length) ?_ (Nat.zero_le _) ⟨⟨by omega,by omega⟩,r⟩
  clear r
  rintro i fI cX ac wd ⟨bh,r⟩
  obtain ⟨gB,bh⟩:=bh
  cases h1:(decide ((((i:Nat):Int):Int)<((a.length:Nat):Int))) with
  | false=>
   have b6:=of_decide_eq_false h1
   rw [show (DV.v (.bool (decide (a=b))):DV)=.v (.bool true) from (bv (by first | (simp;intro e;subst e;simp_all;done) | (simp;exact p6 (by omega) fun j hj=>bh j (by omega))))]
   exact aM tk tq hK rfl [(4,[(0,.b false)])] 2000 r (by kernel_rfl) (U h1 trivial)
  | true=>
   have b6:=of_decide_eq_true h1
   obtain ⟨iD,n5⟩:∃ x,a[i]?=some x:=⟨_,List.getElem?_eq_getElem (by omega)⟩
   obtain ⟨iE,n6⟩:∃ x,b[i]?=some x:=⟨_,List.getElem?_eq_getElem (by omega)⟩
   cases h2:((((iD:Nat):Int):Int) != ((iE:Nat):Int)) with
   | false=>
    have dg:=kY h2
    exact bI (todo':=hd Tryz.f93 0) tk tq hK [(4,[(0,.b true)]),(6,[(2,.ix (i) [.u iD]),(6,.ix (i) [.u iE]),(8,.b false)]),(8,[(0,.z (((i+1:Nat):Int)))])] 2000 [] [0,1,12,13] r (by kernel_rfl) (U h1 (U (aS ((i:Nat):Int)) (U (iy n5) (U (aS ((i:Nat):Int)) (U (iy n6) (U h2 (U ((wi (by omega)):IntKind.i64.wrap ((((i:Nat):Int):Int)+1)=((i+1:Nat):Int)) trivial))))))) fun ac wd r=>cX (by omega) ac wd ⟨⟨by omega,fun j hj=>by rcases Nat.lt_succ_iff_lt_or_eq.1 hj with h | rfl;exact bh j h;simp only [n5,n6,Option.some.injEq];first | assumption | omega⟩,r⟩
   | true=>
    have dg:¬ _=_:=bne_iff_ne.1 h2
    rw [show (DV.v (.bool (decide (a=b))):DV)=.v (.bool false) from (bv (by first | (simp;intro e;subst e;simp_all;done) | (simp;exact p6 (by omega) fun j hj=>bh j (by omega))))]
    exact aM tk tq hK rfl [(4,[(0,.b true)]),(6,[(2,.ix (i) [.u iD]),(6,.ix (i) [.u iE]),(8,.b true)])] 2000 r (by kernel_rfl) (U h1 (U (aS ((i:Nat):Int)) (U (iy n5) (U (aS ((i:Nat):Int)) (U (iy n6) (U h2 trivial))))))
 | true=>
  have bq:¬ _=_:=bne_iff_ne.1 h0
  rw [show (DV.v (.bool (decide (a=b))):DV)=.v (.bool false) from (bv (by first | (simp;intro e;subst e;simp_all;done) | (simp;exact p6 (by omega) fun j hj=>bh j (by omega))))]
  exact aM tk tq hK rfl [(1,[(1,.z (((a.length:Nat):Int))),(3,.z (((b.length:Nat):Int))),(4,.b true)])] 2000 r (by kernel_rfl) (U u0 (U u1 (U h0 trivial)))
set_option maxRecDepth 100000 in
theorem EL (l:List au) (p:au) (hb:l.length<2147483648):aj Tryz.prog 88 [.d (.ro 2 (procs l)),.ag [.z p.node,.u p.inc]] (DV.v (.int .i64 (idx l p 0))):=by
 refine aj.intro (by kernel_rfl) rfl rfl 19 rfl rfl fun w0 K ac hK r=>?_
 refine bI (todo':=hd Tryz.f88 0) (E':=[(0,.d (.ro 2 (procs l))),(3,.pt 0 0),(7,.n l.length),(8,.n 0)]) (M':=[.bx 24 [.z p.node,.u p.inc]]) tk tq hK [(1,[(1,.z (((l.length:Nat):Int)))])] 2000 [0] [0,3,7,8] r (by kernel_rfl) (U ((by simp):(((procs l).length:Nat):Int)=((l.length:Nat):Int)) trivial) fun ac wd r=>?_
 refine aJ.rounds (Φ:=fun (i:Nat) ac wd=>(i≤l.length∧∀ j,j<i→l[j]?≠some p)∧dH [] w0 K 19 [(0,.d (.ro 2 (procs l))),(3,.pt 0 0),(7,.n l.length),(8,.n i)] [.bx 24 [.z p.node,.u p.inc]] ac wd) (l.length) ?_ (Nat.zero_le _) ⟨⟨by omega,by omega⟩,r⟩
 clear r
 rintro i fI cX ac wd ⟨bh,r⟩
 obtain ⟨gB,bh⟩:=bh
 cases h0:(decide ((((i:Nat):Int):Int)<((l.length:Nat):Int))) with
 | false=>
  have bq:=of_decide_eq_false h0
  rw [show (DV.v (.int .i64 (idx l p 0)):DV)=.z (-1) from (iv (by first | (rw [p5 (i:=i) (by rw [cv];congr 1;first | (symm;assumption) | omega) (fun j hj=>bh j hj)];simp;done) | exact pE fun j hj=>bh j (by omega)))]
  exact aM tk tq hK rfl [(2,[(0,.b false)])] 2000 r (by kernel_rfl) (U h0 trivial)
 | true=>
  have bq:=of_decide_eq_true h0
  obtain ⟨bS,cv⟩:∃ x,l[i]?=some x:=⟨_,List.getElem?_eq_getElem (by omega)⟩
  cases h1:(decide (p=bS)) with
  | false=>
   have b6:=of_decide_eq_false h1
   exact bI (todo':=hd Tryz.f88 0) tk tq hK [(2,[(0,.b true)]),(4,[(3,.ix (i) [.z bS.node,.u bS.inc]),(5,.b false)]),(6,[(0,.z (((i+1:Nat):Int)))])] 2000 [0] [0,3,7,8] r (by kernel_rfl) (U h0 (U (aS ((i:Nat):Int)) (U (gY cv) (U ((kU (pR _ _) h1):gi Tryz.prog 24 [(.int .i64 (p.node)),(.int .u64 (((p.inc:Nat):Int)))] [(.int .i64 (bS.node)),(.int .u64 (((bS.inc:Nat):Int)))] false) (U ((wi (by omega)):IntKind.i64.wrap ((((i:Nat):Int):Int)+1)=((i+1:Nat):Int)) trivial))))) fun ac wd r=>cX (by omega) ac wd ⟨⟨by omega,fun j hj=>by rcases Nat.lt_succ_iff_lt_or_eq.1 hj with h | rfl;exact bh j h;simp only [cv,Option.some.injEq,ne_eq];intro e;first | omega | simp_all⟩,r⟩
  | true=>
   have b6:=of_decide_eq_true h1
   rw [show (DV.v (.int .i64 (idx l p 0)):DV)=.n i from (iv (by first | (rw [p5 (i:=i) (by rw [cv];congr 1;first | (symm;assumption) | omega) (fun j hj=>bh j hj)];simp;done) | exact pE fun j hj=>bh j (by omega)))]
   exact aM tk tq hK rfl [(2,[(0,.b true)]),(4,[(3,.ix (i) [.z bS.node,.u bS.inc]),(5,.b true)])] 2000 r (by kernel_rfl) (U h0 (U (aS ((i:Nat):Int)) (U (gY cv) (U ((kU (pR _ _) h1):gi Tryz.prog 24 [(.int .i64 (p.node)),(.int .u64 (((p.inc:Nat):Int)))] [(.int .i64 (bS.node)),(.int .u64 (((bS.inc:Nat):Int)))] true) trivial))))
set_option maxRecDepth 100000 in
theorem MP (l:List Nat) (x:Nat) (hb:l.length<2147483648):aj Tryz.prog 94 [.d (.ro 1 (ae l)),.u x] (DV.v (.int .i64 (idx l x 0))):=by
 refine aj.intro (by kernel_rfl) rfl rfl 19 rfl rfl fun w0 K ac hK r=>?_
 refine bI (todo':=hd Tryz.f94 0) (E':=[(0,.d (.ro 1 (ae l))),(1,.u x),(7,.n l.length),(8,.n 0)]) (M':=[]) tk tq hK [(1,[(1,.z (((l.length:Nat):Int)))])] 2000 [] [0,1,7,8] r (by kernel_rfl) (U ((by simp):(((ae l).length:Nat):Int)=((l.length:Nat):Int)) trivial) fun ac wd r=>?_
 refine aJ.rounds (Φ:=fun (i:Nat) ac wd=>(i≤l.length∧∀ j,j<i→l[j]?≠some x)∧dH [] w0 K 19 [(0,.d (.ro 1 (ae l))),(1,.u x),(7,.n l.length),(8,.n i)] [] ac wd) (l.length) ?_ (Nat.zero_le _) ⟨⟨by omega,by omega⟩,r⟩
 clear r
 rintro i fI cX ac wd ⟨bh,r⟩
 obtain ⟨gB,bh⟩:=bh
 cases h0:(decide ((((i:Nat):Int):Int)<((l.length:Nat):Int))) with
 | false=>
  have bq:=of_decide_eq_false h0
  rw [show (DV.v (.int .i64 (idx l x 0)):DV)=.z (-1) from (iv (by first | (rw [p5 (i:=i) (by rw [cv];congr 1;first | (symm;assumption) | omega) (fun j hj=>bh j hj)];simp;done) | exact pE fun j hj=>bh j (by omega)))]
  exact aM tk tq hK rfl [(2,[(0,.b false)])] 2000 r (by kernel_rfl) (U h0 trivial)
 | true=>
  have bq:=of_decide_eq_true h0
  obtain ⟨bS,cv⟩:∃ x,l[i]?=some x:=⟨_,List.getElem?_eq_getElem (by omega)⟩
  cases h1:((((x:Nat):Int):Int)==((bS:Nat):Int)) with
  | false=>
   have b6:=ne_of_beq_false h1
   exact bI (todo':=hd Tryz.f94 0) tk tq hK [(2,[(0,.b true)]),(4,[(3,.ix (i) [.u bS]),(5,.b false)]),(6,[(0,.z (((i+1:Nat):Int)))])] 2000 [] [0,1,7,8] r (by kernel_rfl) (U h0 (U (aS ((i:Nat):Int)) (U (iy cv) (U h1 (U ((wi (by omega)):IntKind.i64.wrap ((((i:Nat):Int):Int)+1)=((i+1:Nat):Int)) trivial))))) fun ac wd r=>cX (by omega) ac wd ⟨⟨by omega,fun j hj=>by rcases Nat.lt_succ_iff_lt_or_eq.1 hj with h | rfl;exact bh j h;simp only [cv,Option.some.injEq,ne_eq];intro e;first | omega | simp_all⟩,r⟩
  | true=>
   have b6:=eq_of_beq h1
   rw [show (DV.v (.int .i64 (idx l x 0)):DV)=.n i from (iv (by first | (rw [p5 (i:=i) (by rw [cv];congr 1;first | (symm;assumption) | omega) (fun j hj=>bh j hj)];simp;done) | exact pE fun j hj=>bh j (by omega)))]
   exact aM tk tq hK rfl [(2,[(0,.b true)]),(4,[(3,.ix (i) [.u bS]),(5,.b true)])] 2000 r (by kernel_rfl) (U h0 (U (aS ((i:Nat):Int)) (U (iy cv) (U h1 trivial))))
def dQ (a b:Int):Int:=if a<b then -1 else if b<a then 1 else 0
def au.cmp (p q:au):Int:=if dQ p.node q.node≠0 then dQ p.node q.node else dQ p.inc q.inc
def au.lt (p q:au):Bool:=decide (p.node<q.node∨p.node=q.node∧p.inc<q.inc)
theorem QX (p q:au):(decide (0≤p.cmp q))=!p.lt q:=by
 unfold au.cmp au.lt dQ
 rw [Bool.eq_iff_iff]
 simp only [decide_eq_true_eq,Bool.not_eq_true',decide_eq_false_iff_not]
 repeat' split
 all_goals omega
set_option maxRecDepth 100000 in
theorem QY (a b:Int):aj Tryz.prog 80 [.z a,.z b] (DV.v (.int .i64 (dQ a b))):=by
 refine aj.intro (by kernel_rfl) rfl rfl 20 rfl rfl fun w0 K ac hK r=>?_
 cases h0:(decide ((a:Int)<b)) with
 | false=>
  have bq:=of_decide_eq_false h0
  cases h1:(decide ((b:Int)<a)) with
  | false=>
   have b6:=of_decide_eq_false h1
   rw [show (DV.v (.int .i64 (dQ a b)):DV)=.z 0 from (iv (by unfold dQ;(repeat' split)<;>omega))]
   exact aM tk tq hK rfl [(1,[(1,.b9 200 [(1,[(2,.b false)])])]),(2,[(1,.b9 200 [(1,[(2,.b false)])])]),(9,[(2,.b false)]),(11,[(2,.b false)])] 2000 r (by kernel_rfl) (U ((by simp):((a:Int) != a)=false) (U ((by simp):((b:Int) != b)=false) (U h0 (U h1 trivial))))
  | true=>
   have b6:=of_decide_eq_true h1
   rw [show (DV.v (.int .i64 (dQ a b)):DV)=.z 1 from (iv (by unfold dQ;(repeat' split)<;>omega))]
   exact aM tk tq hK rfl [(1,[(1,.b9 200 [(1,[(2,.b false)])])]),(2,[(1,.b9 200 [(1,[(2,.b false)])])]),(9,[(2,.b false)]),(11,[(2,.b true)])] 2000 r (by kernel_rfl) (U ((by simp):((a:Int) != a)=false) (U ((by simp):((b:Int) != b)=false) (U h0 (U h1 trivial))))
 | true=>
  have bq:=of_decide_eq_true h0
  rw [show (DV.v (.int .i64 (dQ a b)):DV)=.z (-1) from (iv (by unfold dQ;(repeat' split)<;>omega))]
  exact aM tk tq hK rfl [(1,[(1,.b9 200 [(1,[(2,.b false)])])]),(2,[(1,.b9 200 [(1,[(2,.b false)])])]),(9,[(2,.b true)])] 2000 r (by kernel_rfl) (U ((by simp):((a:Int) != a)=false) (U ((by simp):((b:Int) != b)=false) (U h0 trivial)))
set_option maxRecDepth 100000 in
theorem PR (a b:Int):aj Tryz.prog 59 [.d (.v (.int .u64 (a))),.d (.v (.int .u64 (b)))] (DV.v (.int .i64 (dQ a b))):=by
 refine aj.intro (by kernel_rfl) rfl rfl 20 rfl rfl fun w0 K ac hK r=>?_
 cases h0:(decide ((a:Int)<b)) with
 | false=>
  have bq:=of_decide_eq_false h0
  cases h1:(decide ((b:Int)<a)) with
  | false=>
   have b6:=of_decide_eq_false h1
   rw [show (DV.v (.int .i64 (dQ a b)):DV)=.z 0 from (iv (by unfold dQ;(repeat' split)<;>omega))]
   exact aM tk tq hK rfl [(1,[(1,.b9 200 [(1,[(2,.b false)])])]),(2,[(1,.b9 200 [(1,[(2,.b false)])])]),(9,[(2,.b false)]),(11,[(2,.b false)])] 2000 r (by kernel_rfl) (U ((by simp):((a:Int) != a)=false) (U ((by simp):((b:Int) != b)=false) (U h0 (U h1 trivial))))
  | true=>
   have b6:=of_decide_eq_true h1
   rw [show (DV.v (.int .i64 (dQ a b)):DV)=.z 1 from (iv (by unfold dQ;(repeat' split)<;>omega))]
   exact aM tk tq hK rfl [(1,[(1,.b9 200 [(1,[(2,.b false)])])]),(2,[(1,.b9 200 [(1,[(2,.b false)])])]),(9,[(2,.b false)]),(11,[(2,.b true)])] 2000 r (by kernel_rfl) (U ((by simp):((a:Int) != a)=false) (U ((by simp):((b:Int) != b)=false) (U h0 (U h1 trivial))))
 | true=>
  have bq:=of_decide_eq_true h0
  rw [show (DV.v (.int .i64 (dQ a b)):DV)=.z (-1) from (iv (by unfold dQ;(repeat' split)<;>omega))]
  exact aM tk tq hK rfl [(1,[(1,.b9 200 [(1,[(2,.b false)])])]),(2,[(1,.b9 200 [(1,[(2,.b false)])])]),(9,[(2,.b true)])] 2000 r (by kernel_rfl) (U ((by simp):((a:Int) != a)=false) (U ((by simp):((b:Int) != b)=false) (U h0 trivial)))
set_option maxRecDepth 100000 in
theorem Lj (p q:au):aj Tryz.prog 60 [.ag [.z p.node,.u p.inc],.ag [.z q.node,.u q.inc]] (DV.v (.int .i64 (p.cmp q))):=by
 refine aj.intro (by kernel_rfl) rfl rfl 14 rfl rfl fun w0 K ac hK r=>?_
 have u0:=(QY _ _:aj Tryz.prog 80 [.z p.node,.z q.node] (.z (dQ (p.node) (q.node))))
 cases h0:((dQ (p.node) (q.node):Int) != 0) with
 | false=>
  have bq:=kY h0
  rw [show (DV.v (.int .i64 (p.cmp q)):DV)=.z (dQ (((p.inc:Nat):Int)) (((q.inc:Nat):Int))) from (iv (by unfold au.cmp;simp_all))]
  exact aM tk tq hK rfl [(2,[(5,.aL (.z (dQ (p.node) (q.node)))),(7,.b9 200 [(1,[(1,.b false)]),(3,[(1,.b9 200 [(1,[(4,.aL (.z (dQ (((p.inc:Nat):Int)) (((q.inc:Nat):Int)))))])])])])])] 2000 r (by kernel_rfl) (U u0 (U h0 (U (PR _ _:aj Tryz.prog 59 [.u p.inc,.u q.inc] (.z (dQ (((p.inc:Nat):Int)) (((q.inc:Nat):Int))))) trivial)))
 | true=>
  have bq:¬ _=_:=bne_iff_ne.1 h0
  rw [show (DV.v (.int .i64 (p.cmp q)):DV)=.z (dQ (p.node) (q.node)) from (iv (by unfold au.cmp;simp_all))]
  exact aM tk tq hK rfl [(2,[(5,.aL (.z (dQ (p.node) (q.node)))),(7,.b9 200 [(1,[(1,.b true)])])])] 2000 r (by kernel_rfl) (U u0 (U h0 trivial))
end Go.Proofs.YtgkdnnmcjjabdaaGreat
namespace Go.Proofs.YtgkdnnmcjjabdaaGreat
open Go.RowKit
def ff (l:List au) (i:Nat):Prop:=(∀ j p,j<i→l[j]?=some p→p.may=true)∧∀ j p q,j+1<i→l[j]?=some p→l[j+1]?=some q→p.lt q=true
def CT (l:List au) (j:Nat):Bool:=match l[j]?,l[j+1]? with | some p,some q=>p.lt q | _,_=>true
def isSet (l:List au):Bool:=((List.range l.length).all fun j=>match l[j]? with | some p=>p.may | none=>true)&&(List.range (l.length-1)).all (CT l)
theorem uM (l:List au):isSet l=true↔ff l l.length:=by
 simp only [isSet,Bool.and_eq_true,List.all_eq_true,List.mem_range,ff]
 constructor
 ·rintro ⟨h1,h2⟩
  refine ⟨fun j p hj hp=>by have:=h1 j hj;simpa [hp] using this,fun j p q hj hp hq=>?_⟩
  have:=h2 j (by omega);simpa [CT,hp,hq] using this
 ·rintro ⟨h1,h2⟩
  refine ⟨fun j hj=>?_,fun j hj=>?_⟩
  ·rw [List.getElem?_eq_getElem hj];exact h1 j _ hj (List.getElem?_eq_getElem hj)
  ·have e1:l[j]?=some l[j]:=List.getElem?_eq_getElem (by omega)
   have e2:l[j+1]?=some l[j+1]:=List.getElem?_eq_getElem (by omega)
   simp only [CT,e1,e2];exact h2 j _ _ (by omega) e1 e2
theorem yH {l:List au} (h:ff l l.length):isSet l=true:=(uM l).2 h
theorem pF {l:List au} (h:¬ ff l l.length):isSet l=false:=by
 cases hs:isSet l with
 | false=>rfl
 | true=>exact absurd ((uM l).1 hs) h
theorem ff.step {l:List au} {i:Nat} {p:au} (h:ff l i) (hp:l[i]?=some p) (hm:p.may=true) (hc:∀ q,0<i→l[i-1]?=some q→q.lt p=true):ff l (i+1):=by
 refine ⟨fun j q hj hq=>?_,fun j a b hj ha hb=>?_⟩
 ·rcases Nat.lt_succ_iff_lt_or_eq.1 hj with h' | rfl
  ·exact h.1 j q h' hq
  ·rw [hp] at hq;cases hq;exact hm
 ·rcases Nat.lt_succ_iff_lt_or_eq.1 hj with h' | h'
  ·exact h.2 j a b h' ha hb
  ·have:j=i-1:=by omega
   subst this
   have hi:i-1+1=i:=by omega
   rw [hi,hp] at hb;cases hb
   exact hc a (by omega) ha
theorem ff.DZ {l:List au} {i n:Nat} {p:au} (hp:l[i]?=some p) (hm:p.may=false) (hi:i<n):¬ ff l n:=fun h=>by have:=h.1 i p hi hp;rw [hm] at this;cases this
theorem ff.D0 {l:List au} {i n:Nat} {p q:au} (hp:l[i]?=some p) (hq:l[i-1]?=some q) (h0:0<i) (hm:q.lt p=false) (hi:i<n):¬ ff l n:=fun h=>by
 have:=h.2 (i-1) q p (by omega) hq (by rw [show i-1+1=i by omega];exact hp);rw [hm] at this;cases this
theorem rA {p q:au} {b:Bool} (h:(decide ((0:Int)≤p.cmp q))=b):p.lt q=!b:=by rw [← h,QX];simp
set_option maxRecDepth 100000 in
theorem z9 (l:List au) (hb:l.length<2147483648):aj Tryz.prog 51 [.d (.ro 2 (procs l))] (DV.v (.bool (isSet l))):=by
 refine aj.intro (by kernel_rfl) rfl rfl 30 rfl rfl fun w0 K ac hK r=>?_
 refine bI (todo':=hd Tryz.f51 0) (E':=[(0,.d (.ro 2 (procs l))),(5,.d (.ro 2 (procs l))),(6,.n l.length),(7,.n 0)]) (M':=[]) tk tq hK [(1,[(1,.z (((l.length:Nat):Int)))])] 2000 [] [0,5,6,7] r (by kernel_rfl) (U ((by simp):(((procs l).length:Nat):Int)=((l.length:Nat):Int)) trivial) fun ac wd r=>?_
 refine aJ.rounds (Φ:=fun (i:Nat) ac wd=>(i≤l.length∧ff l i)∧dH [] w0 K 30 [(0,.d (.ro 2 (procs l))),(5,.d (.ro 2 (procs l))),(6,.n l.length),(7,.n i)] [] ac wd) (l.length) ?_ (Nat.zero_le _) ⟨⟨by omega,by simp [ff]⟩,r⟩
 clear r
 rintro i fI cX ac wd ⟨bh,r⟩
 obtain ⟨gB,bh⟩:=bh
 cases h0:(decide ((((i:Nat):Int):Int)<((l.length:Nat):Int))) with
 | false=>
  have bq:=of_decide_eq_false h0
  rw [show (DV.v (.bool (isSet l)):DV)=.v (.bool true) from (bv (by first | exact yH (by rw [show l.length=i by omega];exact bh) | exact pF (ff.DZ cv (by assumption) (by omega)) | exact pF (ff.D0 cv gb (by omega) (by first | assumption | (rw [rA (by assumption)];rfl)) (by omega))))]
  exact aM tk tq hK rfl [(2,[(0,.b false)])] 2000 r (by kernel_rfl) (U h0 trivial)
 | true=>
  have bq:=of_decide_eq_true h0
  obtain ⟨bS,cv⟩:∃ x,l[i]?=some x:=⟨_,List.getElem?_eq_getElem (by omega)⟩
  cases h1:(bS.may) with
  | false=>
   rw [show (DV.v (.bool (isSet l)):DV)=.v (.bool false) from (bv (by first | exact yH (by rw [show l.length=i by omega];exact bh) | exact pF (ff.DZ cv (by assumption) (by omega)) | exact pF (ff.D0 cv gb (by omega) (by first | assumption | (rw [rA (by assumption)];rfl)) (by omega))))]
   exact aM tk tq hK rfl [(2,[(0,.b true)]),(3,[(1,.ix (i) [.z bS.node,.u bS.inc])]),(4,[(1,.aL (.v (.bool false)))])] 2000 r (by kernel_rfl) (U h0 (U (aS ((i:Nat):Int)) (U (gY cv) (U ((by have k:=vI bS;rw [h1] at k;exact k):aj Tryz.prog 83 [.ag [.z bS.node,.u bS.inc]] (.v (.bool false))) trivial))))
  | true=>
   have u0:=((by have k:=vI bS;rw [h1] at k;exact k):aj Tryz.prog 83 [.ag [.z bS.node,.u bS.inc]] (.v (.bool true)))
   cases h2:(decide ((0:Int)<((i:Nat):Int))) with
   | false=>
    have dg:=of_decide_eq_false h2
    exact bI (todo':=hd Tryz.f51 0) tk tq hK [(2,[(0,.b true)]),(3,[(1,.ix (i) [.z bS.node,.u bS.inc])]),(4,[(1,.aL (.v (.bool true))),(5,.b false)]),(6,[(0,.z (((i+1:Nat):Int)))])] 2000 [] [0,5,6,7] r (by kernel_rfl) (U h0 (U (aS ((i:Nat):Int)) (U (gY cv) (U u0 (U h2 (U ((wi (by omega)):IntKind.i64.wrap ((((i:Nat):Int):Int)+1)=((i+1:Nat):Int)) trivial)))))) fun ac wd r=>cX (by omega) ac wd ⟨⟨by omega,bh.step cv (by assumption) fun q j8 hq=>by first | (exfalso;omega) | (rw [gb] at hq;cases hq;first | assumption | (rw [rA (by assumption)];rfl))⟩,r⟩
   | true=>
    have dg:=of_decide_eq_true h2
    obtain ⟨eV,gb⟩:∃ x,l[i-1]?=some x:=⟨_,List.getElem?_eq_getElem (by omega)⟩
    have u1:=((wi (by omega)):IntKind.i64.wrap ((((i:Nat):Int):Int)-1)=((i-1:Nat):Int))
    have u2:=(Lj _ _:aj Tryz.prog 60 [.ag [.z eV.node,.u eV.inc],.ag [.z bS.node,.u bS.inc]] (.z (eV.cmp bS)))
    cases h3:(decide ((0:Int)≤eV.cmp bS)) with
    | false=>
     have fY:=of_decide_eq_false h3
     exact bI (todo':=hd Tryz.f51 0) tk tq hK [(2,[(0,.b true)]),(3,[(1,.ix (i) [.z bS.node,.u bS.inc])]),(4,[(1,.aL (.v (.bool true))),(5,.b true),(9,.z (((i-1:Nat):Int))),(10,.ix (i-1) [.z eV.node,.u eV.inc]),(13,.aL (.z (eV.cmp bS))),(14,.b false)]),(6,[(0,.z (((i+1:Nat):Int)))])] 2000 [] [0,5,6,7] r (by kernel_rfl) (U h0 (U (aS ((i:Nat):Int)) (U (gY cv) (U u0 (U h2 (U u1 (U (aS ((i-1:Nat):Int)) (U (gY gb) (U u2 (U h3 (U ((wi (by omega)):IntKind.i64.wrap ((((i:Nat):Int):Int)+1)=((i+1:Nat):Int)) trivial))))))))))) fun ac wd r=>cX (by omega) ac wd ⟨⟨by omega,bh.step cv (by assumption) fun q j8 hq=>by first | (exfalso;omega) | (rw [gb] at hq;cases hq;first | assumption | (rw [rA (by assumption)];rfl))⟩,r⟩
    | true=>
     have fY:=of_decide_eq_true h3
     rw [show (DV.v (.bool (isSet l)):DV)=.v (.bool false) from (bv (by first | exact yH (by rw [show l.length=i by omega];exact bh) | exact pF (ff.DZ cv (by assumption) (by omega)) | exact pF (ff.D0 cv gb (by omega) (by first | assumption | (rw [rA (by assumption)];rfl)) (by omega))))]
     exact aM tk tq hK rfl [(2,[(0,.b true)]),(3,[(1,.ix (i) [.z bS.node,.u bS.inc])]),(4,[(1,.aL (.v (.bool true))),(5,.b true),(9,.z (((i-1:Nat):Int))),(10,.ix (i-1) [.z eV.node,.u eV.inc]),(13,.aL (.z (eV.cmp bS))),(14,.b true)])] 2000 r (by kernel_rfl) (U h0 (U (aS ((i:Nat):Int)) (U (gY cv) (U u0 (U h2 (U u1 (U (aS ((i-1:Nat):Int)) (U (gY gb) (U u2 (U h3 trivial))))))))))
end Go.Proofs.YtgkdnnmcjjabdaaGreat
namespace Go.Proofs.YtgkdnnmcjjabdaaGreat
open Go.RowKit
structure er where
 round:Nat
 server:au
deriving DecidableEq
structure View where
 id:er
 members:List au
 ay:List Nat
deriving DecidableEq
def er.may (v:er):Bool:=decide (v.server.may=true∧(v.round=0∨v.server.node≤4))
def View.first (p:au):View:=⟨⟨0,p⟩,[p],[0]⟩
theorem Is (v w:er):gi Tryz.prog 30 [.int .u64 (v.round:Int),.int .i64 v.server.node,.int .u64 (v.server.inc:Int)] [.int .u64 (w.round:Int),.int .i64 w.server.node,.int .u64 (w.server.inc:Int)] (decide (v=w)):=by
 have h:gi Tryz.prog 30 [.int .u64 (v.round:Int),.int .i64 v.server.node,.int .u64 (v.server.inc:Int)] [.int .u64 (w.round:Int),.int .i64 w.server.node,.int .u64 (w.server.inc:Int)] (((v.round:Int)==w.round)&&(v.server.node==w.server.node&&(v.server.inc:Int)==w.server.inc)):=
  ⟨by kernel_rfl,fun wd=>yE (d:=9999) (f0:=⟨"Round",22,0,false, "", "",0⟩) (f1:=⟨"Server",24,1,false, "", "",8⟩) (by kernel_rfl) (by kernel_rfl) (by decide) (by decide) (nN wd (by kernel_rfl) rfl) (nN wd (by kernel_rfl) rfl) (yC (n:=2) wd (by kernel_rfl)) (yC (n:=2) wd (by kernel_rfl))
   (yD wd 9998 (by kernel_rfl)) (Gs 9997 v.server.node v.server.inc w.server.node w.server.inc wd)⟩
 refine kU h ?_
 cases v with | mk a p=>cases w with | mk b q=>
 cases p with | mk x y=>cases q with | mk z u=>
 rw [Bool.eq_iff_iff]
 simp only [Bool.and_eq_true,beq_iff_eq,decide_eq_true_eq,er.mk.injEq,au.mk.injEq]
 omega
def View.bounded (v:View):Prop:=v.members.length<1073741824∧v.ay.length<1073741824
set_option maxRecDepth 100000 in
theorem Fs (v:er):aj Tryz.prog 56 [.ag [.u v.round,.z v.server.node,.u v.server.inc]] (DV.v (.bool v.may)):=by
 refine aj.intro (by kernel_rfl) rfl rfl 17 rfl rfl fun w0 K ac hK r=>?_
 cases h0:(v.server.may) with
 | false=>
  rw [show (DV.v (.bool v.may):DV)=.v (.bool false) from (bv (by simp [er.may, *];try omega))]
  exact aM tk tq hK rfl [(1,[(2,.aL (.v (.bool false)))])] 2000 r (by kernel_rfl) (U ((by have k:=vI v.server;rw [h0] at k;exact k):aj Tryz.prog 83 [.ag [.z v.server.node,.u v.server.inc]] (.v (.bool false))) trivial)
 | true=>
  have u0:=((by have k:=vI v.server;rw [h0] at k;exact k):aj Tryz.prog 83 [.ag [.z v.server.node,.u v.server.inc]] (.v (.bool true)))
  cases h1:((((v.round:Nat):Int):Int)==0) with
  | false=>
   have b6:=ne_of_beq_false h1
   cases h2:(decide ((v.server.node:Int)≤4)) with
   | false=>
    have dg:=of_decide_eq_false h2
    rw [show (DV.v (.bool v.may):DV)=.v (.bool false) from (bv (by simp [er.may, *];try omega))]
    exact aM tk tq hK rfl [(1,[(2,.aL (.v (.bool true))),(6,.b false),(11,.b false)])] 2000 r (by kernel_rfl) (U u0 (U h1 (U h2 trivial)))
   | true=>
    have dg:=of_decide_eq_true h2
    rw [show (DV.v (.bool v.may):DV)=.v (.bool true) from (bv (by simp [er.may, *];try omega))]
    exact aM tk tq hK rfl [(1,[(2,.aL (.v (.bool true))),(6,.b false),(11,.b true)])] 2000 r (by kernel_rfl) (U u0 (U h1 (U h2 trivial)))
  | true=>
   have b6:=eq_of_beq h1
   rw [show (DV.v (.bool v.may):DV)=.v (.bool true) from (bv (by simp [er.may, *];try omega))]
   exact aM tk tq hK rfl [(1,[(2,.aL (.v (.bool true))),(6,.b true)])] 2000 r (by kernel_rfl) (U u0 (U h1 trivial))
set_option maxRecDepth 100000 in
theorem yI (p:au):aj Tryz.prog 15 [.ag [.z p.node,.u p.inc]] (.ag [.v (.int .u64 0),.v (.int .i64 p.node),.v (.int .u64 ((p.inc:Nat):Int)),.em 24 2 (procs [p]),.em 22 1 (ae [0])]):=by
 refine aj.intro (by kernel_rfl) rfl rfl 9 rfl rfl fun w0 K ac hK r=>?_
 exact aM tk tq hK rfl [] 2000 r (by kernel_rfl) (U ((by simp):(1)=([[.z p.node,.u p.inc]]:List (List DV)).length) (U ((by simp):(1)=([[.v (.int .u64 0)]]:List (List DV)).length) trivial))
end Go.Proofs.YtgkdnnmcjjabdaaGreat
namespace Go.Proofs.YtgkdnnmcjjabdaaGreat
open Go.RowKit
theorem View.eq_iff {v w:View}:v=w↔v.id=w.id∧v.members=w.members∧v.ay=w.ay:=by cases v;cases w;simp
def lx (l:List au) (p:au):Nat:=(idx l p 0).toNat
def ly (l:List au) (p:au):Bool:=decide (0≤idx l p 0)
def Lone (l:List au) (i:Nat):Prop:=∀ a b p q,a<i→b<a→l[a]?=some p→l[b]?=some q→q.node≠p.node
def lone (l:List au):Bool:=(List.range l.length).all fun a=>(List.range a).all fun b=>match l[a]?,l[b]? with | some p,some q=>decide (q.node≠p.node) | _,_=>true
theorem Gt (l:List au):lone l=true↔Lone l l.length:=by
 simp only [lone,List.all_eq_true,List.mem_range,Lone]
 constructor
 ·intro h a b p q ha hb hp hq
  have:=h a ha b hb;simpa [hp,hq] using this
 ·intro h a ha b hb
  have e1:l[a]?=some l[a]:=List.getElem?_eq_getElem ha
  have e2:l[b]?=some l[b]:=List.getElem?_eq_getElem (by omega)
  simp only [e1,e2,decide_eq_true_eq];exact h a b _ _ ha hb e1 e2
theorem Ow {l:List au} (h:Lone l l.length):lone l=true:=(Gt l).2 h
set_option maxRecDepth 100000 in
theorem Gu (v w:View) (hb:v.bounded):aj Tryz.prog 57 [.ag [.u v.id.round,.z v.id.server.node,.u v.id.server.inc,.d (.ro 2 (procs v.members)),.d (.ro 1 (ae v.ay))],.ag [.u w.id.round,.z w.id.server.node,.u w.id.server.inc,.d (.ro 2 (procs w.members)),.d (.ro 1 (ae w.ay))]] (DV.v (.bool (decide (v=w)))):=by
 obtain ⟨eK,cB⟩:=hb
 refine aj.intro (by kernel_rfl) rfl rfl 20 rfl rfl fun w0 K ac hK r=>?_
 refine bI (todo':=hd Tryz.f57 0) (E':=[(2,.pt 0 0),(3,.pt 1 0),(12,.ag [.fn 89 [.pt 0 0,.pt 1 0],.fn 90 [.pt 0 0,.pt 1 0],.fn 92 [.pt 0 0,.pt 1 0]]),(13,.z 0)]) (M':=[.bx 34 [.u v.id.round,.z v.id.server.node,.u v.id.server.inc,.d (.ro 2 (procs v.members)),.d (.ro 1 (ae v.ay))],.bx 34 [.u w.id.round,.z w.id.server.node,.u w.id.server.inc,.d (.ro 2 (procs w.members)),.d (.ro 1 (ae w.ay))],.bx 149 [.fn 89 [.pt 0 0,.pt 1 0],.fn 90 [.pt 0 0,.pt 1 0],.fn 92 [.pt 0 0,.pt 1 0]]]) tk tq hK [] 2000 [0,1,2] [2,3,12,13] r (by kernel_rfl) trivial fun ac wd r=>?_
 cases h0:(decide (v.id=w.id)) with
 | false=>
  have bq:=of_decide_eq_false h0
  rw [show (DV.v (.bool (decide (v=w))):DV)=.v (.bool false) from (bv (by simp [View.eq_iff, *]))]
  exact aM tk tq hK rfl [(4,[(0,.n 0)]),(5,[(1,.b9 200 [(1,[(4,.b false)])])])] 2000 r (by kernel_rfl) (U (rfl:(0:Int)=((0:Nat):Int)) (U ((by omega):(0)<3) (U ((kU (Is _ _) h0):gi Tryz.prog 30 [(.int .u64 (((v.id.round:Nat):Int))),(.int .i64 (v.id.server.node)),(.int .u64 (((v.id.server.inc:Nat):Int)))] [(.int .u64 (((w.id.round:Nat):Int))),(.int .i64 (w.id.server.node)),(.int .u64 (((w.id.server.inc:Nat):Int)))] false) trivial)))
 | true=>
  have bq:=of_decide_eq_true h0
  refine bI (todo':=hd Tryz.f57 0) (E':=[(2,.pt 0 0),(3,.pt 1 0),(12,.ag [.fn 89 [.pt 0 0,.pt 1 0],.fn 90 [.pt 0 0,.pt 1 0],.fn 92 [.pt 0 0,.pt 1 0]]),(13,.z 1)]) (M':=[.bx 34 [.u v.id.round,.z v.id.server.node,.u v.id.server.inc,.d (.ro 2 (procs v.members)),.d (.ro 1 (ae v.ay))],.bx 34 [.u w.id.round,.z w.id.server.node,.u w.id.server.inc,.d (.ro 2 (procs w.members)),.d (.ro 1 (ae w.ay))],.bx 149 [.fn 89 [.pt 0 0,.pt 1 0],.fn 90 [.pt 0 0,.pt 1 0],.fn 92 [.pt 0 0,.pt 1 0]]]) tk tq hK [(4,[(0,.n 0)]),(5,[(1,.b9 200 [(1,[(4,.b true)])])]),(7,[(0,.z (1))])] 2000 [0,1,2] [2,3,12,13] r (by kernel_rfl) (U (rfl:(0:Int)=((0:Nat):Int)) (U ((by omega):(0)<3) (U ((kU (Is _ _) h0):gi Tryz.prog 30 [(.int .u64 (((v.id.round:Nat):Int))),(.int .i64 (v.id.server.node)),(.int .u64 (((v.id.server.inc:Nat):Int)))] [(.int .u64 (((w.id.round:Nat):Int))),(.int .i64 (w.id.server.node)),(.int .u64 (((w.id.server.inc:Nat):Int)))] true) (U ((wi (by omega)):IntKind.i64.wrap ((0:Int)+1)=1) trivial)))) fun ac wd r=>?_
  cases h1:(decide (v.members=w.members)) with
  | false=>
   have b6:=of_decide_eq_false h1
   rw [show (DV.v (.bool (decide (v=w))):DV)=.v (.bool false) from (bv (by simp [View.eq_iff, *]))]
   exact aM tk tq hK rfl [(4,[(0,.n 1)]),(5,[(1,.b9 200 [(1,[(4,.aL (.v (.bool false)))])])])] 2000 r (by kernel_rfl) (U (rfl:(1:Int)=((1:Nat):Int)) (U ((by omega):(1)<3) (U ((by have k:=EK v.members w.members (by omega);rw [h1] at k;exact k):aj Tryz.prog 91 [.d (.ro 2 (procs v.members)),.d (.ro 2 (procs w.members))] (.v (.bool false))) trivial)))
  | true=>
   have b6:=of_decide_eq_true h1
   refine bI (todo':=hd Tryz.f57 0) (E':=[(2,.pt 0 0),(3,.pt 1 0),(12,.ag [.fn 89 [.pt 0 0,.pt 1 0],.fn 90 [.pt 0 0,.pt 1 0],.fn 92 [.pt 0 0,.pt 1 0]]),(13,.z 2)]) (M':=[.bx 34 [.u v.id.round,.z v.id.server.node,.u v.id.server.inc,.d (.ro 2 (procs v.members)),.d (.ro 1 (ae v.ay))],.bx 34 [.u w.id.round,.z w.id.server.node,.u w.id.server.inc,.d (.ro 2 (procs w.members)),.d (.ro 1 (ae w.ay))],.bx 149 [.fn 89 [.pt 0 0,.pt 1 0],.fn 90 [.pt 0 0,.pt 1 0],.fn 92 [.pt 0 0,.pt 1 0]]]) tk tq hK [(4,[(0,.n 1)]),(5,[(1,.b9 200 [(1,[(4,.aL (.v (.bool true)))])])]),(7,[(0,.z (2))])] 2000 [0,1,2] [2,3,12,13] r (by kernel_rfl) (U (rfl:(1:Int)=((1:Nat):Int)) (U ((by omega):(1)<3) (U ((by have k:=EK v.members w.members (by omega);rw [h1] at k;exact k):aj Tryz.prog 91 [.d (.ro 2 (procs v.members)),.d (.ro 2 (procs w.members))] (.v (.bool true))) (U ((wi (by omega)):IntKind.i64.wrap ((1:Int)+1)=2) trivial)))) fun ac wd r=>?_
   cases h2:(decide (v.ay=w.ay)) with
   | false=>
    have dg:=of_decide_eq_false h2
    rw [show (DV.v (.bool (decide (v=w))):DV)=.v (.bool false) from (bv (by simp [View.eq_iff, *]))]
    exact aM tk tq hK rfl [(4,[(0,.n 2)]),(5,[(1,.b9 200 [(1,[(4,.aL (.v (.bool false)))])])])] 2000 r (by kernel_rfl) (U (rfl:(2:Int)=((2:Nat):Int)) (U ((by omega):(2)<3) (U ((by have k:=Fq v.ay w.ay (by omega);rw [h2] at k;exact k):aj Tryz.prog 93 [.d (.ro 1 (ae v.ay)),.d (.ro 1 (ae w.ay))] (.v (.bool false))) trivial)))
   | true=>
    have dg:=of_decide_eq_true h2
    refine bI (todo':=hd Tryz.f57 0) (E':=[(2,.pt 0 0),(3,.pt 1 0),(12,.ag [.fn 89 [.pt 0 0,.pt 1 0],.fn 90 [.pt 0 0,.pt 1 0],.fn 92 [.pt 0 0,.pt 1 0]]),(13,.z 3)]) (M':=[.bx 34 [.u v.id.round,.z v.id.server.node,.u v.id.server.inc,.d (.ro 2 (procs v.members)),.d (.ro 1 (ae v.ay))],.bx 34 [.u w.id.round,.z w.id.server.node,.u w.id.server.inc,.d (.ro 2 (procs w.members)),.d (.ro 1 (ae w.ay))],.bx 149 [.fn 89 [.pt 0 0,.pt 1 0],.fn 90 [.pt 0 0,.pt 1 0],.fn 92 [.pt 0 0,.pt 1 0]]]) tk tq hK [(4,[(0,.n 2)]),(5,[(1,.b9 200 [(1,[(4,.aL (.v (.bool true)))])])]),(7,[(0,.z (3))])] 2000 [0,1,2] [2,3,12,13] r (by kernel_rfl) (U (rfl:(2:Int)=((2:Nat):Int)) (U ((by omega):(2)<3) (U ((by have k:=Fq v.ay w.ay (by omega);rw [h2] at k;exact k):aj Tryz.prog 93 [.d (.ro 1 (ae v.ay)),.d (.ro 1 (ae w.ay))] (.v (.bool true))) (U ((wi (by omega)):IntKind.i64.wrap ((2:Int)+1)=3) trivial)))) fun ac wd r=>?_
    rw [show (DV.v (.bool (decide (v=w))):DV)=.v (.bool true) from (bv (by simp [View.eq_iff, *]))]
    exact aM tk tq hK rfl [] 2000 r (by kernel_rfl) trivial
set_option maxRecDepth 100000 in
theorem containsNum (l:List Nat) (x:Nat) (hb:l.length<2147483648):aj Tryz.prog 58 [.d (.ro 1 (ae l)),.u x] (DV.v (.bool (decide (0≤idx l x 0)))):=by
 refine aj.intro (by kernel_rfl) rfl rfl 9 rfl rfl fun w0 K ac hK r=>?_
 have u0:=(MP _ _ (by omega):aj Tryz.prog 94 [.d (.ro 1 (ae l)),.u x] (.z (idx l x 0)))
 cases h0:(decide ((0:Int)≤idx l x 0)) with
 | false=>
  have bq:=of_decide_eq_false h0
  exact aM tk tq hK rfl [(1,[(2,.aL (.z (idx l x 0))),(3,.b false)])] 2000 r (by kernel_rfl) (U u0 (U h0 trivial))
 | true=>
  have bq:=of_decide_eq_true h0
  exact aM tk tq hK rfl [(1,[(2,.aL (.z (idx l x 0))),(3,.b true)])] 2000 r (by kernel_rfl) (U u0 (U h0 trivial))
set_option maxRecDepth 100000 in
theorem MQ (v:View) (p:au) (hb:v.bounded):aj Tryz.prog 55 [.ag [.u v.id.round,.z v.id.server.node,.u v.id.server.inc,.d (.ro 2 (procs v.members)),.d (.ro 1 (ae v.ay))],.ag [.z p.node,.u p.inc]] (.tu [.v (.int .i64 ((lx v.members p:Nat):Int)),.v (.bool (ly v.members p))]):=by
 obtain ⟨eK,cB⟩:=hb
 refine aj.intro (by kernel_rfl) rfl rfl 14 rfl rfl fun w0 K ac hK r=>?_
 have u0:=(EL _ _ (by omega):aj Tryz.prog 88 [.d (.ro 2 (procs v.members)),.ag [.z p.node,.u p.inc]] (.z (idx v.members p 0)))
 cases h0:(decide ((idx v.members p 0:Int)<0)) with
 | false=>
  have bq:=of_decide_eq_false h0
  rw [show (.tu [.v (.int .i64 ((lx v.members p:Nat):Int)),.v (.bool (ly v.members p))]:DV)=.tu [.z (idx v.members p 0),.v (.bool true)] from (by unfold lx ly;simp;omega)]
  exact aM tk tq hK rfl [(1,[(3,.aL (.z (idx v.members p 0)))]),(2,[(1,.b false)])] 2000 r (by kernel_rfl) (U u0 (U h0 trivial))
 | true=>
  have bq:=of_decide_eq_true h0
  rw [show (.tu [.v (.int .i64 ((lx v.members p:Nat):Int)),.v (.bool (ly v.members p))]:DV)=.tu [.z 0,.v (.bool false)] from (by unfold lx ly;simp;omega)]
  exact aM tk tq hK rfl [(1,[(3,.aL (.z (idx v.members p 0)))]),(2,[(1,.b true)])] 2000 r (by kernel_rfl) (U u0 (U h0 trivial))
end Go.Proofs.YtgkdnnmcjjabdaaGreat
namespace Go.Proofs.YtgkdnnmcjjabdaaGreat
open Go.RowKit
structure Slot where
 n:Nat
 body:List UInt8
deriving DecidableEq
def Slot.row (s:Slot):List DV:=[.v (.int .u64 (s.n:Int)),.ro 1 (al s.body)]
abbrev aQ (l:List Slot):List (List DV):=l.map Slot.row
theorem ew {l:List Slot} {i:Nat} {s:Slot} (h:l[i]?=some s):(aQ l)[i]?=some [.v (.int .u64 (s.n:Int)),.ro 1 (al s.body)]:=by simp [aQ,h,Slot.row]
def ez (l:List Slot) (n:Nat):Int:=idx (l.map Slot.n) n 0
theorem Gv {l:List Slot} {n i:Nat} {s:Slot} (h:l[i]?=some s) (e:s.n=n) (hb:∀ j t,j<i→l[j]?=some t→t.n≠n):ez l n=(i:Int):=by
 unfold ez
 rw [p5 (i:=i) (by simp [h,e]) fun j hj e2=>?_]
 ·simp
 ·rw [List.getElem?_map,Option.map_eq_some_iff] at e2
  obtain ⟨t,h1,h2⟩:=e2
  exact hb j t hj h1 h2
theorem EM {l:List Slot} {n:Nat} (hb:∀ j t,j<l.length→l[j]?=some t→t.n≠n):ez l n = -1:=by
 unfold ez
 refine pE fun j hj e2=>?_
 rw [List.getElem?_map,Option.map_eq_some_iff] at e2
 obtain ⟨t,h1,h2⟩:=e2
 exact hb j t (by simpa using hj) h1 h2
def kL (l:List Nat) (i:Nat):Nat:=(l[i]?).getD 0
theorem Ft {l:List Slot} {n:Nat} (h:0≤ez l n):n ∈ l.map Slot.n:=by
 apply Decidable.byContradiction;intro hc
 have:ez l n = -1:=EM fun j t _ ht e=>hc (e▸List.mem_map.2 ⟨t,List.mem_of_getElem? ht,rfl⟩)
 omega
theorem KD:∀ {k:Nat} {l:List Nat},(∀ j,j<k→j+1 ∈ l)→k≤l.length
 | 0,_,_=>Nat.zero_le _
 | k+1,l,h=>by
  have h1:k+1 ∈ l:=h k (by omega)
  have h2:=KD (k:=k) (l:=l.erase (k+1)) fun j hj=>(List.mem_erase_of_ne (by omega)).2 (h j (by omega))
  rw [List.length_erase_of_mem h1] at h2
  have:=List.length_pos_of_mem h1
  omega
def mJ (l:List Slot):Nat→Nat→Nat
 | 0,k=>k
 | f+1,k=>if 0≤ez l (k+1) then mJ l f (k+1) else k
def bZ (l:List Slot):Nat:=mJ l l.length 0
theorem Aa {l:List Slot} {k:Nat} (h:∀ j,j<k→0≤ez l (j+1)):k≤l.length:=by
 have:=KD (l:=l.map Slot.n) fun j hj=>Ft (h j hj)
 simpa using this
theorem uN {l:List Slot} {k:Nat} (h:∀ j,j<k→0≤ez l (j+1)) (h1:¬ 0≤ez l (k+1)):bZ l=k:=by
 have key:∀ f i,i≤k→k≤i+f→mJ l f i=k:=by
  intro f
  induction f with
  | zero=>intro i h2 h3;unfold mJ;omega
  | succ f ih=>
   intro i h2 h3
   unfold mJ
   rcases Nat.lt_or_ge i k with h4 | h4
   ·rw [if_pos (h i h4),ih (i+1) (by omega) (by omega)]
   ·have:i=k:=by omega
    subst this;rw [if_neg h1]
 exact key l.length 0 (by omega) (by have:=Aa h;omega)
theorem Fv (l:List Slot):bZ l≤l.length:=by
 have key:∀ f i,mJ l f i≤i+f:=by
  intro f
  induction f with
  | zero=>intro i;unfold mJ;omega
  | succ f ih=>intro i;unfold mJ;have:=ih (i+1);split<;>omega
 simpa [bZ] using key l.length 0
set_option maxRecDepth 100000 in
theorem KK (l:List UInt8) (h0:0<l.length) (hb:l.length<2147483648):aj Tryz.prog 18 [.d (.ro 1 (al l))] (DV.em 5 1 (al l)):=by
 refine aj.intro (by kernel_rfl) rfl rfl 8 rfl rfl fun w0 K ac hK r=>?_
 rw [show (DV.em 5 1 (al l):DV)=.em 5 1 ([]++(al l)) from rfl]
 exact aM tk tq hK rfl [] 2000 r (by kernel_rfl) (U ((by simpa [al] using h0):0<(al l).length) (U ((by simp):(0)=([]:List (List DV)).length) (U ((by simp [al];omega):(2*((0)+(al l).length)+192)*1≤281474976710656) (U ((by simp [al];omega):(0)+(al l).length<4611686018427387904) (U ((by simp [bX,AV.one,cA,al]):bX (al l)) (U ((by simp):(0+(al l).length)=([]++(al l):List (List DV)).length) trivial))))))
set_option maxRecDepth 100000 in
theorem xY (c:Nat):aj Tryz.prog 18 [.d (.v (.slice none 0 c))] (DV.v (.slice none 0 0)):=by
 refine aj.intro (by kernel_rfl) rfl rfl 8 rfl rfl fun w0 K ac hK r=>?_
 exact aM tk tq hK rfl [] 2000 r (by kernel_rfl) trivial
set_option maxRecDepth 100000 in
theorem KX (a:Addr) (c:Nat):aj Tryz.prog 18 [.d (.v (.slice (some a) 0 c))] (DV.em 5 1 ([]++[])):=by
 refine aj.intro (by kernel_rfl) rfl rfl 8 rfl rfl fun w0 K ac hK r=>?_
 exact aM tk tq hK rfl [] 2000 r (by kernel_rfl) (U ((by simp):(0)=([]:List (List DV)).length) (U ((by simp):(2*((0)+0)+192)*1≤281474976710656) (U ((by simp):(0)+0<4611686018427387904) (U ((by simp [bX]):bX (([]:List (List DV)))) (U ((by simp):(0+0)=([]++([]:List (List DV)):List (List DV)).length) trivial)))))
theorem uB (l:List UInt8) (hb:l.length<2147483648):aj Tryz.prog 18 [.d (.ro 1 (al l))] (.em 5 1 (al l)):=by
 cases l with
 | nil=>
  refine aj.empty (pre:=[]) (post:=[]) fun a c=>?_
  cases a with
  | none=>exact aj.nil 5 1 (xY c)
  | some a=>exact KX a c
 | cons b l=>exact KK (b::l) (by simp) hb
set_option maxRecDepth 100000 in
theorem KM (l:List au) (h0:0<l.length) (hb:l.length<2147483648):aj Tryz.prog 27 [.d (.ro 2 (procs l))] (DV.em 24 2 (procs l)):=by
 refine aj.intro (by kernel_rfl) rfl rfl 8 rfl rfl fun w0 K ac hK r=>?_
 rw [show (DV.em 24 2 (procs l):DV)=.em 24 2 ([]++(procs l)) from rfl]
 exact aM tk tq hK rfl [] 2000 r (by kernel_rfl) (U ((by simpa using h0):0<(procs l).length) (U ((by simp):(0)=([]:List (List DV)).length) (U ((by simp;omega):(2*((0)+(procs l).length)+192)*16≤281474976710656) (U ((by simp;omega):(0)+(procs l).length<4611686018427387904) (U ((by simp [bX,AV.one,cA,au.row]):bX (procs l)) (U ((by simp):(0+(procs l).length)=([]++(procs l):List (List DV)).length) trivial))))))
set_option maxRecDepth 100000 in
theorem KN (c:Nat):aj Tryz.prog 27 [.d (.v (.slice none 0 c))] (DV.v (.slice none 0 0)):=by
 refine aj.intro (by kernel_rfl) rfl rfl 8 rfl rfl fun w0 K ac hK r=>?_
 exact aM tk tq hK rfl [] 2000 r (by kernel_rfl) trivial
set_option maxRecDepth 100000 in
theorem KY (a:Addr) (c:Nat):aj Tryz.prog 27 [.d (.v (.slice (some a) 0 c))] (DV.em 24 2 ([]++[])):=by
 refine aj.intro (by kernel_rfl) rfl rfl 8 rfl rfl fun w0 K ac hK r=>?_
 exact aM tk tq hK rfl [] 2000 r (by kernel_rfl) (U ((by simp):(0)=([]:List (List DV)).length) (U ((by simp):(2*((0)+0)+192)*16≤281474976710656) (U ((by simp):(0)+0<4611686018427387904) (U ((by simp [bX]):bX (([]:List (List DV)))) (U ((by simp):(0+0)=([]++([]:List (List DV)):List (List DV)).length) trivial)))))
theorem yr (l:List au) (hb:l.length<2147483648):aj Tryz.prog 27 [.d (.ro 2 (procs l))] (.em 24 2 (procs l)):=by
 cases l with
 | nil=>
  refine aj.empty (pre:=[]) (post:=[]) fun a c=>?_
  cases a with
  | none=>exact aj.nil 24 2 (KN c)
  | some a=>exact KY a c
 | cons b l=>exact KM (b::l) (by simp) hb
set_option maxRecDepth 100000 in
theorem KT (l:List Nat) (h0:0<l.length) (hb:l.length<2147483648):aj Tryz.prog 37 [.d (.ro 1 (ae l))] (DV.em 22 1 (ae l)):=by
 refine aj.intro (by kernel_rfl) rfl rfl 8 rfl rfl fun w0 K ac hK r=>?_
 rw [show (DV.em 22 1 (ae l):DV)=.em 22 1 ([]++(ae l)) from rfl]
 exact aM tk tq hK rfl [] 2000 r (by kernel_rfl) (U ((by simpa using h0):0<(ae l).length) (U ((by simp):(0)=([]:List (List DV)).length) (U ((by simp;omega):(2*((0)+(ae l).length)+192)*8≤281474976710656) (U ((by simp;omega):(0)+(ae l).length<4611686018427387904) (U ((by simp [bX,AV.one,cA]):bX (ae l)) (U ((by simp):(0+(ae l).length)=([]++(ae l):List (List DV)).length) trivial))))))
set_option maxRecDepth 100000 in
theorem KU (c:Nat):aj Tryz.prog 37 [.d (.v (.slice none 0 c))] (DV.v (.slice none 0 0)):=by
 refine aj.intro (by kernel_rfl) rfl rfl 8 rfl rfl fun w0 K ac hK r=>?_
 exact aM tk tq hK rfl [] 2000 r (by kernel_rfl) trivial
set_option maxRecDepth 100000 in
theorem K6 (a:Addr) (c:Nat):aj Tryz.prog 37 [.d (.v (.slice (some a) 0 c))] (DV.em 22 1 ([]++[])):=by
 refine aj.intro (by kernel_rfl) rfl rfl 8 rfl rfl fun w0 K ac hK r=>?_
 exact aM tk tq hK rfl [] 2000 r (by kernel_rfl) (U ((by simp):(0)=([]:List (List DV)).length) (U ((by simp):(2*((0)+0)+192)*8≤281474976710656) (U ((by simp):(0)+0<4611686018427387904) (U ((by simp [bX]):bX (([]:List (List DV)))) (U ((by simp):(0+0)=([]++([]:List (List DV)):List (List DV)).length) trivial)))))
theorem Fw (l:List Nat) (hb:l.length<2147483648):aj Tryz.prog 37 [.d (.ro 1 (ae l))] (.em 22 1 (ae l)):=by
 cases l with
 | nil=>
  refine aj.empty (pre:=[]) (post:=[]) fun a c=>?_
  cases a with
  | none=>exact aj.nil 22 1 (KU c)
  | some a=>exact K6 a c
 | cons b l=>exact KT (b::l) (by simp) hb
end Go.Proofs.YtgkdnnmcjjabdaaGreat
namespace Go.Proofs.YtgkdnnmcjjabdaaGreat
open Go.RowKit
def gq:List Slot→Nat→Int
 | [],_ => -1
 | s::r,k=>if s.n≠k+1 then (k:Int) else gq r (k+1)
theorem vJ:∀ {l:List Slot} {k i:Nat} {s:Slot},l[i]?=some s→s.n≠k+i+1→(∀ j t,j<i→l[j]?=some t→t.n=k+j+1)→gq l k=((k+i:Nat):Int)
 | [],_,_,_,h,_,_=>by simp at h
 | x::r,k,0,s,h,hn,_=>by simp at h;subst h;simp [gq];omega
 | x::r,k,i+1,s,h,hn,hb=>by
  have h0:x.n=k+1:=by have:=hb 0 x (by omega) rfl;simpa using this
  rw [gq,if_neg (by omega),vJ (i:=i) (s:=s) (by simpa using h) (by omega) fun j t hj ht=>by have:=hb (j+1) t (by omega) (by simpa using ht);omega]
  congr 1;omega
theorem uO:∀ {l:List Slot} {k:Nat},(∀ j t,j<l.length→l[j]?=some t→t.n=k+j+1)→gq l k = -1
 | [],_,_=>rfl
 | x::r,k,h=>by
  have h0:x.n=k+1:=by have:=h 0 x (by simp) rfl;simpa using this
  rw [gq,if_neg (by omega)]
  exact uO fun j t hj ht=>by have:=h (j+1) t (by simpa using hj) (by simpa using ht);omega
def iP:List Slot→Nat→Nat
 | [],k=>k
 | s::r,k=>if s.n≠k+1 then k+1 else iP r (k+1)
theorem Ab:∀ {l:List Slot} {k i:Nat} {s:Slot},l[i]?=some s→s.n≠k+i+1→(∀ j t,j<i→l[j]?=some t→t.n=k+j+1)→iP l k=k+i+1
 | [],_,_,_,h,_,_=>by simp at h
 | x::r,k,0,s,h,hn,_=>by simp at h;subst h;simp [iP];omega
 | x::r,k,i+1,s,h,hn,hb=>by
  have h0:x.n=k+1:=by have:=hb 0 x (by omega) rfl;simpa using this
  rw [iP,if_neg (by omega),Ab (i:=i) (s:=s) (by simpa using h) (by omega) fun j t hj ht=>by have:=hb (j+1) t (by omega) (by simpa using ht);omega]
  omega
theorem yJ:∀ {l:List Slot} {k:Nat},(∀ j t,j<l.length→l[j]?=some t→t.n=k+j+1)→iP l k=k+l.length
 | [],_,_=>rfl
 | x::r,k,h=>by
  have h0:x.n=k+1:=by have:=h 0 x (by simp) rfl;simpa using this
  rw [iP,if_neg (by omega)]
  rw [yJ fun j t hj ht=>by have:=h (j+1) t (by simpa using hj) (by simpa using ht);omega]
  simp;omega
def gM:List Slot→Nat→Nat→Int
 | [],_,_ => -1
 | s::r,n,k=>if n≤s.n then (k:Int) else gM r n (k+1)
theorem zk:∀ {l:List Slot} {n k i:Nat} {s:Slot},l[i]?=some s→n≤s.n→(∀ j t,j<i→l[j]?=some t→t.n<n)→gM l n k=((k+i:Nat):Int)
 | [],_,_,_,_,h,_,_=>by simp at h
 | x::r,n,k,0,s,h,hn,_=>by simp at h;subst h;simp [gM,hn]
 | x::r,n,k,i+1,s,h,hn,hb=>by
  have h0:x.n<n:=hb 0 x (by omega) rfl
  rw [gM,if_neg (by omega),zk (i:=i) (s:=s) (by simpa using h) hn fun j t hj ht=>hb (j+1) t (by omega) (by simpa using ht)]
  congr 1;omega
theorem uD:∀ {l:List Slot} {n k:Nat},(∀ j t,j<l.length→l[j]?=some t→t.n<n)→gM l n k = -1
 | [],_,_,_=>rfl
 | x::r,n,k,h=>by
  have h0:x.n<n:=h 0 x (by simp) rfl
  rw [gM,if_neg (by omega)]
  exact uD fun j t hj ht=>h (j+1) t (by simpa using hj) (by simpa using ht)
theorem xT {k:IntKind} {a b:Int} (h:a=b):AV.d (.v (.int k a))=.d (.v (.int k b)):=by rw [h]
theorem KE {T:TypeId} {k:IntKind} {a b:Int} (h:a=b):[af.bx T [.d (.v (.int k a))]]=[.bx T [.d (.v (.int k b))]]:=by rw [h]
set_option maxRecDepth 100000 in
theorem Gw (l:List Slot) (hb:l.length<2147483648):db Tryz.prog 99 [.d (.ro 2 (aQ l)),.fn 103 [.pt 0 0]] [.bx 22 [.d (.v (.int .u64 0))]] (.d (.v (.int .i64 (gq l 0)))) ([.bx 22 [.d (.v (.int .u64 ((iP l 0:Nat):Int)))]]):=by
 refine db.intro (by kernel_rfl) rfl rfl 19 rfl rfl fun D w0 K bs ac wd hK (bE:bs.m=1) r=>?_
 refine g6 (todo':=hd Tryz.f99 0) (E':=[(0,.d (.ro 2 (aQ l))),(7,.n l.length),(8,.n 0),(1,.fn 103 [.pt 0 0])]) (M':=[.bx 22 [.u 0]]) tk tq hK bE [(1,[(1,.z (((l.length:Nat):Int)))])] 2000 [0] [0,7,8,1] r (by kernel_rfl) (U ((by simp):(((aQ l).length:Nat):Int)=((l.length:Nat):Int)) trivial) fun ac wd r=>?_
 refine aJ.rounds (Φ:=fun (i:Nat) ac wd=>(i≤l.length∧∀ j t,j<i→l[j]?=some t→t.n=j+1)∧RB D w0 K 19 bs [(0,.d (.ro 2 (aQ l))),(7,.n l.length),(8,.n i),(1,.fn 103 [.pt 0 0])] [.bx 22 [.u i]] ac wd) (l.length) ?_ (Nat.zero_le _) ⟨⟨by omega,by omega⟩,r⟩
 clear r
 rintro i fI cX ac wd ⟨bh,r⟩
 obtain ⟨gB,bh⟩:=bh
 cases h0:(decide ((((i:Nat):Int):Int)<((l.length:Nat):Int))) with
 | false=>
  have bq:=of_decide_eq_false h0
  refine gj (y:=.z (-1)) (N':=[.bx 22 [.u i]]) ((xT (by first | (rw [vJ cv (by omega) (fun j t hj ht=>by have:=bh j t hj ht;omega)];simp;done) | exact uO fun j t hj ht=>by have:=bh j t (by omega) ht;omega))) ((KE (by first | (rw [Ab cv (by omega) (fun j t hj ht=>by have:=bh j t hj ht;omega)];simp;done) | (rw [yJ (fun j t hj ht=>by have:=bh j t (by omega) ht;omega)];simp;omega)))) ?_
  exact gg tk tq hK rfl bE [(2,[(0,.b false)])] 2000 [0] r (by kernel_rfl) (U h0 trivial)
 | true=>
  have bq:=of_decide_eq_true h0
  obtain ⟨bS,cv⟩:∃ x,l[i]?=some x:=⟨_,List.getElem?_eq_getElem (by omega)⟩
  have u0:=((wu (by omega)):IntKind.u64.wrap ((((i:Nat):Int):Int)+1)=((i+1:Nat):Int))
  cases h1:((((bS.n:Nat):Int):Int) != ((i+1:Nat):Int)) with
  | false=>
   have b6:=kY h1
   exact g6 (todo':=hd Tryz.f99 0) tk tq hK bE [(2,[(0,.b true)]),(4,[(3,.ix (i) [.u bS.n,.ro 1 (al bS.body)]),(5,.b9 200 [(1,[(1,.z (((i+1:Nat):Int)))]),(2,[(3,.b false)])])]),(6,[(0,.z (((i+1:Nat):Int)))])] 2000 [0] [0,7,8,1] r (by kernel_rfl) (U h0 (U (aS ((i:Nat):Int)) (U (ew cv) (U u0 (U h1 (U ((wi (by omega)):IntKind.i64.wrap ((((i:Nat):Int):Int)+1)=((i+1:Nat):Int)) trivial)))))) fun ac wd r=>cX (by omega) ac wd ⟨⟨by omega,fun j t hj ht=>by rcases Nat.lt_succ_iff_lt_or_eq.1 hj with h | rfl;exact bh j t h ht;rw [cv] at ht;cases ht;omega⟩,r⟩
  | true=>
   have b6:¬ _=_:=bne_iff_ne.1 h1
   refine gj (y:=.n i) (N':=[.bx 22 [.u (i+1)]]) ((xT (by first | (rw [vJ cv (by omega) (fun j t hj ht=>by have:=bh j t hj ht;omega)];simp;done) | exact uO fun j t hj ht=>by have:=bh j t (by omega) ht;omega))) ((KE (by first | (rw [Ab cv (by omega) (fun j t hj ht=>by have:=bh j t hj ht;omega)];simp;done) | (rw [yJ (fun j t hj ht=>by have:=bh j t (by omega) ht;omega)];simp;omega)))) ?_
   exact gg tk tq hK rfl bE [(2,[(0,.b true)]),(4,[(3,.ix (i) [.u bS.n,.ro 1 (al bS.body)]),(5,.b9 200 [(1,[(1,.z (((i+1:Nat):Int)))]),(2,[(3,.b true)])])])] 2000 [0] r (by kernel_rfl) (U h0 (U (aS ((i:Nat):Int)) (U (ew cv) (U u0 (U h1 trivial)))))
structure fK where
 src:au
 n:Nat
 body:List UInt8
deriving DecidableEq
def fK.row (m:fK):List DV:=[.v (.int .i64 m.src.node),.v (.int .u64 (m.src.inc:Int)),.v (.int .u64 (m.n:Int)),.ro 1 (al m.body)]
abbrev msgs (l:List fK):List (List DV):=l.map fK.row
def fE (l:List Slot):Nat:=if 0≤gq l 0 then (gq l 0).toNat else l.length
def mV (l:List Slot) (n:Nat):Nat:=if 0≤gM l n 0 then (gM l n 0).toNat else l.length
set_option maxRecDepth 100000 in
theorem Ox (l:List Slot) (hb:l.length<2147483648):db Tryz.prog 65 [.d (.ro 2 (aQ l)),.fn 103 [.pt 0 0]] [.bx 22 [.d (.v (.int .u64 0))]] (.d (.v (.int .i64 ((fE l:Nat):Int)))) ([.bx 22 [.u (iP l 0)]]):=by
 refine db.intro (by kernel_rfl) rfl rfl 14 rfl rfl fun D w0 K bs ac wd hK (bE:bs.m=1) r=>?_
 cases h0:(decide ((0:Int)≤gq l 0)) with
 | false=>
  have bq:=of_decide_eq_false h0
  refine gj (y:=.n l.length) (N':=[.bx 22 [.u (iP l 0)]]) ((xT (by unfold fE;split<;>omega))) (rfl) ?_
  exact gg tk tq hK rfl bE [(1,[(2,.mem [0] (.z (gq l 0)) [.bx 22 [.u (iP l 0)]])]),(2,[(1,.b false)]),(4,[(1,.z (((l.length:Nat):Int)))])] 2000 [0] r (by kernel_rfl) (U (Gw l (by omega)) (U h0 (U ((by simp):(((aQ l).length:Nat):Int)=((l.length:Nat):Int)) trivial)))
 | true=>
  have bq:=of_decide_eq_true h0
  refine gj (y:=.z (gq l 0)) (N':=[.bx 22 [.u (iP l 0)]]) ((xT (by unfold fE;split<;>omega))) (rfl) ?_
  exact gg tk tq hK rfl bE [(1,[(2,.mem [0] (.z (gq l 0)) [.bx 22 [.u (iP l 0)]])]),(2,[(1,.b true)])] 2000 [0] r (by kernel_rfl) (U (Gw l (by omega)) (U h0 trivial))
theorem Hz:∀ (l:List Slot) (k:Nat),gq l k<((k+l.length:Nat):Int)
 | [],k=>by simp [gq];omega
 | s::r,k=>by
  unfold gq;have:=Hz r (k+1);split
  ·simp;omega
  ·simp at this ⊢;omega
theorem PS (l:List Slot):fE l≤l.length:=by
 unfold fE;have:=Hz l 0;split<;>omega
set_option maxRecDepth 100000 in
theorem yb (l:List Slot) (hb:l.length<2147483648):aj Tryz.prog 69 [.ag [.d (.ro 2 (aQ l))]] (DV.v (.int .u64 ((fE l:Nat):Int))):=by
 have hg:=PS l
 refine aj.intro (by kernel_rfl) rfl rfl 10 rfl rfl fun w0 K ac hK r=>?_
 rw [show (DV.v (.int .u64 ((fE l:Nat):Int)):DV)=.u (fE l) from rfl]
 exact aM tk tq hK rfl [(1,[(2,.b9 200 []),(3,.mem [1] (.n (fE l)) [.bx 22 [.u (iP l 0)]])]),(2,[(1,.z (((fE l:Nat):Int)))])] 2000 r (by kernel_rfl) (U (Ox l (by omega)) (U ((wu (by omega)):IntKind.u64.wrap (((fE l:Nat):Int))=((fE l:Nat):Int)) trivial))
end Go.Proofs.YtgkdnnmcjjabdaaGreat
namespace Go.Proofs.YtgkdnnmcjjabdaaGreat
open Go.RowKit
theorem lH (x:Value):da (.v x):=by intro K K2 y H h;cases h;exact .v _
def View.may (v:View):Bool:=
 if v.id.round=0 then v.id.server.may&&decide (v=View.first v.id.server)
 else v.id.may&&decide (1≤v.members.length)&&decide (v.members.length≤6)&&decide (v.ay.length=v.members.length)&&isSet v.members&&lone v.members&&v.ay.all fun n=>decide (n≠0)
theorem PT {l:List Nat} {q:Nat→Bool} (h:∀ (j x:Nat),j<l.length→l[j]?=some x→q x=true):l.all q=true:=by
 rw [List.all_eq_true];intro x hx
 obtain ⟨j,hj,rfl⟩:=List.getElem_of_mem hx
 exact h j _ hj (List.getElem?_eq_getElem hj)
theorem QZ {l:List Nat} {q:Nat→Bool} {j x:Nat} (h:l[j]?=some x) (hq:q x=false):l.all q=false:=by
 cases ha:l.all q with
 | false=>rfl
 | true=>rw [List.all_eq_true] at ha;have:=ha x (List.mem_of_getElem? h);rw [hq] at this;cases this
theorem View.Q0 {v:View} {i x:Nat} (h:v.id.round≠0) (hx:v.ay[i]?=some x) (h0:x=0):v.may=false:=by
 unfold View.may;rw [if_neg h,QZ hx (by simp [h0])];simp
theorem View.ko {v:View} {i:Nat} (h:v.id.round≠0) (h1:v.id.may=true) (h2:1≤v.members.length) (h3:v.members.length≤6) (h4:v.ay.length=v.members.length) (h5:isSet v.members=true) (h6:lone v.members=true) (hi:v.ay.length≤i) (hs:∀ (j x:Nat),j<i→v.ay[j]?=some x→x≠0):v.may=true:=by
 unfold View.may;rw [if_neg h,PT fun j x hj hx=>decide_eq_true (hs j x (Nat.lt_of_lt_of_le hj hi) hx)];simp [*]
theorem View.Fx {v:View} (h:v.id.round=0):v.may=(v.id.server.may&&decide (v=View.first v.id.server)):=by unfold View.may;rw [if_pos h]
theorem View.kf {v:View} {c:Bool} (h:v.id.round=0) (h1:v.id.server.may=true) (h2:decide (v=View.first v.id.server)=c):v.may=c:=by rw [View.Fx h,h1,h2];rfl
theorem View.kq {v:View} (h:v.id.round≠0) (hb:v.id.may=false∨v.members.length<1∨6<v.members.length∨v.ay.length≠v.members.length∨isSet v.members=false∨lone v.members=false):v.may=false:=by
 unfold View.may;rw [if_neg h]
 rcases hb with h | h | h | h | h | h
 ·simp [h]
 ·rw [decide_eq_false (by omega:¬ 1≤v.members.length)];simp
 ·rw [decide_eq_false (by omega:¬ v.members.length≤6)];simp
 ·simp [h]
 ·simp [h]
 ·simp [h]
end Go.Proofs.YtgkdnnmcjjabdaaGreat
namespace Go.Proofs.YtgkdnnmcjjabdaaGreat
open Go.RowKit
abbrev streams (l:List (List Slot)):List (List DV):=l.map fun s=>[.ro 2 (aQ s)]
theorem mw {l:List (List Slot)} {i:Nat} {s:List Slot} (h:l[i]?=some s):(streams l)[i]?=some [.ro 2 (aQ s)]:=by simp [streams,h]
structure aA where
 view:View
 streams:List (List Slot)
 aC:List Nat
deriving DecidableEq
def wb (l:List Slot):Prop:=l.length<1073741824∧∀ x ∈ l,x.body.length<1073741824
def aA.bounded (f:aA):Prop:=f.view.bounded∧f.streams.length<1073741824∧f.aC.length<1073741824∧∀ l ∈ f.streams,wb l
theorem wb.at {l:List Slot} (h:wb l) {i:Nat} {x:Slot} (g:l[i]?=some x):x.body.length<1073741824:=h.2 x (List.mem_of_getElem? g)
theorem aA.bounded.at {f:aA} (h:f.bounded) {i:Nat} {l:List Slot} (g:f.streams[i]?=some l):wb l:=h.2.2.2 l (List.mem_of_getElem? g)
def Good (l:List Slot) (n:Nat):Prop:=∀ (k:Nat) x,k<n→l[k]?=some x→1≤x.n∧x.n≤16∧x.body.length≤64∧∀ y,0<k→l[k-1]?=some y→y.n<x.n
def aA.Ok (f:aA):Prop:=f.view.may=true∧f.streams.length=f.view.members.length∧f.aC.length=f.view.members.length∧∀ (i:Nat) l h,f.streams[i]?=some l→f.aC[i]?=some h→Good l l.length∧h≤bZ l
open Classical in
noncomputable def aA.may (f:aA):Bool:=decide f.Ok
theorem aA.yes {f:aA} {i:Nat} (h1:f.view.may=true) (h2:f.streams.length=f.view.members.length) (h3:f.aC.length=f.view.members.length) (hi:f.streams.length≤i) (h4:∀ (j:Nat) l h,j<i→f.streams[j]?=some l→f.aC[j]?=some h→Good l l.length∧h≤bZ l):f.may=true:=by
 unfold aA.may
 exact @decide_eq_true _ (Classical.propDecidable _) ⟨h1,h2,h3,fun j l h hl hh=>h4 j l h (Nat.lt_of_lt_of_le (List.getElem?_eq_some_iff.1 hl).1 hi) hl hh⟩
theorem aA.no {f:aA} (h:¬ f.Ok):f.may=false:=by unfold aA.may;exact @decide_eq_false _ (Classical.propDecidable _) h
theorem aA.mF {f:aA} (h:f.view.may=false):f.may=false:=aA.no fun ok=>by rw [ok.1] at h;cases h
theorem aA.mK {f:aA} (h:f.streams.length≠f.view.members.length∨f.aC.length≠f.view.members.length):f.may=false:=aA.no fun ok=>by have h1:=ok.2.1;have h2:=ok.2.2.1;omega
theorem aA.kr {f:aA} {i k:Nat} {l:List Slot} {x:Slot} (hl:f.streams[i]?=some l) (hx:l[k]?=some x) (h:x.n<1∨16<x.n∨64<x.body.length∨∃ y,0<k∧l[k-1]?=some y∧x.n≤y.n):f.may=false:=aA.no fun ok=>by
 obtain ⟨-,h1,h2,h3⟩:=ok
 have hi:=(List.getElem?_eq_some_iff.1 hl).1
 obtain ⟨g1,g2,g3,g4⟩:=(h3 i l _ hl (List.getElem?_eq_getElem (by omega))).1 k x (List.getElem?_eq_some_iff.1 hx).1 hx
 rcases h with h | h | h | ⟨y,hk,hy,h⟩
 ·omega
 ·omega
 ·omega
 ·have:=g4 y hk hy;omega
theorem aA.PU {f:aA} {i h:Nat} {l:List Slot} (hl:f.streams[i]?=some l) (hh:f.aC[i]?=some h) (hc:bZ l<h):f.may=false:=aA.no fun ok=>by
 have:=(ok.2.2.2 i l h hl hh).2;omega
theorem Good.next {l:List Slot} {k:Nat} {x:Slot} (h:Good l k) (hx:l[k]?=some x) (h1:1≤x.n) (h2:x.n≤16) (h3:x.body.length≤64) (h4:∀ y,0<k→l[k-1]?=some y→y.n<x.n):Good l (k+1):=by
 intro j y hj hy
 rcases Nat.lt_succ_iff_lt_or_eq.1 hj with h' | rfl
 ·exact h j y h' hy
 ·rw [hx] at hy;cases hy;exact ⟨h1,h2,h3,h4⟩
end Go.Proofs.YtgkdnnmcjjabdaaGreat
namespace Go.Proofs.YtgkdnnmcjjabdaaGreat
open Go.RowKit
def bJ (l:List Slot):List (List DV):=l.map fun s=>[.v (.int .u64 (s.n:Int)),.em 5 1 (al s.body)]
def aP (l:List (List Slot)):List (List DV):=l.map fun s=>[.em 113 2 (bJ s)]
def View.own (v:View):List DV:=[.v (.int .u64 (v.id.round:Int)),.v (.int .i64 v.id.server.node),.v (.int .u64 (v.id.server.inc:Int)),.em 24 2 (procs v.members),.em 22 1 (ae v.ay)]
def aA.own (f:aA):List DV:=[.v (.int .u64 (f.view.id.round:Int)),.v (.int .i64 f.view.id.server.node),.v (.int .u64 (f.view.id.server.inc:Int)),.em 24 2 (procs f.view.members),.em 22 1 (ae f.view.ay),.em 111 1 (aP f.streams),.em 22 1 (ae f.aC)]
@[simp] theorem Vt (l:List Slot):(bJ l).length=l.length:=by simp [bJ]
@[simp] theorem K7 (l:List (List Slot)):(aP l).length=l.length:=by simp [aP]
theorem cR (l:List UInt8):(al l).length=l.length:=by simp [al]
end Go.Proofs.YtgkdnnmcjjabdaaGreat
namespace Go.Proofs.YtgkdnnmcjjabdaaGreat
open Go.RowKit
def aA.zero:aA:=⟨⟨⟨0,⟨0,0⟩⟩,[],[]⟩,[],[]⟩
noncomputable def aA.owned (f:aA):aA:=if f.may=true then f else aA.zero
theorem aA.jy {f:aA} (h:f.may=true):f.owned=f:=by unfold aA.owned;rw [if_pos h]
theorem aA.rO {f:aA} (h:f.may=false):f.owned=aA.zero:=by unfold aA.owned;rw [if_neg (by rw [h];simp)]
def aA.fresh (v:View):aA:=⟨v,List.replicate v.members.length [],List.replicate v.members.length 0⟩
theorem aA.D8 {f:aA} (h:f.bounded):f.owned.bounded:=by
 cases hm:f.may with
 | true=>rw [aA.jy hm];exact h
 | false=>
  rw [aA.rO hm]
  exact ⟨⟨by simp [aA.zero],by simp [aA.zero]⟩,by simp [aA.zero],by simp [aA.zero],by simp [aA.zero]⟩
end Go.Proofs.YtgkdnnmcjjabdaaGreat
namespace Go.Proofs.YtgkdnnmcjjabdaaGreat
open Go.RowKit
theorem LK (l:List UInt8):bM (al l)=al l:=by simp [b7,al,bc]
theorem pq (l:List Slot):bM (bJ l)=aQ l:=by
 rw [b7];unfold bJ aQ;rw [List.map_map]
 apply List.map_congr_left;intro s _
 show [bc (.v _),bc (.em 5 1 (al s.body))]=_
 rw [bc,bc,LK];rfl
theorem x2 (l:List (List Slot)):bM (aP l)=streams l:=by
 rw [b7];unfold aP streams;rw [List.map_map]
 apply List.map_congr_left;intro s _
 show [bc (.em 113 2 (bJ s))]=_
 rw [bc,pq]
theorem MR {α:Type} {l:List α} {g:α→Nat} {k:Nat} {x:α} (h:l[k]?=some x):ae ((l.take k).map g)++[[.v (.int .u64 ((g x:Nat):Int))]]=ae ((l.take (k+1)).map g):=by
 obtain ⟨hk,rfl⟩:=List.getElem?_eq_some_iff.1 h
 rw [List.take_succ_eq_append_getElem hk,List.map_append]
 unfold ae;rw [List.map_append];rfl
noncomputable def aA.counts (f:aA):List Nat:=f.owned.streams.map bZ
end Go.Proofs.YtgkdnnmcjjabdaaGreat
namespace Go.Proofs.YtgkdnnmcjjabdaaGreat
open Go.RowKit
set_option maxRecDepth 100000 in
theorem Fy (f:aA) (i:Nat) (x:Slot) (hi:i<f.view.members.length) (hx:x.body.length<2147483648) {p:au} (gp:f.view.members[i]?=some p):aj Tryz.prog 70 [.ag [.u f.view.id.round,.z f.view.id.server.node,.u f.view.id.server.inc,.d (.ro 2 (procs f.view.members)),.d (.ro 1 (ae f.view.ay)),.d (.ro 1 (streams f.streams)),.d (.ro 1 (ae f.aC))],.n i,.ag [.u x.n,.d (.ro 1 (al x.body))]] (.ag [.v (.int .i64 p.node),.v (.int .u64 ((p.inc:Nat):Int)),.v (.int .u64 ((x.n:Nat):Int)),.em 5 1 (al x.body)]):=by
 refine aj.intro (by kernel_rfl) rfl rfl 20 rfl rfl fun w0 K ac hK r=>?_
 rw [show (.ag [.v (.int .i64 p.node),.v (.int .u64 ((p.inc:Nat):Int)),.v (.int .u64 ((x.n:Nat):Int)),.em 5 1 (al x.body)]:DV)=.ag [.z p.node,.u p.inc,.u x.n,.em 5 1 (al x.body)] from rfl]
 exact aM tk tq hK rfl [(1,[(5,.ix (i) [.z p.node,.u p.inc]),(11,.aL (.em 5 1 (al x.body)))])] 2000 r (by kernel_rfl) (U (aS ((i:Nat):Int)) (U (gY gp) (U (uB x.body (by omega)) (U (b5 ((al x.body).length)) trivial))))
set_option maxRecDepth 100000 in
theorem R7 (v:View) (hb:v.bounded):aj Tryz.prog 14 [.ag [.u v.id.round,.z v.id.server.node,.u v.id.server.inc,.d (.ro 2 (procs v.members)),.d (.ro 1 (ae v.ay))]] (.ag (v.own++[.em 111 1 (List.replicate v.members.length [.v (.slice none 0 0)]),.em 22 1 (List.replicate v.members.length [.v (.int .u64 0)])])):=by
 obtain ⟨eK,cB⟩:=id hb
 refine aj.intro (by kernel_rfl) rfl rfl 21 rfl rfl fun w0 K ac hK r=>?_
 have Jo:=(yr v.members (by omega))
 have Jp:=(Fw v.ay (by omega))
 have Jq:=((by simp):(((procs v.members).length:Nat):Int)=((v.members.length:Nat):Int))
 have m9:=(aS ((v.members.length:Nat):Int))
 have Jr:=((by first | omega | (simp;omega)):24*(v.members.length)≤281474976710656)
 have xr:=((by first | omega | (simp;omega)):(v.members.length)<4611686018427387904)
 have Js:=((by first | omega | (simp;omega)):8*(v.members.length)≤281474976710656)
 refine lu (todo':=aft Tryz.f14 4) (E':=[(2,.pt 1 0)]) (M':=[.bx 34 [.u v.id.round,.z v.id.server.node,.u v.id.server.inc,.sl 2 ((procs v.members).length),.sl 3 ((ae v.ay).length)],.bx 37 [.u v.id.round,.z v.id.server.node,.u v.id.server.inc,.sl 2 ((procs v.members).length),.sl 3 ((ae v.ay).length),.sl 4 (v.members.length),.sl 5 (v.members.length)],.rw 24 2 (procs v.members),.rw 22 1 (ae v.ay),.rw 111 1 (List.replicate (v.members.length) [.v (.slice none 0 0)]),.rw 22 1 (List.replicate (v.members.length) [.v (.int .u64 0)])]) tk tq hK [(1,[(2,.aL (.em 24 2 (procs v.members)))]),(2,[(2,.aL (.em 22 1 (ae v.ay)))]),(3,[(2,.z (((v.members.length:Nat):Int)))]),(4,[(2,.n (v.members.length)),(4,.n (v.members.length))])] 9 2 [] [[0,1,2,3,4,5],[0,1,2,3,5,4]] [2] r (by kernel_rfl) (U (U Jo (U Jp (U Jq (U m9 (U m9 (U Jr (U xr (U m9 (U m9 (U Js (U xr trivial))))))))))) (U (U Jo (U Jp (U Jq (U m9 (U m9 (U Js (U xr (U m9 (U m9 (U Jr (U xr trivial))))))))))) trivial)) fun ac wd r=>?_
 rw [show (.ag (v.own++[.em 111 1 (List.replicate v.members.length [.v (.slice none 0 0)]),.em 22 1 (List.replicate v.members.length [.v (.int .u64 0)])]):DV)=.ag [.u v.id.round,.z v.id.server.node,.u v.id.server.inc,.em 24 2 (procs v.members),.em 22 1 (ae v.ay),.em 111 1 (List.replicate (v.members.length) [.v (.slice none 0 0)]),.em 22 1 (List.replicate (v.members.length) [.v (.int .u64 0)])] from rfl]
 exact aM tk tq hK rfl [] 2000 r (by kernel_rfl) (U (b5 ((procs v.members).length)) (U (b5 ((ae v.ay).length)) (U ((by simp):(v.members.length)=(List.replicate (v.members.length) [.v (.slice none 0 0)]:List (List DV)).length) (U ((by simp):(v.members.length)=(List.replicate (v.members.length) [.v (.int .u64 0)]:List (List DV)).length) trivial))))
theorem H5 (v:View) (hb:v.bounded):aj Tryz.prog 14 [.ag [.u v.id.round,.z v.id.server.node,.u v.id.server.inc,.d (.ro 2 (procs v.members)),.d (.ro 1 (ae v.ay))]] (.ag (aA.fresh v).own):=by
 refine (R7 v hb).le ?_
 unfold aA.own aA.fresh View.own aP ae
 simp only [List.map_replicate]
 exact gD.ag (.cons (.refl _) (.cons (.refl _) (.cons (.refl _) (.cons (.refl _) (.cons (.refl _) (.cons (.rep _ (.cons (.RQ 113 2) .nil)) (.cons (.refl _) .nil)))))))
end Go.Proofs.YtgkdnnmcjjabdaaGreat
namespace Go.Proofs.YtgkdnnmcjjabdaaGreat
open Go.RowKit
theorem HA {α:Type} [DecidableEq α] {p:α}:∀ {l:List α} {k:Nat},p ∈ l→0≤idx l p k
 | [],_,h=>by cases h
 | x::r,k,h=>by
  unfold idx
  split
  ·omega
  ·rename_i hx
   rcases List.mem_cons.1 h with rfl | h
   ·exact absurd rfl hx
   ·exact HA h
theorem Oy {l:List Slot} {i:Nat} {s:Slot} (h:l[i]?=some s):0≤ez l s.n:=HA (List.mem_map.2 ⟨s,List.mem_of_getElem? h,rfl⟩)
theorem yt (l:List Slot):∃ k,(∀ j,j<k→0≤ez l (j+1))∧¬ 0≤ez l (k+1):=by
 apply Classical.byContradiction;intro hn
 have key:∀ m,∀ j,j<m→0≤ez l (j+1):=by
  intro m
  induction m with
  | zero=>intro j hj;omega
  | succ m ih=>
   intro j hj
   rcases Nat.lt_succ_iff_lt_or_eq.1 hj with h | rfl
   ·exact ih j h
   ·exact Classical.byContradiction fun hc=>hn ⟨j,ih,hc⟩
 have:=Aa (key (l.length+1));omega
theorem Good.from {l:List Slot} (h:Good l l.length):∀ (p:Nat) x,l[p]?=some x→p+1≤x.n:=by
 intro p
 induction p with
 | zero=>intro x hx;exact (h 0 x (List.getElem?_eq_some_iff.1 hx).1 hx).1
 | succ p ih=>
  intro x hx
  have hp:=(List.getElem?_eq_some_iff.1 hx).1
  have h1:=ih _ (List.getElem?_eq_getElem (by omega:p<l.length))
  have h2:=(h (p+1) x hp hx).2.2.2 _ (by omega) (List.getElem?_eq_getElem (by omega:p<l.length))
  omega
theorem HB {l:List Slot} (h:Good l l.length) {k:Nat} (hk:∀ j,j<k→0≤ez l (j+1)):∀ (j:Nat) x,j<k→l[j]?=some x→x.n=j+1:=by
 intro j
 induction j using Nat.strongRecOn with
 | ind j ih=>
  intro x hj hx
  have hm:=Ft (hk j hj)
  obtain ⟨s,hs,hn⟩:=List.mem_map.1 hm
  obtain ⟨p,hp,rfl⟩:=List.getElem_of_mem hs
  have e:=List.getElem?_eq_getElem hp
  have h1:=h.from p _ e
  rcases Nat.lt_trichotomy p j with h2 | h2 | h2
  ·have:=ih p h2 _ (by omega) e;omega
  ·subst h2;rw [hx,Option.some.injEq] at e;rw [e];exact hn
  ·omega
theorem zl {l:List Slot} (h:Good l l.length):fE l=bZ l:=by
 obtain ⟨k,h1,h2⟩:=yt l
 rw [uN h1 h2]
 have h3:=HB h h1
 have hle:=Aa h1
 unfold fE
 rcases Nat.lt_or_ge k l.length with hk | hk
 ·have e:=List.getElem?_eq_getElem hk
  have dx:l[k].n≠k+1:=fun he=>h2 (by rw [← he];exact Oy e)
  rw [vJ e (by omega) fun j t hj ht=>by have:=h3 j t hj ht;omega]
  simp
 ·have:k=l.length:=by omega
  subst this
  rw [uO fun j t hj ht=>by have:=h3 j t hj ht;omega]
  simp
def kD (l:List Slot) (k:Nat):Nat:=if k=0 then 0 else ((l[k-1]?).map Slot.n).getD 0
theorem LL {l:List Slot} {k:Nat} {x:Slot} (h:l[k]?=some x):kD l (k+1)=x.n:=by unfold kD;rw [if_neg (by omega)];simp [h]
theorem Oz {l:List Slot} {k n:Nat} (h:kD l k<n):∀ y:Slot,0<k→l[k-1]?=some y→y.n<n:=by
 intro y hk hy
 unfold kD at h;rw [if_neg (by omega),hy] at h;simpa using h
theorem OA {l:List Slot} {k n:Nat} (hn:0<n) (hk:k≤l.length) (h:n≤kD l k):∃ y:Slot,0<k∧l[k-1]?=some y∧n≤y.n:=by
 unfold kD at h
 rcases Nat.eq_zero_or_pos k with h0 | h0
 ·rw [if_pos h0] at h;omega
 ·rw [if_neg (by omega),List.getElem?_eq_getElem (by omega:k-1<l.length)] at h
  exact ⟨_,h0,List.getElem?_eq_getElem (by omega),by simpa using h⟩
theorem aA.mG {f:aA} {i k:Nat} {l:List Slot} {x:Slot} (hl:f.streams[i]?=some l) (hx:l[k]?=some x) (h:x.n≤kD l k):f.may=false:=by
 rcases Nat.eq_zero_or_pos x.n with h0 | h0
 ·exact aA.kr hl hx (.inl (by omega))
 ·exact aA.kr hl hx (.inr (.inr (.inr (OA h0 (Nat.le_of_lt (List.getElem?_eq_some_iff.1 hx).1) h))))
theorem aA.mL {f:aA} {i h k:Nat} {l:List Slot} (hl:f.streams[i]?=some l) (hh:f.aC[i]?=some h) (hg:Good l k) (hk:l.length≤k) (hc:fE l<h):f.may=false:=by
 refine aA.PU hl hh ?_
 rw [← zl (l:=l) fun j x hj hx=>hg j x (by omega) hx];exact hc
set_option maxRecDepth 100000 in
theorem HC (hV:∀ v:View,v.bounded→aj Tryz.prog 34 [.ag [.u v.id.round,.z v.id.server.node,.u v.id.server.inc,.d (.ro 2 (procs v.members)),.d (.ro 1 (ae v.ay))]] (DV.v (.bool v.may))) (f:aA) (hb:f.bounded):aj Tryz.prog 98 [.ag [.u f.view.id.round,.z f.view.id.server.node,.u f.view.id.server.inc,.d (.ro 2 (procs f.view.members)),.d (.ro 1 (ae f.view.ay)),.d (.ro 1 (streams f.streams)),.d (.ro 1 (ae f.aC))]] (DV.v (.bool f.may)):=by
 obtain ⟨xU,eK,cB,kQ⟩:=id hb
 have Vo:=xU
 obtain ⟨VK,VL⟩:=Vo
 refine aj.intro (by kernel_rfl) rfl rfl 73 rfl rfl fun w0 K ac hK r=>?_
 have u0:=((by simp [al]):(((procs f.view.members).length:Nat):Int)=((f.view.members.length:Nat):Int))
 cases h0:(f.view.may) with
 | false=>
  rw [show (DV.v (.bool f.may):DV)=.v (.bool false) from (bv (by first | exact aA.mF (by assumption) | exact aA.mK (by omega) | exact aA.yes (by assumption) (by omega) (by omega) (by omega) bh | exact aA.mG cI cL (by omega) | exact aA.kr cI cL (by omega) | exact aA.mL cI jw cy (by omega) (by omega)))]
  exact aM tk tq hK rfl [(1,[(3,.z (((f.view.members.length:Nat):Int)))]),(2,[(2,.aL (.v (.bool false)))])] 2000 r (by kernel_rfl) (U u0 (U ((by have k:=hV f.view (by assumption);rw [h0] at k;exact k):aj Tryz.prog 34 [.ag [.u f.view.id.round,.z f.view.id.server.node,.u f.view.id.server.inc,.d (.ro 2 (procs f.view.members)),.d (.ro 1 (ae f.view.ay))]] (.v (.bool false))) trivial))
 | true=>
  have u1:=((by have k:=hV f.view (by assumption);rw [h0] at k;exact k):aj Tryz.prog 34 [.ag [.u f.view.id.round,.z f.view.id.server.node,.u f.view.id.server.inc,.d (.ro 2 (procs f.view.members)),.d (.ro 1 (ae f.view.ay))]] (.v (.bool true)))
  have u2:=((by simp [al]):(((streams f.streams).length:Nat):Int)=((f.streams.length:Nat):Int))
  cases h1:((((f.streams.length:Nat):Int):Int) != ((f.view.members.length:Nat):Int)) with
  | false=>
   have b6:=kY h1
   have u3:=((by simp [al]):(((ae f.aC).length:Nat):Int)=((f.aC.length:Nat):Int))
   cases h2:((((f.aC.length:Nat):Int):Int) != ((f.view.members.length:Nat):Int)) with
   | false=>
    have dg:=kY h2
    refine bI (todo':=hd Tryz.f98 0) (E':=[(1,.pt 0 0),(3,.n f.view.members.length),(32,.d (.ro 1 (streams f.streams))),(33,.n f.streams.length),(34,.n 0)]) (M':=[.bx 37 [.u f.view.id.round,.z f.view.id.server.node,.u f.view.id.server.inc,.d (.ro 2 (procs f.view.members)),.d (.ro 1 (ae f.view.ay)),.d (.ro 1 (streams f.streams)),.d (.ro 1 (ae f.aC))]]) tk tq hK [(1,[(3,.z (((f.view.members.length:Nat):Int)))]),(2,[(2,.aL (.v (.bool true))),(7,.z (((f.streams.length:Nat):Int))),(9,.b false),(14,.z (((f.aC.length:Nat):Int))),(16,.b false)]),(4,[(2,.z (((f.streams.length:Nat):Int)))])] 2000 [0] [1,3,32,33,34] r (by kernel_rfl) (U u0 (U u1 (U u2 (U h1 (U u3 (U h2 (U u2 trivial))))))) fun ac wd r=>?_
    refine aJ.rounds (Φ:=fun (i:Nat) ac wd=>(i≤f.streams.length∧∀ (j:Nat) l h,j<i→f.streams[j]?=some l→f.aC[j]?=some h→Good l l.length∧h≤bZ l)∧dH [] w0 K 73 [(1,.pt 0 0),(3,.n f.view.members.length),(32,.d (.ro 1 (streams f.streams))),(33,.n f.streams.length),(34,.n i)] [.bx 37 [.u f.view.id.round,.z f.view.id.server.node,.u f.view.id.server.inc,.d (.ro 2 (procs f.view.members)),.d (.ro 1 (ae f.view.ay)),.d (.ro 1 (streams f.streams)),.d (.ro 1 (ae f.aC))]] ac wd) (f.streams.length) ?_ (Nat.zero_le _) ⟨⟨by omega,by omega⟩,r⟩
    clear r
    rintro i fI cX ac wd ⟨bh,r⟩
    obtain ⟨gB,bh⟩:=bh
    cases h3:(decide ((((i:Nat):Int):Int)<((f.streams.length:Nat):Int))) with
    | false=>
     have fY:=of_decide_eq_false h3
     rw [show (DV.v (.bool f.may):DV)=.v (.bool true) from (bv (by first | exact aA.mF (by assumption) | exact aA.mK (by omega) | exact aA.yes (by assumption) (by omega) (by omega) (by omega) bh | exact aA.mG cI cL (by omega) | exact aA.kr cI cL (by omega) | exact aA.mL cI jw cy (by omega) (by omega)))]
     exact aM tk tq hK rfl [(5,[(0,.b false)])] 2000 r (by kernel_rfl) (U h3 trivial)
    | true=>
     have fY:=of_decide_eq_true h3
     obtain ⟨aV,cI⟩:∃ x,f.streams[i]?=some x:=⟨_,List.getElem?_eq_getElem (by omega)⟩
     have KV:=(hb.at cI).1
     have xZ:=hb.at cI
     obtain ⟨x3,jw⟩:∃ x,f.aC[i]?=some x:=⟨_,List.getElem?_eq_getElem (by omega)⟩
     refine bI (todo':=hd Tryz.f98 1) (E':=[(1,.pt 0 0),(3,.n f.view.members.length),(32,.d (.ro 1 (streams f.streams))),(33,.n f.streams.length),(34,.n i),(4,.n i),(5,.pt 1 0),(6,.u (kD aV 0)),(40,.d (.ro 2 (aQ aV))),(41,.n aV.length),(42,.n 0)]) (M':=[.bx 37 [.u f.view.id.round,.z f.view.id.server.node,.u f.view.id.server.inc,.d (.ro 2 (procs f.view.members)),.d (.ro 1 (ae f.view.ay)),.d (.ro 1 (streams f.streams)),.d (.ro 1 (ae f.aC))],.bx 111 [.d (.ro 2 (aQ aV))]]) tk tq hK [(5,[(0,.b true)]),(6,[(1,.ix (i) [.ro 2 (aQ aV)])]),(8,[(2,.z (((aV.length:Nat):Int)))])] 2000 [0,1] [1,3,32,33,34,4,5,6,40,41,42] r (by kernel_rfl) (U h3 (U (aS ((i:Nat):Int)) (U (mw cI) (U ((by simp [al]):(((aQ aV).length:Nat):Int)=((aV.length:Nat):Int)) trivial)))) fun ac wd r=>?_
     refine aJ.rounds (Φ:=fun (k:Nat) ac wd=>(k≤aV.length∧Good aV k)∧dH [] w0 K 73 [(1,.pt 0 0),(3,.n f.view.members.length),(32,.d (.ro 1 (streams f.streams))),(33,.n f.streams.length),(34,.n i),(4,.n i),(5,.pt 1 0),(6,.u (kD aV k)),(40,.d (.ro 2 (aQ aV))),(41,.n aV.length),(42,.n k)] [.bx 37 [.u f.view.id.round,.z f.view.id.server.node,.u f.view.id.server.inc,.d (.ro 2 (procs f.view.members)),.d (.ro 1 (ae f.view.ay)),.d (.ro 1 (streams f.streams)),.d (.ro 1 (ae f.aC))],.bx 111 [.d (.ro 2 (aQ aV))]] ac wd) (aV.length) ?_ (Nat.zero_le _) ⟨⟨by omega,fun k x hk=>by omega⟩,r⟩
     clear r
     rintro k gB eW ac wd ⟨cy,r⟩
     obtain ⟨ik,cy⟩:=cy
     cases h4:(decide ((((k:Nat):Int):Int)<((aV.length:Nat):Int))) with
     | false=>
      have pe:=of_decide_eq_false h4
      cases h5:(decide ((((fE aV:Nat):Int):Int)<((x3:Nat):Int))) with
      | false=>
       have pf:=of_decide_eq_false h5
       exact bI (todo':=hd Tryz.f98 0) tk tq hK [(9,[(0,.b false)]),(15,[(3,.ix (i) [.u x3]),(6,.aL (.u (fE aV))),(7,.b false)]),(17,[(0,.z (((i+1:Nat):Int)))])] 2000 [0] [1,3,32,33,34] r (by kernel_rfl) (U h4 (U (aS ((i:Nat):Int)) (U (iy jw) (U (yb aV (by omega)) (U h5 (U ((wi (by omega)):IntKind.i64.wrap ((((i:Nat):Int):Int)+1)=((i+1:Nat):Int)) trivial)))))) fun ac wd r=>cX (by omega) ac wd ⟨⟨by omega,fun j l h hj hl hh=>by rcases Nat.lt_succ_iff_lt_or_eq.1 hj with h' | rfl;exact bh j l h h' hl hh;rw [cI] at hl;rw [jw] at hh;cases hl;cases hh;have hG:Good aV aV.length:=(by rw [show aV.length=k by omega];exact cy);exact ⟨hG,by rw [← zl hG];omega⟩⟩,r⟩
      | true=>
       have pf:=of_decide_eq_true h5
       rw [show (DV.v (.bool f.may):DV)=.v (.bool false) from (bv (by first | exact aA.mF (by assumption) | exact aA.mK (by omega) | exact aA.yes (by assumption) (by omega) (by omega) (by omega) bh | exact aA.mG cI cL (by omega) | exact aA.kr cI cL (by omega) | exact aA.mL cI jw cy (by omega) (by omega)))]
       exact aM tk tq hK rfl [(9,[(0,.b false)]),(15,[(3,.ix (i) [.u x3]),(6,.aL (.u (fE aV))),(7,.b true)])] 2000 r (by kernel_rfl) (U h4 (U (aS ((i:Nat):Int)) (U (iy jw) (U (yb aV (by omega)) (U h5 trivial)))))
     | true=>
      have pe:=of_decide_eq_true h4
      obtain ⟨bU,cL⟩:∃ x,aV[k]?=some x:=⟨_,List.getElem?_eq_getElem (by omega)⟩
      have OB:=xZ.at cL
      cases h6:(decide ((((bU.n:Nat):Int):Int)≤((kD aV k:Nat):Int))) with
      | false=>
       have pg:=of_decide_eq_false h6
       cases h7:(decide ((16:Int)<((bU.n:Nat):Int))) with
       | false=>
        have ph:=of_decide_eq_false h7
        have u4:=((by simp [al]):(((al bU.body).length:Nat):Int)=((bU.body.length:Nat):Int))
        cases h8:(decide ((64:Int)<((bU.body.length:Nat):Int))) with
        | false=>
         have ub:=of_decide_eq_false h8
         exact bI (todo':=hd Tryz.f98 1) (E':=[(1,.pt 0 0),(3,.n f.view.members.length),(32,.d (.ro 1 (streams f.streams))),(33,.n f.streams.length),(34,.n i),(4,.n i),(5,.pt 1 0),(6,.u bU.n),(40,.d (.ro 2 (aQ aV))),(41,.n aV.length),(42,.n (k+1))]) (M':=[.bx 37 [.u f.view.id.round,.z f.view.id.server.node,.u f.view.id.server.inc,.d (.ro 2 (procs f.view.members)),.d (.ro 1 (ae f.view.ay)),.d (.ro 1 (streams f.streams)),.d (.ro 1 (ae f.aC))],.bx 111 [.d (.ro 2 (aQ aV))]]) tk tq hK [(9,[(0,.b true)]),(10,[(0,.ix (k) [.u bU.n,.ro 1 (al bU.body)])]),(11,[(3,.b false),(7,.b false),(12,.z (((bU.body.length:Nat):Int))),(13,.b false)]),(14,[(0,.z (((k+1:Nat):Int)))])] 2000 [0,1] [1,3,32,33,34,4,5,6,40,41,42] r (by kernel_rfl) (U h4 (U (aS ((k:Nat):Int)) (U (ew cL) (U h6 (U h7 (U u4 (U h8 (U ((wi (by omega)):IntKind.i64.wrap ((((k:Nat):Int):Int)+1)=((k+1:Nat):Int)) trivial)))))))) fun ac wd r=>eW (by omega) ac wd ⟨⟨by omega,cy.next cL (by omega) (by omega) (by omega) (Oz (by omega))⟩,r.cast (by rw [LL cL]) rfl⟩
        | true=>
         have ub:=of_decide_eq_true h8
         rw [show (DV.v (.bool f.may):DV)=.v (.bool false) from (bv (by first | exact aA.mF (by assumption) | exact aA.mK (by omega) | exact aA.yes (by assumption) (by omega) (by omega) (by omega) bh | exact aA.mG cI cL (by omega) | exact aA.kr cI cL (by omega) | exact aA.mL cI jw cy (by omega) (by omega)))]
         exact aM tk tq hK rfl [(9,[(0,.b true)]),(10,[(0,.ix (k) [.u bU.n,.ro 1 (al bU.body)])]),(11,[(3,.b false),(7,.b false),(12,.z (((bU.body.length:Nat):Int))),(13,.b true)])] 2000 r (by kernel_rfl) (U h4 (U (aS ((k:Nat):Int)) (U (ew cL) (U h6 (U h7 (U u4 (U h8 trivial)))))))
       | true=>
        have ph:=of_decide_eq_true h7
        rw [show (DV.v (.bool f.may):DV)=.v (.bool false) from (bv (by first | exact aA.mF (by assumption) | exact aA.mK (by omega) | exact aA.yes (by assumption) (by omega) (by omega) (by omega) bh | exact aA.mG cI cL (by omega) | exact aA.kr cI cL (by omega) | exact aA.mL cI jw cy (by omega) (by omega)))]
        exact aM tk tq hK rfl [(9,[(0,.b true)]),(10,[(0,.ix (k) [.u bU.n,.ro 1 (al bU.body)])]),(11,[(3,.b false),(7,.b true)])] 2000 r (by kernel_rfl) (U h4 (U (aS ((k:Nat):Int)) (U (ew cL) (U h6 (U h7 trivial)))))
      | true=>
       have pg:=of_decide_eq_true h6
       rw [show (DV.v (.bool f.may):DV)=.v (.bool false) from (bv (by first | exact aA.mF (by assumption) | exact aA.mK (by omega) | exact aA.yes (by assumption) (by omega) (by omega) (by omega) bh | exact aA.mG cI cL (by omega) | exact aA.kr cI cL (by omega) | exact aA.mL cI jw cy (by omega) (by omega)))]
       exact aM tk tq hK rfl [(9,[(0,.b true)]),(10,[(0,.ix (k) [.u bU.n,.ro 1 (al bU.body)])]),(11,[(3,.b true)])] 2000 r (by kernel_rfl) (U h4 (U (aS ((k:Nat):Int)) (U (ew cL) (U h6 trivial))))
   | true=>
    have dg:¬ _=_:=bne_iff_ne.1 h2
    rw [show (DV.v (.bool f.may):DV)=.v (.bool false) from (bv (by first | exact aA.mF (by assumption) | exact aA.mK (by omega) | exact aA.yes (by assumption) (by omega) (by omega) (by omega) bh | exact aA.mG cI cL (by omega) | exact aA.kr cI cL (by omega) | exact aA.mL cI jw cy (by omega) (by omega)))]
    exact aM tk tq hK rfl [(1,[(3,.z (((f.view.members.length:Nat):Int)))]),(2,[(2,.aL (.v (.bool true))),(7,.z (((f.streams.length:Nat):Int))),(9,.b false),(14,.z (((f.aC.length:Nat):Int))),(16,.b true)])] 2000 r (by kernel_rfl) (U u0 (U u1 (U u2 (U h1 (U u3 (U h2 trivial))))))
  | true=>
   have b6:¬ _=_:=bne_iff_ne.1 h1
   rw [show (DV.v (.bool f.may):DV)=.v (.bool false) from (bv (by first | exact aA.mF (by assumption) | exact aA.mK (by omega) | exact aA.yes (by assumption) (by omega) (by omega) (by omega) bh | exact aA.mG cI cL (by omega) | exact aA.kr cI cL (by omega) | exact aA.mL cI jw cy (by omega) (by omega)))]
   exact aM tk tq hK rfl [(1,[(3,.z (((f.view.members.length:Nat):Int)))]),(2,[(2,.aL (.v (.bool true))),(7,.z (((f.streams.length:Nat):Int))),(9,.b true)])] 2000 r (by kernel_rfl) (U u0 (U u1 (U u2 (U h1 trivial))))
end Go.Proofs.YtgkdnnmcjjabdaaGreat
namespace Go.Proofs.YtgkdnnmcjjabdaaGreat
open Go.RowKit
def wH (p:au) (l:List Slot) (n:Nat):fK:=⟨p,n,((l[(ez l n).toNat]?).map Slot.body).getD []⟩
theorem zm {α:Type} [DecidableEq α] {p:α}:∀ {l:List α} {k:Nat},0≤idx l p k→∃ i,idx l p k=((k+i:Nat):Int)∧l[i]?=some p
 | [],k,h=>by simp [idx] at h
 | x::r,k,h=>by
  unfold idx at h ⊢
  split
  ·rename_i hx;exact ⟨0,by simp,by simp [hx]⟩
  ·rename_i hx
   rw [if_neg hx] at h
   obtain ⟨i,h1,h2⟩:=zm h
   exact ⟨i+1,by rw [h1];congr 1;omega,by simpa using h2⟩
theorem LM {l:List Slot} {k:Nat} (h:k<bZ l):0≤ez l (k+1):=by
 obtain ⟨m,h1,h2⟩:=yt l
 rw [uN h1 h2] at h
 exact h1 k h
theorem aA.FA (f:aA):f.owned.streams.length=f.owned.view.members.length∧f.owned.aC.length=f.owned.view.members.length:=by
 cases hm:f.may with
 | true=>
  rw [aA.jy hm]
  unfold aA.may at hm
  have ok:=@of_decide_eq_true _ (Classical.propDecidable _) hm
  exact ⟨ok.2.1,ok.2.2.1⟩
 | false=>rw [aA.rO hm];simp [aA.zero]
end Go.Proofs.YtgkdnnmcjjabdaaGreat
namespace Go.Proofs.YtgkdnnmcjjabdaaGreat
open Go.RowKit
theorem da.ag {l:List DV} (h:∀ c ∈ l,da c):da (.ag l):=by
 intro K K' y H r
 cases r with | ag ys F hl hr=>exact .ag ys F hl fun j c y h1 h2=>h c (List.mem_of_getElem? h1) _ _ _ _ (hr j c y h1 h2)
theorem da.tu {l:List DV} (h:∀ c ∈ l,da c):da (.tu l):=by
 intro K K' y H r
 cases r with | tu ys F hl hr=>exact .tu ys F hl fun j c y h1 h2=>h c (List.mem_of_getElem? h1) _ _ _ _ (hr j c y h1 h2)
theorem da.em {T k:Nat} {rows:List (List DV)} (h:∀ r ∈ rows,∀ c ∈ r,da c):da (.em T k rows):=by
 intro K K' y H r
 cases r with | em X F hl hs hr=>exact .em X F hl hs fun i r j c x h1 h2 h3=>h r (List.mem_of_getElem? h1) c (List.mem_of_getElem? h2) _ _ _ _ (hr i r j c x h1 h2 h3)
theorem da.two (x y:Value):da (.tu [.v x,.v y]):=.tu (by simp only [List.mem_cons,List.not_mem_nil,or_false];rintro c (rfl | rfl)<;>exact lH _)
def aA.half (f:aA):List DV:=[.v (.int .u64 (f.view.id.round:Int)),.v (.int .i64 f.view.id.server.node),.v (.int .u64 (f.view.id.server.inc:Int)),.em 24 2 (procs f.view.members),.em 22 1 (ae f.view.ay),.em 111 1 (f.streams.map fun s=>[.ro 2 (aQ s)]),.em 22 1 (ae f.aC)]
def OC (f:aA) (i:Nat):List Slot:=(f.streams[i]?).getD []
def aA.It (f:aA) (m:fK):Prop:=ly f.view.members m.src=true∧1≤m.n∧m.n≤16∧m.body.length≤64∧ez (OC f (lx f.view.members m.src)) m.n<0
instance (f:aA) (m:fK):Decidable (f.It m):=by unfold aA.It;infer_instance
theorem po (l:List Slot):bM (aQ l)=aQ l:=by
 rw [b7];unfold aQ;rw [List.map_map];apply List.map_congr_left;intro s _;show [bc (.v _),bc (.ro _ _)]=_;rw [bc,bc];rfl
end Go.Proofs.YtgkdnnmcjjabdaaGreat
namespace Go.Proofs.YtgkdnnmcjjabdaaGreat
open Go.RowKit
def bp (l:List Slot) (u:List Nat) (i:Nat):Nat:=if u.length=0 then bZ l else min (bZ l) (kL u i)
def bV (p:au) (l:List Slot) (h k:Nat):List fK:=(List.range k).map fun j=>wH p l (h+1+j)
def bQ (f:aA) (u:List Nat) (i:Nat):List fK:=(List.range i).flatMap fun i=>match f.streams[i]?,f.view.members[i]?,f.aC[i]? with | some l,some p,some h=>bV p l h (bp l u i-h) | _,_,_=>[]
def cb (f:aA) (u:List Nat):Nat→List Nat
 | 0=>f.aC
 | i+1=>(match f.streams[i]?,f.aC[i]? with | some l,some h=>(cb f u i).set i (max h (bp l u i)) | _,_=>cb f u i)
theorem uv {f:aA} {u:List Nat} {i:Nat} {l:List Slot} {p:au} {h:Nat} (hl:f.streams[i]?=some l) (hp:f.view.members[i]?=some p) (hh:f.aC[i]?=some h):bQ f u (i+1)=bQ f u i++bV p l h (bp l u i-h):=by
 unfold bQ;rw [List.range_succ,List.flatMap_append];simp [hl,hp,hh]
theorem K8 {p:au} {l:List Slot} {h k:Nat} {s:Slot} (hs:l[(ez l (h+1+k)).toNat]?=some s):bV p l h (k+1)=bV p l h k++[⟨p,h+1+k,s.body⟩]:=by
 unfold bV;rw [List.range_succ,List.map_append];simp [wH,hs]
theorem nM (p:au) (l:List Slot) (h k:Nat):(bV p l h k).length=k:=by simp [bV]
theorem FB {f:aA} {u:List Nat} {i:Nat} {l:List Slot} {h:Nat} (hl:f.streams[i]?=some l) (hh:f.aC[i]?=some h):cb f u (i+1)=(cb f u i).set i (max h (bp l u i)):=by rw [cb,hl,hh]
theorem iZ (f:aA) (u:List Nat):∀ i,(cb f u i).length=f.aC.length
 | 0=>rfl
 | i+1=>by rw [cb];split;rw [List.length_set,iZ f u i];exact iZ f u i
theorem pS {f:aA} {u:List Nat} {k h:Nat} (hh:f.aC[k]?=some h):∀ {i:Nat},i≤k→(cb f u i)[k]?=some h
 | 0,_=>hh
 | i+1,hi=>by
  rw [cb];split
  ·rw [List.getElem?_set,if_neg (by omega)];exact pS hh (by omega)
  ·exact pS hh (by omega)
theorem Gy (l:List Nat) (i n:Nat):List.set (ae l) i [.v (.int .u64 ((n:Nat):Int))]=ae (l.set i n):=by unfold ae;rw [List.map_set]
theorem aA.zn {f:aA} {i h:Nat} {l:List Slot} (hl:f.owned.streams[i]?=some l) (hh:f.owned.aC[i]?=some h):Good l l.length∧h≤bZ l:=by
 cases hm:f.may with
 | true=>
  rw [aA.jy hm] at hl hh
  unfold aA.may at hm
  exact (@of_decide_eq_true _ (Classical.propDecidable _) hm).2.2.2 i l h hl hh
 | false=>rw [aA.rO hm] at hl;simp [aA.zero] at hl
theorem zo {l:List Slot} (g:Good l l.length):bZ l≤16:=by
 rcases Nat.lt_or_ge 16 (bZ l) with h | h
 ·have h1:=LM (l:=l) (k:=bZ l-1) (by omega)
  obtain ⟨i,h2,h3⟩:=zm h1
  rw [List.getElem?_map,Option.map_eq_some_iff] at h3
  obtain ⟨s,h3,h4⟩:=h3
  have:=(g i s (List.getElem?_eq_some_iff.1 h3).1 h3).2.1
  omega
 ·exact h
theorem HD (l:List Slot) (u:List Nat) (i:Nat):bp l u i≤bZ l:=by unfold bp;split<;>omega
def aA.hand (f:aA) (u:List Nat):aA:={ f with aC:=cb f u f.streams.length }
theorem LN {f:aA} {u:List Nat} (hg:∀ (i:Nat) l h,f.streams[i]?=some l→f.aC[i]?=some h→Good l l.length) (i:Nat):(bQ f u i).length≤16*i:=by
 induction i with
 | zero=>simp [bQ]
 | succ i ih=>
  have key:bQ f u (i+1)=bQ f u i++(match f.streams[i]?,f.view.members[i]?,f.aC[i]? with | some l,some p,some h=>bV p l h (bp l u i-h) | _,_,_=>[]):=by
   unfold bQ;rw [List.range_succ,List.flatMap_append];simp
  rw [key,List.length_append]
  split
  ·rename_i l p h hl hp hh
   have:=zo (hg i l h hl hh)
   have:=HD l u i
   rw [nM];omega
  ·simp;omega
end Go.Proofs.YtgkdnnmcjjabdaaGreat
namespace Go.Proofs.YtgkdnnmcjjabdaaGreat
open Go.RowKit
def b8 (f:aA) (i:Nat):List (List Slot):=f.streams.take i++List.replicate (f.streams.length-i) []
theorem rB (f:aA) (i:Nat) (hi:i≤f.streams.length):(b8 f i).length=f.streams.length:=by unfold b8;simp;omega
theorem OD {f:aA} {i:Nat} (hi:i<f.streams.length):(b8 f i)[i]?=some []:=by
 unfold b8
 rw [List.getElem?_append_right (by simp;omega),List.getElem?_replicate,if_pos (by simp;omega)]
theorem LO {f:aA} {i:Nat} (hi:i<f.streams.length):(b8 f i).set i []=b8 f i:=by
 apply List.ext_getElem?;intro k
 rw [List.getElem?_set];split
 ·rename_i e;subst e;rw [if_pos (by rw [rB f _ (by omega)];exact hi),OD hi]
 ·rfl
theorem LP {f:aA} {i:Nat} {l:List Slot} (hl:f.streams[i]?=some l):(b8 f i).set i l=b8 f (i+1):=by
 obtain ⟨hi,rfl⟩:=List.getElem?_eq_some_iff.1 hl
 apply List.ext_getElem?;intro k
 rw [List.getElem?_set]
 unfold b8
 rcases Nat.lt_trichotomy k i with h | h | h
 ·rw [if_neg (by omega),List.getElem?_append_left (by simp;omega),List.getElem?_append_left (by simp;omega),List.getElem?_take,List.getElem?_take,if_pos h,if_pos (by omega)]
 ·subst h
  rw [if_pos rfl,if_pos (by simp;omega),List.getElem?_append_left (by simp;omega),List.getElem?_take,if_pos (by omega),List.getElem?_eq_getElem hi]
 ·rw [if_neg (by omega),List.getElem?_append_right (by simp;omega),List.getElem?_append_right (by simp;omega),List.getElem?_replicate,List.getElem?_replicate]
  simp only [List.length_take]
  rw [Nat.min_eq_left (by omega),Nat.min_eq_left (by omega)]
  by_cases hk:k<f.streams.length
  ·rw [if_pos (by omega),if_pos (by omega)]
  ·rw [if_neg (by omega),if_neg (by omega)]
theorem FC {f:aA} {i:Nat} (hi:f.streams.length≤i):b8 f i=f.streams:=by unfold b8;rw [List.take_of_length_le hi,Nat.sub_eq_zero_of_le hi];simp
theorem aA.PV {f:aA} (h:f.may=true):f.view.may=true∧f.streams.length=f.view.members.length∧f.aC.length=f.view.members.length:=by
 unfold aA.may at h
 have ok:=@of_decide_eq_true _ (Classical.propDecidable _) h
 exact ⟨ok.1,ok.2.1,ok.2.2.1⟩
theorem Lk {l:List (List Slot)} {i:Nat} {s:List Slot} (h:l[i]?=some s):(aP l)[i]?=some [.em 113 2 (bJ s)]:=by unfold aP;rw [List.getElem?_map,h];rfl
theorem K9 (l:List (List Slot)) (i:Nat) (s:List Slot):List.set (aP l) i [.em 113 2 (bJ s)]=aP (l.set i s):=by unfold aP;rw [List.map_set]
theorem La {l:List Slot} {k:Nat} {x:Slot} (h:l[k]?=some x):bJ (l.take k)++[[.v (.int .u64 ((x.n:Nat):Int)),.em 5 1 (al x.body)]]=bJ (l.take (k+1)):=by
 rw [List.take_succ_eq_append_getElem (List.getElem?_eq_some_iff.1 h).1]
 obtain ⟨hk,rfl⟩:=List.getElem?_eq_some_iff.1 h
 unfold bJ;rw [List.map_append];rfl
theorem R8 (f:aA) (hb:f.view.bounded) (hs:f.streams.length=f.view.members.length):aj Tryz.prog 14 [.ag [.u f.view.id.round,.z f.view.id.server.node,.u f.view.id.server.inc,.d (.ro 2 (procs f.view.members)),.d (.ro 1 (ae f.view.ay))]] (.ag [.u f.view.id.round,.z f.view.id.server.node,.u f.view.id.server.inc,.em 24 2 (procs f.view.members),.em 22 1 (ae f.view.ay),.em 111 1 (aP (b8 f 0)),.em 22 1 (ae (aA.fresh f.view).aC)]):=by
 have h:=H5 f.view hb
 have e:b8 f 0=(aA.fresh f.view).streams:=by unfold b8 aA.fresh;simp [hs]
 rw [e];exact h
theorem OE {l m:List (List DV)} {n:Nat} (h:m.length=l.length∧n=l.length):l.take n++m.drop n=l:=by
 rw [List.take_of_length_le (by omega),List.drop_of_length_le (by omega),List.append_nil]
set_option maxRecDepth 100000 in
theorem AW (hV:∀ v:View,v.bounded→aj Tryz.prog 34 [.ag [.u v.id.round,.z v.id.server.node,.u v.id.server.inc,.d (.ro 2 (procs v.members)),.d (.ro 1 (ae v.ay))]] (DV.v (.bool v.may))) (f:aA) (hb:f.bounded):aj Tryz.prog 64 [.ag [.u f.view.id.round,.z f.view.id.server.node,.u f.view.id.server.inc,.d (.ro 2 (procs f.view.members)),.d (.ro 1 (ae f.view.ay)),.d (.ro 1 (streams f.streams)),.d (.ro 1 (ae f.aC))]] (.ag f.owned.own):=by
 obtain ⟨xU,eK,cB,kQ⟩:=id hb
 refine aj.intro (by kernel_rfl) rfl rfl 61 rfl rfl fun w0 K ac hK r=>?_
 cases h0:(f.may) with
 | false=>
  refine mZ (todo':=aft Tryz.f64 2) (E':=[(1,.pt 0 0),(2,.pt 1 0)]) (M':=[.bx 37 [.u f.view.id.round,.z f.view.id.server.node,.u f.view.id.server.inc,.d (.ro 2 (procs f.view.members)),.d (.ro 1 (ae f.view.ay)),.d (.ro 1 (streams f.streams)),.d (.ro 1 (ae f.aC))],.bx 124 [.d (.v (.int .u64 0)),.z 0,.d (.v (.int .u64 0)),.d (.v (.slice none 0 0)),.d (.v (.slice none 0 0)),.d (.v (.slice none 0 0)),.d (.v (.slice none 0 0))]]) tk tq hK [(1,[(1,.aL (.v (.bool false)))])] 8 [0,1] [1,2] r (by kernel_rfl) (U ((by have k:=HC hV f (by assumption);rw [h0] at k;exact k):aj Tryz.prog 98 [.ag [.u f.view.id.round,.z f.view.id.server.node,.u f.view.id.server.inc,.d (.ro 2 (procs f.view.members)),.d (.ro 1 (ae f.view.ay)),.d (.ro 1 (streams f.streams)),.d (.ro 1 (ae f.aC))]] (.v (.bool false))) trivial) fun ac wd r=>?_
  have r:=r.Bw (E1:=[(1,.pt 0 0),(2,.pt 1 0)]) (M1:=[.bx 37 [.u f.view.id.round,.z f.view.id.server.node,.u f.view.id.server.inc,.d (.ro 2 (procs f.view.members)),.d (.ro 1 (ae f.view.ay)),.d (.ro 1 (streams f.streams)),.d (.ro 1 (ae f.aC))],.bx 124 [.d (.v (.int .u64 0)),.z 0,.d (.v (.int .u64 0)),.d (.v (.slice none 0 0)),.d (.v (.slice none 0 0)),.d (.v (.slice none 0 0)),.d (.v (.slice none 0 0))]]) (M2:=[.bx 37 [.u f.view.id.round,.z f.view.id.server.node,.u f.view.id.server.inc,.d (.ro 2 (procs f.view.members)),.d (.ro 1 (ae f.view.ay)),.d (.ro 1 (streams f.streams)),.d (.ro 1 (ae f.aC))],.bx 124 [.d (.v (.int .u64 0)),.z 0,.d (.v (.int .u64 0)),.sl 2 (0),.sl 3 (0),.sl 4 (0),.sl 5 (0)],.rw 24 2 ([]),.rw 22 1 ([]),.rw 111 1 ([]),.rw 22 1 ([])]) [] [(1,3,24,2),(1,4,22,1),(1,5,111,1),(1,6,22,1)] (by kernel_rfl) (by kernel_rfl)
  rw [show (.ag f.owned.own:DV)=.ag [.v (.int .u64 0),.z 0,.v (.int .u64 0),.em 24 2 ([]),.em 22 1 ([]),.em 111 1 ([]),.em 22 1 ([])] from (by first | (rw [aA.rO (by assumption)];rfl) | (rw [aA.jy (by assumption),FC (by omega)];rfl))]
  exact aM tk tq hK rfl [] 2000 r (by kernel_rfl) (U ((by simp<;>omega):(0)=([]:List (List DV)).length) (U ((by simp<;>omega):(0)=([]:List (List DV)).length) (U ((by simp<;>omega):(0)=([]:List (List DV)).length) (U ((by simp<;>omega):(0)=([]:List (List DV)).length) trivial))))
 | true=>
  obtain ⟨eT,cm,V9⟩:=aA.PV (by assumption)
  have f0:=rB f 0 (by omega)
  have fh:(aA.fresh f.view).aC.length=f.view.members.length:=by simp [aA.fresh]
  refine mZ (todo':=aft Tryz.f64 4) (E':=[(1,.pt 0 0),(2,.pt 1 0),(3,.pt 6 0)]) (M':=[.bx 37 [.u f.view.id.round,.z f.view.id.server.node,.u f.view.id.server.inc,.d (.ro 2 (procs f.view.members)),.d (.ro 1 (ae f.view.ay)),.d (.ro 1 (streams f.streams)),.d (.ro 1 (ae f.aC))],.bx 124 [.d (.v (.int .u64 0)),.z 0,.d (.v (.int .u64 0)),.d (.v (.slice none 0 0)),.d (.v (.slice none 0 0)),.d (.v (.slice none 0 0)),.d (.v (.slice none 0 0))],.rw 24 2 (procs f.view.members),.rw 22 1 (ae f.view.ay),.rw 111 1 (aP (b8 f 0)),.rw 22 1 ((ae f.aC).take (f.aC.length)++(ae (aA.fresh f.view).aC).drop (f.aC.length)),.bx 124 [.u f.view.id.round,.z f.view.id.server.node,.u f.view.id.server.inc,.sl 2 ((procs f.view.members).length),.sl 3 ((ae f.view.ay).length),.sl 4 ((aP (b8 f 0)).length),.sl 5 ((ae (aA.fresh f.view).aC).length)]]) tk tq hK [(1,[(1,.aL (.v (.bool true)))]),(3,[(2,.aL (.ag [.u f.view.id.round,.z f.view.id.server.node,.u f.view.id.server.inc,.em 24 2 (procs f.view.members),.em 22 1 (ae f.view.ay),.em 111 1 (aP (b8 f 0)),.em 22 1 (ae (aA.fresh f.view).aC)]))]),(4,[(5,.n (f.aC.length))])] 11 [0,1,2,3,4,5,6] [1,2,3] r (by kernel_rfl) (U ((by have k:=HC hV f (by assumption);rw [h0] at k;exact k):aj Tryz.prog 98 [.ag [.u f.view.id.round,.z f.view.id.server.node,.u f.view.id.server.inc,.d (.ro 2 (procs f.view.members)),.d (.ro 1 (ae f.view.ay)),.d (.ro 1 (streams f.streams)),.d (.ro 1 (ae f.aC))]] (.v (.bool true))) (U (R8 f (by assumption) (by omega)) (U (b5 ((ae (aA.fresh f.view).aC).length)) (U ((by simp [aA.fresh];omega):min (ae f.aC).length ((ae (aA.fresh f.view).aC).length)=f.aC.length) (U ((by simp [bX,AV.one,cA,al]):bX (ae f.aC)) trivial))))) fun ac wd r=>?_
  have r:=r.freeze (M1:=[.bx 37 [.u f.view.id.round,.z f.view.id.server.node,.u f.view.id.server.inc,.d (.ro 2 (procs f.view.members)),.d (.ro 1 (ae f.view.ay)),.d (.ro 1 (streams f.streams)),.d (.ro 1 (ae f.aC))],.bx 124 [.d (.v (.int .u64 0)),.z 0,.d (.v (.int .u64 0)),.d (.v (.slice none 0 0)),.d (.v (.slice none 0 0)),.d (.v (.slice none 0 0)),.d (.v (.slice none 0 0))],.rw 24 2 (procs f.view.members),.rw 22 1 (ae f.view.ay),.rw 111 1 (aP (b8 f 0)),.rw 22 1 ((ae f.aC).take (f.aC.length)++(ae (aA.fresh f.view).aC).drop (f.aC.length)),.bx 124 [.u f.view.id.round,.z f.view.id.server.node,.u f.view.id.server.inc,.sl 2 ((procs f.view.members).length),.sl 3 ((ae f.view.ay).length),.sl 4 ((aP (b8 f 0)).length),.sl 5 ((ae (aA.fresh f.view).aC).length)]]) (M2:=[.bx 37 [.u f.view.id.round,.z f.view.id.server.node,.u f.view.id.server.inc,.d (.ro 2 (procs f.view.members)),.d (.ro 1 (ae f.view.ay)),.d (.ro 1 (streams f.streams)),.d (.ro 1 (ae f.aC))],.bx 124 [.d (.v (.int .u64 0)),.z 0,.d (.v (.int .u64 0)),.d (.v (.slice none 0 0)),.d (.v (.slice none 0 0)),.d (.v (.slice none 0 0)),.d (.v (.slice none 0 0))],.rw 24 2 (procs f.view.members),.rw 22 1 (ae f.view.ay),.rw 111 1 (aP (b8 f 0)),.rw 22 1 (ae f.aC),.bx 124 [.u f.view.id.round,.z f.view.id.server.node,.u f.view.id.server.inc,.sl 2 ((procs f.view.members).length),.sl 3 ((ae f.view.ay).length),.sl 4 ((aP (b8 f 0)).length),.sl 5 ((ae (aA.fresh f.view).aC).length)]]) [] (by kernel_rfl) (by rw [OE (by simp [aA.fresh];omega)])
  refine bI (todo':=hd Tryz.f64 0) (E':=[(2,.pt 1 0),(3,.pt 6 0),(23,.d (.ro 1 (streams f.streams))),(24,.n f.streams.length),(25,.n 0)]) (M':=[.bx 37 [.u f.view.id.round,.z f.view.id.server.node,.u f.view.id.server.inc,.d (.ro 2 (procs f.view.members)),.d (.ro 1 (ae f.view.ay)),.d (.ro 1 (streams f.streams)),.d (.ro 1 (ae f.aC))],.bx 124 [.d (.v (.int .u64 0)),.z 0,.d (.v (.int .u64 0)),.d (.v (.slice none 0 0)),.d (.v (.slice none 0 0)),.d (.v (.slice none 0 0)),.d (.v (.slice none 0 0))],.rw 24 2 (procs f.view.members),.rw 22 1 (ae f.view.ay),.rw 111 1 (aP (b8 f 0)),.rw 22 1 (ae f.aC),.bx 124 [.u f.view.id.round,.z f.view.id.server.node,.u f.view.id.server.inc,.sl 2 ((procs f.view.members).length),.sl 3 ((ae f.view.ay).length),.sl 4 ((aP (b8 f 0)).length),.sl 5 ((ae (aA.fresh f.view).aC).length)]]) tk tq hK [(5,[(2,.z (((f.streams.length:Nat):Int)))])] 2000 [0,1,2,3,4,5,6] [2,3,23,24,25] r (by kernel_rfl) (U ((by simp [al]):(((streams f.streams).length:Nat):Int)=((f.streams.length:Nat):Int)) trivial) fun ac wd r=>?_
  refine aJ.rounds (Φ:=fun (i:Nat) ac wd=>(i≤f.streams.length)∧dH [] w0 K 61 [(2,.pt 1 0),(3,.pt 6 0),(23,.d (.ro 1 (streams f.streams))),(24,.n f.streams.length),(25,.n i)] [.bx 37 [.u f.view.id.round,.z f.view.id.server.node,.u f.view.id.server.inc,.d (.ro 2 (procs f.view.members)),.d (.ro 1 (ae f.view.ay)),.d (.ro 1 (streams f.streams)),.d (.ro 1 (ae f.aC))],.bx 124 [.d (.v (.int .u64 0)),.z 0,.d (.v (.int .u64 0)),.d (.v (.slice none 0 0)),.d (.v (.slice none 0 0)),.d (.v (.slice none 0 0)),.d (.v (.slice none 0 0))],.rw 24 2 (procs f.view.members),.rw 22 1 (ae f.view.ay),.rw 111 1 (aP (b8 f i)),.rw 22 1 (ae f.aC),.bx 124 [.u f.view.id.round,.z f.view.id.server.node,.u f.view.id.server.inc,.sl 2 ((procs f.view.members).length),.sl 3 ((ae f.view.ay).length),.sl 4 ((aP (b8 f 0)).length),.sl 5 ((ae (aA.fresh f.view).aC).length)]] ac wd) (f.streams.length) ?_ (Nat.zero_le _) ⟨by omega,r⟩
  clear r
  rintro i fI cX ac wd ⟨bh,r⟩
  have fi:=rB f i bh
  cases h1:(decide ((((i:Nat):Int):Int)<((f.streams.length:Nat):Int))) with
  | false=>
   have b6:=of_decide_eq_false h1
   rw [show (.ag f.owned.own:DV)=.ag [.u f.view.id.round,.z f.view.id.server.node,.u f.view.id.server.inc,.em 24 2 (procs f.view.members),.em 22 1 (ae f.view.ay),.em 111 1 (aP (b8 f i)),.em 22 1 (ae f.aC)] from (by first | (rw [aA.rO (by assumption)];rfl) | (rw [aA.jy (by assumption),FC (by omega)];rfl))]
   exact aM tk tq hK rfl [(6,[(0,.b false)])] 2000 r (by kernel_rfl) (U h1 (U (b5 ((procs f.view.members).length)) (U (b5 ((ae f.view.ay).length)) (U ((by simp<;>omega):((aP (b8 f 0)).length)=(aP (b8 f i)).length) (U ((by simp<;>omega):((ae (aA.fresh f.view).aC).length)=(ae f.aC).length) trivial)))))
  | true=>
   have b6:=of_decide_eq_true h1
   obtain ⟨aV,cI⟩:∃ x,f.streams[i]?=some x:=⟨_,List.getElem?_eq_getElem (by omega)⟩
   have KV:=(hb.at cI).1
   have xZ:=hb.at cI
   refine bI (todo':=hd Tryz.f64 1) (E':=[(2,.pt 1 0),(3,.pt 6 0),(23,.d (.ro 1 (streams f.streams))),(24,.n f.streams.length),(25,.n i),(4,.n i),(5,.pt 7 0),(31,.d (.ro 2 (aQ aV))),(32,.n aV.length),(33,.z 0)]) (M':=[.bx 37 [.u f.view.id.round,.z f.view.id.server.node,.u f.view.id.server.inc,.d (.ro 2 (procs f.view.members)),.d (.ro 1 (ae f.view.ay)),.d (.ro 1 (streams f.streams)),.d (.ro 1 (ae f.aC))],.bx 124 [.d (.v (.int .u64 0)),.z 0,.d (.v (.int .u64 0)),.d (.v (.slice none 0 0)),.d (.v (.slice none 0 0)),.d (.v (.slice none 0 0)),.d (.v (.slice none 0 0))],.rw 24 2 (procs f.view.members),.rw 22 1 (ae f.view.ay),.rw 111 1 (aP (b8 f i)),.rw 22 1 (ae f.aC),.bx 124 [.u f.view.id.round,.z f.view.id.server.node,.u f.view.id.server.inc,.sl 2 ((procs f.view.members).length),.sl 3 ((ae f.view.ay).length),.sl 4 ((aP (b8 f 0)).length),.sl 5 ((ae (aA.fresh f.view).aC).length)],.bx 111 [.d (.ro 2 (aQ aV))]]) tk tq hK [(6,[(0,.b true)]),(7,[(1,.ix (i) [.ro 2 (aQ aV)])]),(8,[(2,.z (((aV.length:Nat):Int)))])] 2000 [0,1,2,3,4,5,6,7] [2,3,23,24,25,4,5,31,32,33] r (by kernel_rfl) (U h1 (U (aS ((i:Nat):Int)) (U (mw cI) (U ((by simp [al]):(((aQ aV).length:Nat):Int)=((aV.length:Nat):Int)) trivial)))) fun ac wd r=>?_
   refine aJ.rounds (Φ:=fun (k:Nat) ac wd=>(k≤aV.length)∧dH [] w0 K 61 [(2,.pt 1 0),(3,.pt 6 0),(23,.d (.ro 1 (streams f.streams))),(24,.n f.streams.length),(25,.n i),(4,.n i),(5,.pt 7 0),(31,.d (.ro 2 (aQ aV))),(32,.n aV.length),(33,.n k)] [.bx 37 [.u f.view.id.round,.z f.view.id.server.node,.u f.view.id.server.inc,.d (.ro 2 (procs f.view.members)),.d (.ro 1 (ae f.view.ay)),.d (.ro 1 (streams f.streams)),.d (.ro 1 (ae f.aC))],.bx 124 [.d (.v (.int .u64 0)),.z 0,.d (.v (.int .u64 0)),.d (.v (.slice none 0 0)),.d (.v (.slice none 0 0)),.d (.v (.slice none 0 0)),.d (.v (.slice none 0 0))],.rw 24 2 (procs f.view.members),.rw 22 1 (ae f.view.ay),.rw 111 1 (aP ((b8 f i).set i (aV.take k))),.rw 22 1 (ae f.aC),.bx 124 [.u f.view.id.round,.z f.view.id.server.node,.u f.view.id.server.inc,.sl 2 ((procs f.view.members).length),.sl 3 ((ae f.view.ay).length),.sl 4 ((aP (b8 f 0)).length),.sl 5 ((ae (aA.fresh f.view).aC).length)],.bx 111 [.d (.ro 2 (aQ aV))]] ac wd) (aV.length) ?_ (Nat.zero_le _) ⟨by omega,(r).cast rfl (by rw [show aV.take 0=[] from rfl,LO (by omega)])⟩
   clear r
   rintro k gB eW ac wd ⟨cy,r⟩
   cases h2:(decide ((((k:Nat):Int):Int)<((aV.length:Nat):Int))) with
   | false=>
    have dg:=of_decide_eq_false h2
    exact bI (todo':=hd Tryz.f64 0) (E':=[(2,.pt 1 0),(3,.pt 6 0),(23,.d (.ro 1 (streams f.streams))),(24,.n f.streams.length),(25,.n (i+1))]) (M':=[.bx 37 [.u f.view.id.round,.z f.view.id.server.node,.u f.view.id.server.inc,.d (.ro 2 (procs f.view.members)),.d (.ro 1 (ae f.view.ay)),.d (.ro 1 (streams f.streams)),.d (.ro 1 (ae f.aC))],.bx 124 [.d (.v (.int .u64 0)),.z 0,.d (.v (.int .u64 0)),.d (.v (.slice none 0 0)),.d (.v (.slice none 0 0)),.d (.v (.slice none 0 0)),.d (.v (.slice none 0 0))],.rw 24 2 (procs f.view.members),.rw 22 1 (ae f.view.ay),.rw 111 1 (aP ((b8 f i).set i (aV.take k))),.rw 22 1 (ae f.aC),.bx 124 [.u f.view.id.round,.z f.view.id.server.node,.u f.view.id.server.inc,.sl 2 ((procs f.view.members).length),.sl 3 ((ae f.view.ay).length),.sl 4 ((aP (b8 f 0)).length),.sl 5 ((ae (aA.fresh f.view).aC).length)]]) tk tq hK [(9,[(0,.b false)]),(13,[(0,.z (((i+1:Nat):Int)))])] 2000 [0,1,2,3,4,5,6] [2,3,23,24,25] r (by kernel_rfl) (U h2 (U ((wi (by omega)):IntKind.i64.wrap ((((i:Nat):Int):Int)+1)=((i+1:Nat):Int)) trivial)) fun ac wd r=>cX (by omega) ac wd ⟨by omega,r.cast rfl (by rw [show aV.take k=aV from List.take_of_length_le (by omega),LP cI])⟩
   | true=>
    have dg:=of_decide_eq_true h2
    obtain ⟨bU,cL⟩:∃ x,aV[k]?=some x:=⟨_,List.getElem?_eq_getElem (by omega)⟩
    have OB:=xZ.at cL
    have ji:=((by first | omega | (simp;omega)):(i)<((aP (b8 f 0)).length))
    have qn:=((by simp<;>omega):((aP (b8 f 0)).length)≤(aP ((b8 f i).set i (aV.take k))).length)
    have qo:=(Lk (by rw [List.getElem?_set,if_pos rfl,if_pos (by rw [rB f i (by omega)];omega)]):(aP ((b8 f i).set i (aV.take k)))[i]?=some [.em 113 2 (bJ (aV.take k))])
    have qp:=(uB bU.body (by omega))
    have qq:=(b5 ((al bU.body).length))
    have qs:=(b5 ((bJ (aV.take k)).length))
    have qt:=((by simp<;>omega):(1)=([[.u bU.n,.em 5 1 (al bU.body)]]:List (List DV)).length)
    have qu:=((by first | omega | (simp [cR];done) | (simp [cR];omega)):(2*(((bJ (aV.take k)).length)+(1))+192)*32≤281474976710656)
    have qv:=((by first | omega | (simp [cR];done) | (simp [cR];omega)):((bJ (aV.take k)).length)+(1)<4611686018427387904)
    have qw:=((by simp [bX,AV.one,cA,al]):bX ([[.u bU.n,.em 5 1 (al bU.body)]]))
    have p7:=((by simp<;>omega):((aP (b8 f 0)).length)≤(List.set (aP ((b8 f i).set i (aV.take k))) (i) [.jk]:List (List DV)).length)
    have p8:=((by rw [List.getElem?_set,if_pos rfl,if_pos (by rw [K7,List.length_set,rB f i (by omega)];omega)]):(List.set (aP ((b8 f i).set i (aV.take k))) (i) [.jk])[i]?=some [.jk])
    have p9:=((by simp<;>omega):((bJ (aV.take k)).length+(1))=(bJ (aV.take k)++[[.u bU.n,.em 5 1 (al bU.body)]]:List (List DV)).length)
    refine lu (todo':=aft Tryz.f64 11) (E':=[(2,.pt 1 0),(3,.pt 6 0),(23,.d (.ro 1 (streams f.streams))),(24,.n f.streams.length),(25,.n i),(4,.n i),(5,.pt 7 0),(31,.d (.ro 2 (aQ aV))),(32,.n aV.length),(33,.n k),(34,.d (.v (.bool true))),(35,.rp [.u bU.n,.ro 1 (al bU.body)] 0),(36,.ag [.u bU.n,.d (.ro 1 (al bU.body))]),(7,.pt 8 0),(37,.pt 6 0),(38,.pt 6 5),(39,.sl 4 ((aP (b8 f 0)).length)),(40,.n i),(41,.pt 6 0),(42,.pt 6 5),(43,.sl 4 ((aP (b8 f 0)).length)),(44,.n i),(48,.pt 8 0),(49,.u bU.n),(50,.pt 8 1),(51,.d (.ro 1 (al bU.body))),(45,.ep 4 1 (i) 0),(46,.ep 4 1 (i) 0),(52,.sl 10 ((al bU.body).length)),(53,.ag [.u bU.n,.sl 10 ((al bU.body).length)]),(54,.sl 11 (1)),(55,.sl 9 ((bJ (aV.take k)).length+(1))),(56,.ep 4 1 (i) 0),(57,.ep 4 1 (i) 0)]) (M':=[.bx 37 [.u f.view.id.round,.z f.view.id.server.node,.u f.view.id.server.inc,.d (.ro 2 (procs f.view.members)),.d (.ro 1 (ae f.view.ay)),.d (.ro 1 (streams f.streams)),.d (.ro 1 (ae f.aC))],.bx 124 [.d (.v (.int .u64 0)),.z 0,.d (.v (.int .u64 0)),.d (.v (.slice none 0 0)),.d (.v (.slice none 0 0)),.d (.v (.slice none 0 0)),.d (.v (.slice none 0 0))],.rw 24 2 (procs f.view.members),.rw 22 1 (ae f.view.ay),.rw 111 1 (List.set (List.set (aP ((b8 f i).set i (aV.take k))) (i) [.jk]) (i) [.em 113 2 (bJ (aV.take k)++[[.u bU.n,.em 5 1 (al bU.body)]])]),.rw 22 1 (ae f.aC),.bx 124 [.u f.view.id.round,.z f.view.id.server.node,.u f.view.id.server.inc,.sl 2 ((procs f.view.members).length),.sl 3 ((ae f.view.ay).length),.sl 4 ((aP (b8 f 0)).length),.sl 5 ((ae (aA.fresh f.view).aC).length)],.bx 111 [.d (.ro 2 (aQ aV))],.bx 113 [.u bU.n,.d (.ro 1 (al bU.body))],.dead,.dead,.dead]) tk tq hK [(9,[(0,.b true)]),(10,[(0,.ix (k) [.u bU.n,.ro 1 (al bU.body)])]),(11,[(8,.n (i)),(10,.ix 0 [.em 113 2 (bJ (aV.take k))]),(15,.aL (.em 5 1 (al bU.body))),(19,.n (i)),(21,.ix 0 [.jk])])] 9 6 [8,10,19] [[0,1,2,3,4,5,6,7,8,9,10,11],[0,1,2,3,4,5,6,7,8,10,9,11],[0,1,2,3,4,5,6,7,8,11,9,10],[0,1,2,3,4,5,6,7,8,10,9,11],[0,1,2,3,4,5,6,7,8,11,9,10],[0,1,2,3,4,5,6,7,8,11,9,10]] [2,3,23,24,25,4,5,31,32,33,34,35,36,7,37,38,39,40,41,42,43,44,48,49,50,51,45,46,52,53,54,55,56,57] r (by kernel_rfl) (U (U h2 (U (aS ((k:Nat):Int)) (U (ew cL) (U (aS ((i:Nat):Int)) (U ji (U qn (U qo (U qp (U qq (U qs (U qt (U qu (U qv (U qw (U (aS ((i:Nat):Int)) (U ji (U p7 (U p8 (U p9 trivial))))))))))))))))))) (U (U h2 (U (aS ((k:Nat):Int)) (U (ew cL) (U (aS ((i:Nat):Int)) (U ji (U qn (U qp (U qo (U qq (U qs (U qt (U qu (U qv (U qw (U (aS ((i:Nat):Int)) (U ji (U p7 (U p8 (U p9 trivial))))))))))))))))))) (U (U h2 (U (aS ((k:Nat):Int)) (U (ew cL) (U (aS ((i:Nat):Int)) (U ji (U qn (U qp (U qq (U qo (U qs (U qt (U qu (U qv (U qw (U (aS ((i:Nat):Int)) (U ji (U p7 (U p8 (U p9 trivial))))))))))))))))))) (U (U h2 (U (aS ((k:Nat):Int)) (U (ew cL) (U qp (U (aS ((i:Nat):Int)) (U ji (U qn (U qo (U qq (U qs (U qt (U qu (U qv (U qw (U (aS ((i:Nat):Int)) (U ji (U p7 (U p8 (U p9 trivial))))))))))))))))))) (U (U h2 (U (aS ((k:Nat):Int)) (U (ew cL) (U qp (U (aS ((i:Nat):Int)) (U ji (U qn (U qq (U qo (U qs (U qt (U qu (U qv (U qw (U (aS ((i:Nat):Int)) (U ji (U p7 (U p8 (U p9 trivial))))))))))))))))))) (U (U h2 (U (aS ((k:Nat):Int)) (U (ew cL) (U qp (U qq (U (aS ((i:Nat):Int)) (U ji (U qn (U qo (U qs (U qt (U qu (U qv (U qw (U (aS ((i:Nat):Int)) (U ji (U p7 (U p8 (U p9 trivial))))))))))))))))))) trivial)))))) fun ac wd r=>?_
    exact bI (todo':=hd Tryz.f64 1) (E':=[(2,.pt 1 0),(3,.pt 6 0),(23,.d (.ro 1 (streams f.streams))),(24,.n f.streams.length),(25,.n i),(4,.n i),(5,.pt 7 0),(31,.d (.ro 2 (aQ aV))),(32,.n aV.length),(33,.n (k+1))]) (M':=[.bx 37 [.u f.view.id.round,.z f.view.id.server.node,.u f.view.id.server.inc,.d (.ro 2 (procs f.view.members)),.d (.ro 1 (ae f.view.ay)),.d (.ro 1 (streams f.streams)),.d (.ro 1 (ae f.aC))],.bx 124 [.d (.v (.int .u64 0)),.z 0,.d (.v (.int .u64 0)),.d (.v (.slice none 0 0)),.d (.v (.slice none 0 0)),.d (.v (.slice none 0 0)),.d (.v (.slice none 0 0))],.rw 24 2 (procs f.view.members),.rw 22 1 (ae f.view.ay),.rw 111 1 (List.set (List.set (aP ((b8 f i).set i (aV.take k))) (i) [.jk]) (i) [.em 113 2 (bJ (aV.take k)++[[.u bU.n,.em 5 1 (al bU.body)]])]),.rw 22 1 (ae f.aC),.bx 124 [.u f.view.id.round,.z f.view.id.server.node,.u f.view.id.server.inc,.sl 2 ((procs f.view.members).length),.sl 3 ((ae f.view.ay).length),.sl 4 ((aP (b8 f 0)).length),.sl 5 ((ae (aA.fresh f.view).aC).length)],.bx 111 [.d (.ro 2 (aQ aV))]]) tk tq hK [(12,[(0,.z (((k+1:Nat):Int)))])] 2000 [0,1,2,3,4,5,6,7] [2,3,23,24,25,4,5,31,32,33] r (by kernel_rfl) (U ((wi (by omega)):IntKind.i64.wrap ((((k:Nat):Int):Int)+1)=((k+1:Nat):Int)) trivial) fun ac wd r=>eW (by omega) ac wd ⟨by omega,r.cast rfl (by rw [List.set_set,La cL,K9,List.set_set])⟩
end Go.Proofs.YtgkdnnmcjjabdaaGreat
namespace Go.Proofs.YtgkdnnmcjjabdaaGreat
open Go.RowKit
def dD (l:List fK):List (List DV):=l.map fun m=>[.v (.int .i64 m.src.node),.v (.int .u64 (m.src.inc:Int)),.v (.int .u64 (m.n:Int)),.em 5 1 (al m.body)]
@[simp] theorem Vu (l:List fK):(dD l).length=l.length:=by simp [dD]
theorem py (l:List fK) (m:fK):dD (l++[m])=dD l++[[.v (.int .i64 m.src.node),.v (.int .u64 (m.src.inc:Int)),.v (.int .u64 (m.n:Int)),.em 5 1 (al m.body)]]:=by unfold dD;rw [List.map_append];rfl
theorem mB (l:List (List Slot)):bM (streams l)=streams l:=by
 rw [b7];unfold streams;rw [List.map_map];apply List.map_congr_left;intro s _;show [bc (.ro _ _)]=_;rw [bc]
theorem da.bytes (T:Nat) (l:List UInt8):da (.em T 1 (al l)):=.em (by
 intro r hr c hc
 obtain ⟨b,-,rfl⟩:=List.mem_map.1 hr
 rw [List.mem_singleton] at hc;subst hc;exact lH _)
theorem da.msg (x y z:Value) (T:Nat) (l:List UInt8):da (.ag [.v x,.v y,.v z,.em T 1 (al l)]):=.ag (by
 simp only [List.mem_cons,List.not_mem_nil,or_false];rintro c (rfl | rfl | rfl | rfl)<;>first | exact lH _ | exact da.bytes _ _)
theorem x4 {l:List Slot} (g:Good l l.length) (hb:l.length<1073741824):aj Tryz.prog 69 [.ag [.d (.ro 2 (aQ l))]] (.v (.int .u64 ((bZ l:Nat):Int))):=by rw [← zl g];exact yb l (by omega)
def dR (h:List Nat) (n:Nat):List Nat:=(List.range n).map (kL h)
@[simp] theorem Vv (h:List Nat) (n:Nat):(dR h n).length=n:=by simp [dR]
theorem PW {h:List Nat} {n i:Nat} (hi:i<n):(dR h n)[i]?=some (kL h i):=by unfold dR;rw [List.getElem?_map,List.getElem?_range hi];rfl
theorem OF (h:List Nat) (n:Nat):(ae h).take (min h.length n)++(List.replicate n [DV.v (.int .u64 0)]).drop (min h.length n)=ae (dR h n):=by
 apply List.ext_getElem?;intro k
 unfold ae dR kL
 rw [List.getElem?_map,List.getElem?_map]
 rcases Nat.lt_or_ge k n with hk | hk
 ·rw [List.getElem?_range hk]
  rcases Nat.lt_or_ge k h.length with h1 | h1
  ·rw [List.getElem?_append_left (by simp;omega),List.getElem?_take,if_pos (by omega),List.getElem?_map,Option.map_some,List.getElem?_eq_getElem h1];simp
  ·rw [List.getElem?_append_right (by simp;omega),List.getElem?_drop,List.getElem?_replicate,if_pos (by simp;omega)]
   simp [List.getElem?_eq_none h1]
 ·rw [List.getElem?_eq_none (by simp;omega)];simp [List.getElem?_eq_none,hk]
theorem wc {l:List Slot} (g:Good l l.length) {k:Nat} {x:Slot} (hx:l[k]?=some x):(k<bZ l→x.n=k+1)∧(bZ l≤k→bZ l<x.n):=by
 obtain ⟨c,h1,h2⟩:=yt l
 rw [uN h1 h2]
 have h3:=HB g h1
 have h4:=g.from k x hx
 exact ⟨fun hk=>h3 k x hk hx,fun hk=>by omega⟩
theorem MS {l:List Slot} (g:Good l l.length) {k:Nat} {x:Slot} (hx:l[k]?=some x) (hk:k<bZ l):ez l (k+1)=(k:Int):=by
 refine Gv hx ((wc g hx).1 hk) fun j t hj ht=>?_
 have:=(wc g ht).1 (by omega);omega
theorem OG {l:List Slot} (g:Good l l.length) {k:Nat} {x:Slot} (hx:l[k]?=some x) (hk:k<bZ l):l[(ez l (k+1)).toNat]?=some x:=by rw [MS g hx hk];simpa using hx
set_option maxRecDepth 100000 in
theorem OH (hV:∀ v:View,v.bounded→aj Tryz.prog 34 [.ag [.u v.id.round,.z v.id.server.node,.u v.id.server.inc,.d (.ro 2 (procs v.members)),.d (.ro 1 (ae v.ay))]] (DV.v (.bool v.may))) (f:aA) (hb:f.bounded):aj Tryz.prog 45 [.ag [.u f.view.id.round,.z f.view.id.server.node,.u f.view.id.server.inc,.d (.ro 2 (procs f.view.members)),.d (.ro 1 (ae f.view.ay)),.d (.ro 1 (streams f.streams)),.d (.ro 1 (ae f.aC))]] (.em 22 1 (ae f.counts)):=by
 have uc:=aA.D8 hb
 obtain ⟨ni,Vp⟩:=aA.FA f
 obtain ⟨xU,eK,cB,kQ⟩:=id uc
 refine aj.intro (by kernel_rfl) rfl rfl 22 rfl rfl fun w0 K ac hK r=>?_
 refine mZ (todo':=aft Tryz.f45 2) (E':=[(2,.d (.v (.slice none 0 0))),(3,.d (.v (.slice none 0 0))),(9,.sl 3 ((aP f.owned.streams).length)),(10,.n f.owned.streams.length),(11,.z 0)]) (M':=[.bx 37 [.u f.view.id.round,.z f.view.id.server.node,.u f.view.id.server.inc,.d (.ro 2 (procs f.view.members)),.d (.ro 1 (ae f.view.ay)),.d (.ro 1 (streams f.streams)),.d (.ro 1 (ae f.aC))],.rw 24 2 (procs f.owned.view.members),.rw 22 1 (ae f.owned.view.ay),.rw 111 1 (aP f.owned.streams),.rw 22 1 (ae f.owned.aC)]) tk tq hK [(2,[(1,.aL (.ag [.u f.owned.view.id.round,.z f.owned.view.id.server.node,.u f.owned.view.id.server.inc,.em 24 2 (procs f.owned.view.members),.em 22 1 (ae f.owned.view.ay),.em 111 1 (aP f.owned.streams),.em 22 1 (ae f.owned.aC)])),(4,.z (((f.owned.streams.length:Nat):Int)))])] 7 [0,1,2,3,4] [2,3,9,10,11] r (by kernel_rfl) (U (AW hV f (by assumption)) (U ((by simp [al]):(((aP f.owned.streams).length:Nat):Int)=((f.owned.streams.length:Nat):Int)) trivial)) fun ac wd r=>?_
 have r:=r.freeze (M1:=[.bx 37 [.u f.view.id.round,.z f.view.id.server.node,.u f.view.id.server.inc,.d (.ro 2 (procs f.view.members)),.d (.ro 1 (ae f.view.ay)),.d (.ro 1 (streams f.streams)),.d (.ro 1 (ae f.aC))],.rw 24 2 (procs f.owned.view.members),.rw 22 1 (ae f.owned.view.ay),.rw 111 1 (bM (aP f.owned.streams)),.rw 22 1 (ae f.owned.aC)]) (M2:=[.bx 37 [.u f.view.id.round,.z f.view.id.server.node,.u f.view.id.server.inc,.d (.ro 2 (procs f.view.members)),.d (.ro 1 (ae f.view.ay)),.d (.ro 1 (streams f.streams)),.d (.ro 1 (ae f.aC))],.rw 24 2 (procs f.owned.view.members),.rw 22 1 (ae f.owned.view.ay),.rw 111 1 (streams f.owned.streams),.rw 22 1 (ae f.owned.aC)]) [3] (by kernel_rfl) (by rw [x2])
 refine bI (todo':=hd Tryz.f45 0) (E':=[(3,.d (.v (.slice none 0 0))),(9,.sl 3 ((aP f.owned.streams).length)),(10,.n f.owned.streams.length),(11,.z 0)]) (M':=[.bx 37 [.u f.view.id.round,.z f.view.id.server.node,.u f.view.id.server.inc,.d (.ro 2 (procs f.view.members)),.d (.ro 1 (ae f.view.ay)),.d (.ro 1 (streams f.streams)),.d (.ro 1 (ae f.aC))],.rw 24 2 (procs f.owned.view.members),.rw 22 1 (ae f.owned.view.ay),.rw 111 1 (streams f.owned.streams),.rw 22 1 (ae f.owned.aC)]) tk tq hK [] 2000 [0,1,2,3,4] [3,9,10,11] r (by kernel_rfl) trivial fun ac wd r=>?_
 refine aJ.rounds (Φ:=fun (i:Nat) ac wd=>(i≤f.owned.streams.length)∧dH [] w0 K 22 [(3,.sl 5 (i)),(9,.sl 3 ((aP f.owned.streams).length)),(10,.n f.owned.streams.length),(11,.n i)] [.bx 37 [.u f.view.id.round,.z f.view.id.server.node,.u f.view.id.server.inc,.d (.ro 2 (procs f.view.members)),.d (.ro 1 (ae f.view.ay)),.d (.ro 1 (streams f.streams)),.d (.ro 1 (ae f.aC))],.rw 24 2 (procs f.owned.view.members),.rw 22 1 (ae f.owned.view.ay),.rw 111 1 (streams f.owned.streams),.rw 22 1 (ae f.owned.aC),.rw 22 1 (ae ((f.owned.streams.take i).map bZ))] ac wd) (f.owned.streams.length) ?_ (Nat.zero_le _) ⟨by omega,r.Bw (M1:=[.bx 37 [.u f.view.id.round,.z f.view.id.server.node,.u f.view.id.server.inc,.d (.ro 2 (procs f.view.members)),.d (.ro 1 (ae f.view.ay)),.d (.ro 1 (streams f.streams)),.d (.ro 1 (ae f.aC))],.rw 24 2 (procs f.owned.view.members),.rw 22 1 (ae f.owned.view.ay),.rw 111 1 (streams f.owned.streams),.rw 22 1 (ae f.owned.aC),.rw 22 1 []]) [(3,22,1)] [] (by kernel_rfl) (by kernel_rfl)⟩
 clear r
 rintro i fI cX ac wd ⟨bh,r⟩
 cases h0:(decide ((((i:Nat):Int):Int)<((f.owned.streams.length:Nat):Int))) with
 | false=>
  have bq:=of_decide_eq_false h0
  rw [show (.em 22 1 (ae f.counts):DV)=.em 22 1 (ae ((f.owned.streams.take i).map bZ)) from (by unfold aA.counts;rw [show f.owned.streams.take i=f.owned.streams from List.take_of_length_le (by omega)])]
  exact aM tk tq hK rfl [(3,[(0,.b false)])] 2000 r (by kernel_rfl) (U h0 (U ((by simp<;>omega):(i)=(ae ((f.owned.streams.take i).map bZ)).length) trivial))
 | true=>
  have bq:=of_decide_eq_true h0
  obtain ⟨aI,gK⟩:∃ x,f.owned.streams[i]?=some x:=⟨_,List.getElem?_eq_getElem (by omega)⟩
  have rP:=uc.at gK
  have OI:=rP.1
  obtain ⟨bP,nU⟩:∃ x,f.owned.view.members[i]?=some x:=⟨_,List.getElem?_eq_getElem (by omega)⟩
  obtain ⟨a9,iu⟩:∃ x,f.owned.aC[i]?=some x:=⟨_,List.getElem?_eq_getElem (by omega)⟩
  obtain ⟨gd,hle⟩:=aA.zn gK iu
  have bB:=Fv aI
  have kV:=zo gd
  exact bI (todo':=hd Tryz.f45 0) (E':=[(3,.sl 5 (i+(1))),(9,.sl 3 ((aP f.owned.streams).length)),(10,.n f.owned.streams.length),(11,.n (i+1))]) (M':=[.bx 37 [.u f.view.id.round,.z f.view.id.server.node,.u f.view.id.server.inc,.d (.ro 2 (procs f.view.members)),.d (.ro 1 (ae f.view.ay)),.d (.ro 1 (streams f.streams)),.d (.ro 1 (ae f.aC))],.rw 24 2 (procs f.owned.view.members),.rw 22 1 (ae f.owned.view.ay),.rw 111 1 (streams f.owned.streams),.rw 22 1 (ae f.owned.aC),.rw 22 1 (ae ((f.owned.streams.take i).map bZ)++[[.u (bZ aI)]])]) tk tq hK [(3,[(0,.b true)]),(4,[(0,.n (i)),(1,.ix 0 [.ro 2 (aQ aI)])]),(5,[(2,.aL (.u (bZ aI)))]),(6,[(0,.z (((i+1:Nat):Int)))])] 2000 [0,1,2,3,4,5] [3,9,10,11] r (by kernel_rfl) (U h0 (U (aS ((i:Nat):Int)) (U ((by first | omega | (simp;omega) | (simp [iZ];omega)):(i)<((aP f.owned.streams).length)) (U ((by simp<;>omega):((aP f.owned.streams).length)≤(streams f.owned.streams).length) (U (mw gK) (U (x4 gd (by omega)) (U ((by simp<;>omega):(i)=(ae ((f.owned.streams.take i).map bZ)).length) (U ((by simp<;>omega):(1)=([[.u (bZ aI)]]:List (List DV)).length) (U ((by first | omega | (simp [cR];done) | (simp [cR,nM];omega)):(2*((i)+(1))+192)*8≤281474976710656) (U ((by first | omega | (simp [cR];done) | (simp [cR,nM];omega)):(i)+(1)<4611686018427387904) (U ((by simp [bX,AV.one,cA,al]):bX ([[.u (bZ aI)]])) (U ((wi (by omega)):IntKind.i64.wrap ((((i:Nat):Int):Int)+1)=((i+1:Nat):Int)) trivial)))))))))))) fun ac wd r=>cX (by omega) ac wd ⟨by omega,r.cast rfl (by rw [MR gK])⟩
end Go.Proofs.YtgkdnnmcjjabdaaGreat
namespace Go.Proofs.YtgkdnnmcjjabdaaGreat
open Go.RowKit
theorem jb {l:List Slot} (g:Good l l.length) {k h e:Nat} {p:au} {x:Slot} (he:e≤bZ l) (hx:l[k]?=some x) (hn:¬ (h<x.n∧x.n≤e)):bV p l h (min (k+1) e-h)=bV p l h (min k e-h):=by
 obtain ⟨h1,h2⟩:=wc g hx
 rcases Nat.lt_or_ge k (bZ l) with hk | hk
 ·have:=h1 hk;congr 1;omega
 ·congr 1;omega
theorem fw {l:List Slot} (g:Good l l.length) {k h e:Nat} {p:au} {x:Slot} (he:e≤bZ l) (hx:l[k]?=some x) (ha:h<x.n) (hc:x.n≤e):bV p l h (min (k+1) e-h)=bV p l h (min k e-h)++[⟨p,x.n,x.body⟩]:=by
 obtain ⟨h1,h2⟩:=wc g hx
 have hk:k<bZ l:=by
  rcases Nat.lt_or_ge k (bZ l) with hk | hk
  ·exact hk
  ·have:=h2 hk;omega
 have e1:=h1 hk
 rw [show min (k+1) e-h=(k-h)+1 by omega,show min k e-h=k-h by omega,e1]
 have e2:h+1+(k-h)=k+1:=by omega
 have:=K8 (p:=p) (l:=l) (h:=h) (k:=k-h) (s:=x) (by rw [e2];exact OG g hx hk)
 rw [e2] at this;exact this
set_option maxRecDepth 100000 in
theorem H6 (hV:∀ v:View,v.bounded→aj Tryz.prog 34 [.ag [.u v.id.round,.z v.id.server.node,.u v.id.server.inc,.d (.ro 2 (procs v.members)),.d (.ro 1 (ae v.ay))]] (DV.v (.bool v.may))) (f:aA) (u:List Nat) (hb:f.bounded) (hu:u.length≤9223372036854775807):aj Tryz.prog 44 [.ag [.u f.view.id.round,.z f.view.id.server.node,.u f.view.id.server.inc,.d (.ro 2 (procs f.view.members)),.d (.ro 1 (ae f.view.ay)),.d (.ro 1 (streams f.streams)),.d (.ro 1 (ae f.aC))],.d (.ro 1 (ae u))] (.tu [.ag (f.owned.hand u).half,.em 94 4 (dD (bQ f.owned u f.owned.streams.length))]):=by
 have uc:=aA.D8 hb
 obtain ⟨ni,Vp⟩:=aA.FA f
 obtain ⟨xU,eK,cB,kQ⟩:=id uc
 refine aj.intro (by kernel_rfl) rfl rfl 91 rfl rfl fun w0 K ac hK r=>?_
 refine mZ (todo':=aft Tryz.f44 2) (E':=[(1,.d (.ro 1 (ae u))),(4,.pt 1 0),(5,.d (.v (.slice none 0 0))),(6,.pt 6 0),(7,.sl 7 (f.owned.streams.length))]) (M':=[.bx 37 [.u f.view.id.round,.z f.view.id.server.node,.u f.view.id.server.inc,.d (.ro 2 (procs f.view.members)),.d (.ro 1 (ae f.view.ay)),.d (.ro 1 (streams f.streams)),.d (.ro 1 (ae f.aC))],.bx 37 [.d (.v (.int .u64 0)),.z 0,.d (.v (.int .u64 0)),.d (.v (.slice none 0 0)),.d (.v (.slice none 0 0)),.d (.v (.slice none 0 0)),.d (.v (.slice none 0 0))],.rw 24 2 (procs f.owned.view.members),.rw 22 1 (ae f.owned.view.ay),.rw 111 1 (aP f.owned.streams),.rw 22 1 (ae f.owned.aC),.bx 124 [.u f.owned.view.id.round,.z f.owned.view.id.server.node,.u f.owned.view.id.server.inc,.sl 2 ((procs f.owned.view.members).length),.sl 3 ((ae f.owned.view.ay).length),.sl 4 ((aP f.owned.streams).length),.sl 5 ((ae f.owned.aC).length)],.rw 22 1 (List.replicate (f.owned.streams.length) [.v (.int .u64 0)])]) tk tq hK [(1,[(1,.aL (.ag [.u f.owned.view.id.round,.z f.owned.view.id.server.node,.u f.owned.view.id.server.inc,.em 24 2 (procs f.owned.view.members),.em 22 1 (ae f.owned.view.ay),.em 111 1 (aP f.owned.streams),.em 22 1 (ae f.owned.aC)]))]),(2,[(3,.z (((f.owned.streams.length:Nat):Int))),(4,.n (f.owned.streams.length))])] 6 [0,1,2,3,4,5,6,7] [1,4,5,6,7] r (by kernel_rfl) (U (AW hV f (by assumption)) (U ((by simp [al]):(((aP f.owned.streams).length:Nat):Int)=((f.owned.streams.length:Nat):Int)) (U (aS ((f.owned.streams.length:Nat):Int)) (U (aS ((f.owned.streams.length:Nat):Int)) (U ((by first | omega | (simp;omega) | (simp [iZ];omega)):8*(f.owned.streams.length)≤281474976710656) (U ((by first | omega | (simp;omega) | (simp [iZ];omega)):(f.owned.streams.length)<4611686018427387904) trivial)))))) fun ac wd r=>?_
 have r:=r.freeze (M1:=[.bx 37 [.u f.view.id.round,.z f.view.id.server.node,.u f.view.id.server.inc,.d (.ro 2 (procs f.view.members)),.d (.ro 1 (ae f.view.ay)),.d (.ro 1 (streams f.streams)),.d (.ro 1 (ae f.aC))],.bx 37 [.d (.v (.int .u64 0)),.z 0,.d (.v (.int .u64 0)),.d (.v (.slice none 0 0)),.d (.v (.slice none 0 0)),.d (.v (.slice none 0 0)),.d (.v (.slice none 0 0))],.rw 24 2 (procs f.owned.view.members),.rw 22 1 (ae f.owned.view.ay),.rw 111 1 (bM (aP f.owned.streams)),.rw 22 1 (ae f.owned.aC),.bx 124 [.u f.owned.view.id.round,.z f.owned.view.id.server.node,.u f.owned.view.id.server.inc,.sl 2 ((procs f.owned.view.members).length),.sl 3 ((ae f.owned.view.ay).length),.sl 4 ((aP f.owned.streams).length),.sl 5 ((ae f.owned.aC).length)],.rw 22 1 (List.replicate (f.owned.streams.length) [.v (.int .u64 0)])]) (M2:=[.bx 37 [.u f.view.id.round,.z f.view.id.server.node,.u f.view.id.server.inc,.d (.ro 2 (procs f.view.members)),.d (.ro 1 (ae f.view.ay)),.d (.ro 1 (streams f.streams)),.d (.ro 1 (ae f.aC))],.bx 37 [.d (.v (.int .u64 0)),.z 0,.d (.v (.int .u64 0)),.d (.v (.slice none 0 0)),.d (.v (.slice none 0 0)),.d (.v (.slice none 0 0)),.d (.v (.slice none 0 0))],.rw 24 2 (procs f.owned.view.members),.rw 22 1 (ae f.owned.view.ay),.rw 111 1 (streams f.owned.streams),.rw 22 1 (ae f.owned.aC),.bx 124 [.u f.owned.view.id.round,.z f.owned.view.id.server.node,.u f.owned.view.id.server.inc,.sl 2 ((procs f.owned.view.members).length),.sl 3 ((ae f.owned.view.ay).length),.sl 4 ((aP f.owned.streams).length),.sl 5 ((ae f.owned.aC).length)],.rw 22 1 (List.replicate (f.owned.streams.length) [.v (.int .u64 0)])]) [4] (by kernel_rfl) (by rw [x2])
 refine mZ (todo':=aft Tryz.f44 3) (E':=[(1,.d (.ro 1 (ae u))),(4,.pt 1 0),(5,.d (.v (.slice none 0 0))),(6,.pt 6 0),(7,.sl 7 (f.owned.streams.length))]) (M':=[.bx 37 [.u f.view.id.round,.z f.view.id.server.node,.u f.view.id.server.inc,.d (.ro 2 (procs f.view.members)),.d (.ro 1 (ae f.view.ay)),.d (.ro 1 (streams f.streams)),.d (.ro 1 (ae f.aC))],.bx 37 [.d (.v (.int .u64 0)),.z 0,.d (.v (.int .u64 0)),.d (.v (.slice none 0 0)),.d (.v (.slice none 0 0)),.d (.v (.slice none 0 0)),.d (.v (.slice none 0 0))],.rw 24 2 (procs f.owned.view.members),.rw 22 1 (ae f.owned.view.ay),.rw 111 1 (streams f.owned.streams),.rw 22 1 (ae f.owned.aC),.bx 124 [.u f.owned.view.id.round,.z f.owned.view.id.server.node,.u f.owned.view.id.server.inc,.sl 2 ((procs f.owned.view.members).length),.sl 3 ((ae f.owned.view.ay).length),.sl 4 ((aP f.owned.streams).length),.sl 5 ((ae f.owned.aC).length)],.rw 22 1 ((ae u).take (min u.length f.owned.streams.length)++(List.replicate (f.owned.streams.length) [.v (.int .u64 0)]).drop (min u.length f.owned.streams.length))]) tk tq hK [(3,[(2,.n (min u.length f.owned.streams.length))])] 2 [0,1,2,3,4,5,6,7] [1,4,5,6,7] r (by kernel_rfl) (U ((by simp<;>omega):(f.owned.streams.length)=(List.replicate (f.owned.streams.length) [.v (.int .u64 0)]:List (List DV)).length) (U ((by simp):min (ae u).length (f.owned.streams.length)=min u.length f.owned.streams.length) (U ((by simp [bX,AV.one,cA,al]):bX (ae u)) trivial))) fun ac wd r=>?_
 have r:=r.freeze (M1:=[.bx 37 [.u f.view.id.round,.z f.view.id.server.node,.u f.view.id.server.inc,.d (.ro 2 (procs f.view.members)),.d (.ro 1 (ae f.view.ay)),.d (.ro 1 (streams f.streams)),.d (.ro 1 (ae f.aC))],.bx 37 [.d (.v (.int .u64 0)),.z 0,.d (.v (.int .u64 0)),.d (.v (.slice none 0 0)),.d (.v (.slice none 0 0)),.d (.v (.slice none 0 0)),.d (.v (.slice none 0 0))],.rw 24 2 (procs f.owned.view.members),.rw 22 1 (ae f.owned.view.ay),.rw 111 1 (streams f.owned.streams),.rw 22 1 (ae f.owned.aC),.bx 124 [.u f.owned.view.id.round,.z f.owned.view.id.server.node,.u f.owned.view.id.server.inc,.sl 2 ((procs f.owned.view.members).length),.sl 3 ((ae f.owned.view.ay).length),.sl 4 ((aP f.owned.streams).length),.sl 5 ((ae f.owned.aC).length)],.rw 22 1 ((ae u).take (min u.length f.owned.streams.length)++(List.replicate (f.owned.streams.length) [.v (.int .u64 0)]).drop (min u.length f.owned.streams.length))]) (M2:=[.bx 37 [.u f.view.id.round,.z f.view.id.server.node,.u f.view.id.server.inc,.d (.ro 2 (procs f.view.members)),.d (.ro 1 (ae f.view.ay)),.d (.ro 1 (streams f.streams)),.d (.ro 1 (ae f.aC))],.bx 37 [.d (.v (.int .u64 0)),.z 0,.d (.v (.int .u64 0)),.d (.v (.slice none 0 0)),.d (.v (.slice none 0 0)),.d (.v (.slice none 0 0)),.d (.v (.slice none 0 0))],.rw 24 2 (procs f.owned.view.members),.rw 22 1 (ae f.owned.view.ay),.rw 111 1 (streams f.owned.streams),.rw 22 1 (ae f.owned.aC),.bx 124 [.u f.owned.view.id.round,.z f.owned.view.id.server.node,.u f.owned.view.id.server.inc,.sl 2 ((procs f.owned.view.members).length),.sl 3 ((ae f.owned.view.ay).length),.sl 4 ((aP f.owned.streams).length),.sl 5 ((ae f.owned.aC).length)],.rw 22 1 (ae (dR u f.owned.streams.length))]) [] (by kernel_rfl) (by rw [OF])
 refine bI (todo':=hd Tryz.f44 0) (E':=[(1,.d (.ro 1 (ae u))),(4,.pt 1 0),(6,.pt 6 0),(7,.sl 7 (f.owned.streams.length)),(26,.sl 4 ((aP f.owned.streams).length)),(27,.n f.owned.streams.length),(28,.z 0),(8,.d (.v (.slice none 0 0)))]) (M':=[.bx 37 [.u f.view.id.round,.z f.view.id.server.node,.u f.view.id.server.inc,.d (.ro 2 (procs f.view.members)),.d (.ro 1 (ae f.view.ay)),.d (.ro 1 (streams f.streams)),.d (.ro 1 (ae f.aC))],.bx 37 [.d (.v (.int .u64 0)),.z 0,.d (.v (.int .u64 0)),.d (.v (.slice none 0 0)),.d (.v (.slice none 0 0)),.d (.v (.slice none 0 0)),.d (.v (.slice none 0 0))],.rw 24 2 (procs f.owned.view.members),.rw 22 1 (ae f.owned.view.ay),.rw 111 1 (streams f.owned.streams),.rw 22 1 (ae f.owned.aC),.bx 124 [.u f.owned.view.id.round,.z f.owned.view.id.server.node,.u f.owned.view.id.server.inc,.sl 2 ((procs f.owned.view.members).length),.sl 3 ((ae f.owned.view.ay).length),.sl 4 ((aP f.owned.streams).length),.sl 5 ((ae f.owned.aC).length)],.rw 22 1 (ae (dR u f.owned.streams.length))]) tk tq hK [(5,[(3,.z (((f.owned.streams.length:Nat):Int)))])] 2000 [0,1,2,3,4,5,6,7] [1,4,6,7,26,27,28,8] r (by kernel_rfl) (U ((by simp [al]):(((aP f.owned.streams).length:Nat):Int)=((f.owned.streams.length:Nat):Int)) trivial) fun ac wd r=>?_
 refine aJ.rounds (Φ:=fun (i:Nat) ac wd=>(i≤f.owned.streams.length)∧dH [] w0 K 91 [(1,.d (.ro 1 (ae u))),(4,.pt 1 0),(6,.pt 6 0),(7,.sl 7 (f.owned.streams.length)),(26,.sl 4 ((aP f.owned.streams).length)),(27,.n f.owned.streams.length),(28,.n i),(8,.sl 8 ((bQ f.owned u i).length))] [.bx 37 [.u f.view.id.round,.z f.view.id.server.node,.u f.view.id.server.inc,.d (.ro 2 (procs f.view.members)),.d (.ro 1 (ae f.view.ay)),.d (.ro 1 (streams f.streams)),.d (.ro 1 (ae f.aC))],.bx 37 [.d (.v (.int .u64 0)),.z 0,.d (.v (.int .u64 0)),.d (.v (.slice none 0 0)),.d (.v (.slice none 0 0)),.d (.v (.slice none 0 0)),.d (.v (.slice none 0 0))],.rw 24 2 (procs f.owned.view.members),.rw 22 1 (ae f.owned.view.ay),.rw 111 1 (streams f.owned.streams),.rw 22 1 (ae (cb f.owned u i)),.bx 124 [.u f.owned.view.id.round,.z f.owned.view.id.server.node,.u f.owned.view.id.server.inc,.sl 2 ((procs f.owned.view.members).length),.sl 3 ((ae f.owned.view.ay).length),.sl 4 ((aP f.owned.streams).length),.sl 5 ((ae f.owned.aC).length)],.rw 22 1 (ae (dR u f.owned.streams.length)),.rw 94 4 (dD (bQ f.owned u i))] ac wd) (f.owned.streams.length) ?_ (Nat.zero_le _) ⟨by omega,r.Bw (M1:=[.bx 37 [.u f.view.id.round,.z f.view.id.server.node,.u f.view.id.server.inc,.d (.ro 2 (procs f.view.members)),.d (.ro 1 (ae f.view.ay)),.d (.ro 1 (streams f.streams)),.d (.ro 1 (ae f.aC))],.bx 37 [.d (.v (.int .u64 0)),.z 0,.d (.v (.int .u64 0)),.d (.v (.slice none 0 0)),.d (.v (.slice none 0 0)),.d (.v (.slice none 0 0)),.d (.v (.slice none 0 0))],.rw 24 2 (procs f.owned.view.members),.rw 22 1 (ae f.owned.view.ay),.rw 111 1 (streams f.owned.streams),.rw 22 1 (ae f.owned.aC),.bx 124 [.u f.owned.view.id.round,.z f.owned.view.id.server.node,.u f.owned.view.id.server.inc,.sl 2 ((procs f.owned.view.members).length),.sl 3 ((ae f.owned.view.ay).length),.sl 4 ((aP f.owned.streams).length),.sl 5 ((ae f.owned.aC).length)],.rw 22 1 (ae (dR u f.owned.streams.length)),.rw 94 4 []]) [(8,94,4)] [] (by kernel_rfl) (by kernel_rfl)⟩
 clear r
 rintro i fI cX ac wd ⟨bh,r⟩
 have xA:=iZ f.owned u i
 cases h0:(decide ((((i:Nat):Int):Int)<((f.owned.streams.length:Nat):Int))) with
 | false=>
  have bq:=of_decide_eq_false h0
  rw [show (.tu [.ag (f.owned.hand u).half,.em 94 4 (dD (bQ f.owned u f.owned.streams.length))]:DV)=.tu [.ag [.u f.owned.view.id.round,.z f.owned.view.id.server.node,.u f.owned.view.id.server.inc,.em 24 2 (procs f.owned.view.members),.em 22 1 (ae f.owned.view.ay),.em 111 1 (streams f.owned.streams),.em 22 1 (ae (cb f.owned u i))],.em 94 4 (dD (bQ f.owned u i))] from (by unfold aA.hand;rw [show f.owned.streams.length=i by omega];rfl)]
  exact aM tk tq hK rfl [(6,[(0,.b false)])] 2000 r (by kernel_rfl) (U h0 (U (b5 ((procs f.owned.view.members).length)) (U (b5 ((ae f.owned.view.ay).length)) (U ((by simp<;>omega):((aP f.owned.streams).length)=(streams f.owned.streams).length) (U ((by simp<;>omega):((ae f.owned.aC).length)=(ae (cb f.owned u i)).length) (U ((by simp<;>omega):((bQ f.owned u i).length)=(dD (bQ f.owned u i)).length) trivial))))))
 | true=>
  have bq:=of_decide_eq_true h0
  obtain ⟨aI,gK⟩:∃ x,f.owned.streams[i]?=some x:=⟨_,List.getElem?_eq_getElem (by omega)⟩
  have rP:=uc.at gK
  have OI:=rP.1
  obtain ⟨bP,nU⟩:∃ x,f.owned.view.members[i]?=some x:=⟨_,List.getElem?_eq_getElem (by omega)⟩
  obtain ⟨a9,iu⟩:∃ x,f.owned.aC[i]?=some x:=⟨_,List.getElem?_eq_getElem (by omega)⟩
  obtain ⟨gd,hle⟩:=aA.zn gK iu
  have bB:=Fv aI
  have kV:=zo gd
  have dA:=HD aI u i
  have VC:=LN (f:=f.owned) (u:=u) (fun i l h hl hh=>(aA.zn hl hh).1) i
  have u0:=((by first | omega | (simp;omega) | (simp [iZ];omega)):(i)<((aP f.owned.streams).length))
  have u1:=((by simp<;>omega):((aP f.owned.streams).length)≤(streams f.owned.streams).length)
  have u2:=((by simp [al]):(((ae u).length:Nat):Int)=((u.length:Nat):Int))
  cases h1:(decide ((0:Int)<((u.length:Nat):Int))) with
  | false=>
   have b6:=of_decide_eq_false h1
   refine bI (todo':=hd Tryz.f44 1) (E':=[(1,.d (.ro 1 (ae u))),(4,.pt 1 0),(6,.pt 6 0),(7,.sl 7 (f.owned.streams.length)),(26,.sl 4 ((aP f.owned.streams).length)),(27,.n f.owned.streams.length),(28,.n i),(8,.sl 8 ((bQ f.owned u i).length)),(9,.n i),(10,.pt 9 0),(11,.u (bZ aI)),(45,.d (.ro 2 (aQ aI))),(46,.n aI.length),(47,.z 0)]) (M':=[.bx 37 [.u f.view.id.round,.z f.view.id.server.node,.u f.view.id.server.inc,.d (.ro 2 (procs f.view.members)),.d (.ro 1 (ae f.view.ay)),.d (.ro 1 (streams f.streams)),.d (.ro 1 (ae f.aC))],.bx 37 [.d (.v (.int .u64 0)),.z 0,.d (.v (.int .u64 0)),.d (.v (.slice none 0 0)),.d (.v (.slice none 0 0)),.d (.v (.slice none 0 0)),.d (.v (.slice none 0 0))],.rw 24 2 (procs f.owned.view.members),.rw 22 1 (ae f.owned.view.ay),.rw 111 1 (streams f.owned.streams),.rw 22 1 (ae (cb f.owned u i)),.bx 124 [.u f.owned.view.id.round,.z f.owned.view.id.server.node,.u f.owned.view.id.server.inc,.sl 2 ((procs f.owned.view.members).length),.sl 3 ((ae f.owned.view.ay).length),.sl 4 ((aP f.owned.streams).length),.sl 5 ((ae f.owned.aC).length)],.rw 22 1 (ae (dR u f.owned.streams.length)),.rw 94 4 (dD (bQ f.owned u i)),.bx 111 [.d (.ro 2 (aQ aI))]]) tk tq hK [(6,[(0,.b true)]),(7,[(1,.n (i)),(2,.ix 0 [.ro 2 (aQ aI)])]),(8,[(1,.aL (.u (bZ aI)))]),(9,[(1,.z (((u.length:Nat):Int))),(2,.b false)]),(11,[(2,.z (((aI.length:Nat):Int)))])] 2000 [0,1,2,3,4,5,6,7,8,9] [1,4,6,7,26,27,28,8,9,10,11,45,46,47] r (by kernel_rfl) (U h0 (U (aS ((i:Nat):Int)) (U u0 (U u1 (U (mw gK) (U (x4 gd (by omega)) (U u2 (U h1 (U ((by simp [al]):(((aQ aI).length:Nat):Int)=((aI.length:Nat):Int)) trivial))))))))) fun ac wd r=>?_
   refine aJ.rounds (Φ:=fun (k:Nat) ac wd=>(k≤aI.length)∧dH [] w0 K 91 [(1,.d (.ro 1 (ae u))),(4,.pt 1 0),(6,.pt 6 0),(7,.sl 7 (f.owned.streams.length)),(26,.sl 4 ((aP f.owned.streams).length)),(27,.n f.owned.streams.length),(28,.n i),(8,.sl 8 ((bQ f.owned u i++bV bP aI a9 (min k (bp aI u i)-a9)).length)),(9,.n i),(10,.pt 9 0),(11,.u (bp aI u i)),(45,.d (.ro 2 (aQ aI))),(46,.n aI.length),(47,.n k)] [.bx 37 [.u f.view.id.round,.z f.view.id.server.node,.u f.view.id.server.inc,.d (.ro 2 (procs f.view.members)),.d (.ro 1 (ae f.view.ay)),.d (.ro 1 (streams f.streams)),.d (.ro 1 (ae f.aC))],.bx 37 [.d (.v (.int .u64 0)),.z 0,.d (.v (.int .u64 0)),.d (.v (.slice none 0 0)),.d (.v (.slice none 0 0)),.d (.v (.slice none 0 0)),.d (.v (.slice none 0 0))],.rw 24 2 (procs f.owned.view.members),.rw 22 1 (ae f.owned.view.ay),.rw 111 1 (streams f.owned.streams),.rw 22 1 (ae (cb f.owned u i)),.bx 124 [.u f.owned.view.id.round,.z f.owned.view.id.server.node,.u f.owned.view.id.server.inc,.sl 2 ((procs f.owned.view.members).length),.sl 3 ((ae f.owned.view.ay).length),.sl 4 ((aP f.owned.streams).length),.sl 5 ((ae f.owned.aC).length)],.rw 22 1 (ae (dR u f.owned.streams.length)),.rw 94 4 (dD (bQ f.owned u i++bV bP aI a9 (min k (bp aI u i)-a9))),.bx 111 [.d (.ro 2 (aQ aI))]] ac wd) (aI.length) ?_ (Nat.zero_le _) ⟨by omega,(r).cast (by unfold bp;first | (rw [if_pos (by omega)];simp [bV];done) | (rw [if_neg (by omega)];simp [bV])) (by simp [bV])⟩
   clear r
   rintro k gB eW ac wd ⟨cy,r⟩
   cases h2:(decide ((((k:Nat):Int):Int)<((aI.length:Nat):Int))) with
   | false=>
    have dg:=of_decide_eq_false h2
    have sD:=((by first | omega | (simp;omega) | (simp [iZ];omega)):(i)<((ae f.owned.aC).length))
    have sE:=((by simp<;>omega):((ae f.owned.aC).length)≤(ae (cb f.owned u i)).length)
    have sF:=(iy (pS iu (by omega)):(ae (cb f.owned u i))[i]?=some [.u a9])
    have BY:=((by omega):(max (((a9:Nat):Int)) (((bp aI u i:Nat):Int)):Int)=((max (a9) (bp aI u i):Nat):Int))
    refine lu (todo':=aft Tryz.f44 17) (E':=[(1,.d (.ro 1 (ae u))),(4,.pt 1 0),(6,.pt 6 0),(7,.sl 7 (f.owned.streams.length)),(26,.sl 4 ((aP f.owned.streams).length)),(27,.n f.owned.streams.length),(28,.n i),(8,.sl 8 ((bQ f.owned u i++bV bP aI a9 (min k (bp aI u i)-a9)).length)),(9,.n i),(10,.pt 9 0),(11,.u (bp aI u i)),(45,.d (.ro 2 (aQ aI))),(46,.n aI.length),(47,.n k),(48,.d (.v (.bool false))),(74,.pt 6 0),(75,.pt 6 6),(76,.sl 5 ((ae f.owned.aC).length)),(77,.n i),(78,.pt 6 0),(79,.pt 6 6),(80,.sl 5 ((ae f.owned.aC).length)),(81,.n i),(84,.u (bp aI u i)),(82,.ep 5 1 (i) 0),(83,.u a9),(85,.u (max (a9) (bp aI u i))),(86,.ep 5 1 (i) 0)]) (M':=[.bx 37 [.u f.view.id.round,.z f.view.id.server.node,.u f.view.id.server.inc,.d (.ro 2 (procs f.view.members)),.d (.ro 1 (ae f.view.ay)),.d (.ro 1 (streams f.streams)),.d (.ro 1 (ae f.aC))],.bx 37 [.d (.v (.int .u64 0)),.z 0,.d (.v (.int .u64 0)),.d (.v (.slice none 0 0)),.d (.v (.slice none 0 0)),.d (.v (.slice none 0 0)),.d (.v (.slice none 0 0))],.rw 24 2 (procs f.owned.view.members),.rw 22 1 (ae f.owned.view.ay),.rw 111 1 (streams f.owned.streams),.rw 22 1 (List.set (ae (cb f.owned u i)) (i) [.u (max (a9) (bp aI u i))]),.bx 124 [.u f.owned.view.id.round,.z f.owned.view.id.server.node,.u f.owned.view.id.server.inc,.sl 2 ((procs f.owned.view.members).length),.sl 3 ((ae f.owned.view.ay).length),.sl 4 ((aP f.owned.streams).length),.sl 5 ((ae f.owned.aC).length)],.rw 22 1 (ae (dR u f.owned.streams.length)),.rw 94 4 (dD (bQ f.owned u i++bV bP aI a9 (min k (bp aI u i)-a9))),.bx 111 [.d (.ro 2 (aQ aI))]]) tk tq hK [(12,[(0,.b false)]),(17,[(8,.n (i)),(9,.ix 0 [.u a9]),(11,.z (((max (a9) (bp aI u i):Nat):Int))),(12,.n (i)),(13,.ix 0 [.u a9])])] 5 1 [8,9,12] [[0,1,2,3,4,5,6,7,8,9]] [1,4,6,7,26,27,28,8,9,10,11,45,46,47,48,74,75,76,77,78,79,80,81,84,82,83,85,86] r (by kernel_rfl) (U (U h2 (U (aS ((i:Nat):Int)) (U sD (U sE (U sF (U BY (U (aS ((i:Nat):Int)) (U sD (U sE (U sF trivial)))))))))) trivial) fun ac wd r=>?_
    exact bI (todo':=hd Tryz.f44 0) (E':=[(1,.d (.ro 1 (ae u))),(4,.pt 1 0),(6,.pt 6 0),(7,.sl 7 (f.owned.streams.length)),(26,.sl 4 ((aP f.owned.streams).length)),(27,.n f.owned.streams.length),(28,.n (i+1)),(8,.sl 8 ((bQ f.owned u i++bV bP aI a9 (min k (bp aI u i)-a9)).length))]) (M':=[.bx 37 [.u f.view.id.round,.z f.view.id.server.node,.u f.view.id.server.inc,.d (.ro 2 (procs f.view.members)),.d (.ro 1 (ae f.view.ay)),.d (.ro 1 (streams f.streams)),.d (.ro 1 (ae f.aC))],.bx 37 [.d (.v (.int .u64 0)),.z 0,.d (.v (.int .u64 0)),.d (.v (.slice none 0 0)),.d (.v (.slice none 0 0)),.d (.v (.slice none 0 0)),.d (.v (.slice none 0 0))],.rw 24 2 (procs f.owned.view.members),.rw 22 1 (ae f.owned.view.ay),.rw 111 1 (streams f.owned.streams),.rw 22 1 (List.set (ae (cb f.owned u i)) (i) [.u (max (a9) (bp aI u i))]),.bx 124 [.u f.owned.view.id.round,.z f.owned.view.id.server.node,.u f.owned.view.id.server.inc,.sl 2 ((procs f.owned.view.members).length),.sl 3 ((ae f.owned.view.ay).length),.sl 4 ((aP f.owned.streams).length),.sl 5 ((ae f.owned.aC).length)],.rw 22 1 (ae (dR u f.owned.streams.length)),.rw 94 4 (dD (bQ f.owned u i++bV bP aI a9 (min k (bp aI u i)-a9)))]) tk tq hK [(18,[(0,.z (((i+1:Nat):Int)))])] 2000 [0,1,2,3,4,5,6,7,8] [1,4,6,7,26,27,28,8] r (by kernel_rfl) (U ((wi (by omega)):IntKind.i64.wrap ((((i:Nat):Int):Int)+1)=((i+1:Nat):Int)) trivial) fun ac wd r=>cX (by omega) ac wd ⟨by omega,r.cast (by have e:min k (bp aI u i)=bp aI u i:=(by omega);rw [uv gK nU iu,e]) (by have e:min k (bp aI u i)=bp aI u i:=(by omega);rw [uv gK nU iu,FB gK iu,e,Gy])⟩
   | true=>
    have dg:=of_decide_eq_true h2
    obtain ⟨b3,cE⟩:∃ x,aI[k]?=some x:=⟨_,List.getElem?_eq_getElem (by omega)⟩
    have Lb:=rP.at cE
    have u3:=((by first | omega | (simp;omega) | (simp [iZ];omega)):(i)<((ae f.owned.aC).length))
    have u4:=((by simp<;>omega):((ae f.owned.aC).length)≤(ae (cb f.owned u i)).length)
    have u5:=(iy (pS iu (by omega)):(ae (cb f.owned u i))[i]?=some [.u a9])
    cases h3:(decide ((((a9:Nat):Int):Int)<((b3.n:Nat):Int))) with
    | false=>
     have fY:=of_decide_eq_false h3
     exact bI (todo':=hd Tryz.f44 1) (E':=[(1,.d (.ro 1 (ae u))),(4,.pt 1 0),(6,.pt 6 0),(7,.sl 7 (f.owned.streams.length)),(26,.sl 4 ((aP f.owned.streams).length)),(27,.n f.owned.streams.length),(28,.n i),(8,.sl 8 ((bQ f.owned u i++bV bP aI a9 (min k (bp aI u i)-a9)).length)),(9,.n i),(10,.pt 9 0),(11,.u (bp aI u i)),(45,.d (.ro 2 (aQ aI))),(46,.n aI.length),(47,.n (k+1))]) (M':=[.bx 37 [.u f.view.id.round,.z f.view.id.server.node,.u f.view.id.server.inc,.d (.ro 2 (procs f.view.members)),.d (.ro 1 (ae f.view.ay)),.d (.ro 1 (streams f.streams)),.d (.ro 1 (ae f.aC))],.bx 37 [.d (.v (.int .u64 0)),.z 0,.d (.v (.int .u64 0)),.d (.v (.slice none 0 0)),.d (.v (.slice none 0 0)),.d (.v (.slice none 0 0)),.d (.v (.slice none 0 0))],.rw 24 2 (procs f.owned.view.members),.rw 22 1 (ae f.owned.view.ay),.rw 111 1 (streams f.owned.streams),.rw 22 1 (ae (cb f.owned u i)),.bx 124 [.u f.owned.view.id.round,.z f.owned.view.id.server.node,.u f.owned.view.id.server.inc,.sl 2 ((procs f.owned.view.members).length),.sl 3 ((ae f.owned.view.ay).length),.sl 4 ((aP f.owned.streams).length),.sl 5 ((ae f.owned.aC).length)],.rw 22 1 (ae (dR u f.owned.streams.length)),.rw 94 4 (dD (bQ f.owned u i++bV bP aI a9 (min k (bp aI u i)-a9))),.bx 111 [.d (.ro 2 (aQ aI))]]) tk tq hK [(12,[(0,.b true)]),(13,[(0,.ix (k) [.u b3.n,.ro 1 (al b3.body)])]),(14,[(6,.n (i)),(7,.ix 0 [.u a9]),(8,.b false)]),(16,[(0,.z (((k+1:Nat):Int)))])] 2000 [0,1,2,3,4,5,6,7,8,9] [1,4,6,7,26,27,28,8,9,10,11,45,46,47] r (by kernel_rfl) (U h2 (U (aS ((k:Nat):Int)) (U (ew cE) (U (aS ((i:Nat):Int)) (U u3 (U u4 (U u5 (U h3 (U ((wi (by omega)):IntKind.i64.wrap ((((k:Nat):Int):Int)+1)=((k+1:Nat):Int)) trivial))))))))) fun ac wd r=>eW (by omega) ac wd ⟨by omega,r.cast (by first | rw [jb gd dA cE (by omega)] | (rw [fw gd dA cE (by omega) (by omega)];simp;done) | (rw [fw gd dA cE (by omega) (by omega)];simp;omega)) (by first | rw [jb gd dA cE (by omega)] | rw [fw gd dA cE (by omega) (by omega),← List.append_assoc,py])⟩
    | true=>
     have fY:=of_decide_eq_true h3
     cases h4:(decide ((((b3.n:Nat):Int):Int)≤((bp aI u i:Nat):Int))) with
     | false=>
      have pe:=of_decide_eq_false h4
      exact bI (todo':=hd Tryz.f44 1) (E':=[(1,.d (.ro 1 (ae u))),(4,.pt 1 0),(6,.pt 6 0),(7,.sl 7 (f.owned.streams.length)),(26,.sl 4 ((aP f.owned.streams).length)),(27,.n f.owned.streams.length),(28,.n i),(8,.sl 8 ((bQ f.owned u i++bV bP aI a9 (min k (bp aI u i)-a9)).length)),(9,.n i),(10,.pt 9 0),(11,.u (bp aI u i)),(45,.d (.ro 2 (aQ aI))),(46,.n aI.length),(47,.n (k+1))]) (M':=[.bx 37 [.u f.view.id.round,.z f.view.id.server.node,.u f.view.id.server.inc,.d (.ro 2 (procs f.view.members)),.d (.ro 1 (ae f.view.ay)),.d (.ro 1 (streams f.streams)),.d (.ro 1 (ae f.aC))],.bx 37 [.d (.v (.int .u64 0)),.z 0,.d (.v (.int .u64 0)),.d (.v (.slice none 0 0)),.d (.v (.slice none 0 0)),.d (.v (.slice none 0 0)),.d (.v (.slice none 0 0))],.rw 24 2 (procs f.owned.view.members),.rw 22 1 (ae f.owned.view.ay),.rw 111 1 (streams f.owned.streams),.rw 22 1 (ae (cb f.owned u i)),.bx 124 [.u f.owned.view.id.round,.z f.owned.view.id.server.node,.u f.owned.view.id.server.inc,.sl 2 ((procs f.owned.view.members).length),.sl 3 ((ae f.owned.view.ay).length),.sl 4 ((aP f.owned.streams).length),.sl 5 ((ae f.owned.aC).length)],.rw 22 1 (ae (dR u f.owned.streams.length)),.rw 94 4 (dD (bQ f.owned u i++bV bP aI a9 (min k (bp aI u i)-a9))),.bx 111 [.d (.ro 2 (aQ aI))]]) tk tq hK [(12,[(0,.b true)]),(13,[(0,.ix (k) [.u b3.n,.ro 1 (al b3.body)])]),(14,[(6,.n (i)),(7,.ix 0 [.u a9]),(8,.b true),(13,.b false)]),(16,[(0,.z (((k+1:Nat):Int)))])] 2000 [0,1,2,3,4,5,6,7,8,9] [1,4,6,7,26,27,28,8,9,10,11,45,46,47] r (by kernel_rfl) (U h2 (U (aS ((k:Nat):Int)) (U (ew cE) (U (aS ((i:Nat):Int)) (U u3 (U u4 (U u5 (U h3 (U h4 (U ((wi (by omega)):IntKind.i64.wrap ((((k:Nat):Int):Int)+1)=((k+1:Nat):Int)) trivial)))))))))) fun ac wd r=>eW (by omega) ac wd ⟨by omega,r.cast (by first | rw [jb gd dA cE (by omega)] | (rw [fw gd dA cE (by omega) (by omega)];simp;done) | (rw [fw gd dA cE (by omega) (by omega)];simp;omega)) (by first | rw [jb gd dA cE (by omega)] | rw [fw gd dA cE (by omega) (by omega),← List.append_assoc,py])⟩
     | true=>
      have pe:=of_decide_eq_true h4
      exact bI (todo':=hd Tryz.f44 1) (E':=[(1,.d (.ro 1 (ae u))),(4,.pt 1 0),(6,.pt 6 0),(7,.sl 7 (f.owned.streams.length)),(26,.sl 4 ((aP f.owned.streams).length)),(27,.n f.owned.streams.length),(28,.n i),(8,.sl 8 ((bQ f.owned u i++bV bP aI a9 (min k (bp aI u i)-a9)).length+(1))),(9,.n i),(10,.pt 9 0),(11,.u (bp aI u i)),(45,.d (.ro 2 (aQ aI))),(46,.n aI.length),(47,.n (k+1))]) (M':=[.bx 37 [.u f.view.id.round,.z f.view.id.server.node,.u f.view.id.server.inc,.d (.ro 2 (procs f.view.members)),.d (.ro 1 (ae f.view.ay)),.d (.ro 1 (streams f.streams)),.d (.ro 1 (ae f.aC))],.bx 37 [.d (.v (.int .u64 0)),.z 0,.d (.v (.int .u64 0)),.d (.v (.slice none 0 0)),.d (.v (.slice none 0 0)),.d (.v (.slice none 0 0)),.d (.v (.slice none 0 0))],.rw 24 2 (procs f.owned.view.members),.rw 22 1 (ae f.owned.view.ay),.rw 111 1 (streams f.owned.streams),.rw 22 1 (ae (cb f.owned u i)),.bx 124 [.u f.owned.view.id.round,.z f.owned.view.id.server.node,.u f.owned.view.id.server.inc,.sl 2 ((procs f.owned.view.members).length),.sl 3 ((ae f.owned.view.ay).length),.sl 4 ((aP f.owned.streams).length),.sl 5 ((ae f.owned.aC).length)],.rw 22 1 (ae (dR u f.owned.streams.length)),.rw 94 4 (dD (bQ f.owned u i++bV bP aI a9 (min k (bp aI u i)-a9))++[[.z bP.node,.u bP.inc,.u b3.n,.em 5 1 (al b3.body)]]),.bx 111 [.d (.ro 2 (aQ aI))]]) tk tq hK [(12,[(0,.b true)]),(13,[(0,.ix (k) [.u b3.n,.ro 1 (al b3.body)])]),(14,[(6,.n (i)),(7,.ix 0 [.u a9]),(8,.b true),(13,.b true)]),(15,[(4,.call [.ag [.u f.owned.view.id.round,.z f.owned.view.id.server.node,.u f.owned.view.id.server.inc,.d (.ro 2 (procs f.owned.view.members)),.d (.ro 1 (ae f.owned.view.ay)),.d (.ro 1 (streams f.owned.streams)),.d (.ro 1 (ae (cb f.owned u i)))],.n i,.ag [.u b3.n,.d (.ro 1 (al b3.body))]] (.ag [.z bP.node,.u bP.inc,.u b3.n,.em 5 1 (al b3.body)]))]),(16,[(0,.z (((k+1:Nat):Int)))])] 2000 [0,1,2,3,4,5,6,7,8,9] [1,4,6,7,26,27,28,8,9,10,11,45,46,47] r (by kernel_rfl) (U h2 (U (aS ((k:Nat):Int)) (U (ew cE) (U (aS ((i:Nat):Int)) (U u3 (U u4 (U u5 (U h3 (U h4 (U (Fy { f.owned with aC:=cb f.owned u i } i b3 (by show i<f.owned.view.members.length;omega) (by omega) nU) (U ((by first | exact lH _ | exact da.two _ _ | exact da.msg _ _ _ _ _):da (.ag [.z bP.node,.u bP.inc,.u b3.n,.em 5 1 (al b3.body)])) (U (aO (.u f.owned.view.id.round)) (U (aO (.z f.owned.view.id.server.node)) (U (aO (.u f.owned.view.id.server.inc)) (U (b5 (2)) (U (b5 ((procs f.owned.view.members).length)) (U ((by first | exact mB _ | (simp [b7,bc,au.row];done) | (simp [b7,bc,au.row])):bM (procs f.owned.view.members)=procs f.owned.view.members) (U (b5 (1)) (U (b5 ((ae f.owned.view.ay).length)) (U ((by first | exact mB _ | (simp [b7,bc,au.row];done) | (simp [b7,bc,au.row])):bM (ae f.owned.view.ay)=ae f.owned.view.ay) (U (b5 (1)) (U ((by simp<;>omega):((aP f.owned.streams).length)=(streams f.owned.streams).length) (U ((by first | exact mB _ | (simp [b7,bc,au.row];done) | (simp [b7,bc,au.row])):bM (streams f.owned.streams)=streams f.owned.streams) (U (b5 (1)) (U ((by simp<;>omega):((ae f.owned.aC).length)=(ae (cb f.owned u i)).length) (U ((by first | exact mB _ | (simp [b7,bc,au.row];done) | (simp [b7,bc,au.row])):bM (ae (cb f.owned u i))=ae (cb f.owned u i)) (U (aO (.n i)) (U (aO (.u b3.n)) (U (aO (.ro 1 (al b3.body))) (U (b5 ((al b3.body).length)) (U ((by simp<;>omega):((bQ f.owned u i++bV bP aI a9 (min k (bp aI u i)-a9)).length)=(dD (bQ f.owned u i++bV bP aI a9 (min k (bp aI u i)-a9)):List (List DV)).length) (U ((by simp<;>omega):(1)=([[.z bP.node,.u bP.inc,.u b3.n,.em 5 1 (al b3.body)]]:List (List DV)).length) (U ((by first | omega | (simp [cR];done) | (simp [cR,nM];omega)):(2*(((bQ f.owned u i++bV bP aI a9 (min k (bp aI u i)-a9)).length)+(1))+192)*48≤281474976710656) (U ((by first | omega | (simp [cR];done) | (simp [cR,nM];omega)):((bQ f.owned u i++bV bP aI a9 (min k (bp aI u i)-a9)).length)+(1)<4611686018427387904) (U ((by simp [bX,AV.one,cA,al]):bX ([[.z bP.node,.u bP.inc,.u b3.n,.em 5 1 (al b3.body)]])) (U ((wi (by omega)):IntKind.i64.wrap ((((k:Nat):Int):Int)+1)=((k+1:Nat):Int)) trivial)))))))))))))))))))))))))))))))))))) fun ac wd r=>eW (by omega) ac wd ⟨by omega,r.cast (by first | rw [jb gd dA cE (by omega)] | (rw [fw gd dA cE (by omega) (by omega)];simp;done) | (rw [fw gd dA cE (by omega) (by omega)];simp;omega)) (by first | rw [jb gd dA cE (by omega)] | rw [fw gd dA cE (by omega) (by omega),← List.append_assoc,py])⟩
  | true=>
   have b6:=of_decide_eq_true h1
   refine bI (todo':=hd Tryz.f44 1) (E':=[(1,.d (.ro 1 (ae u))),(4,.pt 1 0),(6,.pt 6 0),(7,.sl 7 (f.owned.streams.length)),(26,.sl 4 ((aP f.owned.streams).length)),(27,.n f.owned.streams.length),(28,.n i),(8,.sl 8 ((bQ f.owned u i).length)),(9,.n i),(10,.pt 9 0),(11,.u (min (bZ aI) (kL u i))),(45,.d (.ro 2 (aQ aI))),(46,.n aI.length),(47,.z 0)]) (M':=[.bx 37 [.u f.view.id.round,.z f.view.id.server.node,.u f.view.id.server.inc,.d (.ro 2 (procs f.view.members)),.d (.ro 1 (ae f.view.ay)),.d (.ro 1 (streams f.streams)),.d (.ro 1 (ae f.aC))],.bx 37 [.d (.v (.int .u64 0)),.z 0,.d (.v (.int .u64 0)),.d (.v (.slice none 0 0)),.d (.v (.slice none 0 0)),.d (.v (.slice none 0 0)),.d (.v (.slice none 0 0))],.rw 24 2 (procs f.owned.view.members),.rw 22 1 (ae f.owned.view.ay),.rw 111 1 (streams f.owned.streams),.rw 22 1 (ae (cb f.owned u i)),.bx 124 [.u f.owned.view.id.round,.z f.owned.view.id.server.node,.u f.owned.view.id.server.inc,.sl 2 ((procs f.owned.view.members).length),.sl 3 ((ae f.owned.view.ay).length),.sl 4 ((aP f.owned.streams).length),.sl 5 ((ae f.owned.aC).length)],.rw 22 1 (ae (dR u f.owned.streams.length)),.rw 94 4 (dD (bQ f.owned u i)),.bx 111 [.d (.ro 2 (aQ aI))]]) tk tq hK [(6,[(0,.b true)]),(7,[(1,.n (i)),(2,.ix 0 [.ro 2 (aQ aI)])]),(8,[(1,.aL (.u (bZ aI)))]),(9,[(1,.z (((u.length:Nat):Int))),(2,.b true)]),(10,[(3,.n (i)),(4,.ix 0 [.u (kL u i)]),(5,.z (((min (bZ aI) (kL u i):Nat):Int)))]),(11,[(2,.z (((aI.length:Nat):Int)))])] 2000 [0,1,2,3,4,5,6,7,8,9] [1,4,6,7,26,27,28,8,9,10,11,45,46,47] r (by kernel_rfl) (U h0 (U (aS ((i:Nat):Int)) (U u0 (U u1 (U (mw gK) (U (x4 gd (by omega)) (U u2 (U h1 (U (aS ((i:Nat):Int)) (U ((by first | omega | (simp;omega) | (simp [iZ];omega)):(i)<(f.owned.streams.length)) (U ((by simp<;>omega):(f.owned.streams.length)≤(ae (dR u f.owned.streams.length)).length) (U (iy (PW (by omega)):(ae (dR u f.owned.streams.length))[i]?=some [.u (kL u i)]) (U ((by omega):(min (((bZ aI:Nat):Int)) (((kL u i:Nat):Int)):Int)=((min (bZ aI) (kL u i):Nat):Int)) (U ((by simp [al]):(((aQ aI).length:Nat):Int)=((aI.length:Nat):Int)) trivial)))))))))))))) fun ac wd r=>?_
   refine aJ.rounds (Φ:=fun (k:Nat) ac wd=>(k≤aI.length)∧dH [] w0 K 91 [(1,.d (.ro 1 (ae u))),(4,.pt 1 0),(6,.pt 6 0),(7,.sl 7 (f.owned.streams.length)),(26,.sl 4 ((aP f.owned.streams).length)),(27,.n f.owned.streams.length),(28,.n i),(8,.sl 8 ((bQ f.owned u i++bV bP aI a9 (min k (bp aI u i)-a9)).length)),(9,.n i),(10,.pt 9 0),(11,.u (bp aI u i)),(45,.d (.ro 2 (aQ aI))),(46,.n aI.length),(47,.n k)] [.bx 37 [.u f.view.id.round,.z f.view.id.server.node,.u f.view.id.server.inc,.d (.ro 2 (procs f.view.members)),.d (.ro 1 (ae f.view.ay)),.d (.ro 1 (streams f.streams)),.d (.ro 1 (ae f.aC))],.bx 37 [.d (.v (.int .u64 0)),.z 0,.d (.v (.int .u64 0)),.d (.v (.slice none 0 0)),.d (.v (.slice none 0 0)),.d (.v (.slice none 0 0)),.d (.v (.slice none 0 0))],.rw 24 2 (procs f.owned.view.members),.rw 22 1 (ae f.owned.view.ay),.rw 111 1 (streams f.owned.streams),.rw 22 1 (ae (cb f.owned u i)),.bx 124 [.u f.owned.view.id.round,.z f.owned.view.id.server.node,.u f.owned.view.id.server.inc,.sl 2 ((procs f.owned.view.members).length),.sl 3 ((ae f.owned.view.ay).length),.sl 4 ((aP f.owned.streams).length),.sl 5 ((ae f.owned.aC).length)],.rw 22 1 (ae (dR u f.owned.streams.length)),.rw 94 4 (dD (bQ f.owned u i++bV bP aI a9 (min k (bp aI u i)-a9))),.bx 111 [.d (.ro 2 (aQ aI))]] ac wd) (aI.length) ?_ (Nat.zero_le _) ⟨by omega,(r).cast (by unfold bp;first | (rw [if_pos (by omega)];simp [bV];done) | (rw [if_neg (by omega)];simp [bV])) (by simp [bV])⟩
   clear r
   rintro k gB eW ac wd ⟨cy,r⟩
   cases h5:(decide ((((k:Nat):Int):Int)<((aI.length:Nat):Int))) with
   | false=>
    have pf:=of_decide_eq_false h5
    have sD:=((by first | omega | (simp;omega) | (simp [iZ];omega)):(i)<((ae f.owned.aC).length))
    have sE:=((by simp<;>omega):((ae f.owned.aC).length)≤(ae (cb f.owned u i)).length)
    have sF:=(iy (pS iu (by omega)):(ae (cb f.owned u i))[i]?=some [.u a9])
    have BY:=((by omega):(max (((a9:Nat):Int)) (((bp aI u i:Nat):Int)):Int)=((max (a9) (bp aI u i):Nat):Int))
    refine lu (todo':=aft Tryz.f44 17) (E':=[(1,.d (.ro 1 (ae u))),(4,.pt 1 0),(6,.pt 6 0),(7,.sl 7 (f.owned.streams.length)),(26,.sl 4 ((aP f.owned.streams).length)),(27,.n f.owned.streams.length),(28,.n i),(8,.sl 8 ((bQ f.owned u i++bV bP aI a9 (min k (bp aI u i)-a9)).length)),(9,.n i),(10,.pt 9 0),(11,.u (bp aI u i)),(45,.d (.ro 2 (aQ aI))),(46,.n aI.length),(47,.n k),(48,.d (.v (.bool false))),(74,.pt 6 0),(75,.pt 6 6),(76,.sl 5 ((ae f.owned.aC).length)),(77,.n i),(78,.pt 6 0),(79,.pt 6 6),(80,.sl 5 ((ae f.owned.aC).length)),(81,.n i),(84,.u (bp aI u i)),(82,.ep 5 1 (i) 0),(83,.u a9),(85,.u (max (a9) (bp aI u i))),(86,.ep 5 1 (i) 0)]) (M':=[.bx 37 [.u f.view.id.round,.z f.view.id.server.node,.u f.view.id.server.inc,.d (.ro 2 (procs f.view.members)),.d (.ro 1 (ae f.view.ay)),.d (.ro 1 (streams f.streams)),.d (.ro 1 (ae f.aC))],.bx 37 [.d (.v (.int .u64 0)),.z 0,.d (.v (.int .u64 0)),.d (.v (.slice none 0 0)),.d (.v (.slice none 0 0)),.d (.v (.slice none 0 0)),.d (.v (.slice none 0 0))],.rw 24 2 (procs f.owned.view.members),.rw 22 1 (ae f.owned.view.ay),.rw 111 1 (streams f.owned.streams),.rw 22 1 (List.set (ae (cb f.owned u i)) (i) [.u (max (a9) (bp aI u i))]),.bx 124 [.u f.owned.view.id.round,.z f.owned.view.id.server.node,.u f.owned.view.id.server.inc,.sl 2 ((procs f.owned.view.members).length),.sl 3 ((ae f.owned.view.ay).length),.sl 4 ((aP f.owned.streams).length),.sl 5 ((ae f.owned.aC).length)],.rw 22 1 (ae (dR u f.owned.streams.length)),.rw 94 4 (dD (bQ f.owned u i++bV bP aI a9 (min k (bp aI u i)-a9))),.bx 111 [.d (.ro 2 (aQ aI))]]) tk tq hK [(12,[(0,.b false)]),(17,[(8,.n (i)),(9,.ix 0 [.u a9]),(11,.z (((max (a9) (bp aI u i):Nat):Int))),(12,.n (i)),(13,.ix 0 [.u a9])])] 5 1 [8,9,12] [[0,1,2,3,4,5,6,7,8,9]] [1,4,6,7,26,27,28,8,9,10,11,45,46,47,48,74,75,76,77,78,79,80,81,84,82,83,85,86] r (by kernel_rfl) (U (U h5 (U (aS ((i:Nat):Int)) (U sD (U sE (U sF (U BY (U (aS ((i:Nat):Int)) (U sD (U sE (U sF trivial)))))))))) trivial) fun ac wd r=>?_
    exact bI (todo':=hd Tryz.f44 0) (E':=[(1,.d (.ro 1 (ae u))),(4,.pt 1 0),(6,.pt 6 0),(7,.sl 7 (f.owned.streams.length)),(26,.sl 4 ((aP f.owned.streams).length)),(27,.n f.owned.streams.length),(28,.n (i+1)),(8,.sl 8 ((bQ f.owned u i++bV bP aI a9 (min k (bp aI u i)-a9)).length))]) (M':=[.bx 37 [.u f.view.id.round,.z f.view.id.server.node,.u f.view.id.server.inc,.d (.ro 2 (procs f.view.members)),.d (.ro 1 (ae f.view.ay)),.d (.ro 1 (streams f.streams)),.d (.ro 1 (ae f.aC))],.bx 37 [.d (.v (.int .u64 0)),.z 0,.d (.v (.int .u64 0)),.d (.v (.slice none 0 0)),.d (.v (.slice none 0 0)),.d (.v (.slice none 0 0)),.d (.v (.slice none 0 0))],.rw 24 2 (procs f.owned.view.members),.rw 22 1 (ae f.owned.view.ay),.rw 111 1 (streams f.owned.streams),.rw 22 1 (List.set (ae (cb f.owned u i)) (i) [.u (max (a9) (bp aI u i))]),.bx 124 [.u f.owned.view.id.round,.z f.owned.view.id.server.node,.u f.owned.view.id.server.inc,.sl 2 ((procs f.owned.view.members).length),.sl 3 ((ae f.owned.view.ay).length),.sl 4 ((aP f.owned.streams).length),.sl 5 ((ae f.owned.aC).length)],.rw 22 1 (ae (dR u f.owned.streams.length)),.rw 94 4 (dD (bQ f.owned u i++bV bP aI a9 (min k (bp aI u i)-a9)))]) tk tq hK [(18,[(0,.z (((i+1:Nat):Int)))])] 2000 [0,1,2,3,4,5,6,7,8] [1,4,6,7,26,27,28,8] r (by kernel_rfl) (U ((wi (by omega)):IntKind.i64.wrap ((((i:Nat):Int):Int)+1)=((i+1:Nat):Int)) trivial) fun ac wd r=>cX (by omega) ac wd ⟨by omega,r.cast (by have e:min k (bp aI u i)=bp aI u i:=(by omega);rw [uv gK nU iu,e]) (by have e:min k (bp aI u i)=bp aI u i:=(by omega);rw [uv gK nU iu,FB gK iu,e,Gy])⟩
   | true=>
    have pf:=of_decide_eq_true h5
    obtain ⟨b3,cE⟩:∃ x,aI[k]?=some x:=⟨_,List.getElem?_eq_getElem (by omega)⟩
    have Lb:=rP.at cE
    have u6:=((by first | omega | (simp;omega) | (simp [iZ];omega)):(i)<((ae f.owned.aC).length))
    have u7:=((by simp<;>omega):((ae f.owned.aC).length)≤(ae (cb f.owned u i)).length)
    have u8:=(iy (pS iu (by omega)):(ae (cb f.owned u i))[i]?=some [.u a9])
    cases h6:(decide ((((a9:Nat):Int):Int)<((b3.n:Nat):Int))) with
    | false=>
     have pg:=of_decide_eq_false h6
     exact bI (todo':=hd Tryz.f44 1) (E':=[(1,.d (.ro 1 (ae u))),(4,.pt 1 0),(6,.pt 6 0),(7,.sl 7 (f.owned.streams.length)),(26,.sl 4 ((aP f.owned.streams).length)),(27,.n f.owned.streams.length),(28,.n i),(8,.sl 8 ((bQ f.owned u i++bV bP aI a9 (min k (bp aI u i)-a9)).length)),(9,.n i),(10,.pt 9 0),(11,.u (bp aI u i)),(45,.d (.ro 2 (aQ aI))),(46,.n aI.length),(47,.n (k+1))]) (M':=[.bx 37 [.u f.view.id.round,.z f.view.id.server.node,.u f.view.id.server.inc,.d (.ro 2 (procs f.view.members)),.d (.ro 1 (ae f.view.ay)),.d (.ro 1 (streams f.streams)),.d (.ro 1 (ae f.aC))],.bx 37 [.d (.v (.int .u64 0)),.z 0,.d (.v (.int .u64 0)),.d (.v (.slice none 0 0)),.d (.v (.slice none 0 0)),.d (.v (.slice none 0 0)),.d (.v (.slice none 0 0))],.rw 24 2 (procs f.owned.view.members),.rw 22 1 (ae f.owned.view.ay),.rw 111 1 (streams f.owned.streams),.rw 22 1 (ae (cb f.owned u i)),.bx 124 [.u f.owned.view.id.round,.z f.owned.view.id.server.node,.u f.owned.view.id.server.inc,.sl 2 ((procs f.owned.view.members).length),.sl 3 ((ae f.owned.view.ay).length),.sl 4 ((aP f.owned.streams).length),.sl 5 ((ae f.owned.aC).length)],.rw 22 1 (ae (dR u f.owned.streams.length)),.rw 94 4 (dD (bQ f.owned u i++bV bP aI a9 (min k (bp aI u i)-a9))),.bx 111 [.d (.ro 2 (aQ aI))]]) tk tq hK [(12,[(0,.b true)]),(13,[(0,.ix (k) [.u b3.n,.ro 1 (al b3.body)])]),(14,[(6,.n (i)),(7,.ix 0 [.u a9]),(8,.b false)]),(16,[(0,.z (((k+1:Nat):Int)))])] 2000 [0,1,2,3,4,5,6,7,8,9] [1,4,6,7,26,27,28,8,9,10,11,45,46,47] r (by kernel_rfl) (U h5 (U (aS ((k:Nat):Int)) (U (ew cE) (U (aS ((i:Nat):Int)) (U u6 (U u7 (U u8 (U h6 (U ((wi (by omega)):IntKind.i64.wrap ((((k:Nat):Int):Int)+1)=((k+1:Nat):Int)) trivial))))))))) fun ac wd r=>eW (by omega) ac wd ⟨by omega,r.cast (by first | rw [jb gd dA cE (by omega)] | (rw [fw gd dA cE (by omega) (by omega)];simp;done) | (rw [fw gd dA cE (by omega) (by omega)];simp;omega)) (by first | rw [jb gd dA cE (by omega)] | rw [fw gd dA cE (by omega) (by omega),← List.append_assoc,py])⟩
    | true=>
     have pg:=of_decide_eq_true h6
     cases h7:(decide ((((b3.n:Nat):Int):Int)≤((bp aI u i:Nat):Int))) with
     | false=>
      have ph:=of_decide_eq_false h7
      exact bI (todo':=hd Tryz.f44 1) (E':=[(1,.d (.ro 1 (ae u))),(4,.pt 1 0),(6,.pt 6 0),(7,.sl 7 (f.owned.streams.length)),(26,.sl 4 ((aP f.owned.streams).length)),(27,.n f.owned.streams.length),(28,.n i),(8,.sl 8 ((bQ f.owned u i++bV bP aI a9 (min k (bp aI u i)-a9)).length)),(9,.n i),(10,.pt 9 0),(11,.u (bp aI u i)),(45,.d (.ro 2 (aQ aI))),(46,.n aI.length),(47,.n (k+1))]) (M':=[.bx 37 [.u f.view.id.round,.z f.view.id.server.node,.u f.view.id.server.inc,.d (.ro 2 (procs f.view.members)),.d (.ro 1 (ae f.view.ay)),.d (.ro 1 (streams f.streams)),.d (.ro 1 (ae f.aC))],.bx 37 [.d (.v (.int .u64 0)),.z 0,.d (.v (.int .u64 0)),.d (.v (.slice none 0 0)),.d (.v (.slice none 0 0)),.d (.v (.slice none 0 0)),.d (.v (.slice none 0 0))],.rw 24 2 (procs f.owned.view.members),.rw 22 1 (ae f.owned.view.ay),.rw 111 1 (streams f.owned.streams),.rw 22 1 (ae (cb f.owned u i)),.bx 124 [.u f.owned.view.id.round,.z f.owned.view.id.server.node,.u f.owned.view.id.server.inc,.sl 2 ((procs f.owned.view.members).length),.sl 3 ((ae f.owned.view.ay).length),.sl 4 ((aP f.owned.streams).length),.sl 5 ((ae f.owned.aC).length)],.rw 22 1 (ae (dR u f.owned.streams.length)),.rw 94 4 (dD (bQ f.owned u i++bV bP aI a9 (min k (bp aI u i)-a9))),.bx 111 [.d (.ro 2 (aQ aI))]]) tk tq hK [(12,[(0,.b true)]),(13,[(0,.ix (k) [.u b3.n,.ro 1 (al b3.body)])]),(14,[(6,.n (i)),(7,.ix 0 [.u a9]),(8,.b true),(13,.b false)]),(16,[(0,.z (((k+1:Nat):Int)))])] 2000 [0,1,2,3,4,5,6,7,8,9] [1,4,6,7,26,27,28,8,9,10,11,45,46,47] r (by kernel_rfl) (U h5 (U (aS ((k:Nat):Int)) (U (ew cE) (U (aS ((i:Nat):Int)) (U u6 (U u7 (U u8 (U h6 (U h7 (U ((wi (by omega)):IntKind.i64.wrap ((((k:Nat):Int):Int)+1)=((k+1:Nat):Int)) trivial)))))))))) fun ac wd r=>eW (by omega) ac wd ⟨by omega,r.cast (by first | rw [jb gd dA cE (by omega)] | (rw [fw gd dA cE (by omega) (by omega)];simp;done) | (rw [fw gd dA cE (by omega) (by omega)];simp;omega)) (by first | rw [jb gd dA cE (by omega)] | rw [fw gd dA cE (by omega) (by omega),← List.append_assoc,py])⟩
     | true=>
      have ph:=of_decide_eq_true h7
      exact bI (todo':=hd Tryz.f44 1) (E':=[(1,.d (.ro 1 (ae u))),(4,.pt 1 0),(6,.pt 6 0),(7,.sl 7 (f.owned.streams.length)),(26,.sl 4 ((aP f.owned.streams).length)),(27,.n f.owned.streams.length),(28,.n i),(8,.sl 8 ((bQ f.owned u i++bV bP aI a9 (min k (bp aI u i)-a9)).length+(1))),(9,.n i),(10,.pt 9 0),(11,.u (bp aI u i)),(45,.d (.ro 2 (aQ aI))),(46,.n aI.length),(47,.n (k+1))]) (M':=[.bx 37 [.u f.view.id.round,.z f.view.id.server.node,.u f.view.id.server.inc,.d (.ro 2 (procs f.view.members)),.d (.ro 1 (ae f.view.ay)),.d (.ro 1 (streams f.streams)),.d (.ro 1 (ae f.aC))],.bx 37 [.d (.v (.int .u64 0)),.z 0,.d (.v (.int .u64 0)),.d (.v (.slice none 0 0)),.d (.v (.slice none 0 0)),.d (.v (.slice none 0 0)),.d (.v (.slice none 0 0))],.rw 24 2 (procs f.owned.view.members),.rw 22 1 (ae f.owned.view.ay),.rw 111 1 (streams f.owned.streams),.rw 22 1 (ae (cb f.owned u i)),.bx 124 [.u f.owned.view.id.round,.z f.owned.view.id.server.node,.u f.owned.view.id.server.inc,.sl 2 ((procs f.owned.view.members).length),.sl 3 ((ae f.owned.view.ay).length),.sl 4 ((aP f.owned.streams).length),.sl 5 ((ae f.owned.aC).length)],.rw 22 1 (ae (dR u f.owned.streams.length)),.rw 94 4 (dD (bQ f.owned u i++bV bP aI a9 (min k (bp aI u i)-a9))++[[.z bP.node,.u bP.inc,.u b3.n,.em 5 1 (al b3.body)]]),.bx 111 [.d (.ro 2 (aQ aI))]]) tk tq hK [(12,[(0,.b true)]),(13,[(0,.ix (k) [.u b3.n,.ro 1 (al b3.body)])]),(14,[(6,.n (i)),(7,.ix 0 [.u a9]),(8,.b true),(13,.b true)]),(15,[(4,.call [.ag [.u f.owned.view.id.round,.z f.owned.view.id.server.node,.u f.owned.view.id.server.inc,.d (.ro 2 (procs f.owned.view.members)),.d (.ro 1 (ae f.owned.view.ay)),.d (.ro 1 (streams f.owned.streams)),.d (.ro 1 (ae (cb f.owned u i)))],.n i,.ag [.u b3.n,.d (.ro 1 (al b3.body))]] (.ag [.z bP.node,.u bP.inc,.u b3.n,.em 5 1 (al b3.body)]))]),(16,[(0,.z (((k+1:Nat):Int)))])] 2000 [0,1,2,3,4,5,6,7,8,9] [1,4,6,7,26,27,28,8,9,10,11,45,46,47] r (by kernel_rfl) (U h5 (U (aS ((k:Nat):Int)) (U (ew cE) (U (aS ((i:Nat):Int)) (U u6 (U u7 (U u8 (U h6 (U h7 (U (Fy { f.owned with aC:=cb f.owned u i } i b3 (by show i<f.owned.view.members.length;omega) (by omega) nU) (U ((by first | exact lH _ | exact da.two _ _ | exact da.msg _ _ _ _ _):da (.ag [.z bP.node,.u bP.inc,.u b3.n,.em 5 1 (al b3.body)])) (U (aO (.u f.owned.view.id.round)) (U (aO (.z f.owned.view.id.server.node)) (U (aO (.u f.owned.view.id.server.inc)) (U (b5 (2)) (U (b5 ((procs f.owned.view.members).length)) (U ((by first | exact mB _ | (simp [b7,bc,au.row];done) | (simp [b7,bc,au.row])):bM (procs f.owned.view.members)=procs f.owned.view.members) (U (b5 (1)) (U (b5 ((ae f.owned.view.ay).length)) (U ((by first | exact mB _ | (simp [b7,bc,au.row];done) | (simp [b7,bc,au.row])):bM (ae f.owned.view.ay)=ae f.owned.view.ay) (U (b5 (1)) (U ((by simp<;>omega):((aP f.owned.streams).length)=(streams f.owned.streams).length) (U ((by first | exact mB _ | (simp [b7,bc,au.row];done) | (simp [b7,bc,au.row])):bM (streams f.owned.streams)=streams f.owned.streams) (U (b5 (1)) (U ((by simp<;>omega):((ae f.owned.aC).length)=(ae (cb f.owned u i)).length) (U ((by first | exact mB _ | (simp [b7,bc,au.row];done) | (simp [b7,bc,au.row])):bM (ae (cb f.owned u i))=ae (cb f.owned u i)) (U (aO (.n i)) (U (aO (.u b3.n)) (U (aO (.ro 1 (al b3.body))) (U (b5 ((al b3.body).length)) (U ((by simp<;>omega):((bQ f.owned u i++bV bP aI a9 (min k (bp aI u i)-a9)).length)=(dD (bQ f.owned u i++bV bP aI a9 (min k (bp aI u i)-a9)):List (List DV)).length) (U ((by simp<;>omega):(1)=([[.z bP.node,.u bP.inc,.u b3.n,.em 5 1 (al b3.body)]]:List (List DV)).length) (U ((by first | omega | (simp [cR];done) | (simp [cR,nM];omega)):(2*(((bQ f.owned u i++bV bP aI a9 (min k (bp aI u i)-a9)).length)+(1))+192)*48≤281474976710656) (U ((by first | omega | (simp [cR];done) | (simp [cR,nM];omega)):((bQ f.owned u i++bV bP aI a9 (min k (bp aI u i)-a9)).length)+(1)<4611686018427387904) (U ((by simp [bX,AV.one,cA,al]):bX ([[.z bP.node,.u bP.inc,.u b3.n,.em 5 1 (al b3.body)]])) (U ((wi (by omega)):IntKind.i64.wrap ((((k:Nat):Int):Int)+1)=((k+1:Nat):Int)) trivial)))))))))))))))))))))))))))))))))))) fun ac wd r=>eW (by omega) ac wd ⟨by omega,r.cast (by first | rw [jb gd dA cE (by omega)] | (rw [fw gd dA cE (by omega) (by omega)];simp;done) | (rw [fw gd dA cE (by omega) (by omega)];simp;omega)) (by first | rw [jb gd dA cE (by omega)] | rw [fw gd dA cE (by omega) (by omega),← List.append_assoc,py])⟩
end Go.Proofs.YtgkdnnmcjjabdaaGreat
namespace Go.Proofs.YtgkdnnmcjjabdaaGreat
open Go.RowKit
def aq:Nat→List (List UInt8)→List Slot
 | _,[]=>[]
 | k,b::r=>⟨k+1,b⟩::aq (k+1) r
theorem dj:∀ (l:List (List UInt8)) (k:Nat),(aq k l).length=l.length
 | [],_=>rfl
 | _::r,k=>by simp [aq,dj r]
theorem lz:∀ {l:List (List UInt8)} {k i:Nat} {s:Slot},(aq k l)[i]?=some s→s.n=k+i+1∧l[i]?=some s.body
 | [],k,i,s,h=>by simp [aq] at h
 | b::r,k,0,s,h=>by simp [aq] at h;subst h;simp
 | b::r,k,i+1,s,h=>by
  simp only [aq,List.getElem?_cons_succ] at h
  obtain ⟨h1,h2⟩:=lz h
  exact ⟨by omega,by simpa using h2⟩
theorem Ac:∀ (l:List (List UInt8)) (k:Nat) (b:List UInt8),aq k (l++[b])=aq k l++[⟨k+l.length+1,b⟩]
 | [],k,b=>by simp [aq]
 | a::r,k,b=>by
  rw [List.cons_append,aq,Ac r (k+1) b,aq,List.cons_append]
  congr 3
  simp;omega
def fB (p:au) (l:List (List UInt8)) (h:Nat):aA:=⟨View.first p,[aq 0 l],[h]⟩
def eN (l:List (List UInt8)):Prop:=l.length≤16∧∀ b ∈ l,b.length≤64
theorem Gz {l:List (List UInt8)} {j:Nat} (hj:j<l.length):ez (aq 0 l) (j+1)=(j:Int):=by
 have h:(aq 0 l)[j]?=some ((aq 0 l)[j]'(by rw [dj];exact hj)):=List.getElem?_eq_getElem _
 exact Gv h (by rw [(lz h).1];omega) fun i t hi ht=>by rw [(lz ht).1];omega
theorem Ll (l:List (List UInt8)):ez (aq 0 l) (l.length+1) = -1:=EM fun j t hj ht=>by
 rw [(lz ht).1];rw [dj] at hj;omega
theorem pz (l:List (List UInt8)):bZ (aq 0 l)=l.length:=uN (fun j hj=>by rw [Gz hj];omega) (by rw [Ll];omega)
theorem qa {p:au} {l:List (List UInt8)} {h:Nat} (hp:p.may=true) (hl:eN l) (hh:h≤l.length):(fB p l h).may=true:=by
 refine aA.yes (i:=1) ?_ rfl rfl (by simp [fB]) fun j s k hj hs hk=>?_
 ·show (View.first p).may=true
  rw [View.Fx rfl]
  show (p.may&&decide (View.first p=View.first p))=true
  rw [hp,decide_eq_true rfl];rfl
 ·obtain rfl:j=0:=by omega
  simp only [fB,List.getElem?_cons_zero,Option.some.injEq] at hs hk
  subst hs hk
  rw [pz]
  refine ⟨fun i x hi hx=>?_,hh⟩
  obtain ⟨h1,h2⟩:=lz hx
  have h3:=hl.2 _ (List.mem_of_getElem? h2)
  have h4:=(List.getElem?_eq_some_iff.1 h2).1
  have h5:=hl.1
  refine ⟨by omega,by omega,h3,fun y h6 hy=>?_⟩
  have:=(lz hy).1;omega
theorem H7 (p:au):lx [p] p=0∧ly [p] p=true:=by simp [lx,ly,idx]
theorem HE {l:List (List UInt8)} {b:List UInt8} (hl:eN l) (kV:l.length<16) (hb:b.length≤64):eN (l++[b]):=⟨by simp;omega,fun x hx=>by
 rcases List.mem_append.1 hx with h | h
 ·exact hl.2 x h
 ·rw [List.mem_singleton] at h;subst h;exact hb⟩
theorem PX {p:au} {l:List (List UInt8)} {h:Nat} (hp:p.may=true) (hl:eN l) (hh:h≤l.length):(fB p l h).owned.hand []=fB p l l.length:=by
 rw [aA.jy (qa hp hl hh)]
 unfold aA.hand
 show aA.mk (View.first p) [aq 0 l] ([h].set 0 (max h (bZ (aq 0 l))))=_
 rw [pz,List.set_cons_zero,Nat.max_eq_right hh];rfl
theorem OJ {p:au} {l:List (List UInt8)} (hp:p.may=true) (hl:eN l):(fB p l l.length).owned.hand [l.length]=fB p l l.length:=by
 rw [aA.jy (qa hp hl (Nat.le_refl _))]
 unfold aA.hand
 show aA.mk (View.first p) [aq 0 l] ([l.length].set 0 (max l.length (min (bZ (aq 0 l)) l.length)))=_
 rw [pz,List.set_cons_zero,Nat.min_self,Nat.max_self];rfl
theorem PY {p:au} {l:List (List UInt8)} {b:List UInt8} (hp:p.may=true) (hl:eN (l++[b])):bQ (fB p (l++[b]) l.length).owned [] (fB p (l++[b]) l.length).owned.streams.length=[⟨p,l.length+1,b⟩]:=by
 rw [aA.jy (qa hp hl (by simp))]
 have hc:bp (aq 0 (l++[b])) [] 0-l.length=1:=by show bZ _-l.length=1;rw [pz];simp
 show (List.range 1).flatMap _=_
 simp only [List.range_one,List.flatMap_cons,List.flatMap_nil,List.append_nil]
 show bV p (aq 0 (l++[b])) l.length (bp (aq 0 (l++[b])) [] 0-l.length)=_
 rw [hc]
 show [wH p (aq 0 (l++[b])) (l.length+1+0)]=_
 unfold wH
 rw [Nat.add_zero,Gz (by simp),Ac]
 have e:(aq 0 l++[(⟨0+l.length+1,b⟩:Slot)])[((l.length:Nat):Int).toNat]?=some ⟨0+l.length+1,b⟩:=by
  rw [Int.toNat_natCast,List.getElem?_append_right (by rw [dj];exact Nat.le_refl _),dj,Nat.sub_self];rfl
 rw [e];rfl
theorem PZ {p:au} {l:List (List UInt8)} (hp:p.may=true) (hl:eN l):bQ (fB p l l.length).owned [l.length] (fB p l l.length).owned.streams.length=[]:=by
 rw [aA.jy (qa hp hl (Nat.le_refl _))]
 show (List.range 1).flatMap _=_
 simp only [List.range_one,List.flatMap_cons,List.flatMap_nil,List.append_nil]
 show bV p (aq 0 l) l.length (min (bZ (aq 0 l)) l.length-l.length)=_
 rw [pz,Nat.min_self,Nat.sub_self];rfl
theorem MT {p:au} {l:List (List UInt8)} (hp:p.may=true) (hl:eN l):(fB p l l.length).counts=[l.length]:=by
 unfold aA.counts
 rw [aA.jy (qa hp hl (Nat.le_refl _))]
 show [bZ (aq 0 l)]=_
 rw [pz]
theorem uE {p:au} {l:List (List UInt8)} {h:Nat} (hl:eN l):(fB p l h).bounded:=by
 refine ⟨⟨by simp [fB,View.first],by simp [fB,View.first]⟩,by simp [fB],by simp [fB],fun s hs=>?_⟩
 simp only [fB,List.mem_singleton] at hs;subst hs
 refine ⟨by rw [dj];have:=hl.1;omega,fun x hx=>?_⟩
 obtain ⟨i,hi,rfl⟩:=List.getElem_of_mem hx
 have:=hl.2 _ (List.mem_of_getElem? (lz (List.getElem?_eq_getElem hi)).2);omega
end Go.Proofs.YtgkdnnmcjjabdaaGreat
namespace Go.Proofs.YtgkdnnmcjjabdaaGreat
open Go.RowKit
set_option maxRecDepth 100000 in
theorem EN (l:List Slot) (m:fK) (hb:l.length<2147483648):aj Tryz.prog 99 [.d (.ro 2 (aQ l)),.fn 66 [.rp [.z m.src.node,.u m.src.inc,.u m.n,.ro 1 (al m.body)] 0]] (.v (.int .i64 (gM l m.n 0))):=by
 refine aj.intro (by kernel_rfl) rfl rfl 19 rfl rfl fun w0 K ac hK r=>?_
 refine bI (todo':=hd Tryz.f99 0) (E':=[(0,.d (.ro 2 (aQ l))),(1,.fn 66 [.rp [.z m.src.node,.u m.src.inc,.u m.n,.ro 1 (al m.body)] 0]),(7,.n l.length),(8,.n 0)]) (M':=[]) tk tq hK [(1,[(1,.z (((l.length:Nat):Int)))])] 2000 [] [0,1,7,8] r (by kernel_rfl) (U ((by simp [al]):(((aQ l).length:Nat):Int)=((l.length:Nat):Int)) trivial) fun ac wd r=>?_
 refine aJ.rounds (Φ:=fun (i:Nat) ac wd=>(i≤l.length∧∀ j t,j<i→l[j]?=some t→t.n<m.n)∧dH [] w0 K 19 [(0,.d (.ro 2 (aQ l))),(1,.fn 66 [.rp [.z m.src.node,.u m.src.inc,.u m.n,.ro 1 (al m.body)] 0]),(7,.n l.length),(8,.n i)] [] ac wd) (l.length) ?_ (Nat.zero_le _) ⟨⟨by omega,by omega⟩,r⟩
 clear r
 rintro i fI cX ac wd ⟨bh,r⟩
 obtain ⟨gB,bh⟩:=bh
 cases h0:(decide ((((i:Nat):Int):Int)<((l.length:Nat):Int))) with
 | false=>
  have bq:=of_decide_eq_false h0
  rw [show (.v (.int .i64 (gM l m.n 0)):DV)=.z (-1) from (iv (by first | (rw [zk cv (by omega) bh];simp;done) | exact uD fun j t hj ht=>bh j t (by omega) ht))]
  exact aM tk tq hK rfl [(2,[(0,.b false)])] 2000 r (by kernel_rfl) (U h0 trivial)
 | true=>
  have bq:=of_decide_eq_true h0
  obtain ⟨bS,cv⟩:∃ x,l[i]?=some x:=⟨_,List.getElem?_eq_getElem (by omega)⟩
  cases h1:(decide ((((m.n:Nat):Int):Int)≤((bS.n:Nat):Int))) with
  | false=>
   have b6:=of_decide_eq_false h1
   exact bI (todo':=hd Tryz.f99 0) tk tq hK [(2,[(0,.b true)]),(4,[(3,.ix (i) [.u bS.n,.ro 1 (al bS.body)]),(5,.b9 200 [(1,[(4,.b false)])])]),(6,[(0,.z (((i+1:Nat):Int)))])] 2000 [] [0,1,7,8] r (by kernel_rfl) (U h0 (U (aS ((i:Nat):Int)) (U (ew cv) (U h1 (U ((wi (by omega)):IntKind.i64.wrap ((((i:Nat):Int):Int)+1)=((i+1:Nat):Int)) trivial))))) fun ac wd r=>cX (by omega) ac wd ⟨⟨by omega,fun j t hj ht=>by rcases Nat.lt_succ_iff_lt_or_eq.1 hj with h | rfl;exact bh j t h ht;rw [cv] at ht;cases ht;omega⟩,r⟩
  | true=>
   have b6:=of_decide_eq_true h1
   rw [show (.v (.int .i64 (gM l m.n 0)):DV)=.n i from (iv (by first | (rw [zk cv (by omega) bh];simp;done) | exact uD fun j t hj ht=>bh j t (by omega) ht))]
   exact aM tk tq hK rfl [(2,[(0,.b true)]),(4,[(3,.ix (i) [.u bS.n,.ro 1 (al bS.body)]),(5,.b9 200 [(1,[(4,.b true)])])])] 2000 r (by kernel_rfl) (U h0 (U (aS ((i:Nat):Int)) (U (ew cv) (U h1 trivial))))
set_option maxRecDepth 100000 in
theorem LQ (l:List Slot) (m:fK) (hb:l.length<2147483648):aj Tryz.prog 65 [.d (.ro 2 (aQ l)),.fn 66 [.rp [.z m.src.node,.u m.src.inc,.u m.n,.ro 1 (al m.body)] 0]] (.v (.int .i64 ((mV l m.n:Nat):Int))):=by
 refine aj.intro (by kernel_rfl) rfl rfl 14 rfl rfl fun w0 K ac hK r=>?_
 cases h0:(decide ((0:Int)≤gM l m.n 0)) with
 | false=>
  have bq:=of_decide_eq_false h0
  rw [show (.v (.int .i64 ((mV l m.n:Nat):Int)):DV)=.n l.length from (iv (by unfold mV;split<;>omega))]
  exact aM tk tq hK rfl [(1,[(2,.aL (.z (gM l m.n 0)))]),(2,[(1,.b false)]),(4,[(1,.z (((l.length:Nat):Int)))])] 2000 r (by kernel_rfl) (U (EN l m (by omega)) (U h0 (U ((by simp [al]):(((aQ l).length:Nat):Int)=((l.length:Nat):Int)) trivial)))
 | true=>
  have bq:=of_decide_eq_true h0
  rw [show (.v (.int .i64 ((mV l m.n:Nat):Int)):DV)=.z (gM l m.n 0) from (iv (by unfold mV;split<;>omega))]
  exact aM tk tq hK rfl [(1,[(2,.aL (.z (gM l m.n 0)))]),(2,[(1,.b true)])] 2000 r (by kernel_rfl) (U (EN l m (by omega)) (U h0 trivial))
theorem MU {L:List (List Slot)} {i:Nat} {rows:List (List DV)} {l:List Slot} (h:bM rows=aQ l):bM (List.set (List.set (aP L) i [.jk]) i [.em 113 2 rows])=streams (L.set i l):=by
 rw [List.set_set,b7,List.map_set]
 have h1:(aP L).map (fun r=>r.map bc)=streams L:=by rw [← b7,x2]
 rw [h1]
 show List.set _ _ [bc (.em 113 2 rows)]=_
 rw [bc,h];unfold streams;rw [List.map_set]
end Go.Proofs.YtgkdnnmcjjabdaaGreat
