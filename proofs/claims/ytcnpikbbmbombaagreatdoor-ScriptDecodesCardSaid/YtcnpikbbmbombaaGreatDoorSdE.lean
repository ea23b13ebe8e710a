/-
  scriptDecodes_card, part 5 of 6: merged by program from the texts that it needs.
-/
import Derived.Test.YtcnpikbbmbombaaGreatDoorSdD
set_option linter.unusedSimpArgs false
set_option linter.unusedVariables false
set_option linter.unnecessarySimpa false
namespace Go.Proofs.YtcnpikbbmbombaaGreatDoor
open Go.RowKit
theorem IS (c:UInt8):IntKind.u8.wrap ((BitVec.ofInt IntKind.u8.bits (c.toNat:Int) &&& BitVec.ofInt IntKind.u8.bits 127).toNat:Int)=((c.toNat%128:Nat):Int):=by
 have hb:=c.toNat_lt
 have h1:(BitVec.ofInt 8 ((c.toNat:Nat):Int) &&& BitVec.ofInt 8 127).toNat=c.toNat%128:=by
  rw [BitVec.toNat_and]
  have e1:(BitVec.ofInt 8 ((c.toNat:Nat):Int)).toNat=c.toNat:=by simp [BitVec.toNat_ofInt]
  have e2:(BitVec.ofInt 8 127).toNat=2 ^ 7-1:=by decide
  rw [e1,e2,Nat.and_two_pow_sub_one_eq_mod]
 show IntKind.u8.wrap ((BitVec.ofInt 8 ((c.toNat:Nat):Int) &&& BitVec.ofInt 8 127).toNat:Int)=_
 rw [h1]
 simp [IntKind.wrap,IntKind.signed,IntKind.bits];omega
theorem zp {i x:Nat} {c:UInt8} (hi:i≤9) (hx:x<128 ^ i) (h:x+c.toNat%128*128 ^ i<18446744073709551616):fh i (x:Int) c=((x+c.toNat%128*128 ^ i:Nat):Int):=by
 have p7:(128:Nat) ^ i=2 ^ (7*i):=by rw [Nat.pow_mul]
 unfold fh
 rw [IS]
 generalize c.toNat%128=y at *
 have hle:y≤y*128 ^ i:=Nat.le_mul_of_pos_right _ (Nat.pow_pos (by decide))
 have w1:IntKind.u64.wrap (y:Int)=(y:Int):=by simp [IntKind.wrap,IntKind.signed,IntKind.bits];omega
 have mG:(min (((7*i:Nat):Int)).toNat IntKind.u64.bits)=7*i:=by simp [IntKind.bits];omega
 have hm:((y:Int)*2 ^ (7*i))=((y*128 ^ i:Nat):Int):=by rw [p7];push_cast;rfl
 rw [w1,mG,hm]
 have w2:IntKind.u64.wrap ((y*128 ^ i:Nat):Int)=((y*128 ^ i:Nat):Int):=by
  generalize y*128 ^ i=q at *
  simp [IntKind.wrap,IntKind.signed,IntKind.bits];omega
 rw [w2]
 have h1:(BitVec.ofInt 64 (x:Int) ||| BitVec.ofInt 64 ((y*128 ^ i:Nat):Int)).toNat=x+y*128 ^ i:=by
  rw [BitVec.toNat_or]
  have a1:(BitVec.ofInt 64 (x:Int)).toNat=x:=by
   have:x<18446744073709551616:=by omega
   rw [BitVec.ofInt_natCast,BitVec.toNat_ofNat];omega
  have a2:(BitVec.ofInt 64 ((y*128 ^ i:Nat):Int)).toNat=y*128 ^ i:=by
   have:y*128 ^ i<18446744073709551616:=by omega
   rw [BitVec.ofInt_natCast,BitVec.toNat_ofNat];omega
  rw [a1,a2,p7,Nat.mul_comm y,Nat.or_comm,← Nat.two_pow_add_eq_or_of_lt (by rw [← p7];exact hx)];omega
 show IntKind.u64.wrap ((BitVec.ofInt 64 (x:Int) ||| BitVec.ofInt 64 ((y*128 ^ i:Nat):Int)).toNat:Int)=_
 rw [h1]
 generalize x+y*128 ^ i=q at *
 simp [IntKind.wrap,IntKind.signed,IntKind.bits];omega
theorem BV {i:Nat} (h:i≤8):128 ^ i*128≤9223372036854775808:=by
 rw [← Nat.pow_succ];exact Nat.le_trans (Nat.pow_le_pow_right (by decide) (show i+1≤9 by omega)) (by decide)
theorem AG:∀ (l:List UInt8) (i x:Nat),i≤9→x<128 ^ i→fK l i (x:Int)=if ct l (i+1)=0 then (0,0) else (((x+128 ^ i*wN 7 (l.take (ct l (i+1)-i)):Nat):Int),ct l (i+1))
 | [],i,x,_,_=>by rw [show ct [] (i+1)=0 from rfl,if_pos rfl];rfl
 | c::r,i,x,hi,hx=>by
  have hm:=Nat.mod_lt c.toNat (show 0<128 by decide)
  unfold fK ct
  rw [if_neg (show ¬ 10<i+1 by omega)]
  by_cases hA:i=9∧1<c.toNat
  ·rw [if_pos hA]
   by_cases hc:c.toNat<128
   ·rw [if_pos hc,(if_pos (c:=(1<i+1∧c.toNat=0)∨(i+1=10∧1<c.toNat)) (Or.inr ⟨by omega,hA.2⟩)),if_pos rfl]
   ·rw [if_neg hc,u2 (by omega),if_pos rfl]
  ·rw [if_neg hA]
   by_cases hc:c.toNat<128
   ·rw [if_pos hc,if_pos hc]
    by_cases h0:c.toNat=0∧0<i
    ·rw [if_pos h0,(if_pos (c:=(1<i+1∧c.toNat=0)∨(i+1=10∧1<c.toNat)) (Or.inl ⟨by omega,h0.1⟩)),if_pos rfl]
    ·rw [if_neg h0,if_neg (show ¬ ((1<i+1∧c.toNat=0)∨(i+1=10∧1<c.toNat)) by omega),if_neg (by omega),show i+1-i=1 by omega]
     have hw:wN 7 ((c::r).take 1)=c.toNat%128:=by show 0*2 ^ 7+c.toNat%2 ^ 7=_;omega
     rw [hw,Nat.mul_comm (128 ^ i)]
     rw [zp hi hx]
     rcases Nat.lt_or_ge i 9 with h9 | h9
     ·have h1:=BV (show i≤8 by omega)
      have h2:=Nat.mul_le_mul_right (128 ^ i) (show c.toNat%128+1≤128 by omega)
      rw [Nat.add_mul,Nat.one_mul] at h2;omega
     ·obtain rfl:i=9:=by omega
      have h2:=Nat.mul_le_mul_right (128 ^ 9) (show c.toNat%128≤1 by omega)
      have h3:(128:Nat) ^ 9=9223372036854775808:=by decide
      omega
   ·rw [if_neg hc,if_neg hc]
    have h9:i≤8:=by
     rcases Nat.lt_or_ge i 9 with h | h
     ·omega
     ·exact absurd ⟨by omega,by omega⟩ hA
    have h1:=BV h9
    have h2:=Nat.mul_le_mul_right (128 ^ i) (show c.toNat%128+1≤128 by omega)
    rw [Nat.add_mul,Nat.one_mul] at h2
    have Og:x+c.toNat%128*128 ^ i<128 ^ (i+1):=by rw [Nat.pow_succ];omega
    rw [zp hi hx (by omega),AG r (i+1) _ (by omega) Og]
    by_cases hg:ct r (i+1+1)=0
    ·rw [if_pos hg,if_pos hg]
    ·rw [if_neg hg,if_neg hg]
     have Oh:=(qp r (i+1+1) (by omega) hg).1
     rw [show ct r (i+1+1)-i=(ct r (i+1+1)-(i+1))+1 by omega,List.take_succ_cons,wN]
     congr 2
     rw [Nat.pow_succ,Nat.mul_add,Nat.mul_comm (wN 7 _) (2 ^ 7),← Nat.mul_assoc,Nat.mul_comm (128 ^ i) (c.toNat%2 ^ 7)]
     show x+c.toNat%128*128 ^ i+128 ^ i*128*_=x+(128 ^ i*128*_+c.toNat%128*128 ^ i)
     omega
theorem IT (l:List UInt8):fK l 0 0=if ct l 1=0 then (0,0) else (((wN 7 (l.take (ct l 1)):Nat):Int),ct l 1):=by
 have h:=AG l 0 0 (by decide) (by decide)
 simpa using h
theorem IU (l:List UInt8) (z:Int):az z (l,true)=(l,true):=by
 have e:e9 l true z:=.inl rfl
 unfold az dJ dR;simp only [if_pos e]
theorem s8 (q:b4):dU q=vU q∧az (dG q) q=rU q:=by
 obtain ⟨l,b⟩:=q
 cases b with
 | true=>
  have e:e9 l true (dG (l,true)):=.inl rfl
  have h:ez l true=(0,0):=by unfold ez;simp
  refine ⟨?_,?_⟩
  ·unfold dU vU lW au;rw [h];simp only [if_pos e];rfl
  ·rw [IU];unfold rU ng oa;rw [h];rfl
 | false=>
  have h:ez l false=fK l 0 0:=by unfold ez;simp
  unfold dU vU rU lW ng oa dG
  rw [h,IT]
  by_cases hg:ct l 1=0
  ·have e:e9 l false (-1):=.inr (.inl (by decide))
   simp only [hg,if_true]
   refine ⟨?_,?_⟩
   ·unfold au;rw [if_pos e];rfl
   ·unfold az dJ dR;simp only [if_pos e]
  ·have hf:=(qp l 1 (by decide) hg).2.2.1
   have e:¬ e9 l false (ct l 1:Int):=by
    rintro (h | h | h)
    ·cases h
    ·omega
    ·omega
   simp only [hg,if_false]
   refine ⟨?_,rfl⟩
   unfold au;rw [if_neg e];simp
theorem M0 (q:b4):dW 1 q=v8 q:=by
 have h:(au q.1 q.2 1).length≤1:=mj q.1 q.2 1
 show wN 8 (au q.1 q.2 1)=((au q.1 q.2 1).getD 0 0).toNat
 generalize au q.1 q.2 1=X at h ⊢
 match X,h with
 | [],_=>rfl
 | [c],_=>show 0*2 ^ 8+c.toNat%2 ^ 8=c.toNat;have:=c.toNat_lt;omega
 | _::_::_,h=>simp at h
theorem M4 (q:b4):dW 2 q=eA q:=by
 have h:(au q.1 q.2 2).length≤2:=mj q.1 q.2 2
 show wN 8 (au q.1 q.2 2)=((au q.1 q.2 2).getD 0 0).toNat+((au q.1 q.2 2).getD 1 0).toNat*256
 generalize au q.1 q.2 2=X at h ⊢
 match X,h with
 | [],_=>rfl
 | [c],_=>show 0*2 ^ 8+c.toNat%2 ^ 8=c.toNat+0*256;have:=c.toNat_lt;omega
 | [c,d],_=>show (0*2 ^ 8+d.toNat%2 ^ 8)*2 ^ 8+c.toNat%2 ^ 8=c.toNat+d.toNat*256;have:=c.toNat_lt;have:=d.toNat_lt;omega
 | _::_::_::_,h=>simp at h
theorem qx (q:b4) (hl:q.1.length≤1048576):aq Tryz.prog 66 [.pt 0 0,.z 1] (jS q.1 q.2) (.u (v8 q)) (jS (az 1 q).1 (az 1 q).2):=by
 have h:=Cr q 1 (by decide) hl;rw [M0] at h;exact h
theorem Kg (q:b4) (hl:q.1.length≤1048576):aq Tryz.prog 66 [.pt 0 0,.z 2] (jS q.1 q.2) (.u (eA q)) (jS (az 2 q).1 (az 2 q).2):=by
 have h:=Cr q 2 (by decide) hl;rw [M4] at h;exact h
theorem LY (q:b4) (hl:q.1.length≤1048576):aq Tryz.prog 67 [.pt 0 0] (jS q.1 q.2) (.u (vU q)) (jS (rU q).1 (rU q).2):=by
 have h:=LX q hl;rw [(s8 q).1,(s8 q).2] at h;exact h
end Go.Proofs.YtcnpikbbmbombaaGreatDoor
namespace Go.Proofs.YtcnpikbbmbombaaGreatDoor
open Go.RowKit
def iS (p:aM×b4) (c:UInt8):aM×b4:=match p with | (s,q)=>if c.toNat=110 then (⟨s.kind,v8 q,s.peer,s.n,s.bit,s.inc,s.body⟩,az 1 q) else if c.toNat=112 then (⟨s.kind,s.node,v8 q,s.n,s.bit,s.inc,s.body⟩,az 1 q) else if c.toNat=105 then (⟨s.kind,s.node,s.peer,v8 q,s.bit,s.inc,s.body⟩,az 1 q) else if c.toNat=98 then (⟨s.kind,s.node,s.peer,s.n,eA q,s.inc,s.body⟩,az 2 q) else if c.toNat=99 then (⟨s.kind,s.node,s.peer,s.n,s.bit,vU q,s.body⟩,rU q) else if c.toNat=116 then (⟨s.kind,s.node,s.peer,s.n,s.bit,s.inc,au (az 1 q).1 (az 1 q).2 (v8 q)⟩,az (v8 q) (az 1 q)) else (s,q)
def gq (l:List UInt8):aM×b4:=(⟨gK l,0,0,0,0,0,[]⟩,bG l)
theorem nA {f:List UInt8} {i:Nat} {c:UInt8} {s0 p p2:aM×b4} (g:f[i]?=some c) (h:(f.take i).foldl iS s0=p) (e:iS p c=p2):(f.take (i+1)).foldl iS s0=p2:=by
 rw [List.take_add_one,g,Option.toList_some,List.foldl_append,h];exact e
theorem LZ {l:List UInt8} (h:gK l<14):(iK (gK l)).foldl iS (gq l)=(er l,bN l):=by
 have key:∀ k,k<14→gK l=k→(iK k).foldl iS (gq l)=(er l,bN l):=fun k hk=>mi (p:=fun k=>gK l=k→(iK k).foldl iS (gq l)=(er l,bN l)) (fun e=>by unfold gq er bN dx dK dc cS cF cg aU cH cv cu cz;rw [e];rfl) (fun e=>by unfold gq er bN dx dK dc cS cF cg aU cH cv cu cz;rw [e];rfl) (fun e=>by unfold gq er bN dx dK dc cS cF cg aU cH cv cu cz;rw [e];rfl) (fun e=>by unfold gq er bN dx dK dc cS cF cg aU cH cv cu cz;rw [e];rfl) (fun e=>by unfold gq er bN dx dK dc cS cF cg aU cH cv cu cz;rw [e];rfl) (fun e=>by unfold gq er bN dx dK dc cS cF cg aU cH cv cu cz;rw [e];rfl) (fun e=>by unfold gq er bN dx dK dc cS cF cg aU cH cv cu cz;rw [e];rfl) (fun e=>by unfold gq er bN dx dK dc cS cF cg aU cH cv cu cz;rw [e];rfl) (fun e=>by unfold gq er bN dx dK dc cS cF cg aU cH cv cu cz;rw [e];rfl) (fun e=>by unfold gq er bN dx dK dc cS cF cg aU cH cv cu cz;rw [e];rfl) (fun e=>by unfold gq er bN dx dK dc cS cF cg aU cH cv cu cz;rw [e];rfl) (fun e=>by unfold gq er bN dx dK dc cS cF cg aU cH cv cu cz;rw [e];rfl) (fun e=>by unfold gq er bN dx dK dc cS cF cg aU cH cv cu cz;rw [e];rfl) (fun e=>by unfold gq er bN dx dK dc cS cF cg aU cH cv cu cz;rw [e];rfl) hk
 exact key _ h rfl
def b5 (l:List UInt8):aM×Nat:=if 14≤gK l then (gZ,0) else cond (bN l).2 (gZ,0) (er l,l.length-(bN l).1.length)
theorem vF {l:List UInt8} (h:14≤gK l):b5 l=(gZ,0):=by unfold b5;rw [if_pos h]
theorem vG {l:List UInt8} (h:gK l<14) (e:(bN l).2=true):b5 l=(gZ,0):=by unfold b5;rw [if_neg (by omega),e];rfl
theorem vH {l:List UInt8} (h:gK l<14) (e:(bN l).2=false):b5 l=(er l,l.length-(bN l).1.length):=by unfold b5;rw [if_neg (by omega),e];rfl
def Oi (q:aM×Nat):List ai:=[.rw 5 1 (ae q.1.body)]
def Oj (q:aM×Nat):AV:=.tu [.ag [.z q.1.kind,.z q.1.node,.z q.1.peer,.z q.1.n,.z q.1.bit,.u q.1.inc,.sl 0 (ae q.1.body).length],.n q.2]
theorem Kh:∀ {k:Nat},k<14→(iK k==([45]:List UInt8))=false:=fun h=>mi (p:=fun k=>(iK k==([45]:List UInt8))=false) rfl rfl rfl rfl rfl rfl rfl rfl rfl rfl rfl rfl rfl rfl h
theorem Ki:∀ {k:Nat},k<14→(iK k).length≤4:=fun h=>mi (p:=fun k=>(iK k).length≤4) (by decide) (by decide) (by decide) (by decide) (by decide) (by decide) (by decide) (by decide) (by decide) (by decide) (by decide) (by decide) (by decide) (by decide) h
theorem sB (k:Nat):fieldsOf (k:Int)=if k<14 then iK k else [45]:=by
 unfold fieldsOf
 by_cases h:k<14
 ·rw [if_pos h,if_pos (by omega)];rfl
 ·rw [if_neg h,if_neg (by omega)]
set_option maxRecDepth 100000 in
theorem EV (l:List UInt8) (hl:l.length≤1048576):aq Tryz.prog 38 [.d (.ro 1 (ae l))] [] (Oj (b5 l)) (Oi (b5 l)):=by
 refine aq.intro (by kernel_rfl) rfl rfl 83 rfl rfl fun D w0 K bs ac wd hK (ak:bs.m=0) r=>?_
 refine bC (todo':=aft Tryz.f38 2) (E':=[(0,.d (.ro 1 (ae l))),(2,.pt 0 0),(3,.z 0),(4,.pt 1 0),(5,.pt 2 0)]) (M':=[.bx 42 [.z 0,.z 0,.z 0,.z 0,.z 0,.d (.v (.int .u64 0)),.d (.v (.slice none 0 0))],.bx 115 [.d (.ro 1 (ae (bG l).1)),.d (.v (.bool ((bG l).2)))],.bx 42 [.n (gK l),.z 0,.z 0,.z 0,.z 0,.d (.v (.int .u64 0)),.d (.v (.slice none 0 0))]]) mo tq hK ak [(2,[(1,.mem [1] (.u (gK l)) [.bx 115 [.d (.ro 1 (ae (bG l).1)),.d (.v (.bool ((bG l).2)))]]),(2,.z (((gK l:Nat):Int)))])] 6 [0,1,2] [0,2,3,4,5] r (by kernel_rfl) (U (qx (l,false) hl) (U ((kS (l,false)):IntKind.i64.wrap (((gK l:Nat):Int))=((gK l:Nat):Int)) trivial)) fun ac wd r=>?_
 have r:=r.de (E1:=[(0,.d (.ro 1 (ae l))),(2,.pt 0 0),(3,.z 0),(4,.pt 1 0),(5,.pt 2 0)]) (M1:=[.bx 42 [.z 0,.z 0,.z 0,.z 0,.z 0,.d (.v (.int .u64 0)),.d (.v (.slice none 0 0))],.bx 115 [.d (.ro 1 (ae (bG l).1)),.d (.v (.bool ((bG l).2)))],.bx 42 [.n (gK l),.z 0,.z 0,.z 0,.z 0,.d (.v (.int .u64 0)),.d (.v (.slice none 0 0))]]) (M2:=[.bx 42 [.z 0,.z 0,.z 0,.z 0,.z 0,.d (.v (.int .u64 0)),.d (.v (.slice none 0 0))],.bx 115 [.d (.ro 1 (ae (bG l).1)),.d (.v (.bool ((bG l).2)))],.bx 42 [.n (gK l),.z 0,.z 0,.z 0,.z 0,.d (.v (.int .u64 0)),.sl 3 (0)],.rw 5 1 ([])]) [] [(2,6,5,1)] (by kernel_rfl) (by kernel_rfl)
 cases h0:((fieldsOf ((gK l:Nat):Int))==([45]:List UInt8)) with
 | false=>
  have hk:gK l<14:=by rcases Nat.lt_or_ge (gK l) 14 with h | h;exact h;exact absurd ‹((fieldsOf ((gK l:Nat):Int))==([45]:List UInt8))=false› (by rw [sB,if_neg (by omega)];decide)
  have Pr:(fieldsOf ((gK l:Nat):Int)).length≤4:=by rw [sB,if_pos hk];exact Ki hk
  refine bT (todo':=hd Tryz.f38 0) (E':=[(0,.d (.ro 1 (ae l))),(2,.pt 0 0),(4,.pt 1 0),(5,.pt 2 0),(6,.d (.v (.string ⟨(fieldsOf ((gK l:Nat):Int)).toArray⟩))),(7,.z 0)]) (M':=[.bx 42 [.z 0,.z 0,.z 0,.z 0,.z 0,.d (.v (.int .u64 0)),.d (.v (.slice none 0 0))],.bx 115 [.d (.ro 1 (ae (bG l).1)),.d (.v (.bool ((bG l).2)))],.bx 42 [.n (gK l),.z 0,.z 0,.z 0,.z 0,.d (.v (.int .u64 0)),.sl 3 (0)],.rw 5 1 ([])]) mo tq hK ak [(3,[(2,.aV (.v (.string ⟨(fieldsOf ((gK l:Nat):Int)).toArray⟩)))]),(4,[(1,.b false)])] 2000 [0,1,2,3] [0,2,4,5,6,7] r (by kernel_rfl) (U (Az ((gK l:Nat):Int)) (U h0 trivial)) fun ac wd r=>?_
  refine aC.rounds (Φ:=fun (i:Nat) ac wd=>∃ s:aM,∃ q:b4,(i≤(fieldsOf ((gK l:Nat):Int)).length∧((fieldsOf ((gK l:Nat):Int)).take i).foldl iS (gq l)=(s,q)∧q.1.length≤l.length)∧RB D w0 K 83 bs [(0,.d (.ro 1 (ae l))),(2,.pt 0 0),(4,.pt 1 0),(5,.pt 2 0),(6,.d (.v (.string ⟨(fieldsOf ((gK l:Nat):Int)).toArray⟩))),(7,.n i)] [.bx 42 [.z 0,.z 0,.z 0,.z 0,.z 0,.d (.v (.int .u64 0)),.d (.v (.slice none 0 0))],.bx 115 [.d (.ro 1 (ae (q).1)),.d (.v (.bool ((q).2)))],.bx 42 [.z s.kind,.z s.node,.z s.peer,.z s.n,.z s.bit,.u s.inc,.sl 3 ((ae s.body).length)],.rw 5 1 (ae s.body)] ac wd) ((fieldsOf ((gK l:Nat):Int)).length) ?_ (Nat.zero_le _) ⟨(⟨gK l,0,0,0,0,0,[]⟩:aM),(bG l),⟨Nat.zero_le _,rfl,wE l⟩,(r).cast rfl rfl⟩
  clear r
  rintro i dI bH ac wd ⟨s,q,ao,r⟩
  have iL:=ao.2.2
  cases h1:(decide ((((i:Nat):Int):Int)<(((fieldsOf ((gK l:Nat):Int)).length:Nat):Int))) with
  | false=>
   have bF:=of_decide_eq_false h1
   have he:(s,q)=(er l,bN l):=by rw [← ao.2.1,List.take_of_length_le (by omega),sB,if_pos hk,LZ hk]
   have DJ:s=er l:=congrArg Prod.fst he
   have pP:q=bN l:=congrArg Prod.snd he
   refine bC (todo':=aft Tryz.f38 23) (E':=[(0,.d (.ro 1 (ae l))),(2,.pt 0 0),(4,.pt 1 0),(5,.pt 2 0),(72,.d (.v (.bool ((q).2))))]) (M':=[.bx 42 [.z 0,.z 0,.z 0,.z 0,.z 0,.d (.v (.int .u64 0)),.d (.v (.slice none 0 0))],.bx 115 [.d (.ro 1 (ae (q).1)),.d (.v (.bool ((q).2)))],.bx 42 [.z s.kind,.z s.node,.z s.peer,.z s.n,.z s.bit,.u s.inc,.sl 3 ((ae s.body).length)],.rw 5 1 (ae s.body)]) mo tq hK ak [(7,[(3,.b false)])] 8 [0,1,2,3] [0,2,4,5,72] r (by kernel_rfl) (U h1 trivial) fun ac wd r=>?_
   cases h2:((q).2) with
   | false=>
    have r:=r.cast (E':=[(0,.d (.ro 1 (ae l))),(2,.pt 0 0),(4,.pt 1 0),(5,.pt 2 0),(72,.d (.v (.bool false)))]) (M':=[.bx 42 [.z 0,.z 0,.z 0,.z 0,.z 0,.d (.v (.int .u64 0)),.d (.v (.slice none 0 0))],.bx 115 [.d (.ro 1 (ae (q).1)),.d (.v (.bool false))],.bx 42 [.z s.kind,.z s.node,.z s.peer,.z s.n,.z s.bit,.u s.inc,.sl 3 ((ae s.body).length)],.rw 5 1 (ae s.body)]) (by rw [h2]) (by rw [h2])
    refine aQ (y:=.tu [.ag [.z s.kind,.z s.node,.z s.peer,.z s.n,.z s.bit,.u s.inc,.sl 0 ((ae s.body).length)],.n (l.length-(q).1.length)]) (N':=[.rw 5 1 (ae s.body)]) ((by rw [vH hk (by rw [← pP];exact h2)];rw [← DJ,← pP];rfl)) ((by rw [vH hk (by rw [← pP];exact h2)];rw [← DJ,← pP];rfl)) ?_
    exact aP mo tq hK rfl ak [(25,[(2,.z (((l.length:Nat):Int))),(7,.z ((((q).1.length:Nat):Int))),(8,.z (((l.length-(q).1.length:Nat):Int)))])] 2000 [3] r (by kernel_rfl) (U ((by first | rfl | simp [ae,ah,ints,steps,strs]):(((ae l).length:Nat):Int)=((l.length:Nat):Int)) (U ((by first | rfl | simp [ae,ah,ints,steps,strs]):(((ae (q).1).length:Nat):Int)=(((q).1.length:Nat):Int)) (U ((wi (by omega)):IntKind.i64.wrap ((((l.length:Nat):Int):Int)-(((q).1.length:Nat):Int))=((l.length-(q).1.length:Nat):Int)) trivial)))
   | true=>
    have r:=r.cast (E':=[(0,.d (.ro 1 (ae l))),(2,.pt 0 0),(4,.pt 1 0),(5,.pt 2 0),(72,.d (.v (.bool true)))]) (M':=[.bx 42 [.z 0,.z 0,.z 0,.z 0,.z 0,.d (.v (.int .u64 0)),.d (.v (.slice none 0 0))],.bx 115 [.d (.ro 1 (ae (q).1)),.d (.v (.bool true))],.bx 42 [.z s.kind,.z s.node,.z s.peer,.z s.n,.z s.bit,.u s.inc,.sl 3 ((ae s.body).length)],.rw 5 1 (ae s.body)]) (by rw [h2]) (by rw [h2])
    refine bC (todo':=aft Tryz.f38 24) (E':=[(0,.d (.ro 1 (ae l))),(2,.pt 0 0),(4,.pt 1 0),(5,.pt 2 0),(3,.z 0)]) (M':=[.bx 42 [.z 0,.z 0,.z 0,.z 0,.z 0,.d (.v (.int .u64 0)),.d (.v (.slice none 0 0))],.bx 115 [.d (.ro 1 (ae (q).1)),.d (.v (.bool true))],.bx 42 [.z s.kind,.z s.node,.z s.peer,.z s.n,.z s.bit,.u s.inc,.sl 3 ((ae s.body).length)],.rw 5 1 (ae s.body)]) mo tq hK ak [] 3 [0,1,2,3] [0,2,4,5,3] r (by kernel_rfl) trivial fun ac wd r=>?_
    have r:=r.de (E1:=[(0,.d (.ro 1 (ae l))),(2,.pt 0 0),(4,.pt 1 0),(5,.pt 2 0),(3,.z 0)]) (M1:=[.bx 42 [.z 0,.z 0,.z 0,.z 0,.z 0,.d (.v (.int .u64 0)),.d (.v (.slice none 0 0))],.bx 115 [.d (.ro 1 (ae (q).1)),.d (.v (.bool true))],.bx 42 [.z s.kind,.z s.node,.z s.peer,.z s.n,.z s.bit,.u s.inc,.sl 3 ((ae s.body).length)],.rw 5 1 (ae s.body)]) (M2:=[.bx 42 [.z 0,.z 0,.z 0,.z 0,.z 0,.d (.v (.int .u64 0)),.sl 4 (0)],.bx 115 [.d (.ro 1 (ae (q).1)),.d (.v (.bool true))],.bx 42 [.z s.kind,.z s.node,.z s.peer,.z s.n,.z s.bit,.u s.inc,.sl 3 ((ae s.body).length)],.rw 5 1 (ae s.body),.rw 5 1 ([])]) [] [(0,6,5,1)] (by kernel_rfl) (by kernel_rfl)
    refine aQ (y:=.tu [.ag [.z 0,.z 0,.z 0,.z 0,.z 0,.d (.v (.int .u64 0)),.sl 0 (0)],.z 0]) (N':=[.rw 5 1 ([])]) ((by rw [vG hk (by rw [← pP];exact h2)];rfl)) ((by rw [vG hk (by rw [← pP];exact h2)];rfl)) ?_
    exact aP mo tq hK rfl ak [] 2000 [4] r (by kernel_rfl) trivial
  | true=>
   have bF:=of_decide_eq_true h1
   obtain ⟨jf,mO⟩:∃ x_,(fieldsOf ((gK l:Nat):Int))[i]?=some x_:=⟨_,List.getElem?_eq_getElem (by omega)⟩
   have aE:=(⟨_,mO,rfl⟩:∃ u:UInt8,((fieldsOf ((gK l:Nat):Int)):List UInt8)[i]?=some u∧(.v (.int .u8 (((jf.toNat:Nat):Int))):DV)=.v (.int .u8 (u.toNat:Int)))
   cases h3:((((jf.toNat:Nat):Int):Int)==110) with
   | false=>
    have di:=ne_of_beq_false h3
    cases h4:((((jf.toNat:Nat):Int):Int)==112) with
    | false=>
     have dD:=ne_of_beq_false h4
     cases h5:((((jf.toNat:Nat):Int):Int)==105) with
     | false=>
      have ew:=ne_of_beq_false h5
      cases h6:((((jf.toNat:Nat):Int):Int)==98) with
      | false=>
       have eV:=ne_of_beq_false h6
       cases h7:((((jf.toNat:Nat):Int):Int)==99) with
       | false=>
        have dZ:=ne_of_beq_false h7
        cases h8:((((jf.toNat:Nat):Int):Int)==116) with
        | false=>
         have e6:=ne_of_beq_false h8
         exact bT (todo':=hd Tryz.f38 0) (E':=[(0,.d (.ro 1 (ae l))),(2,.pt 0 0),(4,.pt 1 0),(5,.pt 2 0),(6,.d (.v (.string ⟨(fieldsOf ((gK l:Nat):Int)).toArray⟩))),(7,.n (i+1))]) (M':=[.bx 42 [.z 0,.z 0,.z 0,.z 0,.z 0,.d (.v (.int .u64 0)),.d (.v (.slice none 0 0))],.bx 115 [.d (.ro 1 (ae (q).1)),.d (.v (.bool ((q).2)))],.bx 42 [.z s.kind,.z s.node,.z s.peer,.z s.n,.z s.bit,.u s.inc,.sl 3 ((ae s.body).length)],.rw 5 1 (ae s.body)]) mo tq hK ak [(7,[(3,.b true)]),(8,[(1,.z (((i+1:Nat):Int)))]),(9,[(2,.ix (i) [.v (.int .u8 (((jf.toNat:Nat):Int)))])]),(10,[(0,.b false)]),(12,[(0,.b false)]),(14,[(0,.b false)]),(16,[(0,.b false)]),(18,[(0,.b false)]),(20,[(0,.b false)])] 2000 [0,1,2,3] [0,2,4,5,6,7] r (by kernel_rfl) (U h1 (U (aA ((i:Nat):Int)) (U aE (U h3 (U h4 (U h5 (U h6 (U h7 (U h8 (U ((wi (by omega)):IntKind.i64.wrap ((((i:Nat):Int):Int)+1)=((i+1:Nat):Int)) trivial)))))))))) fun ac wd r=>bH (by omega) ac wd ⟨s,q,⟨by omega,nA mO ao.2.1 (by unfold iS;simp only;rw [if_neg (by omega),if_neg (by omega),if_neg (by omega),if_neg (by omega),if_neg (by omega),if_neg (by omega)]),iL⟩,r.cast rfl rfl⟩
        | true=>
         have e6:=eq_of_beq h8
         exact bT (todo':=hd Tryz.f38 0) (E':=[(0,.d (.ro 1 (ae l))),(2,.pt 0 0),(4,.pt 1 0),(5,.pt 2 0),(6,.d (.v (.string ⟨(fieldsOf ((gK l:Nat):Int)).toArray⟩))),(7,.n (i+1))]) (M':=[.bx 42 [.z 0,.z 0,.z 0,.z 0,.z 0,.d (.v (.int .u64 0)),.d (.v (.slice none 0 0))],.bx 115 [.d (.ro 1 (ae (az ((v8 (q):Nat):Int) (az 1 (q))).1)),.d (.v (.bool ((az ((v8 (q):Nat):Int) (az 1 (q))).2)))],.bx 42 [.z s.kind,.z s.node,.z s.peer,.z s.n,.z s.bit,.u s.inc,.sl 3 ((ae (au (az 1 (q)).1 (az 1 (q)).2 ((v8 (q):Nat):Int))).length)],.rw 5 1 (ae (au (az 1 (q)).1 (az 1 (q)).2 ((v8 (q):Nat):Int)))]) mo tq hK ak [(7,[(3,.b true)]),(8,[(1,.z (((i+1:Nat):Int)))]),(9,[(2,.ix (i) [.v (.int .u8 (((jf.toNat:Nat):Int)))])]),(10,[(0,.b false)]),(12,[(0,.b false)]),(14,[(0,.b false)]),(16,[(0,.b false)]),(18,[(0,.b false)]),(20,[(0,.b true)]),(21,[(1,.mem [1] (.u (v8 (q))) [.bx 115 [.d (.ro 1 (ae (az 1 (q)).1)),.d (.v (.bool ((az 1 (q)).2)))]]),(2,.z (((v8 (q):Nat):Int)))]),(22,[(2,.mem [1] (.sl 1 ((ae (au (az 1 (q)).1 (az 1 (q)).2 ((v8 (q):Nat):Int))).length)) [.bx 115 [.d (.ro 1 (ae (az ((v8 (q):Nat):Int) (az 1 (q))).1)),.d (.v (.bool ((az ((v8 (q):Nat):Int) (az 1 (q))).2)))],.rw 5 1 (ae (au (az 1 (q)).1 (az 1 (q)).2 ((v8 (q):Nat):Int)))])])] 2000 [0,1,2,4] [0,2,4,5,6,7] r (by kernel_rfl) (U h1 (U (aA ((i:Nat):Int)) (U aE (U h3 (U h4 (U h5 (U h6 (U h7 (U h8 (U (qx (q) (by first | omega | (have:=dV 1 q;omega))) (U ((kS _):IntKind.i64.wrap (((v8 (q):Nat):Int))=((v8 (q):Nat):Int)) (U (s7 (az 1 (q)) ((v8 (q):Nat):Int) (by first | omega | (have:=dV 1 q;omega))) (U ((wi (by omega)):IntKind.i64.wrap ((((i:Nat):Int):Int)+1)=((i+1:Nat):Int)) trivial))))))))))))) fun ac wd r=>bH (by omega) ac wd ⟨(⟨s.kind,s.node,s.peer,s.n,s.bit,s.inc,au (az 1 q).1 (az 1 q).2 (v8 q)⟩),(az (v8 q) (az 1 q)),⟨by omega,nA mO ao.2.1 (by unfold iS;simp only;rw [if_neg (by omega),if_neg (by omega),if_neg (by omega),if_neg (by omega),if_neg (by omega),if_pos (by omega)]),(Nat.le_trans (dV _ _) (Nat.le_trans (dV _ _) iL))⟩,r.cast rfl rfl⟩
       | true=>
        have dZ:=eq_of_beq h7
        exact bT (todo':=hd Tryz.f38 0) (E':=[(0,.d (.ro 1 (ae l))),(2,.pt 0 0),(4,.pt 1 0),(5,.pt 2 0),(6,.d (.v (.string ⟨(fieldsOf ((gK l:Nat):Int)).toArray⟩))),(7,.n (i+1))]) (M':=[.bx 42 [.z 0,.z 0,.z 0,.z 0,.z 0,.d (.v (.int .u64 0)),.d (.v (.slice none 0 0))],.bx 115 [.d (.ro 1 (ae (rU (q)).1)),.d (.v (.bool ((rU (q)).2)))],.bx 42 [.z s.kind,.z s.node,.z s.peer,.z s.n,.z s.bit,.u (vU (q)),.sl 3 ((ae s.body).length)],.rw 5 1 (ae s.body)]) mo tq hK ak [(7,[(3,.b true)]),(8,[(1,.z (((i+1:Nat):Int)))]),(9,[(2,.ix (i) [.v (.int .u8 (((jf.toNat:Nat):Int)))])]),(10,[(0,.b false)]),(12,[(0,.b false)]),(14,[(0,.b false)]),(16,[(0,.b false)]),(18,[(0,.b true)]),(19,[(1,.mem [1] (.u (vU (q))) [.bx 115 [.d (.ro 1 (ae (rU (q)).1)),.d (.v (.bool ((rU (q)).2)))]])])] 2000 [0,1,2,3] [0,2,4,5,6,7] r (by kernel_rfl) (U h1 (U (aA ((i:Nat):Int)) (U aE (U h3 (U h4 (U h5 (U h6 (U h7 (U (LY (q) (by first | omega | (have:=dV 1 q;omega))) (U ((wi (by omega)):IntKind.i64.wrap ((((i:Nat):Int):Int)+1)=((i+1:Nat):Int)) trivial)))))))))) fun ac wd r=>bH (by omega) ac wd ⟨(⟨s.kind,s.node,s.peer,s.n,s.bit,vU q,s.body⟩),(rU q),⟨by omega,nA mO ao.2.1 (by unfold iS;simp only;rw [if_neg (by omega),if_neg (by omega),if_neg (by omega),if_neg (by omega),if_pos (by omega)]),(Nat.le_trans (xD q) iL)⟩,r.cast rfl rfl⟩
      | true=>
       have eV:=eq_of_beq h6
       exact bT (todo':=hd Tryz.f38 0) (E':=[(0,.d (.ro 1 (ae l))),(2,.pt 0 0),(4,.pt 1 0),(5,.pt 2 0),(6,.d (.v (.string ⟨(fieldsOf ((gK l:Nat):Int)).toArray⟩))),(7,.n (i+1))]) (M':=[.bx 42 [.z 0,.z 0,.z 0,.z 0,.z 0,.d (.v (.int .u64 0)),.d (.v (.slice none 0 0))],.bx 115 [.d (.ro 1 (ae (az 2 (q)).1)),.d (.v (.bool ((az 2 (q)).2)))],.bx 42 [.z s.kind,.z s.node,.z s.peer,.z s.n,.n (eA (q)),.u s.inc,.sl 3 ((ae s.body).length)],.rw 5 1 (ae s.body)]) mo tq hK ak [(7,[(3,.b true)]),(8,[(1,.z (((i+1:Nat):Int)))]),(9,[(2,.ix (i) [.v (.int .u8 (((jf.toNat:Nat):Int)))])]),(10,[(0,.b false)]),(12,[(0,.b false)]),(14,[(0,.b false)]),(16,[(0,.b true)]),(17,[(1,.mem [1] (.u (eA (q))) [.bx 115 [.d (.ro 1 (ae (az 2 (q)).1)),.d (.v (.bool ((az 2 (q)).2)))]]),(2,.z (((eA (q):Nat):Int)))])] 2000 [0,1,2,3] [0,2,4,5,6,7] r (by kernel_rfl) (U h1 (U (aA ((i:Nat):Int)) (U aE (U h3 (U h4 (U h5 (U h6 (U (Kg (q) (by first | omega | (have:=dV 1 q;omega))) (U ((CU _):IntKind.i64.wrap (((eA (q):Nat):Int))=((eA (q):Nat):Int)) (U ((wi (by omega)):IntKind.i64.wrap ((((i:Nat):Int):Int)+1)=((i+1:Nat):Int)) trivial)))))))))) fun ac wd r=>bH (by omega) ac wd ⟨(⟨s.kind,s.node,s.peer,s.n,eA q,s.inc,s.body⟩),(az 2 q),⟨by omega,nA mO ao.2.1 (by unfold iS;simp only;rw [if_neg (by omega),if_neg (by omega),if_neg (by omega),if_pos (by omega)]),(Nat.le_trans (dV _ _) iL)⟩,r.cast rfl rfl⟩
     | true=>
      have ew:=eq_of_beq h5
      exact bT (todo':=hd Tryz.f38 0) (E':=[(0,.d (.ro 1 (ae l))),(2,.pt 0 0),(4,.pt 1 0),(5,.pt 2 0),(6,.d (.v (.string ⟨(fieldsOf ((gK l:Nat):Int)).toArray⟩))),(7,.n (i+1))]) (M':=[.bx 42 [.z 0,.z 0,.z 0,.z 0,.z 0,.d (.v (.int .u64 0)),.d (.v (.slice none 0 0))],.bx 115 [.d (.ro 1 (ae (az 1 (q)).1)),.d (.v (.bool ((az 1 (q)).2)))],.bx 42 [.z s.kind,.z s.node,.z s.peer,.n (v8 (q)),.z s.bit,.u s.inc,.sl 3 ((ae s.body).length)],.rw 5 1 (ae s.body)]) mo tq hK ak [(7,[(3,.b true)]),(8,[(1,.z (((i+1:Nat):Int)))]),(9,[(2,.ix (i) [.v (.int .u8 (((jf.toNat:Nat):Int)))])]),(10,[(0,.b false)]),(12,[(0,.b false)]),(14,[(0,.b true)]),(15,[(1,.mem [1] (.u (v8 (q))) [.bx 115 [.d (.ro 1 (ae (az 1 (q)).1)),.d (.v (.bool ((az 1 (q)).2)))]]),(2,.z (((v8 (q):Nat):Int)))])] 2000 [0,1,2,3] [0,2,4,5,6,7] r (by kernel_rfl) (U h1 (U (aA ((i:Nat):Int)) (U aE (U h3 (U h4 (U h5 (U (qx (q) (by first | omega | (have:=dV 1 q;omega))) (U ((kS _):IntKind.i64.wrap (((v8 (q):Nat):Int))=((v8 (q):Nat):Int)) (U ((wi (by omega)):IntKind.i64.wrap ((((i:Nat):Int):Int)+1)=((i+1:Nat):Int)) trivial))))))))) fun ac wd r=>bH (by omega) ac wd ⟨(⟨s.kind,s.node,s.peer,v8 q,s.bit,s.inc,s.body⟩),(az 1 q),⟨by omega,nA mO ao.2.1 (by unfold iS;simp only;rw [if_neg (by omega),if_neg (by omega),if_pos (by omega)]),(Nat.le_trans (dV _ _) iL)⟩,r.cast rfl rfl⟩
    | true=>
     have dD:=eq_of_beq h4
     exact bT (todo':=hd Tryz.f38 0) (E':=[(0,.d (.ro 1 (ae l))),(2,.pt 0 0),(4,.pt 1 0),(5,.pt 2 0),(6,.d (.v (.string ⟨(fieldsOf ((gK l:Nat):Int)).toArray⟩))),(7,.n (i+1))]) (M':=[.bx 42 [.z 0,.z 0,.z 0,.z 0,.z 0,.d (.v (.int .u64 0)),.d (.v (.slice none 0 0))],.bx 115 [.d (.ro 1 (ae (az 1 (q)).1)),.d (.v (.bool ((az 1 (q)).2)))],.bx 42 [.z s.kind,.z s.node,.n (v8 (q)),.z s.n,.z s.bit,.u s.inc,.sl 3 ((ae s.body).length)],.rw 5 1 (ae s.body)]) mo tq hK ak [(7,[(3,.b true)]),(8,[(1,.z (((i+1:Nat):Int)))]),(9,[(2,.ix (i) [.v (.int .u8 (((jf.toNat:Nat):Int)))])]),(10,[(0,.b false)]),(12,[(0,.b true)]),(13,[(1,.mem [1] (.u (v8 (q))) [.bx 115 [.d (.ro 1 (ae (az 1 (q)).1)),.d (.v (.bool ((az 1 (q)).2)))]]),(2,.z (((v8 (q):Nat):Int)))])] 2000 [0,1,2,3] [0,2,4,5,6,7] r (by kernel_rfl) (U h1 (U (aA ((i:Nat):Int)) (U aE (U h3 (U h4 (U (qx (q) (by first | omega | (have:=dV 1 q;omega))) (U ((kS _):IntKind.i64.wrap (((v8 (q):Nat):Int))=((v8 (q):Nat):Int)) (U ((wi (by omega)):IntKind.i64.wrap ((((i:Nat):Int):Int)+1)=((i+1:Nat):Int)) trivial)))))))) fun ac wd r=>bH (by omega) ac wd ⟨(⟨s.kind,s.node,v8 q,s.n,s.bit,s.inc,s.body⟩),(az 1 q),⟨by omega,nA mO ao.2.1 (by unfold iS;simp only;rw [if_neg (by omega),if_pos (by omega)]),(Nat.le_trans (dV _ _) iL)⟩,r.cast rfl rfl⟩
   | true=>
    have di:=eq_of_beq h3
    exact bT (todo':=hd Tryz.f38 0) (E':=[(0,.d (.ro 1 (ae l))),(2,.pt 0 0),(4,.pt 1 0),(5,.pt 2 0),(6,.d (.v (.string ⟨(fieldsOf ((gK l:Nat):Int)).toArray⟩))),(7,.n (i+1))]) (M':=[.bx 42 [.z 0,.z 0,.z 0,.z 0,.z 0,.d (.v (.int .u64 0)),.d (.v (.slice none 0 0))],.bx 115 [.d (.ro 1 (ae (az 1 (q)).1)),.d (.v (.bool ((az 1 (q)).2)))],.bx 42 [.z s.kind,.n (v8 (q)),.z s.peer,.z s.n,.z s.bit,.u s.inc,.sl 3 ((ae s.body).length)],.rw 5 1 (ae s.body)]) mo tq hK ak [(7,[(3,.b true)]),(8,[(1,.z (((i+1:Nat):Int)))]),(9,[(2,.ix (i) [.v (.int .u8 (((jf.toNat:Nat):Int)))])]),(10,[(0,.b true)]),(11,[(1,.mem [1] (.u (v8 (q))) [.bx 115 [.d (.ro 1 (ae (az 1 (q)).1)),.d (.v (.bool ((az 1 (q)).2)))]]),(2,.z (((v8 (q):Nat):Int)))])] 2000 [0,1,2,3] [0,2,4,5,6,7] r (by kernel_rfl) (U h1 (U (aA ((i:Nat):Int)) (U aE (U h3 (U (qx (q) (by first | omega | (have:=dV 1 q;omega))) (U ((kS _):IntKind.i64.wrap (((v8 (q):Nat):Int))=((v8 (q):Nat):Int)) (U ((wi (by omega)):IntKind.i64.wrap ((((i:Nat):Int):Int)+1)=((i+1:Nat):Int)) trivial))))))) fun ac wd r=>bH (by omega) ac wd ⟨(⟨s.kind,v8 q,s.peer,s.n,s.bit,s.inc,s.body⟩),(az 1 q),⟨by omega,nA mO ao.2.1 (by unfold iS;simp only;rw [if_pos (by omega)]),(Nat.le_trans (dV _ _) iL)⟩,r.cast rfl rfl⟩
 | true=>
  have hk:14≤gK l:=by rcases Nat.lt_or_ge (gK l) 14 with h | h;exact absurd ‹((fieldsOf ((gK l:Nat):Int))==([45]:List UInt8))=true› (by rw [sB,if_pos h,Kh h];decide);exact h
  refine bC (todo':=aft Tryz.f38 5) (E':=[(0,.d (.ro 1 (ae l))),(2,.pt 0 0),(3,.z 0),(4,.pt 1 0),(5,.pt 2 0),(6,.d (.v (.string ⟨(fieldsOf ((gK l:Nat):Int)).toArray⟩)))]) (M':=[.bx 42 [.z 0,.z 0,.z 0,.z 0,.z 0,.d (.v (.int .u64 0)),.d (.v (.slice none 0 0))],.bx 115 [.d (.ro 1 (ae (bG l).1)),.d (.v (.bool ((bG l).2)))],.bx 42 [.n (gK l),.z 0,.z 0,.z 0,.z 0,.d (.v (.int .u64 0)),.sl 3 (0)],.rw 5 1 ([])]) mo tq hK ak [(3,[(2,.aV (.v (.string ⟨(fieldsOf ((gK l:Nat):Int)).toArray⟩)))]),(4,[(1,.b true)])] 8 [0,1,2,3] [0,2,3,4,5,6] r (by kernel_rfl) (U (Az ((gK l:Nat):Int)) (U h0 trivial)) fun ac wd r=>?_
  have r:=r.de (E1:=[(0,.d (.ro 1 (ae l))),(2,.pt 0 0),(3,.z 0),(4,.pt 1 0),(5,.pt 2 0),(6,.d (.v (.string ⟨(fieldsOf ((gK l:Nat):Int)).toArray⟩)))]) (M1:=[.bx 42 [.z 0,.z 0,.z 0,.z 0,.z 0,.d (.v (.int .u64 0)),.d (.v (.slice none 0 0))],.bx 115 [.d (.ro 1 (ae (bG l).1)),.d (.v (.bool ((bG l).2)))],.bx 42 [.n (gK l),.z 0,.z 0,.z 0,.z 0,.d (.v (.int .u64 0)),.sl 3 (0)],.rw 5 1 ([])]) (M2:=[.bx 42 [.z 0,.z 0,.z 0,.z 0,.z 0,.d (.v (.int .u64 0)),.sl 4 (0)],.bx 115 [.d (.ro 1 (ae (bG l).1)),.d (.v (.bool ((bG l).2)))],.bx 42 [.n (gK l),.z 0,.z 0,.z 0,.z 0,.d (.v (.int .u64 0)),.sl 3 (0)],.rw 5 1 ([]),.rw 5 1 ([])]) [] [(0,6,5,1)] (by kernel_rfl) (by kernel_rfl)
  refine aQ (y:=.tu [.ag [.z 0,.z 0,.z 0,.z 0,.z 0,.d (.v (.int .u64 0)),.sl 0 (0)],.z 0]) (N':=[.rw 5 1 ([])]) ((by rw [vF hk];rfl)) ((by rw [vF hk];rfl)) ?_
  exact aP mo tq hK rfl ak [] 2000 [4] r (by kernel_rfl) trivial
end Go.Proofs.YtcnpikbbmbombaaGreatDoor
namespace Go.Proofs.YtcnpikbbmbombaaGreatDoor
open Go.RowKit
theorem qq (l:List UInt8) (k n:Nat):List.drop n (ae (l.drop k))=ae (l.drop (k+n)):=by rw [← nk,List.drop_drop]
theorem o8 {l:List UInt8} {k j:Nat} (h:k+j<l.length):(ae (l.drop k))[j]?=some [.v (.int .u8 (((l.getD (k+j) 0).toNat:Nat):Int))]:=by
 refine dM ?_
 rw [List.getElem?_drop,List.getD_eq_getElem?_getD,List.getElem?_eq_getElem h];rfl
theorem oV {l:List UInt8} {j:Nat} (h:j<l.length):(ae l)[j]?=some [.v (.int .u8 (((l.getD j 0).toNat:Nat):Int))]:=by
 have:=o8 (l:=l) (k:=0) (j:=j) (by omega);simpa using this
theorem qy {l:List UInt8} {k:Nat} (h:k<l.length):(ae (l.drop k))[0]?=some [.v (.int .u8 (((l.getD k 0).toNat:Nat):Int))]:=o8 (j:=0) h
set_option maxRecDepth 100000 in
theorem L0 (l:List UInt8) (h0:l.length<2):aq Tryz.prog 37 [.d (.ro 1 (ae l))] [] (.tu [.ag [.z 0,.d (.v (.slice none 0 0)),.d (.v (.slice none 0 0))],.d (.v (.slice none 0 0)),.d (.v (.bool false))]) ([]):=by
 refine aq.intro (by kernel_rfl) rfl rfl 89 rfl rfl fun D w0 K bs ac wd hK (ak:bs.m=0) r=>?_
 have aE:=((by first | rfl | (simp [ae];done) | (simp [ae];omega)):(((ae l).length:Nat):Int)=((l.length:Nat):Int))
 cases h0:(decide ((((l.length:Nat):Int):Int)<2)) with
 | false=>
  have aK:=of_decide_eq_false h0
  exact absurd aK (by omega)
 | true=>
  have aK:=of_decide_eq_true h0
  refine aQ (y:=.tu [.ag [.z 0,.d (.v (.slice none 0 0)),.d (.v (.slice none 0 0))],.d (.v (.slice none 0 0)),.d (.v (.bool false))]) (N':=[]) (rfl) (rfl) ?_
  exact aP mo tq hK rfl ak [(2,[(1,.z (((l.length:Nat):Int))),(2,.b true)])] 2000 [] r (by kernel_rfl) (U aE (U h0 trivial))
set_option maxRecDepth 100000 in
theorem L2 (l:List UInt8) (h0:2≤l.length) (h1:l.length<2+2*gN l) (hl:l.length≤1048576):aq Tryz.prog 37 [.d (.ro 1 (ae l))] [] (.tu [.ag [.z (gV l 0),.sl 0 ((l.length-2) / 2),.d (.v (.slice none 0 0))],.d (.v (.slice none 0 0)),.d (.v (.bool false))]) ([.rw 60 2 (ah (gL l ((l.length-2) / 2)))]):=by
 refine aq.intro (by kernel_rfl) rfl rfl 89 rfl rfl fun D w0 K bs ac wd hK (ak:bs.m=0) r=>?_
 have aE:=((by first | rfl | (simp [ae];done) | (simp [ae];omega)):(((ae l).length:Nat):Int)=((l.length:Nat):Int))
 cases h0:(decide ((((l.length:Nat):Int):Int)<2)) with
 | false=>
  have aK:=of_decide_eq_false h0
  refine bT (todo':=hd Tryz.f37 0) (E':=[(0,.d (.ro 1 (List.drop (2) (ae l)))),(2,.pt 0 0),(5,.pt 1 0),(6,.n ((l.getD (1) 0).toNat)),(7,.z 0)]) (M':=[.bx 25 [.z 0,.d (.v (.slice none 0 0)),.d (.v (.slice none 0 0))],.bx 25 [.n ((l.getD (0) 0).toNat),.d (.v (.slice none 0 0)),.d (.v (.slice none 0 0))]]) mo tq hK ak [(2,[(1,.z (((l.length:Nat):Int))),(2,.b false)]),(4,[(1,.ix (0) [.v (.int .u8 ((((l.getD (0) 0).toNat:Nat):Int)))]),(3,.z ((((l.getD (0) 0).toNat:Nat):Int)))]),(5,[(1,.ix (1) [.v (.int .u8 ((((l.getD (1) 0).toNat:Nat):Int)))]),(3,.z ((((l.getD (1) 0).toNat:Nat):Int)))]),(6,[(1,.n2 (0) (2))])] 2000 [0,1] [0,2,5,6,7] r (by kernel_rfl) (U aE (U h0 (U (rfl:(0)=((0:Nat):Int)) (U (oV (by omega):(ae l)[0]?=some [.v (.int .u8 ((((l.getD (0) 0).toNat:Nat):Int)))]) (U ((fV _):IntKind.i64.wrap ((((l.getD (0) 0).toNat:Nat):Int))=(((l.getD (0) 0).toNat:Nat):Int)) (U (rfl:(1)=((1:Nat):Int)) (U (oV (by omega):(ae l)[1]?=some [.v (.int .u8 ((((l.getD (1) 0).toNat:Nat):Int)))]) (U ((fV _):IntKind.i64.wrap ((((l.getD (1) 0).toNat:Nat):Int))=(((l.getD (1) 0).toNat:Nat):Int)) (U (rfl:(2:Int)=((2:Nat):Int)) (U ((by first | (simp [ae];done) | (simp [ae];omega)):(2)≤(ae l).length) trivial)))))))))) fun ac wd r=>?_
  refine aC.rounds (Φ:=fun (i:Nat) ac wd=>(i≤gN l∧2+2*i≤l.length)∧RB D w0 K 89 bs [(0,.d (.ro 1 (ae (l.drop (2+2*i))))),(2,.pt 0 0),(5,.pt 1 0),(6,.n (gN l)),(7,.n i)] [.bx 25 [.z 0,.d (.v (.slice none 0 0)),.d (.v (.slice none 0 0))],.bx 25 [.z (gV l 0),.sl 2 (i),.d (.v (.slice none 0 0))],.rw 60 2 (ah (gL l i))] ac wd) (gN l) ?_ (Nat.zero_le _) ⟨⟨Nat.zero_le _,by omega⟩,(r.de (E1:=[(0,.d (.ro 1 (List.drop (2) (ae l)))),(2,.pt 0 0),(5,.pt 1 0),(6,.n ((l.getD (1) 0).toNat)),(7,.z 0)]) (M2:=[.bx 25 [.z 0,.d (.v (.slice none 0 0)),.d (.v (.slice none 0 0))],.bx 25 [.n ((l.getD (0) 0).toNat),.sl 2 (0),.d (.v (.slice none 0 0))],.rw 60 2 ([])]) (M1:=[.bx 25 [.z 0,.d (.v (.slice none 0 0)),.d (.v (.slice none 0 0))],.bx 25 [.n ((l.getD (0) 0).toNat),.d (.v (.slice none 0 0)),.d (.v (.slice none 0 0))]]) [] [(1,1,60,2)] (by kernel_rfl) (by kernel_rfl)).cast (by rw [← nk]<;>rfl) rfl⟩
  clear r
  rintro i dI bH ac wd ⟨ao,r⟩
  have y8:=kF l
  have za:=ao.2
  cases h1:(decide ((((i:Nat):Int):Int)<((gN l:Nat):Int))) with
  | false=>
   have bF:=of_decide_eq_false h1
   exact absurd bF (by omega)
  | true=>
   have bF:=of_decide_eq_true h1
   have aZ:=((by first | rfl | (simp [ae];done) | (simp [ae];omega)):(((ae (l.drop (2+2*i))).length:Nat):Int)=(((l.length-(2+2*i)):Nat):Int))
   cases h2:(decide (((((l.length-(2+2*i)):Nat):Int):Int)<2)) with
   | false=>
    have cW:=of_decide_eq_false h2
    exact bT (todo':=hd Tryz.f37 0) (E':=[(0,.d (.ro 1 (List.drop (2) (ae (l.drop (2+2*i)))))),(2,.pt 0 0),(5,.pt 1 0),(6,.n (gN l)),(7,.n (i+1))]) (M':=[.bx 25 [.z 0,.d (.v (.slice none 0 0)),.d (.v (.slice none 0 0))],.bx 25 [.z (gV l 0),.sl 2 (i+(1)),.d (.v (.slice none 0 0))],.rw 60 2 (ah (gL l i)++[[.n ((l.getD (2+2*i) 0).toNat),.n ((l.getD (2+2*i+1) 0).toNat)]])]) mo tq hK ak [(8,[(2,.b true)]),(9,[(1,.z (((i+1:Nat):Int)))]),(10,[(1,.z ((((l.length-(2+2*i)):Nat):Int))),(2,.b false)]),(12,[(3,.ix (0) [.v (.int .u8 ((((l.getD (2+2*i) 0).toNat:Nat):Int)))]),(5,.z ((((l.getD (2+2*i) 0).toNat:Nat):Int))),(7,.ix (1) [.v (.int .u8 ((((l.getD (2+2*i+1) 0).toNat:Nat):Int)))]),(9,.z ((((l.getD (2+2*i+1) 0).toNat:Nat):Int)))]),(13,[(1,.n2 (0) (2))])] 2000 [0,1,2] [0,2,5,6,7] r (by kernel_rfl) (U h1 (U aZ (U h2 (U (rfl:(0)=((0:Nat):Int)) (U (qy (by omega):(ae (l.drop (2+2*i)))[0]?=some [.v (.int .u8 ((((l.getD (2+2*i) 0).toNat:Nat):Int)))]) (U ((fV _):IntKind.i64.wrap ((((l.getD (2+2*i) 0).toNat:Nat):Int))=(((l.getD (2+2*i) 0).toNat:Nat):Int)) (U (rfl:(1)=((1:Nat):Int)) (U (o8 (by omega):(ae (l.drop (2+2*i)))[1]?=some [.v (.int .u8 ((((l.getD (2+2*i+1) 0).toNat:Nat):Int)))]) (U ((fV _):IntKind.i64.wrap ((((l.getD (2+2*i+1) 0).toNat:Nat):Int))=(((l.getD (2+2*i+1) 0).toNat:Nat):Int)) (U ((by first | rfl | (simp [ah,ints,a7,a8];done) | (simp [ah,ints,a7,a8];omega)):(i)=(ah (gL l i):List (List DV)).length) (U ((by first | rfl | (simp [ah,ints,a7,a8];done) | (simp [ah,ints,a7,a8];omega)):(1)=([[.n ((l.getD (2+2*i) 0).toNat),.n ((l.getD (2+2*i+1) 0).toNat)]]:List (List DV)).length) (U ((by first | omega | (simp [ah,ints,a7,a8];done) | (simp [ah,ints,a7,a8];omega)):(2*((i)+(1))+192)*16≤281474976710656) (U ((by first | omega | (simp [ah,ints,a7,a8];done) | (simp [ah,ints,a7,a8];omega)):(i)+(1)<4611686018427387904) (U ((by simp [bd,AV.one,bW,ae,ah,ints,steps,strs]):bd ([[.n ((l.getD (2+2*i) 0).toNat),.n ((l.getD (2+2*i+1) 0).toNat)]])) (U (rfl:(2:Int)=((2:Nat):Int)) (U ((by first | (simp [ae];done) | (simp [ae];omega)):(2)≤(ae (l.drop (2+2*i))).length) (U ((wi (by omega)):IntKind.i64.wrap ((((i:Nat):Int):Int)+1)=((i+1:Nat):Int)) trivial))))))))))))))))) fun ac wd r=>bH (by omega) ac wd ⟨⟨by omega,by omega⟩,r.cast (by rw [qq,show 2+2*(i+1)=2+2*i+2 from by omega]) (by rw [sy];simp [ah,gV])⟩
   | true=>
    have cW:=of_decide_eq_true h2
    refine aQ (y:=.tu [.ag [.z (gV l 0),.sl 0 (i),.d (.v (.slice none 0 0))],.d (.v (.slice none 0 0)),.d (.v (.bool false))]) (N':=[.rw 60 2 (ah (gL l i))]) ((by rw [show i=(l.length-2) / 2 by omega])) ((by rw [show i=(l.length-2) / 2 by omega])) ?_
    exact aP mo tq hK rfl ak [(8,[(2,.b true)]),(10,[(1,.z ((((l.length-(2+2*i)):Nat):Int))),(2,.b true)])] 2000 [2] r (by kernel_rfl) (U h1 (U aZ (U h2 trivial)))
 | true=>
  have aK:=of_decide_eq_true h0
  exact absurd aK (by (try unfold gE gM at *);omega)
set_option maxRecDepth 100000 in
theorem L3 (l:List UInt8) (h1:2+2*gN l≤l.length) (h2:l.length<gE l) (hl:l.length≤1048576):aq Tryz.prog 37 [.d (.ro 1 (ae l))] [] (.tu [.ag [.z (gV l 0),.sl 0 (gN l),.d (.v (.slice none 0 0))],.d (.v (.slice none 0 0)),.d (.v (.bool false))]) ([.rw 60 2 (ah (gL l (gN l)))]):=by
 refine aq.intro (by kernel_rfl) rfl rfl 89 rfl rfl fun D w0 K bs ac wd hK (ak:bs.m=0) r=>?_
 have aE:=((by first | rfl | (simp [ae];done) | (simp [ae];omega)):(((ae l).length:Nat):Int)=((l.length:Nat):Int))
 cases h0:(decide ((((l.length:Nat):Int):Int)<2)) with
 | false=>
  have aK:=of_decide_eq_false h0
  refine bT (todo':=hd Tryz.f37 0) (E':=[(0,.d (.ro 1 (List.drop (2) (ae l)))),(2,.pt 0 0),(5,.pt 1 0),(6,.n ((l.getD (1) 0).toNat)),(7,.z 0)]) (M':=[.bx 25 [.z 0,.d (.v (.slice none 0 0)),.d (.v (.slice none 0 0))],.bx 25 [.n ((l.getD (0) 0).toNat),.d (.v (.slice none 0 0)),.d (.v (.slice none 0 0))]]) mo tq hK ak [(2,[(1,.z (((l.length:Nat):Int))),(2,.b false)]),(4,[(1,.ix (0) [.v (.int .u8 ((((l.getD (0) 0).toNat:Nat):Int)))]),(3,.z ((((l.getD (0) 0).toNat:Nat):Int)))]),(5,[(1,.ix (1) [.v (.int .u8 ((((l.getD (1) 0).toNat:Nat):Int)))]),(3,.z ((((l.getD (1) 0).toNat:Nat):Int)))]),(6,[(1,.n2 (0) (2))])] 2000 [0,1] [0,2,5,6,7] r (by kernel_rfl) (U aE (U h0 (U (rfl:(0)=((0:Nat):Int)) (U (oV (by omega):(ae l)[0]?=some [.v (.int .u8 ((((l.getD (0) 0).toNat:Nat):Int)))]) (U ((fV _):IntKind.i64.wrap ((((l.getD (0) 0).toNat:Nat):Int))=(((l.getD (0) 0).toNat:Nat):Int)) (U (rfl:(1)=((1:Nat):Int)) (U (oV (by omega):(ae l)[1]?=some [.v (.int .u8 ((((l.getD (1) 0).toNat:Nat):Int)))]) (U ((fV _):IntKind.i64.wrap ((((l.getD (1) 0).toNat:Nat):Int))=(((l.getD (1) 0).toNat:Nat):Int)) (U (rfl:(2:Int)=((2:Nat):Int)) (U ((by first | (simp [ae];done) | (simp [ae];omega)):(2)≤(ae l).length) trivial)))))))))) fun ac wd r=>?_
  refine aC.rounds (Φ:=fun (i:Nat) ac wd=>(i≤gN l∧2+2*i≤l.length)∧RB D w0 K 89 bs [(0,.d (.ro 1 (ae (l.drop (2+2*i))))),(2,.pt 0 0),(5,.pt 1 0),(6,.n (gN l)),(7,.n i)] [.bx 25 [.z 0,.d (.v (.slice none 0 0)),.d (.v (.slice none 0 0))],.bx 25 [.z (gV l 0),.sl 2 (i),.d (.v (.slice none 0 0))],.rw 60 2 (ah (gL l i))] ac wd) (gN l) ?_ (Nat.zero_le _) ⟨⟨Nat.zero_le _,by omega⟩,(r.de (E1:=[(0,.d (.ro 1 (List.drop (2) (ae l)))),(2,.pt 0 0),(5,.pt 1 0),(6,.n ((l.getD (1) 0).toNat)),(7,.z 0)]) (M2:=[.bx 25 [.z 0,.d (.v (.slice none 0 0)),.d (.v (.slice none 0 0))],.bx 25 [.n ((l.getD (0) 0).toNat),.sl 2 (0),.d (.v (.slice none 0 0))],.rw 60 2 ([])]) (M1:=[.bx 25 [.z 0,.d (.v (.slice none 0 0)),.d (.v (.slice none 0 0))],.bx 25 [.n ((l.getD (0) 0).toNat),.d (.v (.slice none 0 0)),.d (.v (.slice none 0 0))]]) [] [(1,1,60,2)] (by kernel_rfl) (by kernel_rfl)).cast (by rw [← nk]<;>rfl) rfl⟩
  clear r
  rintro i dI bH ac wd ⟨ao,r⟩
  have y8:=kF l
  have za:=ao.2
  cases h1:(decide ((((i:Nat):Int):Int)<((gN l:Nat):Int))) with
  | false=>
   have bF:=of_decide_eq_false h1
   have aZ:=((by first | rfl | (simp [ae];done) | (simp [ae];omega)):(((ae (l.drop (2+2*i))).length:Nat):Int)=(((l.length-(2+2*i)):Nat):Int))
   cases h2:(decide (((((l.length-(2+2*i)):Nat):Int):Int)<1)) with
   | false=>
    have cW:=of_decide_eq_false h2
    have cd:=((wi (by omega)):IntKind.i64.wrap (((((l.length-(2+2*i)):Nat):Int):Int)-1)=(((l.length-(2+2*i))-1:Nat):Int))
    have c7:=(qy (by omega):(ae (l.drop (2+2*i)))[0]?=some [.v (.int .u8 ((((l.getD (2+2*i) 0).toNat:Nat):Int)))])
    have e7:=((fV _):IntKind.i64.wrap ((((l.getD (2+2*i) 0).toNat:Nat):Int))=(((l.getD (2+2*i) 0).toNat:Nat):Int))
    cases h3:(decide (((((l.length-(2+2*i))-1:Nat):Int):Int)<(((l.getD (2+2*i) 0).toNat:Nat):Int))) with
    | false=>
     have di:=of_decide_eq_false h3
     exact absurd di (by have e:i=gN l:=(by omega);subst e;(try unfold gE gM at *);omega)
    | true=>
     have di:=of_decide_eq_true h3
     refine aQ (y:=.tu [.ag [.z (gV l 0),.sl 0 (i),.d (.v (.slice none 0 0))],.d (.v (.slice none 0 0)),.d (.v (.bool false))]) (N':=[.rw 60 2 (ah (gL l i))]) ((by rw [show i=gN l by omega])) ((by rw [show i=gN l by omega])) ?_
     exact aP mo tq hK rfl ak [(8,[(2,.b false)]),(14,[(1,.z ((((l.length-(2+2*i)):Nat):Int))),(2,.b false),(5,.z ((((l.length-(2+2*i)):Nat):Int))),(6,.z ((((l.length-(2+2*i))-1:Nat):Int))),(8,.ix (0) [.v (.int .u8 ((((l.getD (2+2*i) 0).toNat:Nat):Int)))]),(10,.z ((((l.getD (2+2*i) 0).toNat:Nat):Int))),(11,.b true)])] 2000 [2] r (by kernel_rfl) (U h1 (U aZ (U h2 (U aZ (U cd (U (rfl:(0)=((0:Nat):Int)) (U c7 (U e7 (U h3 trivial)))))))))
   | true=>
    have cW:=of_decide_eq_true h2
    refine aQ (y:=.tu [.ag [.z (gV l 0),.sl 0 (i),.d (.v (.slice none 0 0))],.d (.v (.slice none 0 0)),.d (.v (.bool false))]) (N':=[.rw 60 2 (ah (gL l i))]) ((by rw [show i=gN l by omega])) ((by rw [show i=gN l by omega])) ?_
    exact aP mo tq hK rfl ak [(8,[(2,.b false)]),(14,[(1,.z ((((l.length-(2+2*i)):Nat):Int))),(2,.b true)])] 2000 [2] r (by kernel_rfl) (U h1 (U aZ (U h2 trivial)))
  | true=>
   have bF:=of_decide_eq_true h1
   have fO:=((by first | rfl | (simp [ae];done) | (simp [ae];omega)):(((ae (l.drop (2+2*i))).length:Nat):Int)=(((l.length-(2+2*i)):Nat):Int))
   cases h4:(decide (((((l.length-(2+2*i)):Nat):Int):Int)<2)) with
   | false=>
    have dD:=of_decide_eq_false h4
    exact bT (todo':=hd Tryz.f37 0) (E':=[(0,.d (.ro 1 (List.drop (2) (ae (l.drop (2+2*i)))))),(2,.pt 0 0),(5,.pt 1 0),(6,.n (gN l)),(7,.n (i+1))]) (M':=[.bx 25 [.z 0,.d (.v (.slice none 0 0)),.d (.v (.slice none 0 0))],.bx 25 [.z (gV l 0),.sl 2 (i+(1)),.d (.v (.slice none 0 0))],.rw 60 2 (ah (gL l i)++[[.n ((l.getD (2+2*i) 0).toNat),.n ((l.getD (2+2*i+1) 0).toNat)]])]) mo tq hK ak [(8,[(2,.b true)]),(9,[(1,.z (((i+1:Nat):Int)))]),(10,[(1,.z ((((l.length-(2+2*i)):Nat):Int))),(2,.b false)]),(12,[(3,.ix (0) [.v (.int .u8 ((((l.getD (2+2*i) 0).toNat:Nat):Int)))]),(5,.z ((((l.getD (2+2*i) 0).toNat:Nat):Int))),(7,.ix (1) [.v (.int .u8 ((((l.getD (2+2*i+1) 0).toNat:Nat):Int)))]),(9,.z ((((l.getD (2+2*i+1) 0).toNat:Nat):Int)))]),(13,[(1,.n2 (0) (2))])] 2000 [0,1,2] [0,2,5,6,7] r (by kernel_rfl) (U h1 (U fO (U h4 (U (rfl:(0)=((0:Nat):Int)) (U (qy (by omega):(ae (l.drop (2+2*i)))[0]?=some [.v (.int .u8 ((((l.getD (2+2*i) 0).toNat:Nat):Int)))]) (U ((fV _):IntKind.i64.wrap ((((l.getD (2+2*i) 0).toNat:Nat):Int))=(((l.getD (2+2*i) 0).toNat:Nat):Int)) (U (rfl:(1)=((1:Nat):Int)) (U (o8 (by omega):(ae (l.drop (2+2*i)))[1]?=some [.v (.int .u8 ((((l.getD (2+2*i+1) 0).toNat:Nat):Int)))]) (U ((fV _):IntKind.i64.wrap ((((l.getD (2+2*i+1) 0).toNat:Nat):Int))=(((l.getD (2+2*i+1) 0).toNat:Nat):Int)) (U ((by first | rfl | (simp [ah,ints,a7,a8];done) | (simp [ah,ints,a7,a8];omega)):(i)=(ah (gL l i):List (List DV)).length) (U ((by first | rfl | (simp [ah,ints,a7,a8];done) | (simp [ah,ints,a7,a8];omega)):(1)=([[.n ((l.getD (2+2*i) 0).toNat),.n ((l.getD (2+2*i+1) 0).toNat)]]:List (List DV)).length) (U ((by first | omega | (simp [ah,ints,a7,a8];done) | (simp [ah,ints,a7,a8];omega)):(2*((i)+(1))+192)*16≤281474976710656) (U ((by first | omega | (simp [ah,ints,a7,a8];done) | (simp [ah,ints,a7,a8];omega)):(i)+(1)<4611686018427387904) (U ((by simp [bd,AV.one,bW,ae,ah,ints,steps,strs]):bd ([[.n ((l.getD (2+2*i) 0).toNat),.n ((l.getD (2+2*i+1) 0).toNat)]])) (U (rfl:(2:Int)=((2:Nat):Int)) (U ((by first | (simp [ae];done) | (simp [ae];omega)):(2)≤(ae (l.drop (2+2*i))).length) (U ((wi (by omega)):IntKind.i64.wrap ((((i:Nat):Int):Int)+1)=((i+1:Nat):Int)) trivial))))))))))))))))) fun ac wd r=>bH (by omega) ac wd ⟨⟨by omega,by omega⟩,r.cast (by rw [qq,show 2+2*(i+1)=2+2*i+2 from by omega]) (by rw [sy];simp [ah,gV])⟩
   | true=>
    have dD:=of_decide_eq_true h4
    exact absurd dD (by (try unfold gE gM at *);omega)
 | true=>
  have aK:=of_decide_eq_true h0
  exact absurd aK (by (try unfold gE gM at *);omega)
set_option maxRecDepth 100000 in
theorem Cs (l:List UInt8) (h2:gE l≤l.length) (hl:l.length≤1048576):aq Tryz.prog 37 [.d (.ro 1 (ae l))] [] (.tu [.ag [.z (gV l 0),.sl 0 (gN l),.sl 1 (gM l)],.d (.ro 1 (ae (l.drop (gE l)))),.d (.v (.bool (bI (gC l))))]) ([.rw 60 2 (ah (gL l (gN l))),.rw 3 1 (ints (gH l (gM l)))]):=by
 refine aq.intro (by kernel_rfl) rfl rfl 89 rfl rfl fun D w0 K bs ac wd hK (ak:bs.m=0) r=>?_
 have aE:=((by first | rfl | (simp [ae];done) | (simp [ae];omega)):(((ae l).length:Nat):Int)=((l.length:Nat):Int))
 cases h0:(decide ((((l.length:Nat):Int):Int)<2)) with
 | false=>
  have aK:=of_decide_eq_false h0
  refine bT (todo':=hd Tryz.f37 0) (E':=[(0,.d (.ro 1 (List.drop (2) (ae l)))),(2,.pt 0 0),(5,.pt 1 0),(6,.n ((l.getD (1) 0).toNat)),(7,.z 0)]) (M':=[.bx 25 [.z 0,.d (.v (.slice none 0 0)),.d (.v (.slice none 0 0))],.bx 25 [.n ((l.getD (0) 0).toNat),.d (.v (.slice none 0 0)),.d (.v (.slice none 0 0))]]) mo tq hK ak [(2,[(1,.z (((l.length:Nat):Int))),(2,.b false)]),(4,[(1,.ix (0) [.v (.int .u8 ((((l.getD (0) 0).toNat:Nat):Int)))]),(3,.z ((((l.getD (0) 0).toNat:Nat):Int)))]),(5,[(1,.ix (1) [.v (.int .u8 ((((l.getD (1) 0).toNat:Nat):Int)))]),(3,.z ((((l.getD (1) 0).toNat:Nat):Int)))]),(6,[(1,.n2 (0) (2))])] 2000 [0,1] [0,2,5,6,7] r (by kernel_rfl) (U aE (U h0 (U (rfl:(0)=((0:Nat):Int)) (U (oV (by omega):(ae l)[0]?=some [.v (.int .u8 ((((l.getD (0) 0).toNat:Nat):Int)))]) (U ((fV _):IntKind.i64.wrap ((((l.getD (0) 0).toNat:Nat):Int))=(((l.getD (0) 0).toNat:Nat):Int)) (U (rfl:(1)=((1:Nat):Int)) (U (oV (by omega):(ae l)[1]?=some [.v (.int .u8 ((((l.getD (1) 0).toNat:Nat):Int)))]) (U ((fV _):IntKind.i64.wrap ((((l.getD (1) 0).toNat:Nat):Int))=(((l.getD (1) 0).toNat:Nat):Int)) (U (rfl:(2:Int)=((2:Nat):Int)) (U ((by first | (simp [ae];done) | (simp [ae];omega)):(2)≤(ae l).length) trivial)))))))))) fun ac wd r=>?_
  refine aC.rounds (Φ:=fun (i:Nat) ac wd=>(i≤gN l∧2+2*i≤l.length)∧RB D w0 K 89 bs [(0,.d (.ro 1 (ae (l.drop (2+2*i))))),(2,.pt 0 0),(5,.pt 1 0),(6,.n (gN l)),(7,.n i)] [.bx 25 [.z 0,.d (.v (.slice none 0 0)),.d (.v (.slice none 0 0))],.bx 25 [.z (gV l 0),.sl 2 (i),.d (.v (.slice none 0 0))],.rw 60 2 (ah (gL l i))] ac wd) (gN l) ?_ (Nat.zero_le _) ⟨⟨Nat.zero_le _,by omega⟩,(r.de (E1:=[(0,.d (.ro 1 (List.drop (2) (ae l)))),(2,.pt 0 0),(5,.pt 1 0),(6,.n ((l.getD (1) 0).toNat)),(7,.z 0)]) (M2:=[.bx 25 [.z 0,.d (.v (.slice none 0 0)),.d (.v (.slice none 0 0))],.bx 25 [.n ((l.getD (0) 0).toNat),.sl 2 (0),.d (.v (.slice none 0 0))],.rw 60 2 ([])]) (M1:=[.bx 25 [.z 0,.d (.v (.slice none 0 0)),.d (.v (.slice none 0 0))],.bx 25 [.n ((l.getD (0) 0).toNat),.d (.v (.slice none 0 0)),.d (.v (.slice none 0 0))]]) [] [(1,1,60,2)] (by kernel_rfl) (by kernel_rfl)).cast (by rw [← nk]<;>rfl) rfl⟩
  clear r
  rintro i dI bH ac wd ⟨ao,r⟩
  have y8:=kF l
  have za:=ao.2
  cases h1:(decide ((((i:Nat):Int):Int)<((gN l:Nat):Int))) with
  | false=>
   have bF:=of_decide_eq_false h1
   have aZ:=((by first | rfl | (simp [ae];done) | (simp [ae];omega)):(((ae (l.drop (2+2*i))).length:Nat):Int)=(((l.length-(2+2*i)):Nat):Int))
   cases h2:(decide (((((l.length-(2+2*i)):Nat):Int):Int)<1)) with
   | false=>
    have cW:=of_decide_eq_false h2
    have cd:=((wi (by omega)):IntKind.i64.wrap (((((l.length-(2+2*i)):Nat):Int):Int)-1)=(((l.length-(2+2*i))-1:Nat):Int))
    have c7:=(qy (by omega):(ae (l.drop (2+2*i)))[0]?=some [.v (.int .u8 ((((l.getD (2+2*i) 0).toNat:Nat):Int)))])
    have e7:=((fV _):IntKind.i64.wrap ((((l.getD (2+2*i) 0).toNat:Nat):Int))=(((l.getD (2+2*i) 0).toNat:Nat):Int))
    cases h3:(decide (((((l.length-(2+2*i))-1:Nat):Int):Int)<(((l.getD (2+2*i) 0).toNat:Nat):Int))) with
    | false=>
     have di:=of_decide_eq_false h3
     refine bT (todo':=hd Tryz.f37 1) (E':=[(0,.d (.ro 1 (ae (l.drop (2+2*i))))),(2,.pt 0 0),(5,.pt 1 0),(6,.n ((l.getD (2+2*i) 0).toNat)),(8,.z 1)]) (M':=[.bx 25 [.z 0,.d (.v (.slice none 0 0)),.d (.v (.slice none 0 0))],.bx 25 [.z (gV l 0),.sl 2 (i),.d (.v (.slice none 0 0))],.rw 60 2 (ah (gL l i))]) mo tq hK ak [(8,[(2,.b false)]),(14,[(1,.z ((((l.length-(2+2*i)):Nat):Int))),(2,.b false),(5,.z ((((l.length-(2+2*i)):Nat):Int))),(6,.z ((((l.length-(2+2*i))-1:Nat):Int))),(8,.ix (0) [.v (.int .u8 ((((l.getD (2+2*i) 0).toNat:Nat):Int)))]),(10,.z ((((l.getD (2+2*i) 0).toNat:Nat):Int))),(11,.b false)]),(16,[(1,.ix (0) [.v (.int .u8 ((((l.getD (2+2*i) 0).toNat:Nat):Int)))]),(3,.z ((((l.getD (2+2*i) 0).toNat:Nat):Int)))])] 2000 [0,1,2] [0,2,5,6,8] r (by kernel_rfl) (U h1 (U aZ (U h2 (U aZ (U cd (U (rfl:(0)=((0:Nat):Int)) (U c7 (U e7 (U h3 (U (rfl:(0)=((0:Nat):Int)) (U c7 (U e7 trivial)))))))))))) fun ac wd r=>?_
     refine aC.rounds (Φ:=fun (i:Nat) ac wd=>(i≤gM l)∧RB D w0 K 89 bs [(0,.d (.ro 1 (ae (l.drop (2+2*gN l))))),(2,.pt 0 0),(5,.pt 1 0),(6,.n (gM l)),(8,.n (i+1))] [.bx 25 [.z 0,.d (.v (.slice none 0 0)),.d (.v (.slice none 0 0))],.bx 25 [.z (gV l 0),.sl 2 ((gN l)),.sl 3 (i)],.rw 60 2 (ah (gL l (gN l))),.rw 3 1 (ints (gH l i))] ac wd) (gM l) ?_ (Nat.zero_le _) ⟨(Nat.zero_le _),(r.de (E1:=[(0,.d (.ro 1 (ae (l.drop (2+2*i))))),(2,.pt 0 0),(5,.pt 1 0),(6,.n ((l.getD (2+2*i) 0).toNat)),(8,.z 1)]) (M2:=[.bx 25 [.z 0,.d (.v (.slice none 0 0)),.d (.v (.slice none 0 0))],.bx 25 [.z (gV l 0),.sl 2 (i),.sl 3 (0)],.rw 60 2 (ah (gL l i)),.rw 3 1 ([])]) (M1:=[.bx 25 [.z 0,.d (.v (.slice none 0 0)),.d (.v (.slice none 0 0))],.bx 25 [.z (gV l 0),.sl 2 (i),.d (.v (.slice none 0 0))],.rw 60 2 (ah (gL l i))]) [] [(1,2,3,1)] (by kernel_rfl) (by kernel_rfl)).cast (by rw [show i=gN l from by omega]<;>rfl) (by rw [show i=gN l from by omega]<;>rfl)⟩
     clear r
     rintro i lV fG ac wd ⟨dt,r⟩
     have Od:=mB l
     have Oh:gE l=2+2*gN l+1+gM l:=rfl
     cases h4:(decide ((((i+1:Nat):Int):Int)≤((gM l:Nat):Int))) with
     | false=>
      have dD:=of_decide_eq_false h4
      have fO:=((wi (by omega)):IntKind.i64.wrap ((((gM l:Nat):Int):Int)+1)=((gM l+1:Nat):Int))
      have ey:=((by first | (simp [ae];done) | (simp [ae];omega)):(gM l+1)≤(ae (l.drop (2+2*gN l))).length)
      cases h5:(bI (gC l)) with
      | false=>
       refine aQ (y:=.tu [.ag [.z (gV l 0),.sl 0 ((gN l)),.sl 1 (i)],.d (.ro 1 (List.drop (gM l+1) (ae (l.drop (2+2*gN l))))),.d (.v (.bool false))]) (N':=[.rw 60 2 (ah (gL l (gN l))),.rw 3 1 (ints (gH l i))]) ((by rw [show i=gM l by omega,qq,show 2+2*gN l+(gM l+1)=gE l by unfold gE;omega])) ((by rw [show i=gM l by omega])) ?_
       exact aP mo tq hK rfl ak [(18,[(2,.b false)]),(21,[(3,.z (((gM l+1:Nat):Int))),(4,.n2 (0) (gM l+1)),(6,.call [.ag [.z (gV l 0),.d (.ro 2 (ah (gL l (gN l)))),.d (.ro 1 (ints (gH l (gM l))))]] (.v (.bool false)))])] 2000 [2,3] r (by kernel_rfl) (U h4 (U fO (U (aA ((gM l+1:Nat):Int)) (U ey (U ((by have k:=Ay (gC l) (by show (gL l (gN l)).length≤_;rw [a7];have:=kF l;omega) (by show (gH l (gM l)).length≤_;rw [a8];have:=mB l;omega);rw [h5] at k;exact k):aB Tryz.prog 28 [.ag [.z (gV l 0),.d (.ro 2 (ah (gL l (gN l)))),.d (.ro 1 (ints (gH l (gM l))))]] (.v (.bool false))) (U ((fx _):eH (.v (.bool false))) (U (iq (.z (gV l 0))) (U (cR (2)) (U ((by first | rfl | (simp [ah,ints,a7,a8];done) | (simp [ah,ints,a7,a8];omega)):((gN l))=(ah (gL l (gN l)):List (List DV)).length) (U ((by first | exact fX _ | exact ff _ | (rw [show i=gM l by omega];exact ff _)):cb (ah (gL l (gN l)))=ah (gL l (gN l))) (U (cR (1)) (U ((by first | rfl | (simp [ah,ints,a7,a8];done) | (simp [ah,ints,a7,a8];omega)):(i)=(ints (gH l i)).length) (U ((by first | exact fX _ | exact ff _ | (rw [show i=gM l by omega];exact ff _)):cb (ints (gH l i))=ints (gH l (gM l))) trivial)))))))))))))
      | true=>
       refine aQ (y:=.tu [.ag [.z (gV l 0),.sl 0 ((gN l)),.sl 1 (i)],.d (.ro 1 (List.drop (gM l+1) (ae (l.drop (2+2*gN l))))),.d (.v (.bool true))]) (N':=[.rw 60 2 (ah (gL l (gN l))),.rw 3 1 (ints (gH l i))]) ((by rw [show i=gM l by omega,qq,show 2+2*gN l+(gM l+1)=gE l by unfold gE;omega])) ((by rw [show i=gM l by omega])) ?_
       exact aP mo tq hK rfl ak [(18,[(2,.b false)]),(21,[(3,.z (((gM l+1:Nat):Int))),(4,.n2 (0) (gM l+1)),(6,.call [.ag [.z (gV l 0),.d (.ro 2 (ah (gL l (gN l)))),.d (.ro 1 (ints (gH l (gM l))))]] (.v (.bool true)))])] 2000 [2,3] r (by kernel_rfl) (U h4 (U fO (U (aA ((gM l+1:Nat):Int)) (U ey (U ((by have k:=Ay (gC l) (by show (gL l (gN l)).length≤_;rw [a7];have:=kF l;omega) (by show (gH l (gM l)).length≤_;rw [a8];have:=mB l;omega);rw [h5] at k;exact k):aB Tryz.prog 28 [.ag [.z (gV l 0),.d (.ro 2 (ah (gL l (gN l)))),.d (.ro 1 (ints (gH l (gM l))))]] (.v (.bool true))) (U ((fx _):eH (.v (.bool true))) (U (iq (.z (gV l 0))) (U (cR (2)) (U ((by first | rfl | (simp [ah,ints,a7,a8];done) | (simp [ah,ints,a7,a8];omega)):((gN l))=(ah (gL l (gN l)):List (List DV)).length) (U ((by first | exact fX _ | exact ff _ | (rw [show i=gM l by omega];exact ff _)):cb (ah (gL l (gN l)))=ah (gL l (gN l))) (U (cR (1)) (U ((by first | rfl | (simp [ah,ints,a7,a8];done) | (simp [ah,ints,a7,a8];omega)):(i)=(ints (gH l i)).length) (U ((by first | exact fX _ | exact ff _ | (rw [show i=gM l by omega];exact ff _)):cb (ints (gH l i))=ints (gH l (gM l))) trivial)))))))))))))
     | true=>
      have dD:=of_decide_eq_true h4
      exact bT (todo':=hd Tryz.f37 1) (E':=[(0,.d (.ro 1 (ae (l.drop (2+2*gN l))))),(2,.pt 0 0),(5,.pt 1 0),(6,.n (gM l)),(8,.n (i+1+1))]) (M':=[.bx 25 [.z 0,.d (.v (.slice none 0 0)),.d (.v (.slice none 0 0))],.bx 25 [.z (gV l 0),.sl 2 ((gN l)),.sl 3 (i+(1))],.rw 60 2 (ah (gL l (gN l))),.rw 3 1 (ints (gH l i)++[[.n ((l.getD (2+2*gN l+(i+1)) 0).toNat)]])]) mo tq hK ak [(18,[(2,.b true)]),(19,[(1,.z (((i+1+1:Nat):Int)))]),(20,[(4,.ix (i+1) [.v (.int .u8 ((((l.getD (2+2*gN l+(i+1)) 0).toNat:Nat):Int)))]),(6,.z ((((l.getD (2+2*gN l+(i+1)) 0).toNat:Nat):Int)))])] 2000 [0,1,2,3] [0,2,5,6,8] r (by kernel_rfl) (U h4 (U (aA ((i+1:Nat):Int)) (U (o8 (by omega):(ae (l.drop (2+2*gN l)))[i+1]?=some [.v (.int .u8 ((((l.getD (2+2*gN l+(i+1)) 0).toNat:Nat):Int)))]) (U ((fV _):IntKind.i64.wrap ((((l.getD (2+2*gN l+(i+1)) 0).toNat:Nat):Int))=(((l.getD (2+2*gN l+(i+1)) 0).toNat:Nat):Int)) (U ((by first | rfl | (simp [ah,ints,a7,a8];done) | (simp [ah,ints,a7,a8];omega)):(i)=(ints (gH l i)).length) (U ((by first | rfl | (simp [ah,ints,a7,a8];done) | (simp [ah,ints,a7,a8];omega)):(1)=([[.n ((l.getD (2+2*gN l+(i+1)) 0).toNat)]]:List (List DV)).length) (U ((by first | omega | (simp [ah,ints,a7,a8];done) | (simp [ah,ints,a7,a8];omega)):(2*((i)+(1))+192)*8≤281474976710656) (U ((by first | omega | (simp [ah,ints,a7,a8];done) | (simp [ah,ints,a7,a8];omega)):(i)+(1)<4611686018427387904) (U ((by simp [bd,AV.one,bW,ae,ah,ints,steps,strs]):bd ([[.n ((l.getD (2+2*gN l+(i+1)) 0).toNat)]])) (U ((wi (by omega)):IntKind.i64.wrap ((((i+1:Nat):Int):Int)+1)=((i+1+1:Nat):Int)) trivial)))))))))) fun ac wd r=>fG (by omega) ac wd ⟨(by omega),r.cast rfl (by rw [Bf,show 2+2*gN l+1+i=2+2*gN l+(i+1) from by omega];simp [ints,gV])⟩
    | true=>
     have di:=of_decide_eq_true h3
     exact absurd di (by have e:i=gN l:=(by omega);subst e;(try unfold gE gM at *);omega)
   | true=>
    have cW:=of_decide_eq_true h2
    exact absurd cW (by have e:i=gN l:=(by omega);subst e;(try unfold gE gM at *);omega)
  | true=>
   have bF:=of_decide_eq_true h1
   have fP:=((by first | rfl | (simp [ae];done) | (simp [ae];omega)):(((ae (l.drop (2+2*i))).length:Nat):Int)=(((l.length-(2+2*i)):Nat):Int))
   cases h6:(decide (((((l.length-(2+2*i)):Nat):Int):Int)<2)) with
   | false=>
    have eV:=of_decide_eq_false h6
    exact bT (todo':=hd Tryz.f37 0) (E':=[(0,.d (.ro 1 (List.drop (2) (ae (l.drop (2+2*i)))))),(2,.pt 0 0),(5,.pt 1 0),(6,.n (gN l)),(7,.n (i+1))]) (M':=[.bx 25 [.z 0,.d (.v (.slice none 0 0)),.d (.v (.slice none 0 0))],.bx 25 [.z (gV l 0),.sl 2 (i+(1)),.d (.v (.slice none 0 0))],.rw 60 2 (ah (gL l i)++[[.n ((l.getD (2+2*i) 0).toNat),.n ((l.getD (2+2*i+1) 0).toNat)]])]) mo tq hK ak [(8,[(2,.b true)]),(9,[(1,.z (((i+1:Nat):Int)))]),(10,[(1,.z ((((l.length-(2+2*i)):Nat):Int))),(2,.b false)]),(12,[(3,.ix (0) [.v (.int .u8 ((((l.getD (2+2*i) 0).toNat:Nat):Int)))]),(5,.z ((((l.getD (2+2*i) 0).toNat:Nat):Int))),(7,.ix (1) [.v (.int .u8 ((((l.getD (2+2*i+1) 0).toNat:Nat):Int)))]),(9,.z ((((l.getD (2+2*i+1) 0).toNat:Nat):Int)))]),(13,[(1,.n2 (0) (2))])] 2000 [0,1,2] [0,2,5,6,7] r (by kernel_rfl) (U h1 (U fP (U h6 (U (rfl:(0)=((0:Nat):Int)) (U (qy (by omega):(ae (l.drop (2+2*i)))[0]?=some [.v (.int .u8 ((((l.getD (2+2*i) 0).toNat:Nat):Int)))]) (U ((fV _):IntKind.i64.wrap ((((l.getD (2+2*i) 0).toNat:Nat):Int))=(((l.getD (2+2*i) 0).toNat:Nat):Int)) (U (rfl:(1)=((1:Nat):Int)) (U (o8 (by omega):(ae (l.drop (2+2*i)))[1]?=some [.v (.int .u8 ((((l.getD (2+2*i+1) 0).toNat:Nat):Int)))]) (U ((fV _):IntKind.i64.wrap ((((l.getD (2+2*i+1) 0).toNat:Nat):Int))=(((l.getD (2+2*i+1) 0).toNat:Nat):Int)) (U ((by first | rfl | (simp [ah,ints,a7,a8];done) | (simp [ah,ints,a7,a8];omega)):(i)=(ah (gL l i):List (List DV)).length) (U ((by first | rfl | (simp [ah,ints,a7,a8];done) | (simp [ah,ints,a7,a8];omega)):(1)=([[.n ((l.getD (2+2*i) 0).toNat),.n ((l.getD (2+2*i+1) 0).toNat)]]:List (List DV)).length) (U ((by first | omega | (simp [ah,ints,a7,a8];done) | (simp [ah,ints,a7,a8];omega)):(2*((i)+(1))+192)*16≤281474976710656) (U ((by first | omega | (simp [ah,ints,a7,a8];done) | (simp [ah,ints,a7,a8];omega)):(i)+(1)<4611686018427387904) (U ((by simp [bd,AV.one,bW,ae,ah,ints,steps,strs]):bd ([[.n ((l.getD (2+2*i) 0).toNat),.n ((l.getD (2+2*i+1) 0).toNat)]])) (U (rfl:(2:Int)=((2:Nat):Int)) (U ((by first | (simp [ae];done) | (simp [ae];omega)):(2)≤(ae (l.drop (2+2*i))).length) (U ((wi (by omega)):IntKind.i64.wrap ((((i:Nat):Int):Int)+1)=((i+1:Nat):Int)) trivial))))))))))))))))) fun ac wd r=>bH (by omega) ac wd ⟨⟨by omega,by omega⟩,r.cast (by rw [qq,show 2+2*(i+1)=2+2*i+2 from by omega]) (by rw [sy];simp [ah,gV])⟩
   | true=>
    have eV:=of_decide_eq_true h6
    exact absurd eV (by (try unfold gE gM at *);omega)
 | true=>
  have aK:=of_decide_eq_true h0
  exact absurd aK (by (try unfold gE gM at *);omega)
end Go.Proofs.YtcnpikbbmbombaaGreatDoor
namespace Go.Proofs.YtcnpikbbmbombaaGreatDoor
open Go.RowKit
theorem BW (b:List UInt8):(b5 b).2≤b.length:=by
 unfold b5;split
 ·exact Nat.zero_le _
 ·cases (bN b).2 with
  | true=>exact Nat.zero_le _
  | false=>exact Nat.sub_le _ _
def jT (b:List UInt8):List aM:=if h:b=[] then [] else (b5 b).1::jT (b.drop (max (b5 b).2 1))
termination_by b.length
decreasing_by
 have h2:0<b.length:=List.length_pos_iff.2 h
 simp;omega
theorem sC:jT []=[]:=by rw [jT,dif_pos rfl]
theorem AH {b:List UInt8} (h:0<b.length):jT b=(b5 b).1::jT (b.drop (max (b5 b).2 1)):=by
 rw [jT,dif_neg (List.length_pos_iff.1 h)]
structure Wi (b:List UInt8) (k:Nat) (r r':b4):Prop where
 bad:r.2=r'.2
 at':r.2=false→∃ c,c≤k∧c≤b.length∧r'.1=b.drop c∧r.1=(b.take 258).drop c
theorem Wi.mono {b:List UInt8} {k m:Nat} {r r':b4} (h:Wi b k r r') (hk:k≤m):Wi b m r r':=⟨h.bad,fun e=>by obtain ⟨c,h1,h2⟩:=h.at' e;exact ⟨c,Nat.le_trans h1 hk,h2⟩⟩
theorem Wi.dL {b:List UInt8} {k:Nat} {p:Bool} {r r' s s':b4} (h:Wi b k r r') (g:Wi b k s s'):Wi b k (cond p r s) (cond p r' s'):=by cases p;exact g;exact h
theorem mg {r:b4} {z:Int} (h:e9 r.1 r.2 z):az z r=(r.1,true)∧au r.1 r.2 z=[]:=by unfold az dJ dR au;simp only [if_pos h,and_self]
theorem BX {r:b4} {z:Int} (h:¬ e9 r.1 r.2 z):az z r=(r.1.drop z.toNat,false)∧au r.1 r.2 z=r.1.take z.toNat:=by unfold az dJ dR au;simp only [if_neg h,and_self]
theorem Wi.tk {b:List UInt8} {k n:Nat} {r r':b4} (h:Wi b k r r') (hn:k+n≤258):Wi b (k+n) (az n r) (az n r')∧au r.1 r.2 n=au r'.1 r'.2 n:=by
 obtain ⟨l,p⟩:=r
 obtain ⟨l',p'⟩:=r'
 obtain rfl:p=p':=h.bad
 cases p with
 | true=>
  obtain ⟨a1,a2⟩:=mg (r:=(l,true)) (z:=n) (.inl rfl)
  obtain ⟨b1,b2⟩:=mg (r:=(l',true)) (z:=n) (.inl rfl)
  rw [a1,b1,a2,b2]
  exact ⟨⟨rfl,fun e=>by cases e⟩,rfl⟩
 | false=>
  obtain ⟨c,h1,h2,h3,h4⟩:=h.at' rfl
  simp only at h3 h4
  subst h3 h4
  have hlen:((b.take 258).drop c).length=min 258 b.length-c:=by simp
  by_cases hc:e9 (b.drop c) false n
  ·have lK:e9 ((b.take 258).drop c) false n:=by
    rcases hc with e | e | e
    ·cases e
    ·omega
    ·rw [List.length_drop] at e
     refine .inr (.inr ?_);rw [hlen];omega
   obtain ⟨a1,a2⟩:=mg (r:=((b.take 258).drop c,false)) lK
   obtain ⟨b1,b2⟩:=mg (r:=(b.drop c,false)) hc
   rw [a1,b1,a2,b2]
   exact ⟨⟨rfl,fun e=>by cases e⟩,rfl⟩
  ·have yW:c+n≤b.length:=by
    rcases Nat.lt_or_ge b.length (c+n) with e | e
    ·exact absurd (.inr (.inr (by rw [List.length_drop];omega))) hc
    ·exact e
   have lK:¬ e9 ((b.take 258).drop c) false n:=by
    rintro (e | e | e)
    ·cases e
    ·omega
    ·rw [hlen] at e;omega
   obtain ⟨a1,a2⟩:=BX (r:=((b.take 258).drop c,false)) lK
   obtain ⟨b1,b2⟩:=BX (r:=(b.drop c,false)) hc
   rw [a1,b1,a2,b2]
   simp only [Int.toNat_natCast,List.drop_drop]
   refine ⟨⟨rfl,fun _=>⟨c+n,by omega,yW,rfl,rfl⟩⟩,?_⟩
   rw [List.drop_take,List.take_take,Nat.min_eq_left (by omega)]
theorem Ab:∀ (l:List UInt8) (n m:Nat),11≤n+m→ct (l.take m) n=ct l n
 | [],n,m,_=>by rw [List.take_nil]
 | c::r,n,0,h=>by rw [List.take_zero];exact (u2 (by omega)).symm
 | c::r,n,m+1,h=>by
  rw [List.take_succ_cons];unfold ct
  rw [Ab r (n+1) m (by omega)]
theorem Wi.u {b:List UInt8} {k:Nat} {r r':b4} (h:Wi b k r r') (hk:k+11≤258):Wi b (k+10) (rU r) (rU r')∧vU r=vU r':=by
 have e1:=s8 r
 have e2:=s8 r'
 rw [← e1.1,← e2.1,← e1.2,← e2.2]
 unfold dU
 by_cases hb:r.2=true
 ·obtain ⟨a1,a2⟩:=mg (r:=r) (z:=dG r) (.inl hb)
  obtain ⟨b1,b2⟩:=mg (r:=r') (z:=dG r') (.inl (h.bad▸hb))
  rw [a1,b1,a2,b2]
  exact ⟨⟨rfl,fun e=>by cases e⟩,rfl⟩
 ·have hf:r.2=false:=by simpa using hb
  obtain ⟨c,h1,h2,h3,h4⟩:=h.at' hf
  have hg:ct r.1 1=ct r'.1 1:=by rw [h3,h4,List.drop_take];exact Ab _ _ _ (by omega)
  have hd:dG r=dG r':=by unfold dG;rw [hg]
  rw [hd]
  by_cases h0:ct r'.1 1=0
  ·have e:dG r' = -1:=by unfold dG;rw [if_pos h0]
   rw [e]
   obtain ⟨a1,a2⟩:=mg (r:=r) (z := -1) (.inr (.inl (by decide)))
   obtain ⟨b1,b2⟩:=mg (r:=r') (z := -1) (.inr (.inl (by decide)))
   rw [a1,b1,a2,b2]
   exact ⟨⟨rfl,fun e=>by cases e⟩,rfl⟩
  ·have e:dG r'=((ct r'.1 1:Nat):Int):=by unfold dG;rw [if_neg h0]
   have cX:=(qp r'.1 1 (by decide) h0).2.1
   rw [e]
   obtain ⟨q1,q2⟩:=h.tk (n:=ct r'.1 1) (by omega)
   exact ⟨q1.mono (by omega),by rw [q2]⟩
theorem Wi.v8 {b:List UInt8} {k:Nat} {r r':b4} (h:Wi b k r r') (hk:k+1≤258):v8 r=v8 r':=by
 have:=(h.tk (n:=1) hk).2
 unfold _root_.Go.Proofs.YtcnpikbbmbombaaGreatDoor.v8
 rw [show au r.1 r.2 1=au r'.1 r'.2 1 from this]
theorem Wi.eA {b:List UInt8} {k:Nat} {r r':b4} (h:Wi b k r r') (hk:k+2≤258):eA r=eA r':=by
 have:=(h.tk (n:=2) hk).2
 unfold _root_.Go.Proofs.YtcnpikbbmbombaaGreatDoor.eA
 rw [show au r.1 r.2 2=au r'.1 r'.2 2 from this]
theorem EW:∀ {k:Nat},k<14→(af k).body=true→(af k).peer=false∧(af k).n=false∧(af k).bit=false∧(af k).inc=false:=fun h=>mi (p:=fun k=>(af k).body=true→(af k).peer=false∧(af k).n=false∧(af k).bit=false∧(af k).inc=false) (by decide) (by decide) (by decide) (by decide) (by decide) (by decide) (by decide) (by decide) (by decide) (by decide) (by decide) (by decide) (by decide) (by decide) h
theorem Hs (b:List UInt8) (hk:gK b<14):gK (b.take 258)=gK b∧er (b.take 258)=er b∧Wi b 258 (bN (b.take 258)) (bN b):=by
 have s0:Wi b 0 (b.take 258,false) (b,false):=⟨rfl,fun _=>⟨0,Nat.le_refl _,Nat.zero_le _,rfl,rfl⟩⟩
 have ek:gK (b.take 258)=gK b:=s0.v8 (by decide)
 have w0:Wi b 1 (bG (b.take 258)) (bG b):=(s0.tk (n:=1) (by decide)).1
 have w1:Wi b 2 (cz (b.take 258)) (cz b):=by unfold cz;rw [ek];exact ((w0.tk (n:=1) (by decide)).1).dL (w0.mono (by decide))
 have w2:Wi b 3 (cu (b.take 258)) (cu b):=by unfold cu;rw [ek];exact ((w1.tk (n:=1) (by decide)).1).dL (w1.mono (by decide))
 have w3:Wi b 4 (cv (b.take 258)) (cv b):=by unfold cv;rw [ek];exact ((w2.tk (n:=1) (by decide)).1).dL (w2.mono (by decide))
 have w4:Wi b 6 (cH (b.take 258)) (cH b):=by unfold cH;rw [ek];exact ((w3.tk (n:=2) (by decide)).1).dL (w3.mono (by decide))
 have w5:Wi b 16 (aU (b.take 258)) (aU b):=by unfold aU;rw [ek];exact ((w4.u (by decide)).1).dL (w4.mono (by decide))
 have v1:cg (b.take 258)=cg b:=by unfold cg;rw [ek,w0.v8 (by decide)]
 have v2:cF (b.take 258)=cF b:=by unfold cF;rw [ek,w1.v8 (by decide)]
 have v3:cS (b.take 258)=cS b:=by unfold cS;rw [ek,w2.v8 (by decide)]
 have v4:dc (b.take 258)=dc b:=by unfold dc;rw [ek,w3.eA (by decide)]
 have v5:dK (b.take 258)=dK b:=by unfold dK;rw [ek,(w4.u (by decide)).2]
 have key:Wi b 258 (bN (b.take 258)) (bN b)∧dx (b.take 258)=dx b:=by
  unfold bN dx;rw [ek]
  cases hb:(af (gK b)).body with
  | false=>exact ⟨w5.mono (by decide),rfl⟩
  | true=>
   obtain ⟨p1,p2,p3,p4⟩:=EW hk hb
   have DK:Wi b 2 (aU (b.take 258)) (aU b):=by unfold aU cH cv cu;rw [ek,p1,p2,p3,p4];exact w1
   have e8:=DK.v8 (by decide)
   have w6:=(DK.tk (n:=1) (by decide)).1
   have hv:=xC (aU b)
   obtain ⟨w7,x7⟩:=w6.tk (n:=v8 (aU b)) (by omega)
   show Wi b 258 (az _ _) (az _ _)∧au _ _ _=au _ _ _
   rw [e8]
   exact ⟨w7.mono (by omega),x7⟩
 exact ⟨ek,by unfold er;rw [ek,v1,v2,v3,v4,v5,key.2],key.1⟩
theorem IV (b:List UInt8):gK (b.take 258)=gK b:=by
 have s0:Wi b 0 (b.take 258,false) (b,false):=⟨rfl,fun _=>⟨0,Nat.le_refl _,Nat.zero_le _,rfl,rfl⟩⟩
 exact s0.v8 (by decide)
theorem IW (b:List UInt8):(bo (b.take 258)).1=(b5 b).1∧(bo (b.take 258)).2=max (b5 b).2 1:=by
 rcases Nat.lt_or_ge (gK b) 14 with hk | hk
 ·obtain ⟨e1,e2,e3⟩:=Hs b hk
  cases hb:(bN b).2 with
  | true=>rw [vD (by omega) (by rw [e3.bad,hb]),vG hk hb];exact ⟨rfl,rfl⟩
  | false=>
   have fN:(bN (b.take 258)).2=false:=by rw [e3.bad,hb]
   obtain ⟨c,h1,h2,h3,h4⟩:=e3.at' fN
   have h5:=Bg (Cp hb)
   have h6:=Bh b
   rw [vE (by omega) fN,vH hk hb]
   refine ⟨e2,?_⟩
   show (b.take 258).length-(bN (b.take 258)).1.length=max (b.length-(bN b).1.length) 1
   rw [h4,h3,List.length_drop,List.length_drop,List.length_take]
   rw [h3,List.length_drop] at h6
   omega
 ·rw [vC (by rw [IV];exact hk),vF hk];exact ⟨rfl,rfl⟩
theorem BY (b:List UInt8):jT b=cZ b:=by
 have key:∀ (n:Nat) (b:List UInt8),b.length≤n→jT b=cZ b:=by
  intro n
  induction n with
  | zero=>intro b h;obtain rfl:b=[]:=List.eq_nil_of_length_eq_zero (by omega);rw [sC,k5]
  | succ n ih=>
   intro b h
   rcases Nat.eq_zero_or_pos b.length with h0 | h0
   ·obtain rfl:=List.eq_nil_of_length_eq_zero h0;rw [sC,k5]
   ·obtain ⟨e1,e2⟩:=IW b
    rw [AH h0,np h0,e1,e2,ih _ (by simp;omega)]
 exact key _ b (Nat.le_refl _)
set_option maxRecDepth 100000 in
theorem AI (l:List UInt8) (hl:65536<l.length):aq Tryz.prog 16 [.d (.ro 1 (ae l))] [] (.tu [.ag [.z 0,.d (.v (.slice none 0 0)),.d (.v (.slice none 0 0))],.d (.v (.slice none 0 0)),.z 2]) ([]):=by
 refine aq.intro (by kernel_rfl) rfl rfl 42 rfl rfl fun D w0 K bs ac wd hK (ak:bs.m=0) r=>?_
 have aE:=((by first | (simp [ae];done) | (simp [ae];omega)):(((ae l).length:Nat):Int)=((l.length:Nat):Int))
 cases h0:(decide ((65536:Int)<((l.length:Nat):Int))) with
 | false=>
  have aK:=of_decide_eq_false h0
  exact absurd aK (by omega)
 | true=>
  have aK:=of_decide_eq_true h0
  refine aQ (y:=.tu [.ag [.z 0,.d (.v (.slice none 0 0)),.d (.v (.slice none 0 0))],.d (.v (.slice none 0 0)),.z 2]) (N':=[]) (rfl) (rfl) ?_
  exact aP mo tq hK rfl ak [(1,[(1,.z (((l.length:Nat):Int))),(2,.b true)])] 2000 [] r (by kernel_rfl) (U aE (U h0 trivial))
set_option maxRecDepth 100000 in
theorem IX (l:List UInt8) (hl:l.length≤65536) (k0:l.length<2):aq Tryz.prog 16 [.d (.ro 1 (ae l))] [] (.tu [.ag [.z 0,.d (.v (.slice none 0 0)),.d (.v (.slice none 0 0))],.d (.v (.slice none 0 0)),.z 3]) ([]):=by
 refine aq.intro (by kernel_rfl) rfl rfl 42 rfl rfl fun D w0 K bs ac wd hK (ak:bs.m=0) r=>?_
 have aE:=((by first | (simp [ae];done) | (simp [ae];omega)):(((ae l).length:Nat):Int)=((l.length:Nat):Int))
 cases h0:(decide ((65536:Int)<((l.length:Nat):Int))) with
 | false=>
  have aK:=of_decide_eq_false h0
  refine aQ (y:=.tu [.ag [.z 0,.d (.v (.slice none 0 0)),.d (.v (.slice none 0 0))],.d (.v (.slice none 0 0)),.z 3]) (N':=[]) (rfl) (rfl) ?_
  exact aP mo tq hK rfl ak [(1,[(1,.z (((l.length:Nat):Int))),(2,.b false)]),(3,[(1,.mem [] (.tu [.ag [.z 0,.d (.v (.slice none 0 0)),.d (.v (.slice none 0 0))],.d (.v (.slice none 0 0)),.d (.v (.bool false))]) [])])] 2000 [] r (by kernel_rfl) (U aE (U h0 (U (L0 l k0) trivial)))
 | true=>
  have aK:=of_decide_eq_true h0
  exact absurd aK (by omega)
set_option maxRecDepth 100000 in
theorem IY (l:List UInt8) (hl:l.length≤65536) (k0:2≤l.length) (k1:l.length<2+2*gN l):aq Tryz.prog 16 [.d (.ro 1 (ae l))] [] (.tu [.ag [.z 0,.d (.v (.slice none 0 0)),.d (.v (.slice none 0 0))],.d (.v (.slice none 0 0)),.z 3]) ([]):=by
 refine aq.intro (by kernel_rfl) rfl rfl 42 rfl rfl fun D w0 K bs ac wd hK (ak:bs.m=0) r=>?_
 have aE:=((by first | (simp [ae];done) | (simp [ae];omega)):(((ae l).length:Nat):Int)=((l.length:Nat):Int))
 cases h0:(decide ((65536:Int)<((l.length:Nat):Int))) with
 | false=>
  have aK:=of_decide_eq_false h0
  refine aQ (y:=.tu [.ag [.z 0,.d (.v (.slice none 0 0)),.d (.v (.slice none 0 0))],.d (.v (.slice none 0 0)),.z 3]) (N':=[]) (rfl) (rfl) ?_
  exact aP mo tq hK rfl ak [(1,[(1,.z (((l.length:Nat):Int))),(2,.b false)]),(3,[(1,.mem [] (.tu [.ag [.z (gV l 0),.sl 0 (((l.length-2) / 2)),.d (.v (.slice none 0 0))],.d (.v (.slice none 0 0)),.d (.v (.bool false))]) [.rw 60 2 (ah (gL l ((l.length-2) / 2)))])])] 2000 [] r (by kernel_rfl) (U aE (U h0 (U (L2 l k0 k1 (by omega)) trivial)))
 | true=>
  have aK:=of_decide_eq_true h0
  exact absurd aK (by omega)
set_option maxRecDepth 100000 in
theorem IZ (l:List UInt8) (hl:l.length≤65536) (k1:2+2*gN l≤l.length) (k2:l.length<gE l):aq Tryz.prog 16 [.d (.ro 1 (ae l))] [] (.tu [.ag [.z 0,.d (.v (.slice none 0 0)),.d (.v (.slice none 0 0))],.d (.v (.slice none 0 0)),.z 3]) ([]):=by
 refine aq.intro (by kernel_rfl) rfl rfl 42 rfl rfl fun D w0 K bs ac wd hK (ak:bs.m=0) r=>?_
 have aE:=((by first | (simp [ae];done) | (simp [ae];omega)):(((ae l).length:Nat):Int)=((l.length:Nat):Int))
 cases h0:(decide ((65536:Int)<((l.length:Nat):Int))) with
 | false=>
  have aK:=of_decide_eq_false h0
  refine aQ (y:=.tu [.ag [.z 0,.d (.v (.slice none 0 0)),.d (.v (.slice none 0 0))],.d (.v (.slice none 0 0)),.z 3]) (N':=[]) (rfl) (rfl) ?_
  exact aP mo tq hK rfl ak [(1,[(1,.z (((l.length:Nat):Int))),(2,.b false)]),(3,[(1,.mem [] (.tu [.ag [.z (gV l 0),.sl 0 ((gN l)),.d (.v (.slice none 0 0))],.d (.v (.slice none 0 0)),.d (.v (.bool false))]) [.rw 60 2 (ah (gL l (gN l)))])])] 2000 [] r (by kernel_rfl) (U aE (U h0 (U (L3 l k1 k2 (by omega)) trivial)))
 | true=>
  have aK:=of_decide_eq_true h0
  exact absurd aK (by omega)
set_option maxRecDepth 100000 in
theorem Bk (l:List UInt8) (hl:l.length≤65536) (hG:gE l≤l.length) (hM:bI (gC l)=false):aq Tryz.prog 16 [.d (.ro 1 (ae l))] [] (.tu [.ag [.z 0,.d (.v (.slice none 0 0)),.d (.v (.slice none 0 0))],.d (.v (.slice none 0 0)),.z 3]) ([]):=by
 refine aq.intro (by kernel_rfl) rfl rfl 42 rfl rfl fun D w0 K bs ac wd hK (ak:bs.m=0) r=>?_
 have aE:=((by first | (simp [ae];done) | (simp [ae];omega)):(((ae l).length:Nat):Int)=((l.length:Nat):Int))
 cases h0:(decide ((65536:Int)<((l.length:Nat):Int))) with
 | false=>
  have aK:=of_decide_eq_false h0
  refine aQ (y:=.tu [.ag [.z 0,.d (.v (.slice none 0 0)),.d (.v (.slice none 0 0))],.d (.v (.slice none 0 0)),.z 3]) (N':=[]) (rfl) (rfl) ?_
  exact aP mo tq hK rfl ak [(1,[(1,.z (((l.length:Nat):Int))),(2,.b false)]),(3,[(1,.mem [] (.tu [.ag [.z (gV l 0),.sl 0 ((gN l)),.sl 1 ((gM l))],.d (.ro 1 (ae (l.drop (gE l)))),.d (.v (.bool false))]) [.rw 60 2 (ah (gL l (gN l))),.rw 3 1 (ints (gH l (gM l)))])])] 2000 [] r (by kernel_rfl) (U aE (U h0 (U ((by have h:=Cs l hG (by omega);rw [hM] at h;exact h):aq Tryz.prog 37 [.d (.ro 1 (ae l))] [] (.tu [.ag [.z (gV l 0),.sl 0 ((gN l)),.sl 1 ((gM l))],.d (.ro 1 (ae (l.drop (gE l)))),.d (.v (.bool false))]) [.rw 60 2 (ah (gL l (gN l))),.rw 3 1 (ints (gH l (gM l)))]) trivial)))
 | true=>
  have aK:=of_decide_eq_true h0
  exact absurd aK (by omega)
set_option maxRecDepth 100000 in
theorem Bl (l:List UInt8) (hl:l.length≤65536) (hG:gE l≤l.length) (hM:bI (gC l)=true):aq Tryz.prog 16 [.d (.ro 1 (ae l))] [] (.tu [.ag [.z (gV l 0),.sl 0 (gN l),.sl 1 (gM l)],.sl 2 (jT (l.drop (gE l))).length,.z 0]) ([.rw 60 2 (ah (gL l (gN l))),.rw 3 1 (ints (gH l (gM l))),.rw 42 7 (aW (jT (l.drop (gE l))))]):=by
 refine aq.intro (by kernel_rfl) rfl rfl 42 rfl rfl fun D w0 K bs ac wd hK (ak:bs.m=0) r=>?_
 have aE:=((by first | (simp [ae];done) | (simp [ae];omega)):(((ae l).length:Nat):Int)=((l.length:Nat):Int))
 cases h0:(decide ((65536:Int)<((l.length:Nat):Int))) with
 | false=>
  have aK:=of_decide_eq_false h0
  refine bT (todo':=hd Tryz.f16 0) (E':=[(2,.pt 0 0),(5,.pt 1 0),(6,.d (.ro 1 (ae (l.drop (gE l))))),(8,.d (.v (.slice none 0 0)))]) (M':=[.bx 25 [.z 0,.d (.v (.slice none 0 0)),.d (.v (.slice none 0 0))],.bx 25 [.z (gV l 0),.sl 2 ((gN l)),.sl 3 ((gM l))],.rw 60 2 (ah (gL l (gN l))),.rw 3 1 (ints (gH l (gM l)))]) mo tq hK ak [(1,[(1,.z (((l.length:Nat):Int))),(2,.b false)]),(3,[(1,.mem [] (.tu [.ag [.z (gV l 0),.sl 0 ((gN l)),.sl 1 ((gM l))],.d (.ro 1 (ae (l.drop (gE l)))),.d (.v (.bool true))]) [.rw 60 2 (ah (gL l (gN l))),.rw 3 1 (ints (gH l (gM l)))])])] 2000 [0,3,1,2] [2,5,6,8] r (by kernel_rfl) (U aE (U h0 (U ((by have h:=Cs l hG (by omega);rw [hM] at h;exact h):aq Tryz.prog 37 [.d (.ro 1 (ae l))] [] (.tu [.ag [.z (gV l 0),.sl 0 ((gN l)),.sl 1 ((gM l))],.d (.ro 1 (ae (l.drop (gE l)))),.d (.v (.bool true))]) [.rw 60 2 (ah (gL l (gN l))),.rw 3 1 (ints (gH l (gM l)))]) trivial))) fun ac wd r=>?_
  refine aC.rounds (Φ:=fun (i:Nat) ac wd=>∃ a:Nat,∃ S:List aM,(i≤a∧a≤l.length∧S.length=i∧S++jT (l.drop a)=jT (l.drop (gE l)))∧RB D w0 K 42 bs [(2,.pt 0 0),(5,.pt 1 0),(6,.d (.ro 1 (ae (l.drop a)))),(8,.sl 4 (i))] [.bx 25 [.z 0,.d (.v (.slice none 0 0)),.d (.v (.slice none 0 0))],.bx 25 [.z (gV l 0),.sl 2 ((gN l)),.sl 3 ((gM l))],.rw 60 2 (ah (gL l (gN l))),.rw 3 1 (ints (gH l (gM l))),.rw 42 7 (aW S)] ac wd) (l.length) ?_ (Nat.zero_le _) ⟨(gE l),[],⟨Nat.zero_le _,hG,rfl,by simp⟩,(r.de (M1:=[.bx 25 [.z 0,.d (.v (.slice none 0 0)),.d (.v (.slice none 0 0))],.bx 25 [.z (gV l 0),.sl 2 ((gN l)),.sl 3 ((gM l))],.rw 60 2 (ah (gL l (gN l))),.rw 3 1 (ints (gH l (gM l))),.rw 42 7 []]) [(8,42,7)] [] (by kernel_rfl) (by kernel_rfl)).cast rfl rfl⟩
  clear r
  rintro i dI bH ac wd ⟨a,S,ao,r⟩
  have Oe:=ao.1
  have dP:=ao.2.1
  have dY:=ao.2.2.1
  have aZ:=((by first | (simp [ae];done) | (simp [ae];omega)):(((ae (l.drop a)).length:Nat):Int)=(((l.length-a):Nat):Int))
  cases h1:(decide ((0:Int)<(((l.length-a):Nat):Int))) with
  | false=>
   have bF:=of_decide_eq_false h1
   refine aQ (y:=.tu [.ag [.z (gV l 0),.sl 0 ((gN l)),.sl 1 ((gM l))],.sl 2 (i),.z 0]) (N':=[.rw 60 2 (ah (gL l (gN l))),.rw 3 1 (ints (gH l (gM l))),.rw 42 7 (aW S)]) ((by rw [← ao.2.2.2,List.drop_of_length_le (by omega),sC,List.append_nil,ao.2.2.1])) ((by rw [← ao.2.2.2,List.drop_of_length_le (by omega),sC,List.append_nil])) ?_
   exact aP mo tq hK rfl ak [(7,[(1,.z ((((l.length-a):Nat):Int))),(2,.b false)])] 2000 [2,3,4] r (by kernel_rfl) (U aZ (U h1 trivial))
  | true=>
   have bF:=of_decide_eq_true h1
   have y9:=AH (b:=l.drop a) (by simp;omega)
   have tS:=BW (l.drop a)
   have Ps:(l.drop a).length=l.length-a:=by simp
   exact bT (todo':=hd Tryz.f16 0) (E':=[(2,.pt 0 0),(5,.pt 1 0),(6,.d (.ro 1 (List.drop (max ((b5 (l.drop a)).2) (1)) (ae (l.drop a))))),(8,.sl 4 (i+(1)))]) (M':=[.bx 25 [.z 0,.d (.v (.slice none 0 0)),.d (.v (.slice none 0 0))],.bx 25 [.z (gV l 0),.sl 2 ((gN l)),.sl 3 ((gM l))],.rw 60 2 (ah (gL l (gN l))),.rw 3 1 (ints (gH l (gM l))),.rw 42 7 (aW S++[[.z ((b5 (l.drop a)).1.kind),.z ((b5 (l.drop a)).1.node),.z ((b5 (l.drop a)).1.peer),.z ((b5 (l.drop a)).1.n),.z ((b5 (l.drop a)).1.bit),.u ((b5 (l.drop a)).1.inc),.em 5 1 (ae (b5 (l.drop a)).1.body)]])]) mo tq hK ak [(7,[(1,.z ((((l.length-a):Nat):Int))),(2,.b true)]),(8,[(1,.mem [] (.tu [.ag [.z ((b5 (l.drop a)).1.kind),.z ((b5 (l.drop a)).1.node),.z ((b5 (l.drop a)).1.peer),.z ((b5 (l.drop a)).1.n),.z ((b5 (l.drop a)).1.bit),.u ((b5 (l.drop a)).1.inc),.sl 0 ((ae (b5 (l.drop a)).1.body).length)],.n ((b5 (l.drop a)).2)]) [.rw 5 1 (ae (b5 (l.drop a)).1.body)])]),(10,[(2,.z (((max ((b5 (l.drop a)).2) (1):Nat):Int))),(3,.n2 (0) (max ((b5 (l.drop a)).2) (1)))])] 2000 [0,1,2,3,4] [2,5,6,8] r (by kernel_rfl) (U aZ (U h1 (U (EV (l.drop a) (by simp;omega)) (U (cR ((ae (b5 (l.drop a)).1.body).length)) (U ((by first | rfl | (simp [ae,ah,ints,a7,a8,eC];done) | (simp [ae,ah,ints,a7,a8,eC];omega)):(i)=(aW S:List (List DV)).length) (U ((by first | rfl | (simp [ae,ah,ints,a7,a8,eC];done) | (simp [ae,ah,ints,a7,a8,eC];omega)):(1)=([[.z ((b5 (l.drop a)).1.kind),.z ((b5 (l.drop a)).1.node),.z ((b5 (l.drop a)).1.peer),.z ((b5 (l.drop a)).1.n),.z ((b5 (l.drop a)).1.bit),.u ((b5 (l.drop a)).1.inc),.em 5 1 (ae (b5 (l.drop a)).1.body)]]:List (List DV)).length) (U ((by first | omega | (simp [ae,ah,ints,a7,a8,eC];done) | (simp [ae,ah,ints,a7,a8,eC];omega)):(2*((i)+(1))+192)*72≤281474976710656) (U ((by first | omega | (simp [ae,ah,ints,a7,a8,eC];done) | (simp [ae,ah,ints,a7,a8,eC];omega)):(i)+(1)<4611686018427387904) (U ((by simp [bd,AV.one,bW,ae,ah,ints,steps,strs]):bd ([[.z ((b5 (l.drop a)).1.kind),.z ((b5 (l.drop a)).1.node),.z ((b5 (l.drop a)).1.peer),.z ((b5 (l.drop a)).1.n),.z ((b5 (l.drop a)).1.bit),.u ((b5 (l.drop a)).1.inc),.em 5 1 (ae (b5 (l.drop a)).1.body)]])) (U ((by omega):(max ((((b5 (l.drop a)).2:Nat):Int)) (1):Int)=((max ((b5 (l.drop a)).2) (1):Nat):Int)) (U (aA ((max ((b5 (l.drop a)).2) (1):Nat):Int)) (U ((by have:=BW (l.drop a);simp [ae] at *;omega):(max ((b5 (l.drop a)).2) (1))≤(ae (l.drop a)).length) trivial)))))))))))) fun ac wd r=>bH (by omega) ac wd ⟨(a+max (b5 (l.drop a)).2 1),(S++[(b5 (l.drop a)).1]),⟨by omega,by omega,by simp;omega,by rw [← ao.2.2.2,y9,List.drop_drop];simp⟩,r.cast (by rw [← nk,List.drop_drop]) (by simp [aW,aM.po])⟩
 | true=>
  have aK:=of_decide_eq_true h0
  exact absurd aK (by omega)
end Go.Proofs.YtcnpikbbmbombaaGreatDoor
namespace Go.Proofs.YtcnpikbbmbombaaGreatDoor
open Go.RowKit
theorem consts {K:World→Prop} {zs ys:List Value} (hl:ys.length=(zs.map fun z=>AV.d (.v z)).length) (hr:∀ (j:Nat) c y,(zs.map fun z=>AV.d (.v z))[j]?=some c→ys[j]?=some y→ax K [] c y):ys=zs:=by
 apply List.ext_getElem (by simpa using hl)
 intro j h1 h2
 have key:∀ {a b:Value},ax K [] (.d (.v a)) b→b=a:=fun h=>by cases h with | d h=>cases h;rfl
 exact key (hr j (.d (.v zs[j])) ys[j] (by rw [List.getElem?_map,List.getElem?_eq_getElem h2];rfl) (List.getElem?_eq_getElem h1))
theorem aB.qi {P:Program} {f:FuncId} (hc:iz P f=true) {zs:List Value} {v:Value} (h:∀ w,Calls P f zs.toArray w fun e w'=>e=.returned v∧Below w.heap.size w w'):aB P f (zs.map fun z=>AV.d (.v z)) (.v v):=by
 refine ⟨hc,fun w K ys _ hl hr=>?_⟩
 obtain rfl:=consts hl hr
 exact (h w).mono fun e w' ⟨he,g⟩=>⟨v,he,g,[],⟨[],[],rfl,.v _⟩,dE.nil _ _⟩
theorem I0 (l:List UInt8) (c:UInt8):aB Tryz.prog 112 [.d (.v (.string ⟨l.toArray⟩)),.d (.v (.string ⟨[c].toArray⟩))] (.z (Go.Lib.indexByte l c)):=
 aB.qi (by kernel_rfl) (zs:=[.string ⟨l.toArray⟩,.string ⟨[c].toArray⟩]) fun w=>(Tryz.strings_Index_one ⟨l.toArray⟩ c w).mono fun e w' ⟨he,hw⟩=>⟨he,hw▸Below.refl _ _⟩
theorem zq (l:List UInt8) (c:UInt8):aB Tryz.prog 102 [.d (.v (.string ⟨l.toArray⟩)),.d (.v (.int .u8 ((c.toNat:Nat):Int)))] (.z (Go.Lib.indexByte l c)):=
 aB.qi (by kernel_rfl) (zs:=[.string ⟨l.toArray⟩,.int .u8 ((c.toNat:Nat):Int)]) fun w=>(Tryz.strings_IndexByte ⟨l.toArray⟩ ((c.toNat:Nat):Int) w).mono fun e w' ⟨he,hw⟩=>⟨by rw [he];simp,hw▸Below.refl _ _⟩
theorem I5 (l:List UInt8) (c:UInt8):aB Tryz.prog 111 [.d (.v (.string ⟨l.toArray⟩)),.d (.v (.string ⟨[c].toArray⟩))] (.z (Go.Lib.countByte l c)):=
 aB.qi (by kernel_rfl) (zs:=[.string ⟨l.toArray⟩,.string ⟨[c].toArray⟩]) fun w=>(Tryz.strings_Count_one ⟨l.toArray⟩ c w).mono fun e w' ⟨he,hw⟩=>⟨he,hw▸Below.refl _ _⟩
theorem xE:qH Tryz.prog 95:=⟨_,Tryz.func95,by kernel_rfl,by kernel_rfl,by kernel_rfl,by kernel_rfl⟩
theorem M5:tx Tryz.prog 114 5:=⟨_,_,Tryz.func114,by kernel_rfl,by kernel_rfl,by kernel_rfl,by kernel_rfl,rfl,Tryz.underlying31⟩
set_option maxRecDepth 100000 in
theorem Kj (n:Nat) (hn:n≤1099511627776):aq Tryz.prog 104 [.pt 0 0,.n n] [.bx 71 [.pt 0 0,.d (.v (.slice none 0 0))]] (.tu []) ([.bx 71 [.pt 0 0,.sl 1 0],.rw 5 1 []]):=by
 refine aq.intro (by kernel_rfl) rfl rfl 30 rfl rfl fun D w0 K bs ac wd hK (ak:bs.m=1) r=>?_
 refine aQ (y:=.tu []) (N':=[.bx 71 [.pt 0 0,.sl 1 (0)],.rw 5 1 ((([]:List (List DV))).take (0)++((List.replicate (n) [.jk]).take (0)).drop (0))]) (rfl) (rfl) ?_
 exact aP mo tq hK rfl ak [(0,[(5,.z (0)),(7,.z (((n:Nat):Int))),(8,.n2 (n) 5),(14,.n (0))]),(1,[(5,.n (0))])] 2000 [0,1] r (by kernel_rfl) (U ((by decide):IntKind.i64.wrap ((2:Int)*0)=0) (U ((wi (by omega)):IntKind.i64.wrap ((0:Int)+((n:Nat):Int))=((n:Nat):Int)) (U (M5:tx Tryz.prog 114 5) (U (aA ((n:Nat):Int)) (U ((by first | omega | decide | (simp;done) | (simp;omega)):(n)≤281474976710656) (U (aA ((0:Nat):Int)) (U ((by first | omega | decide | (simp;done) | (simp;omega)):(0)≤(n)) (U ((by first | rfl | (simp;done) | (simp<;>omega)):(n)=(List.replicate (n) [.jk]:List (List DV)).length) (U ((by first | rfl | (simp;done) | (simp<;>omega)):(0)=((List.replicate (n) [.jk]).take (0):List (List DV)).length) (U (rfl:min (([]:List (List DV)):List (List DV)).length (0)=0) (U ((by simp [bd,AV.one,bW,ae,ah,ints,steps,strs]):bd (([]:List (List DV)))) trivial)))))))))))
end Go.Proofs.YtcnpikbbmbombaaGreatDoor
namespace Go.Proofs.YtcnpikbbmbombaaGreatDoor
open Go.RowKit
theorem jD:dm Tryz.prog 69:=by unfold dm;kernel_rfl
theorem Ht {n:Nat} (h0:1≤n) (h:n≤1048576):¬ (1:Int)≥((9223372036854775807 / n:Nat):Int):=by
 have:2≤9223372036854775807 / n:=by rw [Nat.le_div_iff_mul_le h0];omega
 omega
theorem M6 (a b:Nat):((a:Nat):Int).tdiv ((b:Nat):Int)=((a / b:Nat):Int):=(Int.ofNat_tdiv a b).symm
theorem M7 {n:Nat} (h:n≤1048576):IntKind.i64.wrap ((9223372036854775807:Int).tdiv ((n:Nat):Int))=((9223372036854775807 / n:Nat):Int):=by
 have e:=M6 9223372036854775807 n
 rw [show (9223372036854775807:Int)=((9223372036854775807:Nat):Int) from rfl,e]
 have h2:=Nat.div_le_self 9223372036854775807 n
 generalize 9223372036854775807 / n=q at h2 ⊢
 exact wi (by omega)
def cM (r:List (List UInt8)):List UInt8:=r.flatMap fun w=>32::w
theorem FX {r:List (List UInt8)} {i:Nat} {e:List UInt8} (h:r[i]?=some e):cM (r.take (i+1))=cM (r.take i)++[32]++e:=by
 unfold cM;rw [List.take_add_one,h];simp
theorem qj (r:List (List UInt8)):(cM r).length=r.length+r.flatten.length:=by
 unfold cM;induction r with
 | nil=>rfl
 | cons x r ih=>rw [List.flatMap_cons,List.length_append,ih];simp;omega
theorem Ac {r:List (List UInt8)} {i:Nat} {e:List UInt8} (h:r[i]?=some e):(r.take (i+1)).flatten.length=(r.take i).flatten.length+e.length:=by
 rw [List.take_add_one,h];simp
theorem sD (r:List (List UInt8)) (i:Nat):(r.take i).flatten.length≤r.flatten.length:=by
 have:=congrArg (fun q=>q.flatten.length) (List.take_append_drop i r)
 simp only [List.flatten_append,List.length_append] at this
 omega
theorem Bm (r:List (List UInt8)) (i:Nat):(cM (r.take i)).length≤(cM r).length:=by
 rw [qj,qj];have h1:=sD r i;have h2:(r.take i).length≤r.length:=by simp;omega
 omega
theorem I6 {r:List (List UInt8)} {i:Nat} (h:i≤r.length):i≤(cM (r.take i)).length:=by
 rw [qj,List.length_take];omega
set_option maxRecDepth 100000 in
theorem Hu (x:List UInt8) (q:List (List UInt8)) (hr:1≤q.length) (hl:q.length≤1000000) (hb:(x::q).flatten.length≤1073741824):aB Tryz.prog 71 [.d (.ro 1 (strs (x::q))),.d (.v (.string ⟨([32]).toArray⟩))] (.v (.string ⟨(x++cM q).toArray⟩)):=by
 refine aB.intro (by kernel_rfl) rfl rfl 75 rfl rfl fun w0 K ac hK r=>?_
 have aE:=((by first | rfl | (simp [strs];done) | (simp [strs];omega)):(((strs (x::q)).length:Nat):Int)=(((q.length+1):Nat):Int))
 cases h0:(((((q.length+1):Nat):Int):Int)==0) with
 | false=>
  have aK:=ne_of_beq_false h0
  cases h1:(((((q.length+1):Nat):Int):Int)==1) with
  | false=>
   have bF:=ne_of_beq_false h1
   have aZ:=((by first | rfl | (simp [strs];done) | (simp [strs];omega)):((([32]:List UInt8).length:Nat):Int)=1)
   have cd:=((wi (by omega)):IntKind.i64.wrap (((((q.length+1):Nat):Int):Int)-1)=((q.length:Nat):Int))
   have c7:=((M7 (by omega)):IntKind.i64.wrap ((9223372036854775807:Int).tdiv ((q.length:Nat):Int))=((9223372036854775807 / q.length:Nat):Int))
   cases h2:(decide ((((9223372036854775807 / q.length:Nat):Int):Int)≤1)) with
   | false=>
    have cW:=of_decide_eq_false h2
    refine cy (todo':=hd Tryz.f71 0) (E':=[(0,.d (.ro 1 (strs (x::q)))),(1,.d (.v (.string ⟨([32]).toArray⟩))),(5,.n (q.length+((x::q).take 0).flatten.length)),(39,.d (.ro 1 (strs (x::q)))),(40,.n ((q.length+1))),(41,.n 0)]) (M':=[]) mo tq hK [(1,[(1,.z ((((q.length+1):Nat):Int)))]),(2,[(0,.b false)]),(4,[(0,.b false)]),(7,[(1,.z (1))]),(8,[(1,.z (1)),(3,.z ((((q.length+1):Nat):Int))),(4,.z (((q.length:Nat):Int))),(5,.z (((9223372036854775807 / q.length:Nat):Int))),(6,.b false)]),(10,[(2,.z (1)),(4,.z ((((q.length+1):Nat):Int))),(5,.z (((q.length:Nat):Int))),(6,.z (((q.length:Nat):Int))),(7,.z (((q.length:Nat):Int)))]),(11,[(1,.z ((((q.length+1):Nat):Int)))])] 2000 [] [0,1,5,39,40,41] r (by kernel_rfl) (U aE (U h0 (U h1 (U aZ (U aZ (U aE (U cd (U c7 (U ((by omega):(((q.length:Nat):Int):Int)≠0) (U h2 (U aZ (U aE (U cd (U ((wi (by omega)):IntKind.i64.wrap ((1:Int)*((q.length:Nat):Int))=((q.length:Nat):Int)) (U ((wi (by omega)):IntKind.i64.wrap ((0:Int)+((q.length:Nat):Int))=((q.length:Nat):Int)) (U aE trivial)))))))))))))))) fun ac wd r=>?_
    refine aC.rounds (Φ:=fun (i:Nat) ac wd=>(i≤q.length+1)∧du [] w0 K 75 [(0,.d (.ro 1 (strs (x::q)))),(1,.d (.v (.string ⟨([32]).toArray⟩))),(5,.n (q.length+((x::q).take i).flatten.length)),(39,.d (.ro 1 (strs (x::q)))),(40,.n ((q.length+1))),(41,.n i)] [] ac wd) (q.length+1) ?_ (Nat.zero_le _) ⟨Nat.zero_le _,r⟩
    clear r
    rintro i dI bH ac wd ⟨ao,r⟩
    have Dk:=sD (x::q) i
    have tP:x.length≤(x::q).flatten.length:=by simp
    have Pt:(cM q).length=q.length+q.flatten.length:=qj q
    have Pu:(x::q).flatten.length=x.length+q.flatten.length:=by simp
    cases h3:(decide ((((i:Nat):Int):Int)<(((q.length+1):Nat):Int))) with
    | false=>
     have di:=of_decide_eq_false h3
     have e7:=((by kernel_rfl):(bif true then mH Tryz.prog 69 140 else mI Tryz.prog 69 140 71 2)=true)
     have fO:=((by kernel_rfl):(bif false then mH Tryz.prog 140 69 else mI Tryz.prog 140 69 71 2)=true)
     cases h4:(decide ((((q.length+((x::q).take i).flatten.length:Nat):Int):Int)<0)) with
     | false=>
      have dD:=of_decide_eq_false h4
      cases h5:(decide ((0:Int)<((q.length+((x::q).take i).flatten.length:Nat):Int))) with
      | false=>
       have ew:=of_decide_eq_false h5
       exact absurd ew (by omega)
      | true=>
       have ew:=of_decide_eq_true h5
       refine cy (todo':=hd Tryz.f71 1) (E':=[(1,.d (.v (.string ⟨([32]).toArray⟩))),(8,.pt 0 0),(63,.d (.ro 1 (List.drop (1) (strs (x::q))))),(64,.n q.length),(65,.z 0)]) (M':=[.bx 71 [.pt 0 0,.sl 1 (0+(x).length)],.rw 5 1 ([]++ae x)]) mo tq hK [(12,[(0,.b false)]),(19,[(1,.bV 200 [(0,[(1,.bV 200 [(1,[(2,.b true),(3,.b true),(4,.b false)])])]),(1,[(1,.b false)]),(3,[(10,.z (0)),(12,.b true)]),(4,[(2,.mem [0] (.tu []) [.bx 71 [.pt 0 0,.sl 1 (0)],.rw 5 1 ([])])])])]),(20,[(1,.ix (0) [.v (.string ⟨x.toArray⟩)]),(3,.bV 200 [(1,[(1,.bV 200 [])])])]),(21,[(1,.n2 (0) (1)),(2,.z (((q.length:Nat):Int)))])] 2000 [0,1] [1,8,63,64,65] r (by kernel_rfl) (U h3 (U (jD:dm Tryz.prog 69) (U e7 (U ((by decide):0<2) (U (xE:qH Tryz.prog 95) (U fO (U ((by decide):0<2) (U h4 (U ((wi (by omega)):IntKind.i64.wrap ((0:Int)-0)=0) (U h5 (U (Kj (q.length+((x::q).take i).flatten.length) (by omega)) (U (rfl:(0)=((0:Nat):Int)) (U (rfl:(strs (x::q))[0]?=some [.v (.string ⟨x.toArray⟩)]) (U (jD:dm Tryz.prog 69) (U ((by kernel_rfl):jr Tryz.prog 69=true) (U ((by first | rfl | (simp [ae,strs];done) | (simp [ae,strs];omega)):(0)=([]:List (List DV)).length) (U ((by first | omega | (simp [ae];omega)):(2*((0)+(x).length)+192)*1≤281474976710656) (U ((by first | omega | (simp [ae];omega)):(0)+(x).length<4611686018427387904) (U (rfl:(1:Int)=((1:Nat):Int)) (U ((by first | omega | (simp [ae,ah,ints,steps,strs];done) | (simp [ae,ah,ints,steps,strs];omega)):(1)≤(strs (x::q):List (List DV)).length) (U ((by first | rfl | (simp [strs];done) | (simp [strs];omega)):(((List.drop (1) (strs (x::q))).length:Nat):Int)=((q.length:Nat):Int)) trivial))))))))))))))))))))) fun ac wd r=>?_
       refine aC.rounds (Φ:=fun (i:Nat) ac wd=>(i≤q.length)∧du [] w0 K 75 [(1,.d (.v (.string ⟨([32]).toArray⟩))),(8,.pt 0 0),(63,.d (.ro 1 (List.drop 1 (strs (x::q))))),(64,.n q.length),(65,.n i)] [.bx 71 [.pt 0 0,.sl 1 ((x++cM (q.take i)).length)],.rw 5 1 (ae (x++cM (q.take i)))] ac wd) (q.length) ?_ (Nat.zero_le _) ⟨Nat.zero_le _,(r).cast rfl (by simp [cM,ae])⟩
       clear r
       rintro i lV fG ac wd ⟨dt,r⟩
       have Pv:=I6 dt
       have Pw:(ae (x++cM (q.take i))).length=x.length+(cM (q.take i)).length:=by simp [ae]
       have Px:=Bm q i
       have OP:=Bm q (i+1)
       have kM:(x++cM (q.take i)).length=x.length+(cM (q.take i)).length:=by simp
       cases h6:(decide ((((i:Nat):Int):Int)<((q.length:Nat):Int))) with
       | false=>
        have eV:=of_decide_eq_false h6
        rw [show (.v (.string ⟨(x++cM q).toArray⟩):DV)=.v (.string ⟨((x++cM (q.take i))).toArray⟩) from (by rw [List.take_of_length_le (by omega)])]
        exact bj mo tq hK rfl [(22,[(0,.b false)]),(27,[(0,.bV 200 [(1,[(10,.res (.v (.string ⟨((x++cM (q.take i))).toArray⟩)))])])])] 2000 r (by kernel_rfl) (U h6 (U ((by first | rfl | (simp [ae,strs];done) | (simp [ae,strs];omega)):((x++cM (q.take i)).length)=(ae (x++cM (q.take i)):List (List DV)).length) (U ((by first | omega | decide | (simp;done) | (simp;omega)):0<((x++cM (q.take i)).length)) (U ((by simp [ae]):((((x++cM (q.take i)).length:Nat):Int):Int)=(((ae (x++cM (q.take i)):List (List DV)).length:Nat):Int)) (U ((by first | omega | (simp [ae];omega)):0<(ae (x++cM (q.take i)):List (List DV)).length) (U (rfl:ae (x++cM (q.take i))=ae ((x++cM (q.take i)))) (U ((by kernel_rfl):qV Tryz.prog 121 5=true) (U ((by first | omega | decide | (simp;done) | (simp;omega)):(ae (x++cM (q.take i)):List (List DV)).length≤9223372036854775807) trivial))))))))
       | true=>
        have eV:=of_decide_eq_true h6
        obtain ⟨qM,wG⟩:∃ x_,q[i]?=some x_:=⟨_,List.getElem?_eq_getElem (by omega)⟩
        have nb:=Ac wG
        have eI:=sD q (i+1)
        exact cy (todo':=hd Tryz.f71 1) (E':=[(1,.d (.v (.string ⟨([32]).toArray⟩))),(8,.pt 0 0),(63,.d (.ro 1 (List.drop 1 (strs (x::q))))),(64,.n q.length),(65,.n (i+1))]) (M':=[.bx 71 [.pt 0 0,.sl 1 ((x++cM (q.take i)).length+([32]:List UInt8).length+(qM).length)],.rw 5 1 (ae (x++cM (q.take i))++ae [32]++ae qM)]) mo tq hK [(22,[(0,.b true)]),(23,[(0,.ix (i) [.v (.string ⟨qM.toArray⟩)])]),(24,[(1,.bV 200 [(1,[(1,.bV 200 [])]),(3,[(1,.z (1))])])]),(25,[(1,.bV 200 [(1,[(1,.bV 200 [])])])]),(26,[(0,.z (((i+1:Nat):Int)))])] 2000 [0,1] [1,8,63,64,65] r (by kernel_rfl) (U h6 (U (aA ((i:Nat):Int)) (U (sw wG) (U (jD:dm Tryz.prog 69) (U ((by kernel_rfl):jr Tryz.prog 69=true) (U ((by first | rfl | (simp [ae,strs];done) | (simp [ae,strs];omega)):((x++cM (q.take i)).length)=(ae (x++cM (q.take i)):List (List DV)).length) (U ((by first | omega | (simp [ae];omega)):(2*(((x++cM (q.take i)).length)+([32]:List UInt8).length)+192)*1≤281474976710656) (U ((by first | omega | (simp [ae];omega)):((x++cM (q.take i)).length)+([32]:List UInt8).length<4611686018427387904) (U aZ (U (jD:dm Tryz.prog 69) (U ((by kernel_rfl):jr Tryz.prog 69=true) (U ((by first | rfl | (simp [ae,strs];done) | (simp [ae,strs];omega)):((x++cM (q.take i)).length+([32]:List UInt8).length)=(ae (x++cM (q.take i))++ae [32]:List (List DV)).length) (U ((by first | omega | (simp [ae];omega)):(2*(((x++cM (q.take i)).length+([32]:List UInt8).length)+(qM).length)+192)*1≤281474976710656) (U ((by first | omega | (simp [ae];omega)):((x++cM (q.take i)).length+([32]:List UInt8).length)+(qM).length<4611686018427387904) (U ((wi (by omega)):IntKind.i64.wrap ((((i:Nat):Int):Int)+1)=((i+1:Nat):Int)) trivial))))))))))))))) fun ac wd r=>fG (by omega) ac wd ⟨(by omega),r.cast rfl (by rw [FX wG];simp [ae,Nat.add_assoc];omega)⟩
     | true=>
      have dD:=of_decide_eq_true h4
      exact absurd dD (by omega)
    | true=>
     have di:=of_decide_eq_true h3
     obtain ⟨uK,zK⟩:∃ y_,(x::q)[i]?=some y_:=⟨_,List.getElem?_eq_getElem (by simp;omega)⟩
     have nb:=Ac zK
     have eI:=sD (x::q) (i+1)
     have ey:=((wi (by omega)):IntKind.i64.wrap ((9223372036854775807:Int)-((q.length+((x::q).take i).flatten.length:Nat):Int))=9223372036854775807-((q.length+((x::q).take i).flatten.length:Nat):Int))
     cases h7:(decide ((9223372036854775807-((q.length+((x::q).take i).flatten.length:Nat):Int):Int)<((uK.length:Nat):Int))) with
     | false=>
      have dZ:=of_decide_eq_false h7
      exact cy (todo':=hd Tryz.f71 0) mo tq hK [(12,[(0,.b true)]),(13,[(0,.ix (i) [.v (.string ⟨uK.toArray⟩)])]),(14,[(3,.z (9223372036854775807-((q.length+((x::q).take i).flatten.length:Nat):Int))),(4,.b false)]),(16,[(3,.z (((q.length+((x::q).take (i+1)).flatten.length:Nat):Int)))]),(17,[(0,.z (((i+1:Nat):Int)))])] 2000 [] [0,1,5,39,40,41] r (by kernel_rfl) (U h3 (U (aA ((i:Nat):Int)) (U (sw zK) (U ey (U h7 (U ((wi (by omega)):IntKind.i64.wrap ((((q.length+((x::q).take i).flatten.length:Nat):Int):Int)+((uK.length:Nat):Int))=((q.length+((x::q).take (i+1)).flatten.length:Nat):Int)) (U ((wi (by omega)):IntKind.i64.wrap ((((i:Nat):Int):Int)+1)=((i+1:Nat):Int)) trivial))))))) fun ac wd r=>bH (by omega) ac wd ⟨(by omega),r⟩
     | true=>
      have dZ:=of_decide_eq_true h7
      exact absurd dZ (by omega)
   | true=>
    have cW:=of_decide_eq_true h2
    exact absurd cW (Ht (by omega) (by omega))
  | true=>
   have bF:=eq_of_beq h1
   exact absurd bF (by omega)
 | true=>
  have aK:=eq_of_beq h0
  exact absurd aK (by omega)
set_option maxRecDepth 100000 in
theorem I7 (x:List UInt8):aB Tryz.prog 71 [.d (.ro 1 (strs [x])),.d (.v (.string ⟨([32]).toArray⟩))] (.v (.string ⟨x.toArray⟩)):=by
 refine aB.intro (by kernel_rfl) rfl rfl 75 rfl rfl fun w0 K ac hK r=>?_
 rw [show (.v (.string ⟨x.toArray⟩):DV)=.v (.string ⟨x.toArray⟩) from rfl]
 exact bj mo tq hK rfl [(1,[(1,.z (1))]),(5,[(1,.ix (0) [.v (.string ⟨x.toArray⟩)])])] 2000 r (by kernel_rfl) (U ((by simp [strs]):(((strs [x]).length:Nat):Int)=1) (U (rfl:(0)=((0:Nat):Int)) (U (rfl:(strs [x])[0]?=some [.v (.string ⟨x.toArray⟩)]) trivial)))
def bu:List (List UInt8)→List UInt8
 | []=>[]
 | x::r=>x++cM r
theorem wH (x:List UInt8) (r:List (List UInt8)) (hl:r.length≤1000000) (hb:(x::r).flatten.length≤1073741824):aB Tryz.prog 71 [.d (.ro 1 (strs (x::r))),.d (.v (.string ⟨[32].toArray⟩))] (.v (.string ⟨(bu (x::r)).toArray⟩)):=by
 cases r with
 | nil=>have h:=I7 x;rw [show bu [x]=x from by simp [bu,cM]];exact h
 | cons y r=>exact Hu x (y::r) (by simp) hl hb
end Go.Proofs.YtcnpikbbmbombaaGreatDoor
namespace Go.Proofs.YtcnpikbbmbombaaGreatDoor
open Go.RowKit
theorem EX (b j:Nat):(⟨b,0,none⟩:Addr).add j=⟨b,j,none⟩:=by rw [Go.Lib.add_plain];simp
def kG (w:World):Prop:=∀ i,i<20→w.cell? ⟨1,i,none⟩=some (.int .u64 ((10 ^ i:Nat):Int))
theorem kG.alloc {w:World} (h:kG w) (o:Obj):kG (w.alloc o):=fun i hi=>by
 have:=h i hi
 have g:Gr w (w.alloc o):=Gr.alloc w o
 exact g.sT this
open Go.Lib in
set_option maxHeartbeats 6400000 in
set_option maxRecDepth 100000 in
theorem Kk (u:Nat) (h1:1≤u) (h2:u<18446744073709551616) (w:World) (mP:kG w):Calls Tryz.prog 106 #[.int .u64 u] w fun e w'=>e=.returned (.int .i64 (nDigits u))∧w'=w:=by
 have mixed:(Tryz.prog).follows .mixedOrders=true:=by kernel_rfl
 have t0:=Tryz.underlying0;have a0:=Tryz.isAgg0;have z0:=Tryz.sizeOf0;have v0:=Tryz.zeroValue0;have t3:=Tryz.underlying3;have a3:=Tryz.isAgg3;have z3:=Tryz.sizeOf3;have v3:=Tryz.zeroValue3;have t4:=Tryz.underlying4;have a4:=Tryz.isAgg4;have z4:=Tryz.sizeOf4;have v4:=Tryz.zeroValue4;have t40:=Tryz.underlying40;have a40:=Tryz.isAgg40;have z40:=Tryz.sizeOf40;have v40:=Tryz.zeroValue40;have t158:=Tryz.underlying158;have OQ:=Tryz.isAgg158;have OR:=Tryz.sizeOf158;have OS:=Tryz.zeroValue158
 have eL:∀ args w,(callFunc 116 args).run Tryz.prog w=.ok (.enter 116 args) w:=enters_of Tryz.func116 (by kernel_rfl) rfl
 have eP:∀ args w,(callFunc 115 args).run Tryz.prog w=.ok (.enter 115 args) w:=enters_of Tryz.func115 (by kernel_rfl) rfl
 have e2:∀ args w,(callFunc 117 args).run Tryz.prog w=.ok (.enter 117 args) w:=enters_of Tryz.func117 (by kernel_rfl) rfl
 obtain ⟨gR,Ok⟩:=numDigits_eq u h1 h2
 have hL:Go.Lib.bitLen u≤64:=bitLen_le u 64 (Nat.le_refl _) h2
 have ib:w.cell? ⟨1,l10 (Go.Lib.bitLen u),none⟩=some (.int .u64 ((10 ^ l10 (Go.Lib.bitLen u):Nat):Int)):=mP _ (by omega)
 have Ol:((u:Int)).toNat=u:=by omega
 generalize hq:l10 (Go.Lib.bitLen u)=q at gR Ok ib
 generalize hT:10 ^ q=T at gR ib
 have Py:q<20:=by omega
 have Om:=Go.Lib.hid gR
 clear gR mP
 go_enter Tryz.func106,Tryz.ntmps106
 go_wp2_with (first
  | (go_at_fn 116;refine (Tryz.bits_Len64 _ _ (by omega) (by omega)).mono ?_;rintro e w' ⟨rfl,rfl⟩)
  | (go_at_fn 115;refine (Tryz.internal_strconv_log10Pow2 _ (by first | exact hL | (rw [Ol];exact hL)) _).mono ?_;rintro e w' ⟨rfl,rfl⟩)
  | (go_at_fn 117;refine (Tryz.internal_strconv_bool2_int _ _).mono ?_;rintro e w' ⟨rfl,rfl⟩))
 all_goals go_ret
 all_goals (
  refine ⟨?_,rfl⟩
  have gR:=Om.out
  congr 2
  split at gR<;>simp_all<;>omega)
open Go.Lib Go.Sort in
set_option maxHeartbeats 6400000 in
set_option maxRecDepth 100000 in
theorem I8 (u:Nat) (lB:u<18446744073709551616) (w:World) (mP:kG w):
  Calls Tryz.prog 98 #[.int .u64 u,.int .i64 10] w fun e w'=>e=.returned (.string ⟨(decDigits u).toArray⟩)∧∃ k os,w'=grow (w.drewN k) os:=by
 have mixed:(Tryz.prog).follows .mixedOrders=true:=by kernel_rfl
 have t0:=Tryz.underlying0;have a0:=Tryz.isAgg0;have z0:=Tryz.sizeOf0;have v0:=Tryz.zeroValue0;have t3:=Tryz.underlying3;have a3:=Tryz.isAgg3;have z3:=Tryz.sizeOf3;have v3:=Tryz.zeroValue3;have t4:=Tryz.underlying4;have a4:=Tryz.isAgg4;have z4:=Tryz.sizeOf4;have v4:=Tryz.zeroValue4;have t5:=Tryz.underlying5;have a5:=Tryz.isAgg5;have z5:=Tryz.sizeOf5;have v5:=Tryz.zeroValue5;have t9:=Tryz.underlying9;have a9:=Tryz.isAgg9;have z9:=Tryz.sizeOf9;have v9:=Tryz.zeroValue9;have t31:=Tryz.underlying31;have a31:=Tryz.isAgg31;have z31:=Tryz.sizeOf31;have v31:=Tryz.zeroValue31;have t40:=Tryz.underlying40;have a40:=Tryz.isAgg40;have z40:=Tryz.sizeOf40;have v40:=Tryz.zeroValue40;have t149:=Tryz.underlying149;have OT:=Tryz.isAgg149;have OU:=Tryz.sizeOf149;have OV:=Tryz.zeroValue149
 have eS:∀ args w,(callFunc 105 args).run Tryz.prog w=.ok (.enter 105 args) w:=enters_of Tryz.func105 (by kernel_rfl) rfl
 have eN:∀ args w,(callFunc 106 args).run Tryz.prog w=.ok (.enter 106 args) w:=enters_of Tryz.func106 (by kernel_rfl) rfl
 have eB:∀ args w,(callFunc 107 args).run Tryz.prog w=.ok (.enter 107 args) w:=enters_of Tryz.func107 (by kernel_rfl) rfl
 by_cases hs:u<100
 ·go_enter Tryz.func98,Tryz.ntmps98
  go_wp2_with (go_at_fn 105;refine (Tryz.internal_strconv_small u hs _).mono ?_;rintro e w' ⟨rfl,rfl⟩)
  go_ret
  exact ⟨rfl,0,#[],by simp [World.drewN_zero]⟩
 ·have DL:1≤u:=by omega
  have OH:nDigits u≤20:=by have:=numDigits_eq u DL lB;split at this<;>omega
  have yS:nDigits u≤23:=by omega
  have dP:(Tryz.prog).arrayLen 149=24:=by kernel_rfl
  have OW:∀ W,(Instr.sliceAt 149 (.pointer (some ⟨w.heap.size,0,none⟩)) none (some (.int .i64 (nDigits u:Int))) none).run Tryz.prog W=.ok (.slice (some ⟨w.heap.size,0,none⟩) (nDigits u) 24) W:=fun W=>by
   rw [run_sliceAt_array_h W 149 ⟨w.heap.size,0,none⟩ (by kernel_rfl) .i64 (nDigits u:Int) (by omega) (by rw [dP];omega)]
   go_simp
  have zb:Go.Sort.Holds (fun (b:UInt8)=>Value.int .u8 (b.toNat:Int)) (w.alloc (.cells zeros24 149)) w.heap.size 0 (Array.replicate (nDigits u) (0:UInt8)):=fun j hj=>by
   have iY:j<nDigits u:=by simpa using hj
   refine ⟨?_,World.frozen?_alloc_new _ _ _ _⟩
   rw [World.cell?_alloc_new,zeros24_at _ (by omega),getElem!_pos _ j hj]
   simp
  have CV:=Tryz.internal_strconv_formatBase10 w.heap.size 0 24 u (Array.replicate (nDigits u) 0) (w.alloc (.cells zeros24 149)) zb (by rw [Array.size_replicate];exact lt_pow_nDigits u) lB (by rw [Array.size_replicate];omega)
  rw [Array.size_replicate] at CV
  have On:=Go.Lib.hid zb
  clear zb dP
  go_enter Tryz.func98,Tryz.ntmps98
  go_wp2_with (go_at_fn 106;refine (Kk u DL lB _ (mP.alloc _)).mono ?_;rintro e w' ⟨rfl,rfl⟩)
  go_at_fn 107
  refine CV.mono ?_
  rintro e w' ⟨rfl,k,v',dk,rfl,hF⟩
  have Pz:(convert 31 9 (.slice (some ⟨w.heap.size,0,none⟩) (nDigits u) 24)).run Tryz.prog ((putRow (fun (b:UInt8)=>Value.int .u8 (b.toNat:Int)) (w.alloc (.cells zeros24 149)) w.heap.size 0 dk).drewN k)=.ok (.string ⟨(decDigits u).toArray⟩) ((putRow (fun (b:UInt8)=>Value.int .u8 (b.toNat:Int)) (w.alloc (.cells zeros24 149)) w.heap.size 0 dk).drewN k):=by
   have h:=run_convert_bytes_back (P:=Tryz.prog) ((putRow (fun (b:UInt8)=>Value.int .u8 (b.toNat:Int)) (w.alloc (.cells zeros24 149)) w.heap.size 0 dk).drewN k) 31 9 5 ⟨w.heap.size,0,none⟩ 24 (decDigits u) t31 t5 t9 (fun j hj=>by
    rw [row_is_numeral hF j hj,add_plain,World.cell?_drewN]
    exact cell?_putRow (fun (b:UInt8)=>Value.int .u8 (b.toNat:Int)) _ w.heap.size 0 _ dk On.out (by rw [hF.size,Array.size_replicate]) j (by rw [hF.size];rw [decDigits_length] at hj;exact hj))
   rw [decDigits_length] at h
   exact h
  go_wp2
  go_ret
  refine ⟨rfl,k,?_⟩
  rw [alloc_eq_grow]
  obtain ⟨Oo,-,e⟩:=putRow_grow_new (fun (b:UInt8)=>Value.int .u8 (b.toNat:Int)) w #[.cells zeros24 149] w.heap.size 0 dk (Nat.le_refl _)
  exact ⟨Oo,by rw [e];rfl⟩
open Go.Lib Go.Sort in
set_option maxHeartbeats 6400000 in
set_option maxRecDepth 100000 in
theorem Hv (u:Nat) (lB:u<18446744073709551616) (w:World) (mP:kG w):
  Calls Tryz.prog 73 #[.int .u64 u,.int .i64 10] w fun e w'=>e=.returned (.string ⟨(decDigits u).toArray⟩)∧Below w.heap.size w w':=by
 have mixed:(Tryz.prog).follows .mixedOrders=true:=by kernel_rfl
 have t9:=Tryz.underlying9;have a9:=Tryz.isAgg9;have z9:=Tryz.sizeOf9;have v9:=Tryz.zeroValue9
 have eF:∀ args w,(callFunc 98 args).run Tryz.prog w=.ok (.enter 98 args) w:=enters_of Tryz.func98 (by kernel_rfl) rfl
 go_enter Tryz.func73,Tryz.ntmps73
 go_wp2_with (go_at_fn 98;refine (I8 u lB _ mP).mono ?_;rintro e w' ⟨rfl,k,os,rfl⟩)
 go_ret
 exact ⟨rfl,rfl,rfl,rfl,by simp [grow],fun k hk=>heap_grow_old _ _ hk⟩
def aN:List DV:=(List.range 20).map fun i=>DV.u (10 ^ i)
theorem kG.of {K:World→Prop} {β:Beta} {u:Nat} {H:al} (h:bq K β u (.gw 1 aN) H) {w:World} (hw:K w):kG w:=by
 cases h with
 | gw X hl hc hr=>
  intro i hi
  have h1:aN[i]?=some (DV.u (10 ^ i)):=by simp [aN,hi]
  have aI:i<X.length:=by rw [hl];simp [aN];omega
  have h2:=hr i _ X[i] h1 (List.getElem?_eq_getElem aI)
  have h3:=hc w hw i X[i] (List.getElem?_eq_getElem aI)
  rw [EX] at h3
  have h4:X[i]=.int .u64 ((10 ^ i:Nat):Int):=by
   generalize X[i]=y at h2
   cases h2;rfl
  rw [h3,h4]
theorem q5 (u:Nat) (lB:u<18446744073709551616):aq Tryz.prog 73 [.d (.v (.int .u64 u)),.d (.v (.int .i64 10))] [.gw 1 aN] (.d (.v (.string ⟨(Go.Lib.decDigits u).toArray⟩))) [.gw 1 aN]:=by
 refine ⟨by kernel_rfl,fun {D w0 K0 β F I w} ys R hK hl hr=>?_⟩
 have key:∀ {K:World→Prop} {β:Beta} {a b:Value},ax K β (.d (.v a)) b→b=a:=fun h=>by cases h with | d h=>cases h;rfl
 obtain ⟨y0,y1,rfl⟩:∃ a b,ys=[a,b]:=by
  match ys,hl with
  | [a,b],_=>exact ⟨a,b,rfl⟩
 obtain rfl:=key (hr 0 _ y0 rfl rfl)
 obtain rfl:=key (hr 1 _ y1 rfl rfl)
 have mP:kG w:=kG.of (R.blk 0 _ rfl) ⟨hK w R.st.kp,(Holds.app.1 R.st.holds).2⟩
 refine (Hv u lB w mP).mono ?_
 rintro e w' ⟨rfl,g⟩
 exact ⟨_,rfl,β,F,I,⟨R.len,R.blk,R.st.gr g⟩,Ext.refl _,bR.refl _,.d (.v _)⟩
theorem Kl (n:Nat) (h:n<100):aB Tryz.prog 70 [.d (.v (.int .i64 n))] (.v (.string ⟨(Go.Lib.decDigits n).toArray⟩)):=
 aB.qi (by kernel_rfl) (zs:=[.int .i64 n]) fun w=>(Tryz.strconv_Itoa_small n h w).mono fun e w' ⟨he,hw⟩=>⟨he,hw▸Below.refl _ _⟩
end Go.Proofs.YtcnpikbbmbombaaGreatDoor
namespace Go.Proofs.YtcnpikbbmbombaaGreatDoor
open Go.RowKit
def dO (n:Nat):UInt8:=if n<10 then UInt8.ofNat (48+n) else UInt8.ofNat (87+n)
theorem sO {n:Nat} (h:n<16):([48,49,50,51,52,53,54,55,56,57,97,98,99,100,101,102]:List UInt8)[n]?=some (dO n):=by
 have key:∀ k,k<16→([48,49,50,51,52,53,54,55,56,57,97,98,99,100,101,102]:List UInt8)[k]?=some (dO k):=by decide
 exact key n h
def dn (l:List UInt8):List UInt8:=l.flatMap fun b=>[dO (b.toNat / 16),dO (b.toNat%16)]
theorem Hw {l:List UInt8} {i:Nat} {b:UInt8} (h:l[i]?=some b):dn (l.take (i+1))=dn (l.take i)++[dO (b.toNat / 16),dO (b.toNat%16)]:=by
 unfold dn;rw [List.take_add_one,h];simp
theorem dy (l:List UInt8):(dn l).length=2*l.length:=by
 unfold dn;induction l with
 | nil=>rfl
 | cons b r ih=>rw [List.flatMap_cons,List.length_append,ih];simp;omega
theorem CW (b:UInt8):((b.toNat:Nat):Int).fdiv (2 ^ (min (4:Int).toNat IntKind.u8.bits))=((b.toNat / 16:Nat):Int):=by
 show ((b.toNat:Nat):Int).fdiv 16=_
 rw [Int.fdiv_eq_ediv_of_nonneg _ (by omega)];omega
theorem Ct (b:UInt8):IntKind.u8.wrap ((BitVec.ofInt IntKind.u8.bits ((b.toNat:Nat):Int) &&& BitVec.ofInt IntKind.u8.bits 15).toNat:Int)=((b.toNat%16:Nat):Int):=by
 have hb:=b.toNat_lt
 have h1:(BitVec.ofInt 8 ((b.toNat:Nat):Int) &&& BitVec.ofInt 8 15).toNat=b.toNat%16:=by
  rw [BitVec.toNat_and]
  have e1:(BitVec.ofInt 8 ((b.toNat:Nat):Int)).toNat=b.toNat:=by simp [BitVec.toNat_ofInt]
  have e2:(BitVec.ofInt 8 15).toNat=2 ^ 4-1:=by decide
  rw [e1,e2,Nat.and_two_pow_sub_one_eq_mod]
 show IntKind.u8.wrap ((BitVec.ofInt 8 ((b.toNat:Nat):Int) &&& BitVec.ofInt 8 15).toNat:Int)=_
 rw [h1]
 simp [IntKind.wrap,IntKind.signed,IntKind.bits];omega
def jl (l:List UInt8):List UInt8:=if l=[] then [45] else dn l
set_option maxRecDepth 100000 in
theorem Eh (b:UInt8) (l:List UInt8) (hl:l.length≤16777216):aB Tryz.prog 74 [.d (.ro 1 (ae (b::l)))] (.v (.string ⟨(dn (b::l)).toArray⟩)):=by
 refine aB.intro (by kernel_rfl) rfl rfl 25 rfl rfl fun w0 K ac hK r=>?_
 have aE:=((by first | rfl | (simp [ae];done) | (simp [ae];omega)):(((ae (b::l)).length:Nat):Int)=(((l.length+1):Nat):Int))
 cases h0:(((((l.length+1):Nat):Int):Int)==0) with
 | false=>
  have aK:=ne_of_beq_false h0
  refine cy (todo':=hd Tryz.f74 0) (E':=[(0,.d (.ro 1 (ae (b::l)))),(2,.d (.v (.string .empty))),(6,.d (.ro 1 (ae (b::l)))),(7,.n ((l.length+1))),(8,.d (.v (.bool false))),(3,.pt 0 0),(9,.d (.ro 1 (ae (b::l)))),(10,.n ((l.length+1))),(11,.z 0)]) (M':=[.bx 71 [.d (.v (.pointer none)),.d (.v (.slice none 0 0))]]) mo tq hK [(1,[(1,.z ((((l.length+1):Nat):Int))),(2,.b false)]),(4,[(1,.z ((((l.length+1):Nat):Int)))])] 2000 [0] [0,2,6,7,8,3,9,10,11] r (by kernel_rfl) (U aE (U h0 (U aE trivial))) fun ac wd r=>?_
  cases h1:(decide ((0:Int)<(((l.length+1):Nat):Int))) with
  | false=>
   have bF:=of_decide_eq_false h1
   exact absurd bF (by omega)
  | true=>
   have bF:=of_decide_eq_true h1
   refine cy (todo':=hd Tryz.f74 0) (E':=[(3,.pt 0 0),(9,.d (.ro 1 (ae (b::l)))),(10,.n ((l.length+1))),(11,.z 1)]) (M':=[.bx 71 [.pt 0 0,.sl 1 ((1)+(1))],.rw 5 1 ([[.v (.int .u8 ((((dO (b.toNat / 16)).toNat:Nat):Int)))]]++[[.v (.int .u8 ((((dO (b.toNat%16)).toNat:Nat):Int)))]])]) mo tq hK [(5,[(0,.b true)]),(6,[(0,.ix (0) [.v (.int .u8 (((b.toNat:Nat):Int)))])]),(7,[(1,.z (((b.toNat / 16:Nat):Int))),(2,.ix (b.toNat / 16) [.v (.int .u8 ((((dO (b.toNat / 16)).toNat:Nat):Int)))]),(3,.bV 200 [(1,[(1,.bV 200 [(1,[(2,.b true),(3,.b true),(4,.b false)])])])])]),(8,[(1,.z (((b.toNat%16:Nat):Int))),(2,.ix (b.toNat%16) [.v (.int .u8 ((((dO (b.toNat%16)).toNat:Nat):Int)))]),(3,.bV 200 [(1,[(1,.bV 200 [])])])]),(9,[(0,.z (1))])] 2000 [0,2] [3,9,10,11] r (by kernel_rfl) (U h1 (U (rfl:(0)=((0:Nat):Int)) (U (rfl:(ae (b::l))[0]?=some [.v (.int .u8 (((b.toNat:Nat):Int)))]) (U ((CW _):(((b.toNat:Nat):Int):Int).fdiv (2 ^ (min (4:Int).toNat IntKind.u8.bits))=((b.toNat / 16:Nat):Int)) (U ((by first | decide | omega):(0:Int)≤4) (U (aA ((b.toNat / 16:Nat):Int)) (U (⟨_,sO (by have:=(b).toNat_lt;omega),rfl⟩:∃ u:UInt8,([48,49,50,51,52,53,54,55,56,57,97,98,99,100,101,102]:List UInt8)[b.toNat / 16]?=some u∧(.v (.int .u8 ((((dO (b.toNat / 16)).toNat:Nat):Int))):DV)=.v (.int .u8 (u.toNat:Int))) (U (jD:dm Tryz.prog 69) (U ((by kernel_rfl):(bif true then mH Tryz.prog 69 140 else mI Tryz.prog 69 140 71 2)=true) (U ((by decide):0<2) (U (xE:qH Tryz.prog 95) (U ((by kernel_rfl):(bif false then mH Tryz.prog 140 69 else mI Tryz.prog 140 69 71 2)=true) (U ((by decide):0<2) (U ((by first | rfl | (simp [ae,dy];done) | (simp [ae,dy];omega)):(1)=([[.v (.int .u8 ((((dO (b.toNat / 16)).toNat:Nat):Int)))]]:List (List DV)).length) (U ((by first | omega | (simp [ae,dy];omega)):(2*(0+(1))+192)*1≤281474976710656) (U ((by first | omega | (simp [ae,dy];omega)):0+(1)<4611686018427387904) (U ((by simp [bd,AV.one,bW,ae,ah,ints,steps,strs]):bd ([[.v (.int .u8 ((((dO (b.toNat / 16)).toNat:Nat):Int)))]])) (U ((Ct _):IntKind.u8.wrap ((BitVec.ofInt IntKind.u8.bits (((b.toNat:Nat):Int)) &&& BitVec.ofInt IntKind.u8.bits (15)).toNat:Int)=((b.toNat%16:Nat):Int)) (U (aA ((b.toNat%16:Nat):Int)) (U (⟨_,sO (by have:=(b).toNat_lt;omega),rfl⟩:∃ u:UInt8,([48,49,50,51,52,53,54,55,56,57,97,98,99,100,101,102]:List UInt8)[b.toNat%16]?=some u∧(.v (.int .u8 ((((dO (b.toNat%16)).toNat:Nat):Int))):DV)=.v (.int .u8 (u.toNat:Int))) (U (jD:dm Tryz.prog 69) (U ((by kernel_rfl):jr Tryz.prog 69=true) (U ((by first | rfl | (simp [ae,dy];done) | (simp [ae,dy];omega)):((1))=([[.v (.int .u8 ((((dO (b.toNat / 16)).toNat:Nat):Int)))]]:List (List DV)).length) (U ((by first | rfl | (simp [ae,dy];done) | (simp [ae,dy];omega)):(1)=([[.v (.int .u8 ((((dO (b.toNat%16)).toNat:Nat):Int)))]]:List (List DV)).length) (U ((by first | omega | (simp [ae,dy];omega)):(2*(((1))+(1))+192)*1≤281474976710656) (U ((by first | omega | (simp [ae,dy];omega)):((1))+(1)<4611686018427387904) (U ((by simp [bd,AV.one,bW,ae,ah,ints,steps,strs]):bd ([[.v (.int .u8 ((((dO (b.toNat%16)).toNat:Nat):Int)))]])) (U ((wi (by omega)):IntKind.i64.wrap ((0:Int)+1)=1) trivial)))))))))))))))))))))))))))) fun ac wd r=>?_
   refine aC.rounds (Φ:=fun (i:Nat) ac wd=>(i≤l.length)∧du [] w0 K 25 [(3,.pt 0 0),(9,.d (.ro 1 (ae (b::l)))),(10,.n ((l.length+1))),(11,.n (i+1))] [.bx 71 [.pt 0 0,.sl 1 ((dn ((b::l).take (i+1))).length)],.rw 5 1 (ae (dn ((b::l).take (i+1))))] ac wd) (l.length) ?_ (Nat.zero_le _) ⟨Nat.zero_le _,(r).cast rfl (by simp [dn,ae])⟩
   clear r
   rintro i dI bH ac wd ⟨ao,r⟩
   cases h2:(decide ((((i+1:Nat):Int):Int)<(((l.length+1):Nat):Int))) with
   | false=>
    have cW:=of_decide_eq_false h2
    rw [show (.v (.string ⟨(dn (b::l)).toArray⟩):DV)=.v (.string ⟨((dn ((b::l).take (i+1)))).toArray⟩) from (by rw [List.take_of_length_le (by simp;omega)])]
    exact bj mo tq hK rfl [(5,[(0,.b false)]),(10,[(0,.bV 200 [(1,[(10,.res (.v (.string ⟨((dn ((b::l).take (i+1)))).toArray⟩)))])])])] 2000 r (by kernel_rfl) (U h2 (U ((by first | rfl | (simp [ae,dy];done) | (simp [ae,dy];omega)):((dn ((b::l).take (i+1))).length)=(ae (dn ((b::l).take (i+1)))).length) (U ((by first | omega | decide | (simp [ae,dy];done) | (simp [ae,dy];omega)):0<((dn ((b::l).take (i+1))).length)) (U ((by simp [ae]):((((dn ((b::l).take (i+1))).length:Nat):Int):Int)=(((ae (dn ((b::l).take (i+1)))).length:Nat):Int)) (U ((by first | omega | (simp [ae,dy];done) | (simp [ae,dy];omega)):0<(ae (dn ((b::l).take (i+1)))).length) (U (rfl:ae (dn ((b::l).take (i+1)))=ae ((dn ((b::l).take (i+1))))) (U ((by kernel_rfl):qV Tryz.prog 121 5=true) (U ((by first | omega | decide | (simp [ae,dy];done) | (simp [ae,dy];omega)):(ae (dn ((b::l).take (i+1)))).length≤9223372036854775807) trivial))))))))
   | true=>
    have cW:=of_decide_eq_true h2
    obtain ⟨et,Cu⟩:∃ y_,(b::l)[i+1]?=some y_:=⟨_,List.getElem?_eq_getElem (by simp;omega)⟩
    exact cy (todo':=hd Tryz.f74 0) (E':=[(3,.pt 0 0),(9,.d (.ro 1 (ae (b::l)))),(10,.n ((l.length+1))),(11,.n (i+1+1))]) (M':=[.bx 71 [.pt 0 0,.sl 1 ((dn ((b::l).take (i+1))).length+(1)+(1))],.rw 5 1 (ae (dn ((b::l).take (i+1)))++[[.v (.int .u8 ((((dO (et.toNat / 16)).toNat:Nat):Int)))]]++[[.v (.int .u8 ((((dO (et.toNat%16)).toNat:Nat):Int)))]])]) mo tq hK [(5,[(0,.b true)]),(6,[(0,.ix (i+1) [.v (.int .u8 (((et.toNat:Nat):Int)))])]),(7,[(1,.z (((et.toNat / 16:Nat):Int))),(2,.ix (et.toNat / 16) [.v (.int .u8 ((((dO (et.toNat / 16)).toNat:Nat):Int)))]),(3,.bV 200 [(1,[(1,.bV 200 [])])])]),(8,[(1,.z (((et.toNat%16:Nat):Int))),(2,.ix (et.toNat%16) [.v (.int .u8 ((((dO (et.toNat%16)).toNat:Nat):Int)))]),(3,.bV 200 [(1,[(1,.bV 200 [])])])]),(9,[(0,.z (((i+1+1:Nat):Int)))])] 2000 [0,1] [3,9,10,11] r (by kernel_rfl) (U h2 (U (aA ((i+1:Nat):Int)) (U (dM Cu) (U ((CW _):(((et.toNat:Nat):Int):Int).fdiv (2 ^ (min (4:Int).toNat IntKind.u8.bits))=((et.toNat / 16:Nat):Int)) (U ((by first | decide | omega):(0:Int)≤4) (U (aA ((et.toNat / 16:Nat):Int)) (U (⟨_,sO (by have:=(et).toNat_lt;omega),rfl⟩:∃ u:UInt8,([48,49,50,51,52,53,54,55,56,57,97,98,99,100,101,102]:List UInt8)[et.toNat / 16]?=some u∧(.v (.int .u8 ((((dO (et.toNat / 16)).toNat:Nat):Int))):DV)=.v (.int .u8 (u.toNat:Int))) (U (jD:dm Tryz.prog 69) (U ((by kernel_rfl):jr Tryz.prog 69=true) (U ((by first | rfl | (simp [ae,dy];done) | (simp [ae,dy];omega)):((dn ((b::l).take (i+1))).length)=(ae (dn ((b::l).take (i+1)))).length) (U ((by first | rfl | (simp [ae,dy];done) | (simp [ae,dy];omega)):(1)=([[.v (.int .u8 ((((dO (et.toNat / 16)).toNat:Nat):Int)))]]:List (List DV)).length) (U ((by first | omega | (simp [ae,dy];omega)):(2*(((dn ((b::l).take (i+1))).length)+(1))+192)*1≤281474976710656) (U ((by first | omega | (simp [ae,dy];omega)):((dn ((b::l).take (i+1))).length)+(1)<4611686018427387904) (U ((by simp [bd,AV.one,bW,ae,ah,ints,steps,strs]):bd ([[.v (.int .u8 ((((dO (et.toNat / 16)).toNat:Nat):Int)))]])) (U ((Ct _):IntKind.u8.wrap ((BitVec.ofInt IntKind.u8.bits (((et.toNat:Nat):Int)) &&& BitVec.ofInt IntKind.u8.bits (15)).toNat:Int)=((et.toNat%16:Nat):Int)) (U (aA ((et.toNat%16:Nat):Int)) (U (⟨_,sO (by have:=(et).toNat_lt;omega),rfl⟩:∃ u:UInt8,([48,49,50,51,52,53,54,55,56,57,97,98,99,100,101,102]:List UInt8)[et.toNat%16]?=some u∧(.v (.int .u8 ((((dO (et.toNat%16)).toNat:Nat):Int))):DV)=.v (.int .u8 (u.toNat:Int))) (U (jD:dm Tryz.prog 69) (U ((by kernel_rfl):jr Tryz.prog 69=true) (U ((by first | rfl | (simp [ae,dy];done) | (simp [ae,dy];omega)):((dn ((b::l).take (i+1))).length+(1))=(ae (dn ((b::l).take (i+1)))++[[.v (.int .u8 ((((dO (et.toNat / 16)).toNat:Nat):Int)))]]:List (List DV)).length) (U ((by first | rfl | (simp [ae,dy];done) | (simp [ae,dy];omega)):(1)=([[.v (.int .u8 ((((dO (et.toNat%16)).toNat:Nat):Int)))]]:List (List DV)).length) (U ((by first | omega | (simp [ae,dy];omega)):(2*(((dn ((b::l).take (i+1))).length+(1))+(1))+192)*1≤281474976710656) (U ((by first | omega | (simp [ae,dy];omega)):((dn ((b::l).take (i+1))).length+(1))+(1)<4611686018427387904) (U ((by simp [bd,AV.one,bW,ae,ah,ints,steps,strs]):bd ([[.v (.int .u8 ((((dO (et.toNat%16)).toNat:Nat):Int)))]])) (U ((wi (by omega)):IntKind.i64.wrap ((((i+1:Nat):Int):Int)+1)=((i+1+1:Nat):Int)) trivial))))))))))))))))))))))))) fun ac wd r=>bH (by omega) ac wd ⟨(by omega),r.cast rfl (by rw [Hw Cu];simp [ae])⟩
 | true=>
  have aK:=eq_of_beq h0
  exact absurd aK (by omega)
set_option maxRecDepth 100000 in
theorem Ei (a:Option Addr) (n:Nat):aB Tryz.prog 74 [.d (.v (.slice a 0 n))] (.v (.string ⟨[45].toArray⟩)):=by
 refine aB.intro (by kernel_rfl) rfl rfl 25 rfl rfl fun w0 K ac hK r=>?_
 rw [show (.v (.string ⟨[45].toArray⟩):DV)=.v (.string ⟨([45]).toArray⟩) from rfl]
 exact bj mo tq hK rfl [] 2000 r (by kernel_rfl) trivial
theorem EY (l:List UInt8) (hl:l.length≤16777216):aB Tryz.prog 74 [.d (.ro 1 (ae l))] (.v (.string ⟨(jl l).toArray⟩)):=by
 cases l with
 | nil=>exact aB.empty (pre:=[]) (post:=[]) fun a c=>Ei a c
 | cons b l=>exact Eh b l (by simp at hl;omega)
theorem EZ (l:List (List UInt8)):cb (strs l)=strs l:=by rw [jU];unfold strs;rw [List.map_map];apply List.map_congr_left;intro b _;rfl
def b8 (z:Int):List UInt8:=Go.Lib.decDigits z.toNat
theorem u3 (u:Nat) (h:u<18446744073709551616):(Go.Lib.decDigits u).length≤20:=by
 rw [Go.Lib.decDigits_length]
 rcases Nat.eq_zero_or_pos u with rfl | h1
 ·rw [Go.Lib.nDigits_small (by omega)];omega
 ·have:=Go.Lib.numDigits_eq u h1 h;split at this<;>omega
theorem s9 {z:Int} (h0:0≤z) (h:z<100):aB Tryz.prog 70 [.z z] (.v (.string ⟨(b8 z).toArray⟩)):=by
 obtain ⟨n,rfl⟩:=Int.eq_ofNat_of_zero_le h0
 exact Kl n (by omega)
theorem oF {z:Int} (h:z<100):(b8 z).length≤20:=u3 _ (by omega)
def ju (x:Int×Int):List UInt8:=b8 x.1++[45]++b8 x.2
def b7 (c:cE):List (List UInt8):=[119,111,114,108,100]::([b8 c.aL]++c.ah.map ju++[[58]]++c.homes.map b8)
theorem AJ {α:Type} {f:α→List UInt8} {l:List α} {i:Nat} {x:α} (h:l[i]?=some x):(l.take (i+1)).map f=(l.take i).map f++[f x]:=by
 rw [List.take_add_one,h];simp
theorem zL {l:List (List UInt8)} {n:Nat} (h:∀ x ∈ l,x.length≤n):l.flatten.length≤n*l.length:=by
 induction l with
 | nil=>simp
 | cons x r ih=>
  have h1:=h x (by simp)
  have h2:=ih (fun y hy=>h y (by simp [hy]))
  rw [List.flatten_cons,List.length_append,List.length_cons,Nat.mul_succ];omega
theorem AK {c:cE} (h:bI c=true):(b7 c).flatten.length≤41*(b7 c).length:=by
 have m:=jE h
 have hs:=m.head
 refine zL fun x hx=>?_
 unfold b7 at hx
 simp only [List.mem_cons,List.mem_append,List.mem_map,List.not_mem_nil,or_false] at hx
 rcases hx with rfl | (((rfl | ⟨y,hy,rfl⟩) | rfl) | ⟨y,hy,rfl⟩)
 ·simp
 ·exact Nat.le_trans (oF (by omega)) (by omega)
 ·obtain ⟨j,hj,rfl⟩:=List.getElem_of_mem hy
  have hl:=m.link j _ (List.getElem?_eq_getElem hj)
  have h1:=oF (z:=(c.ah[j]).1) (by have:=hl.1.2;omega)
  have h2:=oF (z:=(c.ah[j]).2) (by have:=hl.2.1.2;omega)
  unfold ju;simp only [List.length_append,List.length_cons,List.length_nil];omega
 ·simp
 ·obtain ⟨j,hj,rfl⟩:=List.getElem_of_mem hy
  have hl:=m.home j _ (List.getElem?_eq_getElem hj)
  exact Nat.le_trans (oF (by have:=hl.2;omega)) (by omega)
theorem BZ (c:cE):(b7 c).length=3+c.ah.length+c.homes.length:=by unfold b7;simp;omega
set_option maxRecDepth 100000 in
theorem FY (c:cE) (hm:bI c=true) (hc:c.ah.length≤100000):aB Tryz.prog 40 [.ag [.z c.aL,.d (.ro 2 (ah c.ah)),.d (.ro 1 (ints c.homes))]] (.v (.string ⟨(bu (b7 c)).toArray⟩)):=by
 refine aB.intro (by kernel_rfl) rfl rfl 49 rfl rfl fun w0 K ac hK r=>?_
 refine cy (todo':=hd Tryz.f40 0) (E':=[(1,.pt 0 0),(3,.sl 1 (2)),(13,.d (.ro 2 (ah c.ah))),(14,.n c.ah.length),(15,.z 0)]) (M':=[.bx 25 [.z c.aL,.d (.ro 2 (ah c.ah)),.d (.ro 1 (ints c.homes))],.rw 9 1 ([[.v (.string ⟨([119,111,114,108,100]).toArray⟩)],[.v (.string ⟨(b8 c.aL).toArray⟩)]])]) mo tq hK [(1,[(2,.aV (.v (.string ⟨(b8 c.aL).toArray⟩)))]),(2,[(2,.z (((c.ah.length:Nat):Int)))])] 2000 [0,1] [1,3,13,14,15] r (by kernel_rfl) (U (s9 (z:=c.aL) (by first | omega | (have:=(jE hm).head;omega)) (by first | omega | (have:=(jE hm).head;omega))) (U ((by first | rfl | simp [ae,ah,ints,steps,strs]):(((ah c.ah).length:Nat):Int)=((c.ah.length:Nat):Int)) trivial)) fun ac wd r=>?_
 refine aC.rounds (Φ:=fun (i:Nat) ac wd=>(i≤c.ah.length)∧du [] w0 K 49 [(1,.pt 0 0),(3,.sl 1 ((2+i))),(13,.d (.ro 2 (ah c.ah))),(14,.n c.ah.length),(15,.n i)] [.bx 25 [.z c.aL,.d (.ro 2 (ah c.ah)),.d (.ro 1 (ints c.homes))],.rw 9 1 (strs ([[119,111,114,108,100]]++[b8 c.aL]++(c.ah.take i).map ju))] ac wd) (c.ah.length) ?_ (Nat.zero_le _) ⟨Nat.zero_le _,(r).cast rfl (by simp [strs])⟩
 clear r
 rintro i dI bH ac wd ⟨ao,r⟩
 have PA:=(jE hm).head
 cases h0:(decide ((((i:Nat):Int):Int)<((c.ah.length:Nat):Int))) with
 | false=>
  have aK:=of_decide_eq_false h0
  refine cy (todo':=hd Tryz.f40 1) (E':=[(3,.sl 0 ((2+i)+(1))),(35,.d (.ro 1 (ints c.homes))),(36,.n c.homes.length),(37,.z 0)]) (M':=[.rw 9 1 (strs ([[119,111,114,108,100]]++[b8 c.aL]++(c.ah.take i).map ju)++[[.v (.string ⟨([58]).toArray⟩)]])]) mo tq hK [(3,[(0,.b false)]),(8,[(2,.z (((c.homes.length:Nat):Int)))])] 2000 [1] [3,35,36,37] r (by kernel_rfl) (U h0 (U ((by first | rfl | (simp [strs];done) | (simp [strs];omega)):((2+i))=(strs ([[119,111,114,108,100]]++[b8 c.aL]++(c.ah.take i).map ju):List (List DV)).length) (U ((by first | rfl | (simp [strs];done) | (simp [strs];omega)):(1)=([[.v (.string ⟨([58]).toArray⟩)]]:List (List DV)).length) (U ((by first | omega | (simp [strs];done) | (simp [strs];omega)):(2*(((2+i))+(1))+192)*16≤281474976710656) (U ((by first | omega | (simp [strs];done) | (simp [strs];omega)):((2+i))+(1)<4611686018427387904) (U ((by simp [bd,AV.one,bW,strs]):bd ([[.v (.string ⟨([58]).toArray⟩)]])) (U ((by first | rfl | simp [ae,ah,ints,steps,strs]):(((ints c.homes).length:Nat):Int)=((c.homes.length:Nat):Int)) trivial))))))) fun ac wd r=>?_
  refine aC.rounds (Φ:=fun (i:Nat) ac wd=>(i≤c.homes.length)∧du [] w0 K 49 [(3,.sl 0 ((3+c.ah.length+i))),(35,.d (.ro 1 (ints c.homes))),(36,.n c.homes.length),(37,.n i)] [.rw 9 1 (strs ([[119,111,114,108,100]]++[b8 c.aL]++c.ah.map ju++[[58]]++(c.homes.take i).map b8))] ac wd) (c.homes.length) ?_ (Nat.zero_le _) ⟨Nat.zero_le _,(r).cast (by rw [show 2+i+1=3+c.ah.length+0 from by omega];rfl) (by rw [List.take_of_length_le (by omega)];simp [strs])⟩
  clear r
  rintro i lV fG ac wd ⟨dt,r⟩
  cases h1:(decide ((((i:Nat):Int):Int)<((c.homes.length:Nat):Int))) with
  | false=>
   have bF:=of_decide_eq_false h1
   rw [show (.v (.string ⟨(bu (b7 c)).toArray⟩):DV)=.v (.string ⟨(bu (b7 c)).toArray⟩) from rfl]
   exact bj mo tq hK rfl [(9,[(0,.b false)]),(13,[(1,.call [.d (.ro 1 (strs (b7 c))),.d (.v (.string ⟨([32]).toArray⟩))] (.v (.string ⟨(bu (b7 c)).toArray⟩)))])] 2000 r (by kernel_rfl) (U h1 (U (wH _ _ (by simp;omega) (by have h1:=AK hm;have h2:=BZ c;unfold b7 at h1 h2;omega):aB Tryz.prog 71 [.d (.ro 1 (strs (b7 c))),.d (.v (.string ⟨([32]).toArray⟩))] (.v (.string ⟨(bu (b7 c)).toArray⟩))) (U ((fx _):eH (.v (.string ⟨(bu (b7 c)).toArray⟩))) (U (cR (1)) (U ((by first | rfl | (simp [strs];done) | (simp [strs];omega)):((3+c.ah.length+i))=(strs ([[119,111,114,108,100]]++[b8 c.aL]++c.ah.map ju++[[58]]++(c.homes.take i).map b8):List (List DV)).length) (U ((by rw [List.take_of_length_le (by omega)];exact EZ _):cb (strs ([[119,111,114,108,100]]++[b8 c.aL]++c.ah.map ju++[[58]]++(c.homes.take i).map b8))=strs (b7 c)) (U (iq (.v (.string ⟨([32]).toArray⟩))) trivial)))))))
  | true=>
   have bF:=of_decide_eq_true h1
   obtain ⟨dS,cA⟩:∃ x_,c.homes[i]?=some x_:=⟨_,List.getElem?_eq_getElem (by omega)⟩
   have Oq:=(jE hm).home i _ cA
   unfold kK at Oq
   exact cy (todo':=hd Tryz.f40 1) (E':=[(3,.sl 0 ((3+c.ah.length+i)+(1))),(35,.d (.ro 1 (ints c.homes))),(36,.n c.homes.length),(37,.n (i+1))]) (M':=[.rw 9 1 (strs ([[119,111,114,108,100]]++[b8 c.aL]++c.ah.map ju++[[58]]++(c.homes.take i).map b8)++[[.v (.string ⟨(b8 dS).toArray⟩)]])]) mo tq hK [(9,[(0,.b true)]),(10,[(0,.ix (i) [.z dS])]),(11,[(2,.aV (.v (.string ⟨(b8 dS).toArray⟩)))]),(12,[(0,.z (((i+1:Nat):Int)))])] 2000 [0] [3,35,36,37] r (by kernel_rfl) (U h1 (U (aA ((i:Nat):Int)) (U (ints_at cA) (U (s9 (z:=dS) (by first | omega | (have:=(jE hm).head;omega)) (by first | omega | (have:=(jE hm).head;omega))) (U ((by first | rfl | (simp [strs];done) | (simp [strs];omega)):((3+c.ah.length+i))=(strs ([[119,111,114,108,100]]++[b8 c.aL]++c.ah.map ju++[[58]]++(c.homes.take i).map b8):List (List DV)).length) (U ((by first | rfl | (simp [strs];done) | (simp [strs];omega)):(1)=([[.v (.string ⟨(b8 dS).toArray⟩)]]:List (List DV)).length) (U ((by first | omega | (simp [strs];done) | (simp [strs];omega)):(2*(((3+c.ah.length+i))+(1))+192)*16≤281474976710656) (U ((by first | omega | (simp [strs];done) | (simp [strs];omega)):((3+c.ah.length+i))+(1)<4611686018427387904) (U ((by simp [bd,AV.one,bW,strs]):bd ([[.v (.string ⟨(b8 dS).toArray⟩)]])) (U ((wi (by omega)):IntKind.i64.wrap ((((i:Nat):Int):Int)+1)=((i+1:Nat):Int)) trivial)))))))))) fun ac wd r=>fG (by omega) ac wd ⟨(by omega),r.cast rfl (by rw [AJ cA];simp [strs])⟩
 | true=>
  have aK:=of_decide_eq_true h0
  obtain ⟨aR,bn⟩:∃ x_,c.ah[i]?=some x_:=⟨_,List.getElem?_eq_getElem (by omega)⟩
  have Ot:=(jE hm).link i _ bn
  unfold kK at Ot
  have PB:=oF (z:=aR.1) (by omega)
  have tW:=oF (z:=aR.2) (by omega)
  exact cy (todo':=hd Tryz.f40 0) (E':=[(1,.pt 0 0),(3,.sl 1 ((2+i)+(1))),(13,.d (.ro 2 (ah c.ah))),(14,.n c.ah.length),(15,.n (i+1))]) (M':=[.bx 25 [.z c.aL,.d (.ro 2 (ah c.ah)),.d (.ro 1 (ints c.homes))],.rw 9 1 (strs ([[119,111,114,108,100]]++[b8 c.aL]++(c.ah.take i).map ju)++[[.v (.string ⟨((b8 aR.1)++[45]++(b8 aR.2)).toArray⟩)]])]) mo tq hK [(3,[(0,.b true)]),(4,[(0,.ix (i) [.z aR.1,.z aR.2])]),(5,[(1,.n 0),(5,.n 1),(3,.aV (.v (.string ⟨(b8 aR.1).toArray⟩))),(7,.aV (.v (.string ⟨(b8 aR.2).toArray⟩)))]),(6,[(0,.z (((i+1:Nat):Int)))])] 2000 [0,1] [1,3,13,14,15] r (by kernel_rfl) (U h0 (U (aA ((i:Nat):Int)) (U (cU bn) (U (rfl:(0)=((0:Nat):Int)) (U ((by omega):(0)<2) (U (rfl:(1)=((1:Nat):Int)) (U ((by omega):(1)<2) (U (s9 (z:=aR.1) (by first | omega | (have:=(jE hm).head;omega)) (by first | omega | (have:=(jE hm).head;omega))) (U ((by first | omega | decide | (simp;done) | (simp;omega)):((b8 aR.1):List UInt8).length+([45]:List UInt8).length≤9223372036854775807) (U (s9 (z:=aR.2) (by first | omega | (have:=(jE hm).head;omega)) (by first | omega | (have:=(jE hm).head;omega))) (U ((by first | omega | decide | (simp;done) | (simp;omega)):((b8 aR.1)++[45]:List UInt8).length+((b8 aR.2):List UInt8).length≤9223372036854775807) (U ((by first | rfl | (simp [strs];done) | (simp [strs];omega)):((2+i))=(strs ([[119,111,114,108,100]]++[b8 c.aL]++(c.ah.take i).map ju):List (List DV)).length) (U ((by first | rfl | (simp [strs];done) | (simp [strs];omega)):(1)=([[.v (.string ⟨((b8 aR.1)++[45]++(b8 aR.2)).toArray⟩)]]:List (List DV)).length) (U ((by first | omega | (simp [strs];done) | (simp [strs];omega)):(2*(((2+i))+(1))+192)*16≤281474976710656) (U ((by first | omega | (simp [strs];done) | (simp [strs];omega)):((2+i))+(1)<4611686018427387904) (U ((by simp [bd,AV.one,bW,strs]):bd ([[.v (.string ⟨((b8 aR.1)++[45]++(b8 aR.2)).toArray⟩)]])) (U ((wi (by omega)):IntKind.i64.wrap ((((i:Nat):Int):Int)+1)=((i+1:Nat):Int)) trivial))))))))))))))))) fun ac wd r=>bH (by omega) ac wd ⟨(by omega),r.cast rfl (by rw [AJ bn];simp [strs,ju])⟩
end Go.Proofs.YtcnpikbbmbombaaGreatDoor
namespace Go.Proofs.YtcnpikbbmbombaaGreatDoor
open Go.RowKit
theorem nh {z:Int} (h:0≤z) (h2:z≤65535):IntKind.u64.wrap z=((z.toNat:Nat):Int):=by
 simp [IntKind.wrap,IntKind.signed,IntKind.bits];omega
def pq (x:jQ) (s:aM):List (List UInt8):=(if x.node then [b8 s.node] else [])++(if x.peer then [b8 s.peer] else [])++(if x.n then [b8 s.n] else [])++(if x.bit then [b8 s.bit] else [])++(if x.inc then [Go.Lib.decDigits s.inc] else [])++(if x.body then [jl s.body] else [])
def cK (s:aM):List (List UInt8):=(af s.kind.toNat).word::pq (af s.kind.toNat) s
theorem FZ {l:List UInt8} {n:Nat} (h:l.length≤n):(jl l).length≤2*n+1:=by
 unfold jl;split
 ·simp
 ·rw [dy];omega
theorem Hx (k:Nat):(af k).word.length≤7:=by
 rcases Nat.lt_or_ge k 14 with h | h
 ·exact mi (p:=fun k=>(af k).word.length≤7) (by decide) (by decide) (by decide) (by decide) (by decide) (by decide) (by decide) (by decide) (by decide) (by decide) (by decide) (by decide) (by decide) (by decide) h
 ·unfold af;rw [List.getD_eq_getElem?_getD,List.getElem?_eq_none (by simpa [mh] using h)];decide
theorem Hy (x:jQ) (s:aM):(pq x s).length≤6:=by
 unfold pq
 simp only [List.length_append]
 have h1:∀ {b:Bool} {p:List (List UInt8)},p.length≤1→(if b=true then p else []).length≤1:=by
  intro b p h;split
  ·exact h
  ·simp
 have a1:=h1 (b:=x.node) (p:=[b8 s.node]) (by simp)
 have a2:=h1 (b:=x.peer) (p:=[b8 s.peer]) (by simp)
 have a3:=h1 (b:=x.n) (p:=[b8 s.n]) (by simp)
 have a4:=h1 (b:=x.bit) (p:=[b8 s.bit]) (by simp)
 have a5:=h1 (b:=x.inc) (p:=[Go.Lib.decDigits s.inc]) (by simp)
 have a6:=h1 (b:=x.body) (p:=[jl s.body]) (by simp)
 omega
theorem qk {s:aM} (hb:s.body.length≤255) (hi:s.inc<18446744073709551616) (h0:s.node≤65535) (h1:s.peer≤65535) (h2:s.n≤65535) (h3:s.bit≤65535):(cK s).flatten.length≤3577∧(cK s).length≤7:=by
 have hl:=Hy (af s.kind.toNat) s
 have hn:(cK s).length≤7:=by unfold cK;simp;omega
 refine ⟨?_,hn⟩
 have hd:∀ {z:Int},z≤65535→(b8 z).length≤511:=fun {z} h=>by
  have:=u3 z.toNat (by omega)
  unfold b8;omega
 have h:=zL (l:=cK s) (n:=511) fun x hx=>by
  unfold cK at hx
  rcases List.mem_cons.1 hx with rfl | hx
  ·exact Nat.le_trans (Hx _) (by decide)
  ·unfold pq at hx
   simp only [List.mem_append] at hx
   have key:∀ {b:Bool} {w x:List UInt8},x ∈ (if b=true then [w] else [])→x=w:=by
    intro b w x h;split at h
    ·simpa using h
    ·simp at h
   rcases hx with ((((hx | hx) | hx) | hx) | hx) | hx
   ·rw [key hx];exact hd h0
   ·rw [key hx];exact hd h1
   ·rw [key hx];exact hd h2
   ·rw [key hx];exact hd h3
   ·rw [key hx];exact Nat.le_trans (u3 _ hi) (by decide)
   ·rw [key hx];exact FZ hb
 have:=Nat.mul_le_mul_left 511 hn
 omega
def mQ (b:Bool) (x:List UInt8) (l:List (List UInt8)):List (List UInt8):=cond b (l++[x]) l
theorem Hz (b:Bool) (x:List UInt8) (l:List (List UInt8)):(mQ b x l).length≤l.length+1:=by cases b<;>simp [mQ]
theorem I9 (b:Bool) (x:List UInt8) (l:List (List UInt8)):mQ b x l=l++(if b=true then [x] else []):=by cases b<;>simp [mQ]
def og (s:aM):Nat→Bool×List UInt8
 | 0=>((af s.kind.toNat).node,b8 s.node)
 | 1=>((af s.kind.toNat).peer,b8 s.peer)
 | 2=>((af s.kind.toNat).n,b8 s.n)
 | 3=>((af s.kind.toNat).bit,b8 s.bit)
 | _=>((af s.kind.toNat).inc,Go.Lib.decDigits s.inc)
def bf (s:aM):Nat→List (List UInt8)
 | 0=>[(af s.kind.toNat).word]
 | j+1=>mQ (og s j).1 (og s j).2 (bf s j)
theorem gg (s:aM):∀ j,(bf s j).length≤j+1
 | 0=>Nat.le_refl _
 | j+1=>Nat.le_trans (Hz _ _ _) (Nat.succ_le_succ (gg s j))
theorem B0 (s:aM):cK s=mQ (af s.kind.toNat).body (jl s.body) (bf s 5):=by
 unfold cK pq;simp only [bf,og,I9];simp
theorem qN {s:aM} {j:Nat} (h:(og s j).1=true):strs (bf s (j+1))=strs (bf s j)++[[.v (.string ⟨(og s j).2.toArray⟩)]]:=by rw [bf,h];simp [mQ,strs]
theorem qz {s:aM} {j:Nat} (h:(og s j).1=true):(bf s (j+1)).length=(bf s j).length+1:=by rw [bf,h];simp [mQ]
theorem qO {s:aM} {j:Nat} (h:(og s j).1=false):bf s (j+1)=bf s j:=by rw [bf,h];rfl
theorem Cv {s:aM} (h:(af s.kind.toNat).body=true):cK s=bf s 5++[jl s.body]:=by rw [B0,h];rfl
theorem Cw {s:aM} (h:(af s.kind.toNat).body=false):cK s=bf s 5:=by rw [B0,h];rfl
set_option maxRecDepth 100000 in
theorem E4 (s:aM) (hb:s.body.length≤255) (hi:s.inc<18446744073709551616) (tV:0≤s.node) (pQ:s.node≤65535) (DM:0≤s.peer) (pR:s.peer≤65535) (DN:0≤s.n) (pT:s.n≤65535) (eK:0≤s.bit) (gn:s.bit≤65535) (k0:0≤s.kind) (k1:s.kind<14):aq Tryz.prog 42 [.ag [.z s.kind,.z s.node,.z s.peer,.z s.n,.z s.bit,.u s.inc,.d (.ro 1 (ae s.body))]] [.gw 0 aj,.gw 1 aN] (.d (.v (.string ⟨(bu (cK s)).toArray⟩))) ([.gw 0 aj,.gw 1 aN]):=by
 refine aq.intro (by kernel_rfl) rfl rfl 58 rfl rfl fun D w0 K bs ac wd hK (ak:bs.m=2) r=>?_
 refine bC (todo':=aft Tryz.f42 3) (E':=[(1,.pt 2 0),(2,.d (.v (.string .empty))),(3,.pt 3 0),(4,.pt 5 0),(5,.fn 72 [.pt 5 0])]) (M':=[.gw 0 aj,.gw 1 aN,.bx 42 [.z s.kind,.z s.node,.z s.peer,.z s.n,.z s.bit,.u s.inc,.d (.ro 1 (ae s.body))],.bx 94 [.d (.v (.string ⟨((af s.kind.toNat).word).toArray⟩)),.d (.v (.bool ((af s.kind.toNat).node))),.d (.v (.bool ((af s.kind.toNat).peer))),.d (.v (.bool ((af s.kind.toNat).n))),.d (.v (.bool ((af s.kind.toNat).bit))),.d (.v (.bool ((af s.kind.toNat).inc))),.d (.v (.bool ((af s.kind.toNat).body)))],.rw 9 1 ([[.v (.string ⟨((af s.kind.toNat).word).toArray⟩)]]),.bx 87 [.sl 4 (1)]]) mo tq hK ak [(1,[(2,.ix (s.kind.toNat) [.v (.string ⟨((af s.kind.toNat).word).toArray⟩),.v (.bool ((af s.kind.toNat).node)),.v (.bool ((af s.kind.toNat).peer)),.v (.bool ((af s.kind.toNat).n)),.v (.bool ((af s.kind.toNat).bit)),.v (.bool ((af s.kind.toNat).inc)),.v (.bool ((af s.kind.toNat).body))])])] 8 [0,1,2,3,4,5] [1,2,3,4,5] r (by kernel_rfl) (U ((by omega):(s.kind)=((s.kind.toNat:Nat):Int)) (U ((by omega):(s.kind.toNat)<14) (U (nn (by omega):List.take 7 (List.drop ((s.kind.toNat)*7) (aj:List DV))=([.v (.string ⟨((af s.kind.toNat).word).toArray⟩),.v (.bool ((af s.kind.toNat).node)),.v (.bool ((af s.kind.toNat).peer)),.v (.bool ((af s.kind.toNat).n)),.v (.bool ((af s.kind.toNat).bit)),.v (.bool ((af s.kind.toNat).inc)),.v (.bool ((af s.kind.toNat).body))]:List DV)) trivial))) fun ac wd r=>?_
 suffices J4:∀ ac wd,RB D w0 K 58 bs [(1,.pt 2 0),(3,.pt 3 0),(4,.pt 4 0),(5,.fn 72 [.pt 4 0])] [.gw 0 aj,.gw 1 aN,.bx 42 [.z s.kind,.z s.node,.z s.peer,.z s.n,.z s.bit,.u s.inc,.d (.ro 1 (ae s.body))],.bx 94 [.d (.v (.string ⟨((af s.kind.toNat).word).toArray⟩)),.d (.v (.bool ((af s.kind.toNat).node))),.d (.v (.bool ((af s.kind.toNat).peer))),.d (.v (.bool ((af s.kind.toNat).n))),.d (.v (.bool ((af s.kind.toNat).bit))),.d (.v (.bool ((af s.kind.toNat).inc))),.d (.v (.bool ((af s.kind.toNat).body)))],.bx 87 [.sl 5 ((bf s 1).length)],.rw 9 1 (strs (bf s 1))] ac wd→aC Tryz.prog 42 (aft Tryz.f42 4) (eX D w0 K bs (.d (.v (.string ⟨(bu (cK s)).toArray⟩))) ([.gw 0 aj,.gw 1 aN])) ac wd by
  cases h0:((af s.kind.toNat).node) with
  | false=>
   have r:=r.cast (M':=[.gw 0 aj,.gw 1 aN,.bx 42 [.z s.kind,.z s.node,.z s.peer,.z s.n,.z s.bit,.u s.inc,.d (.ro 1 (ae s.body))],.bx 94 [.d (.v (.string ⟨((af s.kind.toNat).word).toArray⟩)),.d (.v (.bool false)),.d (.v (.bool ((af s.kind.toNat).peer))),.d (.v (.bool ((af s.kind.toNat).n))),.d (.v (.bool ((af s.kind.toNat).bit))),.d (.v (.bool ((af s.kind.toNat).inc))),.d (.v (.bool ((af s.kind.toNat).body)))],.rw 9 1 ([[.v (.string ⟨((af s.kind.toNat).word).toArray⟩)]]),.bx 87 [.sl 4 (1)]]) rfl (by rw [h0])
   refine bC (todo':=aft Tryz.f42 4) (E':=[(1,.pt 2 0),(3,.pt 3 0),(4,.pt 4 0),(5,.fn 72 [.pt 4 0])]) (M':=[.gw 0 aj,.gw 1 aN,.bx 42 [.z s.kind,.z s.node,.z s.peer,.z s.n,.z s.bit,.u s.inc,.d (.ro 1 (ae s.body))],.bx 94 [.d (.v (.string ⟨((af s.kind.toNat).word).toArray⟩)),.d (.v (.bool false)),.d (.v (.bool ((af s.kind.toNat).peer))),.d (.v (.bool ((af s.kind.toNat).n))),.d (.v (.bool ((af s.kind.toNat).bit))),.d (.v (.bool ((af s.kind.toNat).inc))),.d (.v (.bool ((af s.kind.toNat).body)))],.bx 87 [.sl 5 (1)],.rw 9 1 ([[.v (.string ⟨((af s.kind.toNat).word).toArray⟩)]])]) mo tq hK ak [(4,[(5,.z (((s.node.toNat:Nat):Int))),(6,.bV 200 [])])] 2 [0,1,2,3,5,4] [1,3,4,5] r (by kernel_rfl) (U ((nh tV pQ):IntKind.u64.wrap (s.node)=((s.node.toNat:Nat):Int)) trivial) fun ac wd r=>?_
   exact J4 ac wd (r.cast rfl (by rw [qO (j:=0) h0,h0]<;>rfl))
  | true=>
   have r:=r.cast (M':=[.gw 0 aj,.gw 1 aN,.bx 42 [.z s.kind,.z s.node,.z s.peer,.z s.n,.z s.bit,.u s.inc,.d (.ro 1 (ae s.body))],.bx 94 [.d (.v (.string ⟨((af s.kind.toNat).word).toArray⟩)),.d (.v (.bool true)),.d (.v (.bool ((af s.kind.toNat).peer))),.d (.v (.bool ((af s.kind.toNat).n))),.d (.v (.bool ((af s.kind.toNat).bit))),.d (.v (.bool ((af s.kind.toNat).inc))),.d (.v (.bool ((af s.kind.toNat).body)))],.rw 9 1 ([[.v (.string ⟨((af s.kind.toNat).word).toArray⟩)]]),.bx 87 [.sl 4 (1)]]) rfl (by rw [h0])
   refine bC (todo':=aft Tryz.f42 4) (E':=[(1,.pt 2 0),(3,.pt 3 0),(4,.pt 4 0),(5,.fn 72 [.pt 4 0])]) (M':=[.gw 0 aj,.gw 1 aN,.bx 42 [.z s.kind,.z s.node,.z s.peer,.z s.n,.z s.bit,.u s.inc,.d (.ro 1 (ae s.body))],.bx 94 [.d (.v (.string ⟨((af s.kind.toNat).word).toArray⟩)),.d (.v (.bool true)),.d (.v (.bool ((af s.kind.toNat).peer))),.d (.v (.bool ((af s.kind.toNat).n))),.d (.v (.bool ((af s.kind.toNat).bit))),.d (.v (.bool ((af s.kind.toNat).inc))),.d (.v (.bool ((af s.kind.toNat).body)))],.bx 87 [.sl 5 (1+(1))],.rw 9 1 ([[.v (.string ⟨((af s.kind.toNat).word).toArray⟩)]]++[[.v (.string ⟨(Go.Lib.decDigits s.node.toNat).toArray⟩)]])]) mo tq hK ak [(4,[(5,.z (((s.node.toNat:Nat):Int))),(6,.bV 200 [(1,[(2,.mem [1] (.d (.v (.string ⟨(Go.Lib.decDigits s.node.toNat).toArray⟩))) [.gw 1 aN])])])])] 2 [0,1,2,3,5,4] [1,3,4,5] r (by kernel_rfl) (U ((nh tV pQ):IntKind.u64.wrap (s.node)=((s.node.toNat:Nat):Int)) (U (q5 s.node.toNat (by omega)) (U ((by first | rfl | (simp [strs];done) | (simp [strs];omega)):(1)=([[.v (.string ⟨((af s.kind.toNat).word).toArray⟩)]]:List (List DV)).length) (U ((by first | rfl | (simp [strs];done) | (simp [strs];omega)):(1)=([[.v (.string ⟨(Go.Lib.decDigits s.node.toNat).toArray⟩)]]:List (List DV)).length) (U ((by first | omega | (simp [strs];done) | (have:=gg s 5;simp [strs];omega)):(2*((1)+(1))+192)*16≤281474976710656) (U ((by first | omega | (simp [strs];done) | (have:=gg s 5;simp [strs];omega)):(1)+(1)<4611686018427387904) (U ((by simp [bd,AV.one,bW,ae,ah,ints,steps,strs]):bd ([[.v (.string ⟨(Go.Lib.decDigits s.node.toNat).toArray⟩)]])) trivial))))))) fun ac wd r=>?_
   exact J4 ac wd (r.cast rfl (by rw [qN (j:=0) h0,qz (j:=0) h0,h0]<;>rfl))
 intro ac wd r
 have PC:=gg s 1
 suffices J5:∀ ac wd,RB D w0 K 58 bs [(1,.pt 2 0),(3,.pt 3 0),(4,.pt 4 0),(5,.fn 72 [.pt 4 0])] [.gw 0 aj,.gw 1 aN,.bx 42 [.z s.kind,.z s.node,.z s.peer,.z s.n,.z s.bit,.u s.inc,.d (.ro 1 (ae s.body))],.bx 94 [.d (.v (.string ⟨((af s.kind.toNat).word).toArray⟩)),.d (.v (.bool ((af s.kind.toNat).node))),.d (.v (.bool ((af s.kind.toNat).peer))),.d (.v (.bool ((af s.kind.toNat).n))),.d (.v (.bool ((af s.kind.toNat).bit))),.d (.v (.bool ((af s.kind.toNat).inc))),.d (.v (.bool ((af s.kind.toNat).body)))],.bx 87 [.sl 5 ((bf s 2).length)],.rw 9 1 (strs (bf s 2))] ac wd→aC Tryz.prog 42 (aft Tryz.f42 5) (eX D w0 K bs (.d (.v (.string ⟨(bu (cK s)).toArray⟩))) ([.gw 0 aj,.gw 1 aN])) ac wd by
  cases h1:((af s.kind.toNat).peer) with
  | false=>
   have r:=r.cast (M':=[.gw 0 aj,.gw 1 aN,.bx 42 [.z s.kind,.z s.node,.z s.peer,.z s.n,.z s.bit,.u s.inc,.d (.ro 1 (ae s.body))],.bx 94 [.d (.v (.string ⟨((af s.kind.toNat).word).toArray⟩)),.d (.v (.bool ((af s.kind.toNat).node))),.d (.v (.bool false)),.d (.v (.bool ((af s.kind.toNat).n))),.d (.v (.bool ((af s.kind.toNat).bit))),.d (.v (.bool ((af s.kind.toNat).inc))),.d (.v (.bool ((af s.kind.toNat).body)))],.bx 87 [.sl 5 ((bf s 1).length)],.rw 9 1 (strs (bf s 1))]) rfl (by rw [h1])
   refine bC (todo':=aft Tryz.f42 5) (E':=[(1,.pt 2 0),(3,.pt 3 0),(4,.pt 4 0),(5,.fn 72 [.pt 4 0])]) (M':=[.gw 0 aj,.gw 1 aN,.bx 42 [.z s.kind,.z s.node,.z s.peer,.z s.n,.z s.bit,.u s.inc,.d (.ro 1 (ae s.body))],.bx 94 [.d (.v (.string ⟨((af s.kind.toNat).word).toArray⟩)),.d (.v (.bool ((af s.kind.toNat).node))),.d (.v (.bool false)),.d (.v (.bool ((af s.kind.toNat).n))),.d (.v (.bool ((af s.kind.toNat).bit))),.d (.v (.bool ((af s.kind.toNat).inc))),.d (.v (.bool ((af s.kind.toNat).body)))],.bx 87 [.sl 5 ((bf s 1).length)],.rw 9 1 (strs (bf s 1))]) mo tq hK ak [(5,[(5,.z (((s.peer.toNat:Nat):Int))),(6,.bV 200 [])])] 2 [0,1,2,3,4,5] [1,3,4,5] r (by kernel_rfl) (U ((nh DM pR):IntKind.u64.wrap (s.peer)=((s.peer.toNat:Nat):Int)) trivial) fun ac wd r=>?_
   exact J5 ac wd (r.cast rfl (by rw [qO (j:=1) h1,h1]<;>rfl))
  | true=>
   have r:=r.cast (M':=[.gw 0 aj,.gw 1 aN,.bx 42 [.z s.kind,.z s.node,.z s.peer,.z s.n,.z s.bit,.u s.inc,.d (.ro 1 (ae s.body))],.bx 94 [.d (.v (.string ⟨((af s.kind.toNat).word).toArray⟩)),.d (.v (.bool ((af s.kind.toNat).node))),.d (.v (.bool true)),.d (.v (.bool ((af s.kind.toNat).n))),.d (.v (.bool ((af s.kind.toNat).bit))),.d (.v (.bool ((af s.kind.toNat).inc))),.d (.v (.bool ((af s.kind.toNat).body)))],.bx 87 [.sl 5 ((bf s 1).length)],.rw 9 1 (strs (bf s 1))]) rfl (by rw [h1])
   refine bC (todo':=aft Tryz.f42 5) (E':=[(1,.pt 2 0),(3,.pt 3 0),(4,.pt 4 0),(5,.fn 72 [.pt 4 0])]) (M':=[.gw 0 aj,.gw 1 aN,.bx 42 [.z s.kind,.z s.node,.z s.peer,.z s.n,.z s.bit,.u s.inc,.d (.ro 1 (ae s.body))],.bx 94 [.d (.v (.string ⟨((af s.kind.toNat).word).toArray⟩)),.d (.v (.bool ((af s.kind.toNat).node))),.d (.v (.bool true)),.d (.v (.bool ((af s.kind.toNat).n))),.d (.v (.bool ((af s.kind.toNat).bit))),.d (.v (.bool ((af s.kind.toNat).inc))),.d (.v (.bool ((af s.kind.toNat).body)))],.bx 87 [.sl 5 ((bf s 1).length+(1))],.rw 9 1 (strs (bf s 1)++[[.v (.string ⟨(Go.Lib.decDigits s.peer.toNat).toArray⟩)]])]) mo tq hK ak [(5,[(5,.z (((s.peer.toNat:Nat):Int))),(6,.bV 200 [(1,[(2,.mem [1] (.d (.v (.string ⟨(Go.Lib.decDigits s.peer.toNat).toArray⟩))) [.gw 1 aN])])])])] 2 [0,1,2,3,4,5] [1,3,4,5] r (by kernel_rfl) (U ((nh DM pR):IntKind.u64.wrap (s.peer)=((s.peer.toNat:Nat):Int)) (U (q5 s.peer.toNat (by omega)) (U ((by first | rfl | (simp [strs];done) | (simp [strs];omega)):((bf s 1).length)=(strs (bf s 1):List (List DV)).length) (U ((by first | rfl | (simp [strs];done) | (simp [strs];omega)):(1)=([[.v (.string ⟨(Go.Lib.decDigits s.peer.toNat).toArray⟩)]]:List (List DV)).length) (U ((by first | omega | (simp [strs];done) | (have:=gg s 5;simp [strs];omega)):(2*(((bf s 1).length)+(1))+192)*16≤281474976710656) (U ((by first | omega | (simp [strs];done) | (have:=gg s 5;simp [strs];omega)):((bf s 1).length)+(1)<4611686018427387904) (U ((by simp [bd,AV.one,bW,ae,ah,ints,steps,strs]):bd ([[.v (.string ⟨(Go.Lib.decDigits s.peer.toNat).toArray⟩)]])) trivial))))))) fun ac wd r=>?_
   exact J5 ac wd (r.cast rfl (by rw [qN (j:=1) h1,qz (j:=1) h1,h1]<;>rfl))
 intro ac wd r
 have N9:=gg s 2
 suffices J6:∀ ac wd,RB D w0 K 58 bs [(1,.pt 2 0),(3,.pt 3 0),(4,.pt 4 0),(5,.fn 72 [.pt 4 0])] [.gw 0 aj,.gw 1 aN,.bx 42 [.z s.kind,.z s.node,.z s.peer,.z s.n,.z s.bit,.u s.inc,.d (.ro 1 (ae s.body))],.bx 94 [.d (.v (.string ⟨((af s.kind.toNat).word).toArray⟩)),.d (.v (.bool ((af s.kind.toNat).node))),.d (.v (.bool ((af s.kind.toNat).peer))),.d (.v (.bool ((af s.kind.toNat).n))),.d (.v (.bool ((af s.kind.toNat).bit))),.d (.v (.bool ((af s.kind.toNat).inc))),.d (.v (.bool ((af s.kind.toNat).body)))],.bx 87 [.sl 5 ((bf s 3).length)],.rw 9 1 (strs (bf s 3))] ac wd→aC Tryz.prog 42 (aft Tryz.f42 6) (eX D w0 K bs (.d (.v (.string ⟨(bu (cK s)).toArray⟩))) ([.gw 0 aj,.gw 1 aN])) ac wd by
  cases h2:((af s.kind.toNat).n) with
  | false=>
   have r:=r.cast (M':=[.gw 0 aj,.gw 1 aN,.bx 42 [.z s.kind,.z s.node,.z s.peer,.z s.n,.z s.bit,.u s.inc,.d (.ro 1 (ae s.body))],.bx 94 [.d (.v (.string ⟨((af s.kind.toNat).word).toArray⟩)),.d (.v (.bool ((af s.kind.toNat).node))),.d (.v (.bool ((af s.kind.toNat).peer))),.d (.v (.bool false)),.d (.v (.bool ((af s.kind.toNat).bit))),.d (.v (.bool ((af s.kind.toNat).inc))),.d (.v (.bool ((af s.kind.toNat).body)))],.bx 87 [.sl 5 ((bf s 2).length)],.rw 9 1 (strs (bf s 2))]) rfl (by rw [h2])
   refine bC (todo':=aft Tryz.f42 6) (E':=[(1,.pt 2 0),(3,.pt 3 0),(4,.pt 4 0),(5,.fn 72 [.pt 4 0])]) (M':=[.gw 0 aj,.gw 1 aN,.bx 42 [.z s.kind,.z s.node,.z s.peer,.z s.n,.z s.bit,.u s.inc,.d (.ro 1 (ae s.body))],.bx 94 [.d (.v (.string ⟨((af s.kind.toNat).word).toArray⟩)),.d (.v (.bool ((af s.kind.toNat).node))),.d (.v (.bool ((af s.kind.toNat).peer))),.d (.v (.bool false)),.d (.v (.bool ((af s.kind.toNat).bit))),.d (.v (.bool ((af s.kind.toNat).inc))),.d (.v (.bool ((af s.kind.toNat).body)))],.bx 87 [.sl 5 ((bf s 2).length)],.rw 9 1 (strs (bf s 2))]) mo tq hK ak [(6,[(5,.z (((s.n.toNat:Nat):Int))),(6,.bV 200 [])])] 2 [0,1,2,3,4,5] [1,3,4,5] r (by kernel_rfl) (U ((nh DN pT):IntKind.u64.wrap (s.n)=((s.n.toNat:Nat):Int)) trivial) fun ac wd r=>?_
   exact J6 ac wd (r.cast rfl (by rw [qO (j:=2) h2,h2]<;>rfl))
  | true=>
   have r:=r.cast (M':=[.gw 0 aj,.gw 1 aN,.bx 42 [.z s.kind,.z s.node,.z s.peer,.z s.n,.z s.bit,.u s.inc,.d (.ro 1 (ae s.body))],.bx 94 [.d (.v (.string ⟨((af s.kind.toNat).word).toArray⟩)),.d (.v (.bool ((af s.kind.toNat).node))),.d (.v (.bool ((af s.kind.toNat).peer))),.d (.v (.bool true)),.d (.v (.bool ((af s.kind.toNat).bit))),.d (.v (.bool ((af s.kind.toNat).inc))),.d (.v (.bool ((af s.kind.toNat).body)))],.bx 87 [.sl 5 ((bf s 2).length)],.rw 9 1 (strs (bf s 2))]) rfl (by rw [h2])
   refine bC (todo':=aft Tryz.f42 6) (E':=[(1,.pt 2 0),(3,.pt 3 0),(4,.pt 4 0),(5,.fn 72 [.pt 4 0])]) (M':=[.gw 0 aj,.gw 1 aN,.bx 42 [.z s.kind,.z s.node,.z s.peer,.z s.n,.z s.bit,.u s.inc,.d (.ro 1 (ae s.body))],.bx 94 [.d (.v (.string ⟨((af s.kind.toNat).word).toArray⟩)),.d (.v (.bool ((af s.kind.toNat).node))),.d (.v (.bool ((af s.kind.toNat).peer))),.d (.v (.bool true)),.d (.v (.bool ((af s.kind.toNat).bit))),.d (.v (.bool ((af s.kind.toNat).inc))),.d (.v (.bool ((af s.kind.toNat).body)))],.bx 87 [.sl 5 ((bf s 2).length+(1))],.rw 9 1 (strs (bf s 2)++[[.v (.string ⟨(Go.Lib.decDigits s.n.toNat).toArray⟩)]])]) mo tq hK ak [(6,[(5,.z (((s.n.toNat:Nat):Int))),(6,.bV 200 [(1,[(2,.mem [1] (.d (.v (.string ⟨(Go.Lib.decDigits s.n.toNat).toArray⟩))) [.gw 1 aN])])])])] 2 [0,1,2,3,4,5] [1,3,4,5] r (by kernel_rfl) (U ((nh DN pT):IntKind.u64.wrap (s.n)=((s.n.toNat:Nat):Int)) (U (q5 s.n.toNat (by omega)) (U ((by first | rfl | (simp [strs];done) | (simp [strs];omega)):((bf s 2).length)=(strs (bf s 2):List (List DV)).length) (U ((by first | rfl | (simp [strs];done) | (simp [strs];omega)):(1)=([[.v (.string ⟨(Go.Lib.decDigits s.n.toNat).toArray⟩)]]:List (List DV)).length) (U ((by first | omega | (simp [strs];done) | (have:=gg s 5;simp [strs];omega)):(2*(((bf s 2).length)+(1))+192)*16≤281474976710656) (U ((by first | omega | (simp [strs];done) | (have:=gg s 5;simp [strs];omega)):((bf s 2).length)+(1)<4611686018427387904) (U ((by simp [bd,AV.one,bW,ae,ah,ints,steps,strs]):bd ([[.v (.string ⟨(Go.Lib.decDigits s.n.toNat).toArray⟩)]])) trivial))))))) fun ac wd r=>?_
   exact J6 ac wd (r.cast rfl (by rw [qN (j:=2) h2,qz (j:=2) h2,h2]<;>rfl))
 intro ac wd r
 have y4:=gg s 3
 suffices J7:∀ ac wd,RB D w0 K 58 bs [(1,.pt 2 0),(3,.pt 3 0),(4,.pt 4 0),(5,.fn 72 [.pt 4 0])] [.gw 0 aj,.gw 1 aN,.bx 42 [.z s.kind,.z s.node,.z s.peer,.z s.n,.z s.bit,.u s.inc,.d (.ro 1 (ae s.body))],.bx 94 [.d (.v (.string ⟨((af s.kind.toNat).word).toArray⟩)),.d (.v (.bool ((af s.kind.toNat).node))),.d (.v (.bool ((af s.kind.toNat).peer))),.d (.v (.bool ((af s.kind.toNat).n))),.d (.v (.bool ((af s.kind.toNat).bit))),.d (.v (.bool ((af s.kind.toNat).inc))),.d (.v (.bool ((af s.kind.toNat).body)))],.bx 87 [.sl 5 ((bf s 4).length)],.rw 9 1 (strs (bf s 4))] ac wd→aC Tryz.prog 42 (aft Tryz.f42 7) (eX D w0 K bs (.d (.v (.string ⟨(bu (cK s)).toArray⟩))) ([.gw 0 aj,.gw 1 aN])) ac wd by
  cases h3:((af s.kind.toNat).bit) with
  | false=>
   have r:=r.cast (M':=[.gw 0 aj,.gw 1 aN,.bx 42 [.z s.kind,.z s.node,.z s.peer,.z s.n,.z s.bit,.u s.inc,.d (.ro 1 (ae s.body))],.bx 94 [.d (.v (.string ⟨((af s.kind.toNat).word).toArray⟩)),.d (.v (.bool ((af s.kind.toNat).node))),.d (.v (.bool ((af s.kind.toNat).peer))),.d (.v (.bool ((af s.kind.toNat).n))),.d (.v (.bool false)),.d (.v (.bool ((af s.kind.toNat).inc))),.d (.v (.bool ((af s.kind.toNat).body)))],.bx 87 [.sl 5 ((bf s 3).length)],.rw 9 1 (strs (bf s 3))]) rfl (by rw [h3])
   refine bC (todo':=aft Tryz.f42 7) (E':=[(1,.pt 2 0),(3,.pt 3 0),(4,.pt 4 0),(5,.fn 72 [.pt 4 0])]) (M':=[.gw 0 aj,.gw 1 aN,.bx 42 [.z s.kind,.z s.node,.z s.peer,.z s.n,.z s.bit,.u s.inc,.d (.ro 1 (ae s.body))],.bx 94 [.d (.v (.string ⟨((af s.kind.toNat).word).toArray⟩)),.d (.v (.bool ((af s.kind.toNat).node))),.d (.v (.bool ((af s.kind.toNat).peer))),.d (.v (.bool ((af s.kind.toNat).n))),.d (.v (.bool false)),.d (.v (.bool ((af s.kind.toNat).inc))),.d (.v (.bool ((af s.kind.toNat).body)))],.bx 87 [.sl 5 ((bf s 3).length)],.rw 9 1 (strs (bf s 3))]) mo tq hK ak [(7,[(5,.z (((s.bit.toNat:Nat):Int))),(6,.bV 200 [])])] 2 [0,1,2,3,4,5] [1,3,4,5] r (by kernel_rfl) (U ((nh eK gn):IntKind.u64.wrap (s.bit)=((s.bit.toNat:Nat):Int)) trivial) fun ac wd r=>?_
   exact J7 ac wd (r.cast rfl (by rw [qO (j:=3) h3,h3]<;>rfl))
  | true=>
   have r:=r.cast (M':=[.gw 0 aj,.gw 1 aN,.bx 42 [.z s.kind,.z s.node,.z s.peer,.z s.n,.z s.bit,.u s.inc,.d (.ro 1 (ae s.body))],.bx 94 [.d (.v (.string ⟨((af s.kind.toNat).word).toArray⟩)),.d (.v (.bool ((af s.kind.toNat).node))),.d (.v (.bool ((af s.kind.toNat).peer))),.d (.v (.bool ((af s.kind.toNat).n))),.d (.v (.bool true)),.d (.v (.bool ((af s.kind.toNat).inc))),.d (.v (.bool ((af s.kind.toNat).body)))],.bx 87 [.sl 5 ((bf s 3).length)],.rw 9 1 (strs (bf s 3))]) rfl (by rw [h3])
   refine bC (todo':=aft Tryz.f42 7) (E':=[(1,.pt 2 0),(3,.pt 3 0),(4,.pt 4 0),(5,.fn 72 [.pt 4 0])]) (M':=[.gw 0 aj,.gw 1 aN,.bx 42 [.z s.kind,.z s.node,.z s.peer,.z s.n,.z s.bit,.u s.inc,.d (.ro 1 (ae s.body))],.bx 94 [.d (.v (.string ⟨((af s.kind.toNat).word).toArray⟩)),.d (.v (.bool ((af s.kind.toNat).node))),.d (.v (.bool ((af s.kind.toNat).peer))),.d (.v (.bool ((af s.kind.toNat).n))),.d (.v (.bool true)),.d (.v (.bool ((af s.kind.toNat).inc))),.d (.v (.bool ((af s.kind.toNat).body)))],.bx 87 [.sl 5 ((bf s 3).length+(1))],.rw 9 1 (strs (bf s 3)++[[.v (.string ⟨(Go.Lib.decDigits s.bit.toNat).toArray⟩)]])]) mo tq hK ak [(7,[(5,.z (((s.bit.toNat:Nat):Int))),(6,.bV 200 [(1,[(2,.mem [1] (.d (.v (.string ⟨(Go.Lib.decDigits s.bit.toNat).toArray⟩))) [.gw 1 aN])])])])] 2 [0,1,2,3,4,5] [1,3,4,5] r (by kernel_rfl) (U ((nh eK gn):IntKind.u64.wrap (s.bit)=((s.bit.toNat:Nat):Int)) (U (q5 s.bit.toNat (by omega)) (U ((by first | rfl | (simp [strs];done) | (simp [strs];omega)):((bf s 3).length)=(strs (bf s 3):List (List DV)).length) (U ((by first | rfl | (simp [strs];done) | (simp [strs];omega)):(1)=([[.v (.string ⟨(Go.Lib.decDigits s.bit.toNat).toArray⟩)]]:List (List DV)).length) (U ((by first | omega | (simp [strs];done) | (have:=gg s 5;simp [strs];omega)):(2*(((bf s 3).length)+(1))+192)*16≤281474976710656) (U ((by first | omega | (simp [strs];done) | (have:=gg s 5;simp [strs];omega)):((bf s 3).length)+(1)<4611686018427387904) (U ((by simp [bd,AV.one,bW,ae,ah,ints,steps,strs]):bd ([[.v (.string ⟨(Go.Lib.decDigits s.bit.toNat).toArray⟩)]])) trivial))))))) fun ac wd r=>?_
   exact J7 ac wd (r.cast rfl (by rw [qN (j:=3) h3,qz (j:=3) h3,h3]<;>rfl))
 intro ac wd r
 have Oa:=gg s 4
 suffices J8:∀ ac wd,RB D w0 K 58 bs [(1,.pt 2 0),(3,.pt 3 0),(4,.pt 4 0),(5,.fn 72 [.pt 4 0])] [.gw 0 aj,.gw 1 aN,.bx 42 [.z s.kind,.z s.node,.z s.peer,.z s.n,.z s.bit,.u s.inc,.d (.ro 1 (ae s.body))],.bx 94 [.d (.v (.string ⟨((af s.kind.toNat).word).toArray⟩)),.d (.v (.bool ((af s.kind.toNat).node))),.d (.v (.bool ((af s.kind.toNat).peer))),.d (.v (.bool ((af s.kind.toNat).n))),.d (.v (.bool ((af s.kind.toNat).bit))),.d (.v (.bool ((af s.kind.toNat).inc))),.d (.v (.bool ((af s.kind.toNat).body)))],.bx 87 [.sl 5 ((bf s 5).length)],.rw 9 1 (strs (bf s 5))] ac wd→aC Tryz.prog 42 (aft Tryz.f42 8) (eX D w0 K bs (.d (.v (.string ⟨(bu (cK s)).toArray⟩))) ([.gw 0 aj,.gw 1 aN])) ac wd by
  cases h4:((af s.kind.toNat).inc) with
  | false=>
   have r:=r.cast (M':=[.gw 0 aj,.gw 1 aN,.bx 42 [.z s.kind,.z s.node,.z s.peer,.z s.n,.z s.bit,.u s.inc,.d (.ro 1 (ae s.body))],.bx 94 [.d (.v (.string ⟨((af s.kind.toNat).word).toArray⟩)),.d (.v (.bool ((af s.kind.toNat).node))),.d (.v (.bool ((af s.kind.toNat).peer))),.d (.v (.bool ((af s.kind.toNat).n))),.d (.v (.bool ((af s.kind.toNat).bit))),.d (.v (.bool false)),.d (.v (.bool ((af s.kind.toNat).body)))],.bx 87 [.sl 5 ((bf s 4).length)],.rw 9 1 (strs (bf s 4))]) rfl (by rw [h4])
   refine bC (todo':=aft Tryz.f42 8) (E':=[(1,.pt 2 0),(3,.pt 3 0),(4,.pt 4 0),(5,.fn 72 [.pt 4 0])]) (M':=[.gw 0 aj,.gw 1 aN,.bx 42 [.z s.kind,.z s.node,.z s.peer,.z s.n,.z s.bit,.u s.inc,.d (.ro 1 (ae s.body))],.bx 94 [.d (.v (.string ⟨((af s.kind.toNat).word).toArray⟩)),.d (.v (.bool ((af s.kind.toNat).node))),.d (.v (.bool ((af s.kind.toNat).peer))),.d (.v (.bool ((af s.kind.toNat).n))),.d (.v (.bool ((af s.kind.toNat).bit))),.d (.v (.bool false)),.d (.v (.bool ((af s.kind.toNat).body)))],.bx 87 [.sl 5 ((bf s 4).length)],.rw 9 1 (strs (bf s 4))]) mo tq hK ak [(8,[(5,.bV 200 [])])] 2 [0,1,2,3,4,5] [1,3,4,5] r (by kernel_rfl) trivial fun ac wd r=>?_
   exact J8 ac wd (r.cast rfl (by rw [qO (j:=4) h4,h4]<;>rfl))
  | true=>
   have r:=r.cast (M':=[.gw 0 aj,.gw 1 aN,.bx 42 [.z s.kind,.z s.node,.z s.peer,.z s.n,.z s.bit,.u s.inc,.d (.ro 1 (ae s.body))],.bx 94 [.d (.v (.string ⟨((af s.kind.toNat).word).toArray⟩)),.d (.v (.bool ((af s.kind.toNat).node))),.d (.v (.bool ((af s.kind.toNat).peer))),.d (.v (.bool ((af s.kind.toNat).n))),.d (.v (.bool ((af s.kind.toNat).bit))),.d (.v (.bool true)),.d (.v (.bool ((af s.kind.toNat).body)))],.bx 87 [.sl 5 ((bf s 4).length)],.rw 9 1 (strs (bf s 4))]) rfl (by rw [h4])
   refine bC (todo':=aft Tryz.f42 8) (E':=[(1,.pt 2 0),(3,.pt 3 0),(4,.pt 4 0),(5,.fn 72 [.pt 4 0])]) (M':=[.gw 0 aj,.gw 1 aN,.bx 42 [.z s.kind,.z s.node,.z s.peer,.z s.n,.z s.bit,.u s.inc,.d (.ro 1 (ae s.body))],.bx 94 [.d (.v (.string ⟨((af s.kind.toNat).word).toArray⟩)),.d (.v (.bool ((af s.kind.toNat).node))),.d (.v (.bool ((af s.kind.toNat).peer))),.d (.v (.bool ((af s.kind.toNat).n))),.d (.v (.bool ((af s.kind.toNat).bit))),.d (.v (.bool true)),.d (.v (.bool ((af s.kind.toNat).body)))],.bx 87 [.sl 5 ((bf s 4).length+(1))],.rw 9 1 (strs (bf s 4)++[[.v (.string ⟨(Go.Lib.decDigits s.inc).toArray⟩)]])]) mo tq hK ak [(8,[(5,.bV 200 [(1,[(2,.mem [1] (.d (.v (.string ⟨(Go.Lib.decDigits s.inc).toArray⟩))) [.gw 1 aN])])])])] 2 [0,1,2,3,4,5] [1,3,4,5] r (by kernel_rfl) (U (q5 s.inc (by omega)) (U ((by first | rfl | (simp [strs];done) | (simp [strs];omega)):((bf s 4).length)=(strs (bf s 4):List (List DV)).length) (U ((by first | rfl | (simp [strs];done) | (simp [strs];omega)):(1)=([[.v (.string ⟨(Go.Lib.decDigits s.inc).toArray⟩)]]:List (List DV)).length) (U ((by first | omega | (simp [strs];done) | (have:=gg s 5;simp [strs];omega)):(2*(((bf s 4).length)+(1))+192)*16≤281474976710656) (U ((by first | omega | (simp [strs];done) | (have:=gg s 5;simp [strs];omega)):((bf s 4).length)+(1)<4611686018427387904) (U ((by simp [bd,AV.one,bW,ae,ah,ints,steps,strs]):bd ([[.v (.string ⟨(Go.Lib.decDigits s.inc).toArray⟩)]])) trivial)))))) fun ac wd r=>?_
   exact J8 ac wd (r.cast rfl (by rw [qN (j:=4) h4,qz (j:=4) h4,h4]<;>rfl))
 intro ac wd r
 have Ob:=gg s 5
 refine bC (todo':=aft Tryz.f42 9) (E':=[(1,.pt 2 0),(4,.pt 4 0),(49,.d (.v (.bool ((af s.kind.toNat).body))))]) (M':=[.gw 0 aj,.gw 1 aN,.bx 42 [.z s.kind,.z s.node,.z s.peer,.z s.n,.z s.bit,.u s.inc,.d (.ro 1 (ae s.body))],.bx 94 [.d (.v (.string ⟨((af s.kind.toNat).word).toArray⟩)),.d (.v (.bool ((af s.kind.toNat).node))),.d (.v (.bool ((af s.kind.toNat).peer))),.d (.v (.bool ((af s.kind.toNat).n))),.d (.v (.bool ((af s.kind.toNat).bit))),.d (.v (.bool ((af s.kind.toNat).inc))),.d (.v (.bool ((af s.kind.toNat).body)))],.bx 87 [.sl 5 ((bf s 5).length)],.rw 9 1 (strs (bf s 5))]) mo tq hK ak [] 3 [0,1,2,3,4,5] [1,4,49] r (by kernel_rfl) trivial fun ac wd r=>?_
 cases h5:((af s.kind.toNat).body) with
 | false=>
  have r:=r.cast (E':=[(1,.pt 2 0),(4,.pt 4 0),(49,.d (.v (.bool false)))]) (M':=[.gw 0 aj,.gw 1 aN,.bx 42 [.z s.kind,.z s.node,.z s.peer,.z s.n,.z s.bit,.u s.inc,.d (.ro 1 (ae s.body))],.bx 94 [.d (.v (.string ⟨((af s.kind.toNat).word).toArray⟩)),.d (.v (.bool ((af s.kind.toNat).node))),.d (.v (.bool ((af s.kind.toNat).peer))),.d (.v (.bool ((af s.kind.toNat).n))),.d (.v (.bool ((af s.kind.toNat).bit))),.d (.v (.bool ((af s.kind.toNat).inc))),.d (.v (.bool false))],.bx 87 [.sl 5 ((bf s 5).length)],.rw 9 1 (strs (bf s 5))]) (by rw [h5]) (by rw [h5])
  refine aQ (y:=.d (.v (.string ⟨(bu (cK s)).toArray⟩))) (N':=[.gw 0 aj,.gw 1 aN]) (rfl) (rfl) ?_
  exact aP mo tq hK rfl ak [(11,[(1,.call [.d (.ro 1 (strs (cK s))),.d (.v (.string ⟨([32]).toArray⟩))] (.v (.string ⟨(bu (cK s)).toArray⟩)))])] 2000 [0,1] r (by kernel_rfl) (U (wH _ _ (Nat.le_trans (Nat.le_of_succ_le (qk (s:=s) hb hi pQ pR pT gn).2) (by decide)) (Nat.le_trans (qk (s:=s) hb hi pQ pR pT gn).1 (by decide)):aB Tryz.prog 71 [.d (.ro 1 (strs (cK s))),.d (.v (.string ⟨([32]).toArray⟩))] (.v (.string ⟨(bu (cK s)).toArray⟩))) (U ((fx _):eH (.v (.string ⟨(bu (cK s)).toArray⟩))) (U (cR (1)) (U ((by first | rfl | (simp [strs];done) | (simp [strs];omega)):((bf s 5).length)=(strs (bf s 5):List (List DV)).length) (U ((by first | (rw [Cw (by assumption)];simp [strs,jU,eR];done) | (rw [Cv (by assumption)];simp [strs,jU,eR])):cb (strs (bf s 5))=strs (cK s)) (U (iq (.v (.string ⟨([32]).toArray⟩))) trivial))))))
 | true=>
  have r:=r.cast (E':=[(1,.pt 2 0),(4,.pt 4 0),(49,.d (.v (.bool true)))]) (M':=[.gw 0 aj,.gw 1 aN,.bx 42 [.z s.kind,.z s.node,.z s.peer,.z s.n,.z s.bit,.u s.inc,.d (.ro 1 (ae s.body))],.bx 94 [.d (.v (.string ⟨((af s.kind.toNat).word).toArray⟩)),.d (.v (.bool ((af s.kind.toNat).node))),.d (.v (.bool ((af s.kind.toNat).peer))),.d (.v (.bool ((af s.kind.toNat).n))),.d (.v (.bool ((af s.kind.toNat).bit))),.d (.v (.bool ((af s.kind.toNat).inc))),.d (.v (.bool true))],.bx 87 [.sl 5 ((bf s 5).length)],.rw 9 1 (strs (bf s 5))]) (by rw [h5]) (by rw [h5])
  refine aQ (y:=.d (.v (.string ⟨(bu (cK s)).toArray⟩))) (N':=[.gw 0 aj,.gw 1 aN]) (rfl) (rfl) ?_
  exact aP mo tq hK rfl ak [(10,[(3,.aV (.v (.string ⟨(jl s.body).toArray⟩)))]),(11,[(1,.call [.d (.ro 1 (strs (cK s))),.d (.v (.string ⟨([32]).toArray⟩))] (.v (.string ⟨(bu (cK s)).toArray⟩)))])] 2000 [0,1] r (by kernel_rfl) (U (EY s.body (by omega)) (U ((by first | rfl | (simp [strs];done) | (simp [strs];omega)):((bf s 5).length)=(strs (bf s 5):List (List DV)).length) (U ((by first | rfl | (simp [strs];done) | (simp [strs];omega)):(1)=([[.v (.string ⟨(jl s.body).toArray⟩)]]:List (List DV)).length) (U ((by first | omega | (simp [strs];done) | (have:=gg s 5;simp [strs];omega)):(2*(((bf s 5).length)+(1))+192)*16≤281474976710656) (U ((by first | omega | (simp [strs];done) | (have:=gg s 5;simp [strs];omega)):((bf s 5).length)+(1)<4611686018427387904) (U ((by simp [bd,AV.one,bW,ae,ah,ints,steps,strs]):bd ([[.v (.string ⟨(jl s.body).toArray⟩)]])) (U (wH _ _ (Nat.le_trans (Nat.le_of_succ_le (qk (s:=s) hb hi pQ pR pT gn).2) (by decide)) (Nat.le_trans (qk (s:=s) hb hi pQ pR pT gn).1 (by decide)):aB Tryz.prog 71 [.d (.ro 1 (strs (cK s))),.d (.v (.string ⟨([32]).toArray⟩))] (.v (.string ⟨(bu (cK s)).toArray⟩))) (U ((fx _):eH (.v (.string ⟨(bu (cK s)).toArray⟩))) (U (cR (1)) (U ((by first | rfl | (simp [strs];done) | (simp [strs];omega)):((bf s 5).length+(1))=(strs (bf s 5)++[[.v (.string ⟨(jl s.body).toArray⟩)]]:List (List DV)).length) (U ((by first | (rw [Cw (by assumption)];simp [strs,jU,eR];done) | (rw [Cv (by assumption)];simp [strs,jU,eR])):cb (strs (bf s 5)++[[.v (.string ⟨(jl s.body).toArray⟩)]])=strs (cK s)) (U (iq (.v (.string ⟨([32]).toArray⟩))) trivial))))))))))))
end Go.Proofs.YtcnpikbbmbombaaGreatDoor
namespace Go.Proofs.YtcnpikbbmbombaaGreatDoor
open Go.RowKit
def dj (l:List aM):List UInt8:=l.flatMap fun s=>bu (cK s)++[10]
def sP (c:cE) (l:List aM):List UInt8:=bu (b7 c)++[10]++dj l
theorem zM {l:List aM} {i:Nat} {s:aM} (h:l[i]?=some s):dj (l.take (i+1))=dj (l.take i)++bu (cK s)++[10]:=by
 unfold dj;rw [List.take_add_one,h];simp
theorem Ad (l:List (List UInt8)):(bu l).length≤l.flatten.length+l.length:=by
 cases l with
 | nil=>simp [bu]
 | cons x r=>simp only [bu,List.length_append,qj,List.flatten_cons,List.length_cons];omega
theorem E5 {c:cE} {l:List aM} (h:decide (eZ c l=0)=true):bI c=true∧l.all hasB=true∧(eY c l).length≤65536:=by
 have h2:=Hq h
 have h:=of_decide_eq_true h
 unfold eZ at h
 generalize bI c=a at h;generalize l.all hasB=b at h
 refine ⟨?_,?_,h2⟩<;>cases a<;>cases b<;>first | rfl | (simp at h)
theorem HA (s:aM):1≤(fo s).length:=by unfold fo;simp
theorem Ja (c:cE) (l:List aM):c.ah.length+c.homes.length+l.length≤(eY c l).length:=by
 have h:l.length≤(l.flatMap fo).length:=by
  induction l with
  | nil=>simp
  | cons x r ih=>rw [List.flatMap_cons,List.length_append,List.length_cons];have:=HA x;omega
 unfold eY;rw [List.length_append,AD];omega
set_option maxRecDepth 100000 in
theorem L4 (c:cE) (l:List aM) (hc:c.ah.length≤1048576) (hh:c.homes.length≤1048576) (hl:l.length≤9223372036854775807) (hr:∀ s ∈ l,s.Rd) (hE:decide (eZ c l=0)=true) (hm:bI c=true) (ha:∀ s ∈ l,hasB s=true) (hn:c.ah.length+c.homes.length+l.length≤65536) (hj:(bu (b7 c)).length≤2818048):aq Tryz.prog 17 [.ag [.z c.aL,.d (.ro 2 (ah c.ah)),.d (.ro 1 (ints c.homes))],.d (.ro 7 (steps l))] [.gw 0 aj,.gw 1 aN] (.tu [.d (.v (.string ⟨(sP c l).toArray⟩)),.z 0]) ([.gw 0 aj,.gw 1 aN]):=by
 refine aq.intro (by kernel_rfl) rfl rfl 36 rfl rfl fun D w0 K bs ac wd hK (ak:bs.m=2) r=>?_
 refine bT (todo':=hd Tryz.f17 0) (E':=[(8,.pt 2 0),(24,.d (.ro 7 (steps l))),(25,.n l.length),(26,.z 0)]) (M':=[.gw 0 aj,.gw 1 aN,.bx 71 [.pt 2 0,.sl 3 (((bu (b7 c))).length+(1))],.rw 5 1 (ae (bu (b7 c))++[[.v (.int .u8 10)]])]) mo tq hK ak [(1,[(2,.mem [0] (.tu [.sl 1 ((eY c l).length),.z 0]) [.gw 0 aj,.rw 5 1 (ae (eY c l))])]),(5,[(1,.aV (.v (.string ⟨(bu (b7 c)).toArray⟩))),(2,.bV 200 [(1,[(1,.bV 200 [(1,[(2,.b true),(3,.b true),(4,.b false)])])])])]),(6,[(0,.bV 200 [(1,[(1,.bV 200 [])])])]),(7,[(1,.z (((l.length:Nat):Int)))])] 2000 [0,1,4,5] [8,24,25,26] r (by kernel_rfl) (U ((BM c l hc hh hl hr hE):aq Tryz.prog 11 [.ag [.z c.aL,.d (.ro 2 (ah c.ah)),.d (.ro 1 (ints c.homes))],.d (.ro 7 (steps l))] [.gw 0 aj] (.tu [.sl 1 ((eY c l).length),.z 0]) [.gw 0 aj,.rw 5 1 (ae (eY c l))]) (U (FY c hm (by omega)) (U (jD:dm Tryz.prog 69) (U ((by kernel_rfl):(bif true then mH Tryz.prog 69 140 else mI Tryz.prog 69 140 71 2)=true) (U ((by decide):0<2) (U (xE:qH Tryz.prog 95) (U ((by kernel_rfl):(bif false then mH Tryz.prog 140 69 else mI Tryz.prog 140 69 71 2)=true) (U ((by decide):0<2) (U ((by first | omega | (simp [ae];done) | (simp [ae];omega)):(2*(0+((bu (b7 c))).length)+192)*1≤281474976710656) (U ((by first | omega | (simp [ae];done) | (simp [ae];omega)):0+((bu (b7 c))).length<4611686018427387904) (U (jD:dm Tryz.prog 69) (U ((by kernel_rfl):jr Tryz.prog 69=true) (U ((by first | rfl | (simp [ae];done) | (simp [ae];omega)):(((bu (b7 c))).length)=(ae (bu (b7 c))).length) (U ((by first | rfl | (simp [ae];done) | (simp [ae];omega)):(1)=([[.v (.int .u8 10)]]:List (List DV)).length) (U ((by first | omega | (simp [ae];done) | (simp [ae];omega)):(2*((((bu (b7 c))).length)+(1))+192)*1≤281474976710656) (U ((by first | omega | (simp [ae];done) | (simp [ae];omega)):(((bu (b7 c))).length)+(1)<4611686018427387904) (U ((by simp [bd,AV.one,bW,ae]):bd ([[.v (.int .u8 10)]])) (U ((by first | rfl | simp [ae,ah,ints,steps,strs]):(((steps l).length:Nat):Int)=((l.length:Nat):Int)) trivial)))))))))))))))))) fun ac wd r=>?_
 refine aC.rounds (Φ:=fun (i:Nat) ac wd=>(i≤l.length∧(bu (b7 c)++[10]++dj (l.take i)).length≤2818049+4000*i)∧RB D w0 K 36 bs [(8,.pt 2 0),(24,.d (.ro 7 (steps l))),(25,.n l.length),(26,.n i)] [.gw 0 aj,.gw 1 aN,.bx 71 [.pt 2 0,.sl 3 ((bu (b7 c)++[10]++dj (l.take i)).length)],.rw 5 1 (ae (bu (b7 c)++[10]++dj (l.take i)))] ac wd) (l.length) ?_ (Nat.zero_le _) ⟨⟨Nat.zero_le _,by simp [dj];omega⟩,(r).cast rfl (by simp [dj,ae])⟩
 clear r
 rintro i dI bH ac wd ⟨ao,r⟩
 have hlen:=ao.2
 have PD:(bu (b7 c)++[10]++dj (l.take i)).length=(bu (b7 c)).length+1+(dj (l.take i)).length:=by simp;omega
 cases h0:(decide ((((i:Nat):Int):Int)<((l.length:Nat):Int))) with
 | false=>
  have aK:=of_decide_eq_false h0
  refine aQ (y:=.tu [.d (.v (.string ⟨((bu (b7 c)++[10]++dj (l.take i))).toArray⟩)),.z 0]) (N':=[.gw 0 aj,.gw 1 aN]) ((by rw [List.take_of_length_le (by omega)];rfl)) (rfl) ?_
  exact aP mo tq hK rfl ak [(8,[(0,.b false)]),(13,[(0,.bV 200 [(1,[(10,.res (.v (.string ⟨((bu (b7 c)++[10]++dj (l.take i))).toArray⟩)))])])])] 2000 [0,1] r (by kernel_rfl) (U h0 (U ((by first | rfl | (simp [ae];done) | (simp [ae];omega)):((bu (b7 c)++[10]++dj (l.take i)).length)=(ae (bu (b7 c)++[10]++dj (l.take i)):List (List DV)).length) (U ((by first | omega | decide | (simp [ae];done) | (simp [ae];omega)):0<((bu (b7 c)++[10]++dj (l.take i)).length)) (U ((by simp [ae]):((((bu (b7 c)++[10]++dj (l.take i)).length:Nat):Int):Int)=(((ae (bu (b7 c)++[10]++dj (l.take i)):List (List DV)).length:Nat):Int)) (U ((by first | omega | (simp [ae];done) | (simp [ae];omega)):0<(ae (bu (b7 c)++[10]++dj (l.take i)):List (List DV)).length) (U (rfl:ae (bu (b7 c)++[10]++dj (l.take i))=ae ((bu (b7 c)++[10]++dj (l.take i)))) (U ((by kernel_rfl):qV Tryz.prog 121 5=true) (U ((by first | omega | decide | (simp [ae];done) | (simp [ae];omega)):(ae (bu (b7 c)++[10]++dj (l.take i)):List (List DV)).length≤9223372036854775807) trivial))))))))
 | true=>
  have aK:=of_decide_eq_true h0
  obtain ⟨bp,bM⟩:∃ x_,l[i]?=some x_:=⟨_,List.getElem?_eq_getElem (by omega)⟩
  have fA:=(hr _ (List.mem_of_getElem? bM)).inc
  have Oc:=Cj (ha _ (List.mem_of_getElem? bM))
  have dY:=qk (s:=bp) (by omega) (by omega) (by omega) (by omega) (by omega) (by omega)
  have tU:=Ad (cK bp)
  exact bT (todo':=hd Tryz.f17 0) (E':=[(8,.pt 2 0),(24,.d (.ro 7 (steps l))),(25,.n l.length),(26,.n (i+1))]) (M':=[.gw 0 aj,.gw 1 aN,.bx 71 [.pt 2 0,.sl 3 ((bu (b7 c)++[10]++dj (l.take i)).length+((bu (cK bp))).length+(1))],.rw 5 1 (ae (bu (b7 c)++[10]++dj (l.take i))++ae (bu (cK bp))++[[.v (.int .u8 10)]])]) mo tq hK ak [(8,[(0,.b true)]),(9,[(0,.ix (i) [.z bp.kind,.z bp.node,.z bp.peer,.z bp.n,.z bp.bit,.u bp.inc,.ro 1 (ae bp.body)])]),(10,[(1,.mem [0,1] (.d (.v (.string ⟨(bu (cK bp)).toArray⟩))) [.gw 0 aj,.gw 1 aN]),(2,.bV 200 [(1,[(1,.bV 200 [])])])]),(11,[(0,.bV 200 [(1,[(1,.bV 200 [])])])]),(12,[(0,.z (((i+1:Nat):Int)))])] 2000 [0,1,2,3] [8,24,25,26] r (by kernel_rfl) (U h0 (U (aA ((i:Nat):Int)) (U (l9 bM) (U (E4 bp (by omega) (by omega) (by omega) (by omega) (by omega) (by omega) (by omega) (by omega) (by omega) (by omega) (by omega) (by omega)) (U (jD:dm Tryz.prog 69) (U ((by kernel_rfl):jr Tryz.prog 69=true) (U ((by first | rfl | (simp [ae];done) | (simp [ae];omega)):((bu (b7 c)++[10]++dj (l.take i)).length)=(ae (bu (b7 c)++[10]++dj (l.take i)):List (List DV)).length) (U ((by first | omega | (simp [ae];done) | (simp [ae];omega)):(2*(((bu (b7 c)++[10]++dj (l.take i)).length)+((bu (cK bp))).length)+192)*1≤281474976710656) (U ((by first | omega | (simp [ae];done) | (simp [ae];omega)):((bu (b7 c)++[10]++dj (l.take i)).length)+((bu (cK bp))).length<4611686018427387904) (U (jD:dm Tryz.prog 69) (U ((by kernel_rfl):jr Tryz.prog 69=true) (U ((by first | rfl | (simp [ae];done) | (simp [ae];omega)):((bu (b7 c)++[10]++dj (l.take i)).length+((bu (cK bp))).length)=(ae (bu (b7 c)++[10]++dj (l.take i))++ae (bu (cK bp)):List (List DV)).length) (U ((by first | rfl | (simp [ae];done) | (simp [ae];omega)):(1)=([[.v (.int .u8 10)]]:List (List DV)).length) (U ((by first | omega | (simp [ae];done) | (simp [ae];omega)):(2*(((bu (b7 c)++[10]++dj (l.take i)).length+((bu (cK bp))).length)+(1))+192)*1≤281474976710656) (U ((by first | omega | (simp [ae];done) | (simp [ae];omega)):((bu (b7 c)++[10]++dj (l.take i)).length+((bu (cK bp))).length)+(1)<4611686018427387904) (U ((by simp [bd,AV.one,bW,ae]):bd ([[.v (.int .u8 10)]])) (U ((wi (by omega)):IntKind.i64.wrap ((((i:Nat):Int):Int)+1)=((i+1:Nat):Int)) trivial))))))))))))))))) fun ac wd r=>bH (by omega) ac wd ⟨⟨by omega,by rw [zM bM];simp at *;omega⟩,r.cast rfl (by rw [zM bM];simp [ae,Nat.add_assoc];omega)⟩
theorem Jb {l:List aM} (h:l.all hasB=true):∀ s ∈ l,hasB s=true:=List.all_eq_true.1 h
theorem HB (c:cE) (l:List aM) (hc:c.ah.length≤1048576) (hh:c.homes.length≤1048576) (hl:l.length≤9223372036854775807) (hr:∀ s ∈ l,s.Rd) (hE:decide (eZ c l=0)=true):aq Tryz.prog 17 [.ag [.z c.aL,.d (.ro 2 (ah c.ah)),.d (.ro 1 (ints c.homes))],.d (.ro 7 (steps l))] [.gw 0 aj,.gw 1 aN] (.tu [.d (.v (.string ⟨(sP c l).toArray⟩)),.z 0]) [.gw 0 aj,.gw 1 aN]:=by
 obtain ⟨h1,h2,h3⟩:=E5 hE
 have h4:=Ja c l
 refine L4 c l hc hh hl hr hE h1 (Jb h2) (by omega) ?_
 have h5:=AK h1;have h6:=BZ c;have h7:=Ad (b7 c)
 omega
end Go.Proofs.YtcnpikbbmbombaaGreatDoor
namespace Go.Proofs.YtcnpikbbmbombaaGreatDoor
open Go.RowKit
theorem EA (l:List (List UInt8)):cb (strs l)=strs l:=by rw [jU];unfold strs;rw [List.map_map];apply List.map_congr_left;intro b _;rfl
def bU (c:UInt8):List UInt8→List UInt8
 | []=>[]
 | x::r=>if x=c then [] else x::bU c r
def fL (c:UInt8) (s:List UInt8):List UInt8:=s.drop ((bU c s).length+1)
def aT (c:UInt8):List UInt8→List (List UInt8)
 | []=>[[]]
 | x::r=>if x=c then []::aT c r else (match aT c r with | w::ws=>(x::w)::ws | []=>[[x]])
theorem uA {c:UInt8}:∀ {s:List UInt8},0<s.count c→aT c s=bU c s::aT c (fL c s)
 | [],h=>by simp at h
 | x::r,h=>by
  by_cases hx:x=c
  ·subst hx;simp [aT,bU,fL]
  ·have h2:0<r.count c:=by rw [List.count_cons_of_ne hx] at h;exact h
   have ih:=uA h2
   simp only [aT,bU,if_neg hx,fL,List.length_cons,List.drop_succ_cons]
   rw [ih];rfl
theorem uv {c:UInt8}:∀ {s:List UInt8},s.count c=0→aT c s=[s]
 | [],_=>rfl
 | x::r,h=>by
  by_cases hx:x=c
  ·subst hx;simp at h
  ·have h2:r.count c=0:=by rw [List.count_cons_of_ne hx] at h;exact h
   simp only [aT,if_neg hx];rw [uv h2]
theorem vI {c:UInt8}:∀ {s:List UInt8},0<s.count c→Go.Lib.indexByte s c=(((bU c s).length:Nat):Int)
 | [],h=>by simp at h
 | x::r,h=>by
  by_cases hx:x=c
  ·subst hx;simp [Go.Lib.indexByte,bU]
  ·have h2:0<r.count c:=by rw [List.count_cons_of_ne hx] at h;exact h
   have ih:=vI h2
   have hb:(x==c)=false:=by simpa using hx
   unfold Go.Lib.indexByte
   rw [hb,ih]
   simp only [bU,if_neg hx,List.length_cons,Bool.false_eq_true,if_false]
   rw [if_neg (by first | (simp;done) | (simp;omega))];simp
theorem AL {c:UInt8}:∀ {s:List UInt8},s.count c=0→Go.Lib.indexByte s c = -1
 | [],_=>rfl
 | x::r,h=>by
  by_cases hx:x=c
  ·subst hx;simp at h
  ·have h2:r.count c=0:=by rw [List.count_cons_of_ne hx] at h;exact h
   have hb:(x==c)=false:=by simpa using hx
   unfold Go.Lib.indexByte
   rw [hb,AL h2];rfl
theorem jC {c:UInt8}:∀ {s:List UInt8},0<s.count c→(bU c s).length<s.length
 | [],h=>by simp at h
 | x::r,h=>by
  by_cases hx:x=c
  ·subst hx;simp [bU]
  ·have h2:0<r.count c:=by rw [List.count_cons_of_ne hx] at h;exact h
   simp only [bU,if_neg hx,List.length_cons];have:=jC h2;omega
theorem qd {c:UInt8}:∀ (s:List UInt8),s.take (bU c s).length=bU c s
 | []=>rfl
 | x::r=>by
  by_cases hx:x=c
  ·subst hx;simp [bU]
  ·simp only [bU,if_neg hx,List.length_cons,List.take_succ_cons];rw [qd r]
theorem uB {c:UInt8}:∀ {s:List UInt8},0<s.count c→s.count c=(fL c s).count c+1
 | [],h=>by simp at h
 | x::r,h=>by
  by_cases hx:x=c
  ·subst hx;simp [bU,fL]
  ·have h2:0<r.count c:=by rw [List.count_cons_of_ne hx] at h;exact h
   have:=uB h2
   simp only [fL,bU,if_neg hx,List.length_cons,List.drop_succ_cons] at *
   rw [List.count_cons_of_ne hx];exact this
theorem iw (c:UInt8) (s:List UInt8):(aT c s).length=s.count c+1:=by
 have key:∀ (n:Nat) (s:List UInt8),s.count c=n→(aT c s).length=n+1:=by
  intro n
  induction n with
  | zero=>intro s h;rw [uv h];rfl
  | succ n ih=>intro s h;have h2:=uB (c:=c) (s:=s) (by omega);rw [uA (by omega),List.length_cons,ih _ (by omega)]
 exact key _ s rfl
def eG (c:UInt8) (l:List UInt8) (i:Nat):List (List UInt8):=(aT c l).take i++List.replicate (l.count c+1-i) []
theorem AM (l:List (List UInt8)) (i:Nat) (x:List UInt8):(strs l).set i [.v (.string ⟨x.toArray⟩)]=strs (l.set i x):=by unfold strs;rw [List.map_set]
theorem zN {c:UInt8} {l w:List UInt8} {i:Nat} (h:(aT c l)[i]?=some w):(eG c l i).set i w=eG c l (i+1):=by
 obtain ⟨aI,rfl⟩:=List.getElem?_eq_some_iff.1 h
 have hl:=iw c l
 unfold eG
 have h1:((aT c l).take i).length=i:=by simp;omega
 rw [List.set_append_right _ _ (by omega),h1,Nat.sub_self,List.take_add_one,List.getElem?_eq_getElem aI,show l.count c+1-i=(l.count c+1-(i+1))+1 from by omega,List.replicate_succ,List.set_cons_zero,List.append_assoc]
 rfl
theorem zO {c:UInt8} {l:List UInt8} {i:Nat} (h:i≤l.count c):(eG c l i)[i]?=some []:=by
 have hl:=iw c l
 have h1:((aT c l).take i).length=i:=by simp;omega
 unfold eG
 rw [List.getElem?_append_right (by omega),h1,Nat.sub_self,List.getElem?_replicate,if_pos (by omega)]
theorem F5 {c:UInt8} {l w:List UInt8} {i:Nat} (h:(aT c l)[i]?=some w) (hi:i=l.count c):strs (aT c l)=List.take (i+1) ((strs (eG c l i)).set i [.v (.string ⟨w.toArray⟩)]):=by
 have hl:=iw c l
 rw [AM,zN h]
 have e:(aT c l).take (i+1)=aT c l:=List.take_of_length_le (by omega)
 unfold eG strs
 rw [show l.count c+1-(i+1)=0 from by omega,e,List.replicate_zero,List.append_nil,List.take_of_length_le (by simp;omega)]
theorem AN {α:Type} {l r:List α} {x:α} {i:Nat} (h:l.drop i=x::r):l[i]?=some x∧l.drop (i+1)=r:=by
 constructor
 ·have:=congrArg (fun q=>q[0]?) h;simpa using this
 ·have:=congrArg (fun q=>q.drop 1) h;simpa [List.drop_drop] using this
set_option maxRecDepth 100000 in
theorem EB (c:UInt8) (l:List UInt8) (hl:l.length≤1048576) (cQ:l.count c≤l.length):aB Tryz.prog 101 [.d (.v (.string ⟨l.toArray⟩)),.d (.v (.string ⟨([c]).toArray⟩)),.z 0,.z (-1)] (DV.em 9 1 (strs (aT c l))):=by
 refine aB.intro (by kernel_rfl) rfl rfl 66 rfl rfl fun w0 K ac hK r=>?_
 refine cy (todo':=hd Tryz.f101 0) (E':=[(0,.d (.v (.string ⟨l.toArray⟩))),(1,.d (.v (.string ⟨([c]).toArray⟩))),(2,.z 0),(3,.n (l.count c)),(9,.sl 0 (l.count c+1)),(10,.z 0)]) (M':=[.rw 9 1 (List.replicate (l.count c+1) [.v (.string .empty)])]) mo tq hK [(3,[(1,.b false)]),(6,[(2,.aV (.n ((l.count c)))),(3,.z ((((l.count c)+1:Nat):Int)))]),(7,[(3,.z (((l.length+1:Nat):Int))),(4,.z (((l.count c+1:Nat):Int)))]),(8,[(1,.n (l.count c+1))]),(9,[(1,.z (((l.count c:Nat):Int)))])] 2000 [0] [0,1,2,3,9,10] r (by kernel_rfl) (U ((by first | decide | simp):(([c]:List UInt8)==[])=false) (U (I5 l c) (U ((wi (by omega)):IntKind.i64.wrap (((((l.count c):Nat):Int):Int)+1)=(((l.count c)+1:Nat):Int)) (U ((wi (by omega)):IntKind.i64.wrap ((((l.length:Nat):Int):Int)+1)=((l.length+1:Nat):Int)) (U ((by omega):(min ((((l.count c)+1:Nat):Int)) (((l.length+1:Nat):Int)):Int)=((l.count c+1:Nat):Int)) (U (aA ((l.count c+1:Nat):Int)) (U (aA ((l.count c+1:Nat):Int)) (U ((by first | omega | (have:=jC ki;omega)):16*(l.count c+1)≤281474976710656) (U ((by first | omega | (have:=jC ki;omega)):(l.count c+1)<4611686018427387904) (U ((wi (by omega)):IntKind.i64.wrap ((((l.count c+1:Nat):Int):Int)-1)=((l.count c:Nat):Int)) trivial)))))))))) fun ac wd r=>?_
 refine aC.rounds (Φ:=fun (i:Nat) ac wd=>∃ s:List UInt8,(i≤l.count c∧(aT c l).drop i=aT c s∧l.count c=i+s.count c∧s.length≤1048576)∧du [] w0 K 66 [(0,.d (.v (.string ⟨s.toArray⟩))),(1,.d (.v (.string ⟨([c]).toArray⟩))),(2,.z 0),(3,.n ((l.count c))),(9,.sl 0 ((l.count c+1))),(10,.n i)] [.rw 9 1 (strs (eG c l i))] ac wd) ((l.count c)) ?_ (Nat.zero_le _) ⟨l,⟨Nat.zero_le _,rfl,by omega,hl⟩,(r).cast rfl (by simp [strs,eG];rfl)⟩
 clear r
 rintro i dI bH ac wd ⟨s,ao,r⟩
 cases h0:(decide ((((i:Nat):Int):Int)<(((l.count c):Nat):Int))) with
 | false=>
  have aK:=of_decide_eq_false h0
  rw [show (DV.em 9 1 (strs (aT c l)):DV)=.em 9 1 ((List.set (strs (eG c l i)) (i) [.v (.string ⟨s.toArray⟩)]).take (i+1)) from (by rw [F5 (AN (ao.2.1.trans (uv (by omega)))).1 (by omega)])]
  exact bj mo tq hK rfl [(11,[(2,.b false)]),(17,[(3,.n (i)),(4,.ix 0 [.v (.string ⟨([]).toArray⟩)])]),(18,[(2,.z (((i+1:Nat):Int))),(3,.n (i+1))])] 2000 r (by kernel_rfl) (U h0 (U (aA ((i:Nat):Int)) (U ((by first | omega | (have:=jC ki;omega)):(i)<((l.count c+1))) (U ((by first | rfl | (simp [strs,eG,iw];done) | (simp [strs,eG,iw];omega)):((l.count c+1))≤(strs (eG c l i):List (List DV)).length) (U (sw (zO (by omega)):(strs (eG c l i))[i]?=some [.v (.string ⟨([]).toArray⟩)]) (U ((wi (by omega)):IntKind.i64.wrap ((((i:Nat):Int):Int)+1)=((i+1:Nat):Int)) (U (aA ((i+1:Nat):Int)) (U ((by first | omega | (have:=jC ki;omega)):(i+1)≤((l.count c+1))) (U ((by first | rfl | (simp [strs,eG,iw];done) | (simp [strs,eG,iw];omega)):((l.count c+1))=(List.set (strs (eG c l i)) (i) [.v (.string ⟨s.toArray⟩)]:List (List DV)).length) (U ((by first | rfl | (simp [strs,eG,iw];done) | (simp [strs,eG,iw];omega)):(i+1)=((List.set (strs (eG c l i)) (i) [.v (.string ⟨s.toArray⟩)]).take (i+1):List (List DV)).length) trivial))))))))))
 | true=>
  have aK:=of_decide_eq_true h0
  have ki:0<s.count c:=by omega
  have aI:=jC ki
  have gO:=uB ki
  have DO:=AN (ao.2.1.trans (uA ki))
  have aE:=((by have h:=I0 s c;rw [vI ki] at h;exact h):aB Tryz.prog 112 [.d (.v (.string ⟨s.toArray⟩)),.d (.v (.string ⟨([c]).toArray⟩))] (.n ((bU c s).length)))
  cases h1:(decide (((((bU c s).length:Nat):Int):Int)<0)) with
  | false=>
   have bF:=of_decide_eq_false h1
   exact cy (todo':=hd Tryz.f101 0) (E':=[(0,.d (.v (.string ⟨(List.drop ((bU c s).length+1) (s)).toArray⟩))),(1,.d (.v (.string ⟨([c]).toArray⟩))),(2,.z 0),(3,.n ((l.count c))),(9,.sl 0 ((l.count c+1))),(10,.n (i+1))]) (M':=[.rw 9 1 (List.set (strs (eG c l i)) (i) [.v (.string ⟨(List.take ((bU c s).length+0) (s)).toArray⟩)])]) mo tq hK [(11,[(2,.b true)]),(12,[(2,.aV (.n ((bU c s).length)))]),(13,[(1,.b false)]),(14,[(5,.z ((((bU c s).length+0:Nat):Int))),(6,.n2 ((bU c s).length+0) (0)),(7,.n (i)),(8,.ix 0 [.v (.string ⟨([]).toArray⟩)])]),(15,[(3,.z (1)),(4,.z ((((bU c s).length+1:Nat):Int))),(5,.n2 (0) ((bU c s).length+1))]),(16,[(1,.z (((i+1:Nat):Int)))])] 2000 [0] [0,1,2,3,9,10] r (by kernel_rfl) (U h0 (U aE (U h1 (U ((wi (by omega)):IntKind.i64.wrap (((((bU c s).length:Nat):Int):Int)+0)=(((bU c s).length+0:Nat):Int)) (U (aA (((bU c s).length+0:Nat):Int)) (U ((by have:=jC ki;omega):((bU c s).length+0)≤(s:List UInt8).length) (U (aA ((i:Nat):Int)) (U ((by first | omega | (have:=jC ki;omega)):(i)<((l.count c+1))) (U ((by first | rfl | (simp [strs,eG,iw];done) | (simp [strs,eG,iw];omega)):((l.count c+1))≤(strs (eG c l i):List (List DV)).length) (U (sw (zO (by omega)):(strs (eG c l i))[i]?=some [.v (.string ⟨([]).toArray⟩)]) (U ((by first | rfl | simp):((([c]:List UInt8).length:Nat):Int)=1) (U ((wi (by omega)):IntKind.i64.wrap (((((bU c s).length:Nat):Int):Int)+1)=(((bU c s).length+1:Nat):Int)) (U (aA (((bU c s).length+1:Nat):Int)) (U ((by have:=jC ki;omega):((bU c s).length+1)≤(s:List UInt8).length) (U ((wi (by omega)):IntKind.i64.wrap ((((i:Nat):Int):Int)+1)=((i+1:Nat):Int)) trivial))))))))))))))) fun ac wd r=>bH (by omega) ac wd ⟨(List.drop ((bU c s).length+1) (s)),⟨by omega,DO.2,by unfold fL at gO;omega,by simp;omega⟩,r.cast rfl (by rw [Nat.add_zero,qd,AM,zN DO.1])⟩
  | true=>
   have bF:=of_decide_eq_true h1
   exact absurd bF (by omega)
theorem F6 (c:UInt8) (l:List UInt8) (hl:l.length≤1048576):aB Tryz.prog 101 [.d (.v (.string ⟨l.toArray⟩)),.d (.v (.string ⟨[c].toArray⟩)),.z 0,.z (-1)] (.em 9 1 (strs (aT c l))):=EB c l hl List.count_le_length
set_option maxRecDepth 100000 in
theorem HC (c:UInt8) (l:List UInt8) (hl:l.length≤1048576):aB Tryz.prog 80 [.d (.v (.string ⟨l.toArray⟩)),.d (.v (.string ⟨([c]).toArray⟩))] (DV.em 9 1 (strs (aT c l))):=by
 refine aB.intro (by kernel_rfl) rfl rfl 8 rfl rfl fun w0 K ac hK r=>?_
 rw [show (DV.em 9 1 (strs (aT c l)):DV)=.em 9 1 (strs (aT c l)) from rfl]
 exact bj mo tq hK rfl [(1,[(2,.aV (.em 9 1 (strs (aT c l))))])] 2000 r (by kernel_rfl) (U (F6 c l hl) (U (cR ((strs (aT c l):List (List DV)).length)) trivial))
theorem sE (c:UInt8) (l:List UInt8) (hl:l.length≤1048576):aB Tryz.prog 80 [.d (.v (.string ⟨l.toArray⟩)),.d (.v (.string ⟨[c].toArray⟩))] (.ro 1 (strs (aT c l))):=by
 have h:=(HC c l hl).stays
 simp only [eR,EA] at h
 exact h
theorem AO (l:List UInt8) (c:UInt8):aB Tryz.prog 109 [.d (.v (.string ⟨l.toArray⟩)),.d (.v (.string ⟨[c].toArray⟩))] (.z (Go.Lib.indexByte l c)):=
 aB.qi (by kernel_rfl) (zs:=[.string ⟨l.toArray⟩,.string ⟨[c].toArray⟩]) fun w=>(Tryz.stringslite_Index_one ⟨l.toArray⟩ c w).mono fun e w' ⟨he,hw⟩=>⟨he,hw▸Below.refl _ _⟩
set_option maxRecDepth 100000 in
theorem HD (c:UInt8) (l:List UInt8) (hl:l.length≤1048576) (hc:0<l.count c):aB Tryz.prog 100 [.d (.v (.string ⟨l.toArray⟩)),.d (.v (.string ⟨([c]).toArray⟩))] (.tu [.v (.string ⟨(bU c l).toArray⟩),.v (.string ⟨(fL c l).toArray⟩),.v (.bool true)]):=by
 refine aB.intro (by kernel_rfl) rfl rfl 23 rfl rfl fun w0 K ac hK r=>?_
 have aE:=((by have h:=AO l c;rw [vI hc] at h;exact h):aB Tryz.prog 109 [.d (.v (.string ⟨l.toArray⟩)),.d (.v (.string ⟨([c]).toArray⟩))] (.n ((bU c l).length)))
 cases h0:(decide ((0:Int)≤(((bU c l).length:Nat):Int))) with
 | false=>
  have aK:=of_decide_eq_false h0
  exact absurd aK (by omega)
 | true=>
  have aK:=of_decide_eq_true h0
  rw [show (.tu [.v (.string ⟨(bU c l).toArray⟩),.v (.string ⟨(fL c l).toArray⟩),.v (.bool true)]:DV)=.tu [.v (.string ⟨(List.take ((bU c l).length) (l)).toArray⟩),.v (.string ⟨(List.drop ((bU c l).length+1) (l)).toArray⟩),.v (.bool true)] from (by first | rfl | (rw [qd];rfl))]
  exact bj mo tq hK rfl [(1,[(2,.aV (.n ((bU c l).length)))]),(2,[(1,.b true)]),(3,[(2,.n2 ((bU c l).length) (0)),(6,.z (1)),(7,.z ((((bU c l).length+1:Nat):Int))),(8,.n2 (0) ((bU c l).length+1))])] 2000 r (by kernel_rfl) (U aE (U h0 (U (aA (((bU c l).length:Nat):Int)) (U ((by have:=jC hc;omega):((bU c l).length)≤(l:List UInt8).length) (U ((by first | rfl | simp):((([c]:List UInt8).length:Nat):Int)=1) (U ((wi (by have:=jC hc;omega)):IntKind.i64.wrap (((((bU c l).length:Nat):Int):Int)+1)=(((bU c l).length+1:Nat):Int)) (U (aA (((bU c l).length+1:Nat):Int)) (U ((by have:=jC hc;omega):((bU c l).length+1)≤(l:List UInt8).length) trivial))))))))
set_option maxRecDepth 100000 in
theorem qt (c:UInt8) (l:List UInt8) (hl:l.length≤1048576) (hc:0<l.count c):aB Tryz.prog 79 [.d (.v (.string ⟨l.toArray⟩)),.d (.v (.string ⟨([c]).toArray⟩))] (.tu [.v (.string ⟨(bU c l).toArray⟩),.v (.string ⟨(fL c l).toArray⟩),.v (.bool true)]):=by
 refine aB.intro (by kernel_rfl) rfl rfl 13 rfl rfl fun w0 K ac hK r=>?_
 rw [show (.tu [.v (.string ⟨(bU c l).toArray⟩),.v (.string ⟨(fL c l).toArray⟩),.v (.bool true)]:DV)=.tu [.v (.string ⟨(bU c l).toArray⟩),.v (.string ⟨(fL c l).toArray⟩),.v (.bool true)] from rfl]
 exact bj mo tq hK rfl [(1,[(2,.aV (.tu [.v (.string ⟨(bU c l).toArray⟩),.v (.string ⟨(fL c l).toArray⟩),.v (.bool true)]))])] 2000 r (by kernel_rfl) (U (HD c l hl hc) trivial)
set_option maxRecDepth 100000 in
theorem Jc (c:UInt8) (l:List UInt8) (hl:l.length≤1048576) (hc:l.count c=0):aB Tryz.prog 100 [.d (.v (.string ⟨l.toArray⟩)),.d (.v (.string ⟨([c]).toArray⟩))] (.tu [.v (.string ⟨(l).toArray⟩),.v (.string ⟨([]).toArray⟩),.v (.bool false)]):=by
 refine aB.intro (by kernel_rfl) rfl rfl 23 rfl rfl fun w0 K ac hK r=>?_
 rw [show (.tu [.v (.string ⟨(l).toArray⟩),.v (.string ⟨([]).toArray⟩),.v (.bool false)]:DV)=.tu [.v (.string ⟨l.toArray⟩),.v (.string .empty),.v (.bool false)] from (by first | rfl | (rw [qd];rfl))]
 exact bj mo tq hK rfl [(1,[(2,.aV (.z (-1)))])] 2000 r (by kernel_rfl) (U ((by have h:=AO l c;rw [AL hc] at h;exact h):aB Tryz.prog 109 [.d (.v (.string ⟨l.toArray⟩)),.d (.v (.string ⟨([c]).toArray⟩))] (.z (-1))) trivial)
set_option maxRecDepth 100000 in
theorem Km (c:UInt8) (l:List UInt8) (hl:l.length≤1048576) (hc:l.count c=0):aB Tryz.prog 79 [.d (.v (.string ⟨l.toArray⟩)),.d (.v (.string ⟨([c]).toArray⟩))] (.tu [.v (.string ⟨(l).toArray⟩),.v (.string ⟨([]).toArray⟩),.v (.bool false)]):=by
 refine aB.intro (by kernel_rfl) rfl rfl 13 rfl rfl fun w0 K ac hK r=>?_
 rw [show (.tu [.v (.string ⟨(l).toArray⟩),.v (.string ⟨([]).toArray⟩),.v (.bool false)]:DV)=.tu [.v (.string ⟨l.toArray⟩),.v (.string ⟨([]).toArray⟩),.v (.bool false)] from rfl]
 exact bj mo tq hK rfl [(1,[(2,.aV (.tu [.v (.string ⟨l.toArray⟩),.v (.string ⟨([]).toArray⟩),.v (.bool false)]))])] 2000 r (by kernel_rfl) (U (Jc c l hl hc) trivial)
end Go.Proofs.YtcnpikbbmbombaaGreatDoor
namespace Go.Proofs.YtcnpikbbmbombaaGreatDoor
open Go.RowKit
theorem B1 {x:Nat} (h:x<18446744073709551616):IntKind.u64.wrap (((x:Nat):Int).tdiv 10)=((x / 10:Nat):Int):=by
 have e:((x:Nat):Int).tdiv 10=((x / 10:Nat):Int):=(Int.ofNat_tdiv x 10).symm
 rw [e];simp [IntKind.wrap,IntKind.signed,IntKind.bits];omega
def iW (most:Nat):List UInt8→Nat→Option Nat
 | [],n=>some n
 | b::r,n=>if b.toNat<48∨57<b.toNat then none else if (most-(b.toNat-48)) / 10<n then none else iW most r (10*n+(b.toNat-48))
def aO (w:List UInt8) (most:Nat):Nat×Bool:=if w=[]∨(w.head?=some 48∧w≠[48]) then (0,false) else (match iW most w 0 with | some n=>(n,true) | none=>(0,false))
theorem k6 {w:List UInt8} {most:Nat} (h:w=[]∨(w.head?=some 48∧w≠[48])):aO w most=(0,false):=by unfold aO;rw [if_pos h]
theorem kY {w:List UInt8} {most n:Nat} (h:¬ (w=[]∨(w.head?=some 48∧w≠[48]))) (e:iW most w 0=some n):aO w most=(n,true):=by unfold aO;rw [if_neg h,e]
theorem fZ {w:List UInt8} {most:Nat} (h:¬ (w=[]∨(w.head?=some 48∧w≠[48]))) (e:iW most w 0=none):aO w most=(0,false):=by unfold aO;rw [if_neg h,e]
theorem lF {w:List UInt8} (h:(w==([48]:List UInt8))=false):w≠[48]:=by intro e;subst e;simp at h
theorem L5 {w:List UInt8} (hw:w≠[]) (h:(w==([48]:List UInt8))=true):¬ (w=[]∨(w.head?=some 48∧w≠[48])):=by
 rintro (h1 | ⟨_,h1⟩)
 ·exact hw h1
 ·exact h1 (by simpa using h)
theorem L6 {w:List UInt8} {e:UInt8} (hw:w≠[]) (g:w[0]?=some e) (h:¬ ((e.toNat:Nat):Int)=48):¬ (w=[]∨(w.head?=some 48∧w≠[48])):=by
 rintro (h1 | ⟨h1,_⟩)
 ·exact hw h1
 ·rw [List.head?_eq_getElem?,g] at h1;cases h1;exact h rfl
theorem fF {most n i:Nat} {w:List UInt8} {b:UInt8} (h:w[i]?=some b):iW most (w.drop i) n=if b.toNat<48∨57<b.toNat then none else if (most-(b.toNat-48)) / 10<n then none else iW most (w.drop (i+1)) (10*n+(b.toNat-48)):=by
 obtain ⟨aI,rfl⟩:=List.getElem?_eq_some_iff.1 h
 rw [List.drop_eq_getElem_cons aI];rfl
theorem Bn {most:Nat}:∀ {w:List UInt8} {n k:Nat},n≤most→9≤most→iW most w n=some k→k≤most
 | [],n,k,h,_,e=>by simp [iW] at e;omega
 | b::r,n,k,h,h9,e=>by
  unfold iW at e
  split at e
  ·cases e
  ·split at e
   ·cases e
   ·exact Bn (by omega) h9 e
theorem lX {p:Nat×Bool} {a:Nat} {b:Bool} (h:p=(a,b)):(DV.tu [.u p.1,.v (.bool p.2)]:DV)=.tu [.u a,.v (.bool b)]:=by rw [h]
theorem en {p:Nat×Bool} {b:Bool} (h:p=(0,b)):(DV.tu [.u p.1,.v (.bool p.2)]:DV)=.tu [.v (.int .u64 0),.v (.bool b)]:=by rw [h];rfl
theorem k8 {w:List UInt8} {e:UInt8} (h:w[0]?=some e):w.head?=some e:=by rw [List.head?_eq_getElem?];exact h
theorem lY {e:UInt8} (h:((e.toNat:Nat):Int)=48):e=48:=by apply UInt8.toNat_inj.1;simp;omega
set_option maxRecDepth 100000 in
theorem Jd (w:List UInt8) (most:Nat) (e0:UInt8) (g0:w[0]?=some e0) (hw:w≠[]) (hl:w.length≤9223372036854775807) (h9:9≤most) (hm:most<18446744073709551616):aB Tryz.prog 82 [.d (.v (.string ⟨w.toArray⟩)),.u most] (.tu [.u (aO w most).1,.v (.bool (aO w most).2)]):=by
 refine aB.intro (by kernel_rfl) rfl rfl 52 rfl rfl fun w0 K ac hK r=>?_
 cases h0:(w==([]:List UInt8)) with
 | false=>
  have aE:=(⟨_,g0,rfl⟩:∃ u:UInt8,(w:List UInt8)[0]?=some u∧(.v (.int .u8 (((e0.toNat:Nat):Int))):DV)=.v (.int .u8 (u.toNat:Int)))
  cases h1:((((e0.toNat:Nat):Int):Int)==48) with
  | false=>
   have bF:=ne_of_beq_false h1
   have hR:=L6 hw g0 (by assumption)
   refine cy (todo':=hd Tryz.f82 0) (E':=[(0,.d (.v (.string ⟨w.toArray⟩))),(1,.u most),(6,.u 0),(21,.n w.length),(22,.n 0)]) (M':=[]) mo tq hK [(1,[(1,.b false),(4,.ix (0) [.v (.int .u8 (((e0.toNat:Nat):Int)))]),(5,.b false)])] 2000 [] [0,1,6,21,22] r (by kernel_rfl) (U h0 (U (rfl:(0:Int)=((0:Nat):Int)) (U aE (U h1 trivial)))) fun ac wd r=>?_
   refine aC.rounds (Φ:=fun (i:Nat) ac wd=>∃ n:Nat,(iW most (w.drop i) n=iW most w 0∧n≤most)∧du [] w0 K 52 [(0,.d (.v (.string ⟨w.toArray⟩))),(1,.u most),(6,.u n),(21,.n w.length),(22,.n i)] [] ac wd) (w.length) ?_ (Nat.zero_le _) ⟨0,⟨rfl,Nat.zero_le _⟩,r⟩
   clear r
   rintro i dI bH ac wd ⟨n,ao,r⟩
   have Dt:=ao.2
   cases h2:(decide ((((i:Nat):Int):Int)<((w.length:Nat):Int))) with
   | false=>
    have cW:=of_decide_eq_false h2
    rw [show (.tu [.u (aO w most).1,.v (.bool (aO w most).2)]:DV)=.tu [.u n,.v (.bool true)] from (by first | exact en (k6 (Or.inr ⟨(k8 g0).trans (congrArg some (lY (by assumption))),lF (by assumption)⟩)) | exact en (fZ hR (ao.1.symm.trans ((fF eW).trans (if_pos (by omega))))) | exact en (fZ hR (ao.1.symm.trans ((fF eW).trans ((if_neg (by omega)).trans (if_pos (by omega)))))) | exact lX (kY hR (ao.1.symm.trans (by rw [List.drop_of_length_le (by omega)];rfl))))]
    exact bj mo tq hK rfl [(5,[(0,.b false)])] 2000 r (by kernel_rfl) (U h2 trivial)
   | true=>
    have cW:=of_decide_eq_true h2
    obtain ⟨bJ,eW⟩:∃ x_,w[i]?=some x_:=⟨_,List.getElem?_eq_getElem (by omega)⟩
    have lO:=bJ.toNat_lt
    have aZ:=(⟨_,eW,rfl⟩:∃ u:UInt8,(w:List UInt8)[i]?=some u∧(.v (.int .u8 (((bJ.toNat:Nat):Int))):DV)=.v (.int .u8 (u.toNat:Int)))
    cases h3:(decide ((((bJ.toNat:Nat):Int):Int)<48)) with
    | false=>
     have di:=of_decide_eq_false h3
     cases h4:(decide ((57:Int)<((bJ.toNat:Nat):Int))) with
     | false=>
      have dD:=of_decide_eq_false h4
      have cd:=((by rw [w8 (by omega)];omega):IntKind.u8.wrap ((((bJ.toNat:Nat):Int):Int)-48)=((bJ.toNat-48:Nat):Int))
      have c7:=((wu (by omega)):IntKind.u64.wrap (((bJ.toNat-48:Nat):Int))=((bJ.toNat-48:Nat):Int))
      have e7:=((wu (by omega)):IntKind.u64.wrap ((((most:Nat):Int):Int)-((bJ.toNat-48:Nat):Int))=((most-(bJ.toNat-48):Nat):Int))
      have fO:=((B1 (by omega)):IntKind.u64.wrap ((((most-(bJ.toNat-48):Nat):Int):Int).tdiv 10)=(((most-(bJ.toNat-48)) / 10:Nat):Int))
      cases h5:(decide (((((most-(bJ.toNat-48)) / 10:Nat):Int):Int)<((n:Nat):Int))) with
      | false=>
       have ew:=of_decide_eq_false h5
       exact cy (todo':=hd Tryz.f82 0) mo tq hK [(5,[(0,.b true)]),(7,[(2,.ix (i) [.v (.int .u8 (((bJ.toNat:Nat):Int)))]),(3,.b false),(7,.ix (i) [.v (.int .u8 (((bJ.toNat:Nat):Int)))]),(8,.b false)]),(9,[(2,.ix (i) [.v (.int .u8 (((bJ.toNat:Nat):Int)))]),(3,.z (((bJ.toNat-48:Nat):Int))),(4,.z (((bJ.toNat-48:Nat):Int)))]),(10,[(3,.z (((most-(bJ.toNat-48):Nat):Int))),(4,.z ((((most-(bJ.toNat-48)) / 10:Nat):Int))),(5,.b false)]),(12,[(1,.z (((10*n:Nat):Int))),(3,.z (((10*n+(bJ.toNat-48):Nat):Int)))]),(13,[(0,.z (((i+1:Nat):Int)))])] 2000 [] [0,1,6,21,22] r (by kernel_rfl) (U h2 (U (aA ((i:Nat):Int)) (U aZ (U h3 (U (aA ((i:Nat):Int)) (U aZ (U h4 (U (aA ((i:Nat):Int)) (U aZ (U cd (U c7 (U e7 (U fO (U ((by decide):(10:Int)≠0) (U h5 (U ((wu (by omega)):IntKind.u64.wrap ((10:Int)*((n:Nat):Int))=((10*n:Nat):Int)) (U ((wu (by omega)):IntKind.u64.wrap ((((10*n:Nat):Int):Int)+((bJ.toNat-48:Nat):Int))=((10*n+(bJ.toNat-48):Nat):Int)) (U ((wi (by omega)):IntKind.i64.wrap ((((i:Nat):Int):Int)+1)=((i+1:Nat):Int)) trivial)))))))))))))))))) fun ac wd r=>bH (by omega) ac wd ⟨(10*n+(bJ.toNat-48)),⟨by rw [← ao.1,fF eW,if_neg (by omega),if_neg (by omega)],by omega⟩,r⟩
      | true=>
       have ew:=of_decide_eq_true h5
       rw [show (.tu [.u (aO w most).1,.v (.bool (aO w most).2)]:DV)=.tu [.v (.int .u64 0),.v (.bool false)] from (by first | exact en (k6 (Or.inr ⟨(k8 g0).trans (congrArg some (lY (by assumption))),lF (by assumption)⟩)) | exact en (fZ hR (ao.1.symm.trans ((fF eW).trans (if_pos (by omega))))) | exact en (fZ hR (ao.1.symm.trans ((fF eW).trans ((if_neg (by omega)).trans (if_pos (by omega)))))) | exact lX (kY hR (ao.1.symm.trans (by rw [List.drop_of_length_le (by omega)];rfl))))]
       exact bj mo tq hK rfl [(5,[(0,.b true)]),(7,[(2,.ix (i) [.v (.int .u8 (((bJ.toNat:Nat):Int)))]),(3,.b false),(7,.ix (i) [.v (.int .u8 (((bJ.toNat:Nat):Int)))]),(8,.b false)]),(9,[(2,.ix (i) [.v (.int .u8 (((bJ.toNat:Nat):Int)))]),(3,.z (((bJ.toNat-48:Nat):Int))),(4,.z (((bJ.toNat-48:Nat):Int)))]),(10,[(3,.z (((most-(bJ.toNat-48):Nat):Int))),(4,.z ((((most-(bJ.toNat-48)) / 10:Nat):Int))),(5,.b true)])] 2000 r (by kernel_rfl) (U h2 (U (aA ((i:Nat):Int)) (U aZ (U h3 (U (aA ((i:Nat):Int)) (U aZ (U h4 (U (aA ((i:Nat):Int)) (U aZ (U cd (U c7 (U e7 (U fO (U ((by decide):(10:Int)≠0) (U h5 trivial)))))))))))))))
     | true=>
      have dD:=of_decide_eq_true h4
      rw [show (.tu [.u (aO w most).1,.v (.bool (aO w most).2)]:DV)=.tu [.v (.int .u64 0),.v (.bool false)] from (by first | exact en (k6 (Or.inr ⟨(k8 g0).trans (congrArg some (lY (by assumption))),lF (by assumption)⟩)) | exact en (fZ hR (ao.1.symm.trans ((fF eW).trans (if_pos (by omega))))) | exact en (fZ hR (ao.1.symm.trans ((fF eW).trans ((if_neg (by omega)).trans (if_pos (by omega)))))) | exact lX (kY hR (ao.1.symm.trans (by rw [List.drop_of_length_le (by omega)];rfl))))]
      exact bj mo tq hK rfl [(5,[(0,.b true)]),(7,[(2,.ix (i) [.v (.int .u8 (((bJ.toNat:Nat):Int)))]),(3,.b false),(7,.ix (i) [.v (.int .u8 (((bJ.toNat:Nat):Int)))]),(8,.b true)])] 2000 r (by kernel_rfl) (U h2 (U (aA ((i:Nat):Int)) (U aZ (U h3 (U (aA ((i:Nat):Int)) (U aZ (U h4 trivial)))))))
    | true=>
     have di:=of_decide_eq_true h3
     rw [show (.tu [.u (aO w most).1,.v (.bool (aO w most).2)]:DV)=.tu [.v (.int .u64 0),.v (.bool false)] from (by first | exact en (k6 (Or.inr ⟨(k8 g0).trans (congrArg some (lY (by assumption))),lF (by assumption)⟩)) | exact en (fZ hR (ao.1.symm.trans ((fF eW).trans (if_pos (by omega))))) | exact en (fZ hR (ao.1.symm.trans ((fF eW).trans ((if_neg (by omega)).trans (if_pos (by omega)))))) | exact lX (kY hR (ao.1.symm.trans (by rw [List.drop_of_length_le (by omega)];rfl))))]
     exact bj mo tq hK rfl [(5,[(0,.b true)]),(7,[(2,.ix (i) [.v (.int .u8 (((bJ.toNat:Nat):Int)))]),(3,.b true)])] 2000 r (by kernel_rfl) (U h2 (U (aA ((i:Nat):Int)) (U aZ (U h3 trivial))))
  | true=>
   have bF:=eq_of_beq h1
   cases h6:(w==([48]:List UInt8)) with
   | false=>
    rw [show (.tu [.u (aO w most).1,.v (.bool (aO w most).2)]:DV)=.tu [.v (.int .u64 0),.v (.bool false)] from (by first | exact en (k6 (Or.inr ⟨(k8 g0).trans (congrArg some (lY (by assumption))),lF (by assumption)⟩)) | exact en (fZ hR (ao.1.symm.trans ((fF eW).trans (if_pos (by omega))))) | exact en (fZ hR (ao.1.symm.trans ((fF eW).trans ((if_neg (by omega)).trans (if_pos (by omega)))))) | exact lX (kY hR (ao.1.symm.trans (by rw [List.drop_of_length_le (by omega)];rfl))))]
    exact bj mo tq hK rfl [(1,[(1,.b false),(4,.ix (0) [.v (.int .u8 (((e0.toNat:Nat):Int)))]),(5,.b true),(8,.b true)])] 2000 r (by kernel_rfl) (U h0 (U (rfl:(0:Int)=((0:Nat):Int)) (U aE (U h1 (U ((by simpa [bne] using h6):(w != ([48]:List UInt8))=true) trivial)))))
   | true=>
    have hR:=L5 hw (by assumption)
    refine cy (todo':=hd Tryz.f82 0) (E':=[(0,.d (.v (.string ⟨w.toArray⟩))),(1,.u most),(6,.u 0),(21,.n w.length),(22,.n 0)]) (M':=[]) mo tq hK [(1,[(1,.b false),(4,.ix (0) [.v (.int .u8 (((e0.toNat:Nat):Int)))]),(5,.b true),(8,.b false)])] 2000 [] [0,1,6,21,22] r (by kernel_rfl) (U h0 (U (rfl:(0:Int)=((0:Nat):Int)) (U aE (U h1 (U ((by simpa [bne] using h6):(w != ([48]:List UInt8))=false) trivial))))) fun ac wd r=>?_
    refine aC.rounds (Φ:=fun (i:Nat) ac wd=>∃ n:Nat,(iW most (w.drop i) n=iW most w 0∧n≤most)∧du [] w0 K 52 [(0,.d (.v (.string ⟨w.toArray⟩))),(1,.u most),(6,.u n),(21,.n w.length),(22,.n i)] [] ac wd) (w.length) ?_ (Nat.zero_le _) ⟨0,⟨rfl,Nat.zero_le _⟩,r⟩
    clear r
    rintro i dI bH ac wd ⟨n,ao,r⟩
    have Dt:=ao.2
    cases h7:(decide ((((i:Nat):Int):Int)<((w.length:Nat):Int))) with
    | false=>
     have dZ:=of_decide_eq_false h7
     rw [show (.tu [.u (aO w most).1,.v (.bool (aO w most).2)]:DV)=.tu [.u n,.v (.bool true)] from (by first | exact en (k6 (Or.inr ⟨(k8 g0).trans (congrArg some (lY (by assumption))),lF (by assumption)⟩)) | exact en (fZ hR (ao.1.symm.trans ((fF eW).trans (if_pos (by omega))))) | exact en (fZ hR (ao.1.symm.trans ((fF eW).trans ((if_neg (by omega)).trans (if_pos (by omega)))))) | exact lX (kY hR (ao.1.symm.trans (by rw [List.drop_of_length_le (by omega)];rfl))))]
     exact bj mo tq hK rfl [(5,[(0,.b false)])] 2000 r (by kernel_rfl) (U h7 trivial)
    | true=>
     have dZ:=of_decide_eq_true h7
     obtain ⟨bJ,eW⟩:∃ x_,w[i]?=some x_:=⟨_,List.getElem?_eq_getElem (by omega)⟩
     have lO:=bJ.toNat_lt
     have ey:=(⟨_,eW,rfl⟩:∃ u:UInt8,(w:List UInt8)[i]?=some u∧(.v (.int .u8 (((bJ.toNat:Nat):Int))):DV)=.v (.int .u8 (u.toNat:Int)))
     cases h8:(decide ((((bJ.toNat:Nat):Int):Int)<48)) with
     | false=>
      have e6:=of_decide_eq_false h8
      cases h9:(decide ((57:Int)<((bJ.toNat:Nat):Int))) with
      | false=>
       have kR:=of_decide_eq_false h9
       have fP:=((by rw [w8 (by omega)];omega):IntKind.u8.wrap ((((bJ.toNat:Nat):Int):Int)-48)=((bJ.toNat-48:Nat):Int))
       have gT:=((wu (by omega)):IntKind.u64.wrap (((bJ.toNat-48:Nat):Int))=((bJ.toNat-48:Nat):Int))
       have jR:=((wu (by omega)):IntKind.u64.wrap ((((most:Nat):Int):Int)-((bJ.toNat-48:Nat):Int))=((most-(bJ.toNat-48):Nat):Int))
       have pn:=((B1 (by omega)):IntKind.u64.wrap ((((most-(bJ.toNat-48):Nat):Int):Int).tdiv 10)=(((most-(bJ.toNat-48)) / 10:Nat):Int))
       cases cX:(decide (((((most-(bJ.toNat-48)) / 10:Nat):Int):Int)<((n:Nat):Int))) with
       | false=>
        have lC:=of_decide_eq_false cX
        exact cy (todo':=hd Tryz.f82 0) mo tq hK [(5,[(0,.b true)]),(7,[(2,.ix (i) [.v (.int .u8 (((bJ.toNat:Nat):Int)))]),(3,.b false),(7,.ix (i) [.v (.int .u8 (((bJ.toNat:Nat):Int)))]),(8,.b false)]),(9,[(2,.ix (i) [.v (.int .u8 (((bJ.toNat:Nat):Int)))]),(3,.z (((bJ.toNat-48:Nat):Int))),(4,.z (((bJ.toNat-48:Nat):Int)))]),(10,[(3,.z (((most-(bJ.toNat-48):Nat):Int))),(4,.z ((((most-(bJ.toNat-48)) / 10:Nat):Int))),(5,.b false)]),(12,[(1,.z (((10*n:Nat):Int))),(3,.z (((10*n+(bJ.toNat-48):Nat):Int)))]),(13,[(0,.z (((i+1:Nat):Int)))])] 2000 [] [0,1,6,21,22] r (by kernel_rfl) (U h7 (U (aA ((i:Nat):Int)) (U ey (U h8 (U (aA ((i:Nat):Int)) (U ey (U h9 (U (aA ((i:Nat):Int)) (U ey (U fP (U gT (U jR (U pn (U ((by decide):(10:Int)≠0) (U cX (U ((wu (by omega)):IntKind.u64.wrap ((10:Int)*((n:Nat):Int))=((10*n:Nat):Int)) (U ((wu (by omega)):IntKind.u64.wrap ((((10*n:Nat):Int):Int)+((bJ.toNat-48:Nat):Int))=((10*n+(bJ.toNat-48):Nat):Int)) (U ((wi (by omega)):IntKind.i64.wrap ((((i:Nat):Int):Int)+1)=((i+1:Nat):Int)) trivial)))))))))))))))))) fun ac wd r=>bH (by omega) ac wd ⟨(10*n+(bJ.toNat-48)),⟨by rw [← ao.1,fF eW,if_neg (by omega),if_neg (by omega)],by omega⟩,r⟩
       | true=>
        have lC:=of_decide_eq_true cX
        rw [show (.tu [.u (aO w most).1,.v (.bool (aO w most).2)]:DV)=.tu [.v (.int .u64 0),.v (.bool false)] from (by first | exact en (k6 (Or.inr ⟨(k8 g0).trans (congrArg some (lY (by assumption))),lF (by assumption)⟩)) | exact en (fZ hR (ao.1.symm.trans ((fF eW).trans (if_pos (by omega))))) | exact en (fZ hR (ao.1.symm.trans ((fF eW).trans ((if_neg (by omega)).trans (if_pos (by omega)))))) | exact lX (kY hR (ao.1.symm.trans (by rw [List.drop_of_length_le (by omega)];rfl))))]
        exact bj mo tq hK rfl [(5,[(0,.b true)]),(7,[(2,.ix (i) [.v (.int .u8 (((bJ.toNat:Nat):Int)))]),(3,.b false),(7,.ix (i) [.v (.int .u8 (((bJ.toNat:Nat):Int)))]),(8,.b false)]),(9,[(2,.ix (i) [.v (.int .u8 (((bJ.toNat:Nat):Int)))]),(3,.z (((bJ.toNat-48:Nat):Int))),(4,.z (((bJ.toNat-48:Nat):Int)))]),(10,[(3,.z (((most-(bJ.toNat-48):Nat):Int))),(4,.z ((((most-(bJ.toNat-48)) / 10:Nat):Int))),(5,.b true)])] 2000 r (by kernel_rfl) (U h7 (U (aA ((i:Nat):Int)) (U ey (U h8 (U (aA ((i:Nat):Int)) (U ey (U h9 (U (aA ((i:Nat):Int)) (U ey (U fP (U gT (U jR (U pn (U ((by decide):(10:Int)≠0) (U cX trivial)))))))))))))))
      | true=>
       have kR:=of_decide_eq_true h9
       rw [show (.tu [.u (aO w most).1,.v (.bool (aO w most).2)]:DV)=.tu [.v (.int .u64 0),.v (.bool false)] from (by first | exact en (k6 (Or.inr ⟨(k8 g0).trans (congrArg some (lY (by assumption))),lF (by assumption)⟩)) | exact en (fZ hR (ao.1.symm.trans ((fF eW).trans (if_pos (by omega))))) | exact en (fZ hR (ao.1.symm.trans ((fF eW).trans ((if_neg (by omega)).trans (if_pos (by omega)))))) | exact lX (kY hR (ao.1.symm.trans (by rw [List.drop_of_length_le (by omega)];rfl))))]
       exact bj mo tq hK rfl [(5,[(0,.b true)]),(7,[(2,.ix (i) [.v (.int .u8 (((bJ.toNat:Nat):Int)))]),(3,.b false),(7,.ix (i) [.v (.int .u8 (((bJ.toNat:Nat):Int)))]),(8,.b true)])] 2000 r (by kernel_rfl) (U h7 (U (aA ((i:Nat):Int)) (U ey (U h8 (U (aA ((i:Nat):Int)) (U ey (U h9 trivial)))))))
     | true=>
      have e6:=of_decide_eq_true h8
      rw [show (.tu [.u (aO w most).1,.v (.bool (aO w most).2)]:DV)=.tu [.v (.int .u64 0),.v (.bool false)] from (by first | exact en (k6 (Or.inr ⟨(k8 g0).trans (congrArg some (lY (by assumption))),lF (by assumption)⟩)) | exact en (fZ hR (ao.1.symm.trans ((fF eW).trans (if_pos (by omega))))) | exact en (fZ hR (ao.1.symm.trans ((fF eW).trans ((if_neg (by omega)).trans (if_pos (by omega)))))) | exact lX (kY hR (ao.1.symm.trans (by rw [List.drop_of_length_le (by omega)];rfl))))]
      exact bj mo tq hK rfl [(5,[(0,.b true)]),(7,[(2,.ix (i) [.v (.int .u8 (((bJ.toNat:Nat):Int)))]),(3,.b true)])] 2000 r (by kernel_rfl) (U h7 (U (aA ((i:Nat):Int)) (U ey (U h8 trivial))))
 | true=>
  exact absurd (eq_of_beq h0) hw
set_option maxRecDepth 100000 in
theorem Kn (most:Nat):aB Tryz.prog 82 [.d (.v (.string ⟨([]).toArray⟩)),.u most] (.tu [.v (.int .u64 0),.v (.bool false)]):=by
 refine aB.intro (by kernel_rfl) rfl rfl 52 rfl rfl fun w0 K ac hK r=>?_
 rw [show (.tu [.v (.int .u64 0),.v (.bool false)]:DV)=.tu [.v (.int .u64 0),.v (.bool false)] from rfl]
 exact bj mo tq hK rfl [(1,[(1,.b true)])] 2000 r (by kernel_rfl) (U ((by first | decide | simp):(([]:List UInt8)==[])=true) trivial)
theorem sj (w:List UInt8) (most:Nat) (hl:w.length≤9223372036854775807) (h9:9≤most) (hm:most<18446744073709551616):aB Tryz.prog 82 [.d (.v (.string ⟨w.toArray⟩)),.u most] (.tu [.u (aO w most).1,.v (.bool (aO w most).2)]):=by
 cases w with
 | nil=>exact Kn most
 | cons b r=>exact Jd (b::r) most b rfl (by simp) hl h9 hm
end Go.Proofs.YtcnpikbbmbombaaGreatDoor
namespace Go.Proofs.YtcnpikbbmbombaaGreatDoor
open Go.RowKit
def hx (b:UInt8):Int:=Go.Lib.indexByte [48,49,50,51,52,53,54,55,56,57,97,98,99,100,101,102] b
def bO (b:UInt8):Nat:=(hx b).toNat
theorem L7 (b:UInt8):hx b<16:=by
 have key:∀ n,n<256→hx (UInt8.ofNat n)<16:=by decide +kernel
 have:=key b.toNat b.toNat_lt
 rwa [UInt8.ofNat_toNat] at this
theorem nB {b:UInt8} (h:decide (hx b<0)=false):hx b=((bO b:Nat):Int)∧bO b<16:=by
 have h:=of_decide_eq_false h
 have:=L7 b
 unfold bO;omega
theorem L8 {b:UInt8} (h:decide (hx b<0)=true):hx b = -1:=by
 have h:=of_decide_eq_true h
 have:=Go.Lib.indexByte_ge [48,49,50,51,52,53,54,55,56,57,97,98,99,100,101,102] b
 unfold hx at *;omega
theorem o9 {b:UInt8} (h:decide (hx b<0)=false):aB Tryz.prog 102 [.d (.v (.string ⟨([48,49,50,51,52,53,54,55,56,57,97,98,99,100,101,102]:List UInt8).toArray⟩)),.d (.v (.int .u8 ((b.toNat:Nat):Int)))] (.n (bO b)):=by
 have q:=zq [48,49,50,51,52,53,54,55,56,57,97,98,99,100,101,102] b
 rw [show Go.Lib.indexByte [48,49,50,51,52,53,54,55,56,57,97,98,99,100,101,102] b=((bO b:Nat):Int) from (nB h).1] at q;exact q
theorem tH {b:UInt8} (h:decide (hx b<0)=true):aB Tryz.prog 102 [.d (.v (.string ⟨([48,49,50,51,52,53,54,55,56,57,97,98,99,100,101,102]:List UInt8).toArray⟩)),.d (.v (.int .u8 ((b.toNat:Nat):Int)))] (.z (-1)):=by
 have q:=zq [48,49,50,51,52,53,54,55,56,57,97,98,99,100,101,102] b
 rw [show Go.Lib.indexByte [48,49,50,51,52,53,54,55,56,57,97,98,99,100,101,102] b = -1 from L8 h] at q;exact q
theorem CX {h:Nat} (hh:h<16):IntKind.i64.wrap (((h:Nat):Int)*2 ^ (min (4:Int).toNat IntKind.i64.bits))=((16*h:Nat):Int):=by
 show IntKind.i64.wrap (((h:Nat):Int)*16)=_
 simp [IntKind.wrap,IntKind.signed,IntKind.bits];omega
theorem Cx {h l:Nat} (hh:h<16) (hl:l<16):IntKind.i64.wrap ((BitVec.ofInt IntKind.i64.bits ((16*h:Nat):Int) ||| BitVec.ofInt IntKind.i64.bits ((l:Nat):Int)).toNat:Int)=((16*h+l:Nat):Int):=by
 have h1:(BitVec.ofInt 64 ((16*h:Nat):Int) ||| BitVec.ofInt 64 ((l:Nat):Int)).toNat=16*h+l:=by
  rw [BitVec.toNat_or,BitVec.ofInt_natCast,BitVec.ofInt_natCast,BitVec.toNat_ofNat,BitVec.toNat_ofNat,Nat.mod_eq_of_lt (by omega),Nat.mod_eq_of_lt (by omega)]
  have:=Nat.two_pow_add_eq_or_of_lt (i:=4) (b:=l) (by omega) h
  rw [show 16*h=2 ^ 4*h from by omega];omega
 show IntKind.i64.wrap ((BitVec.ofInt 64 ((16*h:Nat):Int) ||| BitVec.ofInt 64 ((l:Nat):Int)).toNat:Int)=_
 rw [h1];simp [IntKind.wrap,IntKind.signed,IntKind.bits];omega
def ig:List UInt8→Option (List UInt8)
 | a::b::r=>if hx a<0∨hx b<0 then none else (ig r).map fun q=>bz ((16*bO a+bO b:Nat):Int)::q
 | _=>some []
def fM (w:List UInt8):List UInt8×Bool:=if w=[45] then ([],true) else if w=[]∨w.length%2≠0∨510<w.length then ([],false) else (match ig w with | some q=>(q,true) | none=>([],false))
theorem sF {w:List UInt8} {i:Nat} {a b:UInt8} (h1:w[2*i]?=some a) (h2:w[2*i+1]?=some b):ig (w.drop (2*i))=if hx a<0∨hx b<0 then none else (ig (w.drop (2*(i+1)))).map fun q=>bz ((16*bO a+bO b:Nat):Int)::q:=by
 obtain ⟨M8,rfl⟩:=List.getElem?_eq_some_iff.1 h1
 obtain ⟨M9,rfl⟩:=List.getElem?_eq_some_iff.1 h2
 rw [List.drop_eq_getElem_cons M8,List.drop_eq_getElem_cons M9,ig];rfl
theorem HE {w:List UInt8} (h1:w≠[45]) (h:w=[]∨w.length%2≠0∨510<w.length):fM w=([],false):=by unfold fM;rw [if_neg h1,if_pos h]
theorem F7 {w:List UInt8} (h1:w≠[45]) (h:¬ (w=[]∨w.length%2≠0∨510<w.length)) (e:ig w=none):fM w=([],false):=by unfold fM;rw [if_neg h1,if_neg h,e]
theorem F8 {w q:List UInt8} (h1:w≠[45]) (h:¬ (w=[]∨w.length%2≠0∨510<w.length)) (e:ig w=some q):fM w=(q,true):=by unfold fM;rw [if_neg h1,if_neg h,e]
theorem xF (n:Nat):((n:Nat):Int).tmod 2=((n%2:Nat):Int):=(Int.ofNat_tmod n 2).symm
set_option maxRecDepth 100000 in
theorem Je (w:List UInt8) (h1:w≠[45]) (hN:¬ (w=[]∨w.length%2≠0∨510<w.length)) (q:List UInt8) (hq:ig w=some q):aB Tryz.prog 85 [.d (.v (.string ⟨w.toArray⟩))] (DV.tu [.em 5 1 (ae q),.v (.bool true)]):=by
 refine aB.intro (by kernel_rfl) rfl rfl 53 rfl rfl fun w0 K ac hK r=>?_
 cases h0:(w==([45]:List UInt8)) with
 | false=>
  cases h1:(w==([]:List UInt8)) with
  | false=>
   have aE:=((xF _):(((w.length:Nat):Int):Int).tmod 2=((w.length%2:Nat):Int))
   cases h2:((((w.length%2:Nat):Int):Int) != 0) with
   | false=>
    have cW:=fY h2
    cases h3:(decide ((510:Int)<((w.length:Nat):Int))) with
    | false=>
     have di:=of_decide_eq_false h3
     refine cy (todo':=hd Tryz.f85 0) (E':=[(0,.d (.v (.string ⟨w.toArray⟩))),(4,.d (.v (.slice none 0 0))),(5,.z 0)]) (M':=[]) mo tq hK [(1,[(1,.b false)]),(3,[(1,.b false),(5,.z (((w.length%2:Nat):Int))),(6,.b false),(11,.b false)])] 2000 [] [0,4,5] r (by kernel_rfl) (U h0 (U h1 (U aE (U ((by decide):(2:Int)≠0) (U h2 (U h3 trivial)))))) fun ac wd r=>?_
     refine aC.rounds (Φ:=fun (i:Nat) ac wd=>∃ o:List UInt8,(o.length=i∧2*i≤w.length∧ig w=(ig (w.drop (2*i))).map fun q=>o++q)∧du [] w0 K 53 [(0,.d (.v (.string ⟨w.toArray⟩))),(4,.sl 0 (i)),(5,.n (2*i))] [.rw 5 1 (ae o)] ac wd) (255) ?_ (Nat.zero_le _) ⟨[],⟨rfl,Nat.zero_le _,by simp⟩,r.de (M1:=[.rw 5 1 []]) [(4,5,1)] [] (by kernel_rfl) (by kernel_rfl)⟩
     clear r
     rintro i dI bH ac wd ⟨o,ao,r⟩
     have mS:=ao.1
     have Ou:=ao.2.1
     cases h4:(decide ((((2*i:Nat):Int):Int)<((w.length:Nat):Int))) with
     | false=>
      have dD:=of_decide_eq_false h4
      rw [show (DV.tu [.em 5 1 (ae q),.v (.bool true)]:DV)=.tu [.em 5 1 (ae o),.v (.bool true)] from (by have e:=hq.symm.trans ao.2.2;rw [List.drop_of_length_le (by omega)] at e;simp [ig] at e;rw [e])]
      exact bj mo tq hK rfl [(7,[(3,.b false)])] 2000 r (by kernel_rfl) (U h4 (U ((by first | rfl | (simp [ae];done) | (simp [ae];omega)):(i)=(ae o).length) trivial))
     | true=>
      have dD:=of_decide_eq_true h4
      obtain ⟨cO,oh⟩:∃ x_,w[2*i]?=some x_:=⟨_,List.getElem?_eq_getElem (by omega)⟩
      obtain ⟨db,om⟩:∃ x_,w[2*i+1]?=some x_:=⟨_,List.getElem?_eq_getElem (by omega)⟩
      have aZ:=(⟨_,oh,rfl⟩:∃ u:UInt8,(w:List UInt8)[2*i]?=some u∧(.v (.int .u8 (((cO.toNat:Nat):Int))):DV)=.v (.int .u8 (u.toNat:Int)))
      have cd:=((wi (by omega)):IntKind.i64.wrap ((((2*i:Nat):Int):Int)+1)=((2*i+1:Nat):Int))
      have c7:=(⟨_,om,rfl⟩:∃ u:UInt8,(w:List UInt8)[2*i+1]?=some u∧(.v (.int .u8 (((db.toNat:Nat):Int))):DV)=.v (.int .u8 (u.toNat:Int)))
      cases h5:(decide (hx cO<0)) with
      | false=>
       have ew:=of_decide_eq_false h5
       cases h6:(decide (hx db<0)) with
       | false=>
        have eV:=of_decide_eq_false h6
        cases h7:(decide ((((bO cO:Nat):Int):Int)<0)) with
        | false=>
         have dZ:=of_decide_eq_false h7
         cases h8:(decide ((((bO db:Nat):Int):Int)<0)) with
         | false=>
          have e6:=of_decide_eq_false h8
          exact cy (todo':=hd Tryz.f85 0) (E':=[(0,.d (.v (.string ⟨w.toArray⟩))),(4,.sl 0 (i+(1))),(5,.n (2*(i+1)))]) (M':=[.rw 5 1 (ae o++[[.v (.int .u8 ((((bz (((16*bO cO+bO db:Nat):Int))).toNat:Nat):Int)))]])]) mo tq hK [(7,[(3,.b true)]),(8,[(1,.z (((2*(i+1):Nat):Int)))]),(9,[(2,.ix (2*i) [.v (.int .u8 (((cO.toNat:Nat):Int)))]),(6,.z (((2*i+1:Nat):Int))),(7,.ix (2*i+1) [.v (.int .u8 (((db.toNat:Nat):Int)))]),(3,.aV (.n (bO cO))),(8,.aV (.n (bO db)))]),(10,[(1,.b false),(4,.b false)]),(12,[(2,.z (((16*bO cO:Nat):Int))),(4,.z (((16*bO cO+bO db:Nat):Int))),(5,.z ((((bz (((16*bO cO+bO db:Nat):Int))).toNat:Nat):Int)))])] 2000 [0] [0,4,5] r (by kernel_rfl) (U h4 (U (aA ((2*i:Nat):Int)) (U aZ (U cd (U (aA ((2*i+1:Nat):Int)) (U c7 (U (o9 h5) (U (o9 h6) (U h7 (U h8 (U ((CX (nB (by assumption)).2):IntKind.i64.wrap ((((bO cO:Nat):Int):Int)*2 ^ (min (4:Int).toNat IntKind.i64.bits))=((16*bO cO:Nat):Int)) (U ((by first | decide | omega):(0:Int)≤4) (U ((Cx (nB (by assumption)).2 (nB (by assumption)).2):IntKind.i64.wrap ((BitVec.ofInt IntKind.i64.bits (((16*bO cO:Nat):Int)) ||| BitVec.ofInt IntKind.i64.bits (((bO db:Nat):Int))).toNat:Int)=((16*bO cO+bO db:Nat):Int)) (U ((ir _):IntKind.u8.wrap (((16*bO cO+bO db:Nat):Int))=(((bz (((16*bO cO+bO db:Nat):Int))).toNat:Nat):Int)) (U ((by first | rfl | (simp [ae];done) | (simp [ae];omega)):(i)=(ae o).length) (U ((by first | rfl | (simp [ae];done) | (simp [ae];omega)):(1)=([[.v (.int .u8 ((((bz (((16*bO cO+bO db:Nat):Int))).toNat:Nat):Int)))]]:List (List DV)).length) (U ((by first | omega | (simp [ae];omega)):(2*((i)+(1))+192)*1≤281474976710656) (U ((by first | omega | (simp [ae];omega)):(i)+(1)<4611686018427387904) (U ((by simp [bd,AV.one,bW,ae,ah,ints,steps,strs]):bd ([[.v (.int .u8 ((((bz (((16*bO cO+bO db:Nat):Int))).toNat:Nat):Int)))]])) (U ((wi (by omega)):IntKind.i64.wrap ((((2*i:Nat):Int):Int)+2)=((2*(i+1):Nat):Int)) trivial)))))))))))))))))))) fun ac wd r=>bH (by omega) ac wd ⟨(o++[bz ((16*bO cO+bO db:Nat):Int)]),⟨by simp;omega,by omega,by rw [ao.2.2,sF oh om,if_neg (by rintro (h | h);exact absurd h (of_decide_eq_false (by assumption));exact absurd h (of_decide_eq_false (by assumption)))];simp [Option.map_map,Function.comp_def]⟩,r.cast rfl (by simp [ae])⟩
         | true=>
          have e6:=of_decide_eq_true h8
          exact absurd e6 (by omega)
        | true=>
         have dZ:=of_decide_eq_true h7
         exact absurd dZ (by omega)
       | true=>
        have eV:=of_decide_eq_true h6
        exact absurd (hq.symm.trans (ao.2.2.trans (by rw [sF oh om,if_pos (by first | exact .inl (of_decide_eq_true (by assumption)) | exact .inr (of_decide_eq_true (by assumption)))]))) (by simp)
      | true=>
       have ew:=of_decide_eq_true h5
       exact absurd (hq.symm.trans (ao.2.2.trans (by rw [sF oh om,if_pos (by first | exact .inl (of_decide_eq_true (by assumption)) | exact .inr (of_decide_eq_true (by assumption)))]))) (by simp)
    | true=>
     have di:=of_decide_eq_true h3
     exact absurd (.inr (.inr (by omega))) hN
   | true=>
    have cW:¬ _=_:=bne_iff_ne.1 h2
    exact absurd (.inr (.inl (by omega))) hN
  | true=>
   exact absurd (.inl (eq_of_beq h1)) hN
 | true=>
  exact absurd (eq_of_beq h0) h1
set_option maxRecDepth 100000 in
theorem Jf (w:List UInt8) (h1:w≠[45]) (hN:¬ (w=[]∨w.length%2≠0∨510<w.length)) (hq:ig w=none):aB Tryz.prog 85 [.d (.v (.string ⟨w.toArray⟩))] (.tu [.v (.slice none 0 0),.v (.bool false)]):=by
 refine aB.intro (by kernel_rfl) rfl rfl 53 rfl rfl fun w0 K ac hK r=>?_
 cases h0:(w==([45]:List UInt8)) with
 | false=>
  cases h1:(w==([]:List UInt8)) with
  | false=>
   have aE:=((xF _):(((w.length:Nat):Int):Int).tmod 2=((w.length%2:Nat):Int))
   cases h2:((((w.length%2:Nat):Int):Int) != 0) with
   | false=>
    have cW:=fY h2
    cases h3:(decide ((510:Int)<((w.length:Nat):Int))) with
    | false=>
     have di:=of_decide_eq_false h3
     refine cy (todo':=hd Tryz.f85 0) (E':=[(0,.d (.v (.string ⟨w.toArray⟩))),(4,.d (.v (.slice none 0 0))),(5,.z 0)]) (M':=[]) mo tq hK [(1,[(1,.b false)]),(3,[(1,.b false),(5,.z (((w.length%2:Nat):Int))),(6,.b false),(11,.b false)])] 2000 [] [0,4,5] r (by kernel_rfl) (U h0 (U h1 (U aE (U ((by decide):(2:Int)≠0) (U h2 (U h3 trivial)))))) fun ac wd r=>?_
     refine aC.rounds (Φ:=fun (i:Nat) ac wd=>∃ o:List UInt8,(o.length=i∧2*i≤w.length∧ig w=(ig (w.drop (2*i))).map fun q=>o++q)∧du [] w0 K 53 [(0,.d (.v (.string ⟨w.toArray⟩))),(4,.sl 0 (i)),(5,.n (2*i))] [.rw 5 1 (ae o)] ac wd) (255) ?_ (Nat.zero_le _) ⟨[],⟨rfl,Nat.zero_le _,by simp⟩,r.de (M1:=[.rw 5 1 []]) [(4,5,1)] [] (by kernel_rfl) (by kernel_rfl)⟩
     clear r
     rintro i dI bH ac wd ⟨o,ao,r⟩
     have mS:=ao.1
     have Ou:=ao.2.1
     cases h4:(decide ((((2*i:Nat):Int):Int)<((w.length:Nat):Int))) with
     | false=>
      have dD:=of_decide_eq_false h4
      rw [show (.tu [.v (.slice none 0 0),.v (.bool false)]:DV)=.tu [.em 5 1 (ae o),.v (.bool true)] from (by have e:=hq.symm.trans ao.2.2;rw [List.drop_of_length_le (by omega)] at e;simp [ig] at e)]
      exact bj mo tq hK rfl [(7,[(3,.b false)])] 2000 r (by kernel_rfl) (U h4 (U ((by first | rfl | (simp [ae];done) | (simp [ae];omega)):(i)=(ae o).length) trivial))
     | true=>
      have dD:=of_decide_eq_true h4
      obtain ⟨cO,oh⟩:∃ x_,w[2*i]?=some x_:=⟨_,List.getElem?_eq_getElem (by omega)⟩
      obtain ⟨db,om⟩:∃ x_,w[2*i+1]?=some x_:=⟨_,List.getElem?_eq_getElem (by omega)⟩
      have aZ:=(⟨_,oh,rfl⟩:∃ u:UInt8,(w:List UInt8)[2*i]?=some u∧(.v (.int .u8 (((cO.toNat:Nat):Int))):DV)=.v (.int .u8 (u.toNat:Int)))
      have cd:=((wi (by omega)):IntKind.i64.wrap ((((2*i:Nat):Int):Int)+1)=((2*i+1:Nat):Int))
      have c7:=(⟨_,om,rfl⟩:∃ u:UInt8,(w:List UInt8)[2*i+1]?=some u∧(.v (.int .u8 (((db.toNat:Nat):Int))):DV)=.v (.int .u8 (u.toNat:Int)))
      cases h5:(decide (hx cO<0)) with
      | false=>
       have ew:=of_decide_eq_false h5
       cases h6:(decide (hx db<0)) with
       | false=>
        have eV:=of_decide_eq_false h6
        cases h7:(decide ((((bO cO:Nat):Int):Int)<0)) with
        | false=>
         have dZ:=of_decide_eq_false h7
         cases h8:(decide ((((bO db:Nat):Int):Int)<0)) with
         | false=>
          have e6:=of_decide_eq_false h8
          exact cy (todo':=hd Tryz.f85 0) (E':=[(0,.d (.v (.string ⟨w.toArray⟩))),(4,.sl 0 (i+(1))),(5,.n (2*(i+1)))]) (M':=[.rw 5 1 (ae o++[[.v (.int .u8 ((((bz (((16*bO cO+bO db:Nat):Int))).toNat:Nat):Int)))]])]) mo tq hK [(7,[(3,.b true)]),(8,[(1,.z (((2*(i+1):Nat):Int)))]),(9,[(2,.ix (2*i) [.v (.int .u8 (((cO.toNat:Nat):Int)))]),(6,.z (((2*i+1:Nat):Int))),(7,.ix (2*i+1) [.v (.int .u8 (((db.toNat:Nat):Int)))]),(3,.aV (.n (bO cO))),(8,.aV (.n (bO db)))]),(10,[(1,.b false),(4,.b false)]),(12,[(2,.z (((16*bO cO:Nat):Int))),(4,.z (((16*bO cO+bO db:Nat):Int))),(5,.z ((((bz (((16*bO cO+bO db:Nat):Int))).toNat:Nat):Int)))])] 2000 [0] [0,4,5] r (by kernel_rfl) (U h4 (U (aA ((2*i:Nat):Int)) (U aZ (U cd (U (aA ((2*i+1:Nat):Int)) (U c7 (U (o9 h5) (U (o9 h6) (U h7 (U h8 (U ((CX (nB (by assumption)).2):IntKind.i64.wrap ((((bO cO:Nat):Int):Int)*2 ^ (min (4:Int).toNat IntKind.i64.bits))=((16*bO cO:Nat):Int)) (U ((by first | decide | omega):(0:Int)≤4) (U ((Cx (nB (by assumption)).2 (nB (by assumption)).2):IntKind.i64.wrap ((BitVec.ofInt IntKind.i64.bits (((16*bO cO:Nat):Int)) ||| BitVec.ofInt IntKind.i64.bits (((bO db:Nat):Int))).toNat:Int)=((16*bO cO+bO db:Nat):Int)) (U ((ir _):IntKind.u8.wrap (((16*bO cO+bO db:Nat):Int))=(((bz (((16*bO cO+bO db:Nat):Int))).toNat:Nat):Int)) (U ((by first | rfl | (simp [ae];done) | (simp [ae];omega)):(i)=(ae o).length) (U ((by first | rfl | (simp [ae];done) | (simp [ae];omega)):(1)=([[.v (.int .u8 ((((bz (((16*bO cO+bO db:Nat):Int))).toNat:Nat):Int)))]]:List (List DV)).length) (U ((by first | omega | (simp [ae];omega)):(2*((i)+(1))+192)*1≤281474976710656) (U ((by first | omega | (simp [ae];omega)):(i)+(1)<4611686018427387904) (U ((by simp [bd,AV.one,bW,ae,ah,ints,steps,strs]):bd ([[.v (.int .u8 ((((bz (((16*bO cO+bO db:Nat):Int))).toNat:Nat):Int)))]])) (U ((wi (by omega)):IntKind.i64.wrap ((((2*i:Nat):Int):Int)+2)=((2*(i+1):Nat):Int)) trivial)))))))))))))))))))) fun ac wd r=>bH (by omega) ac wd ⟨(o++[bz ((16*bO cO+bO db:Nat):Int)]),⟨by simp;omega,by omega,by rw [ao.2.2,sF oh om,if_neg (by rintro (h | h);exact absurd h (of_decide_eq_false (by assumption));exact absurd h (of_decide_eq_false (by assumption)))];simp [Option.map_map,Function.comp_def]⟩,r.cast rfl (by simp [ae])⟩
         | true=>
          have e6:=of_decide_eq_true h8
          exact absurd e6 (by omega)
        | true=>
         have dZ:=of_decide_eq_true h7
         exact absurd dZ (by omega)
       | true=>
        have eV:=of_decide_eq_true h6
        cases h9:(decide ((((bO cO:Nat):Int):Int)<0)) with
        | false=>
         have kR:=of_decide_eq_false h9
         rw [show (.tu [.v (.slice none 0 0),.v (.bool false)]:DV)=.tu [.v (.slice none 0 0),.v (.bool false)] from rfl]
         exact bj mo tq hK rfl [(7,[(3,.b true)]),(9,[(2,.ix (2*i) [.v (.int .u8 (((cO.toNat:Nat):Int)))]),(6,.z (((2*i+1:Nat):Int))),(7,.ix (2*i+1) [.v (.int .u8 (((db.toNat:Nat):Int)))]),(3,.aV (.n (bO cO))),(8,.aV (.z (-1)))]),(10,[(1,.b false)])] 2000 r (by kernel_rfl) (U h4 (U (aA ((2*i:Nat):Int)) (U aZ (U cd (U (aA ((2*i+1:Nat):Int)) (U c7 (U (o9 h5) (U (tH h6) (U h9 trivial)))))))))
        | true=>
         have kR:=of_decide_eq_true h9
         exact absurd kR (by omega)
      | true=>
       have ew:=of_decide_eq_true h5
       cases cX:(decide (hx db<0)) with
       | false=>
        have lC:=of_decide_eq_false cX
        rw [show (.tu [.v (.slice none 0 0),.v (.bool false)]:DV)=.tu [.v (.slice none 0 0),.v (.bool false)] from rfl]
        exact bj mo tq hK rfl [(7,[(3,.b true)]),(9,[(2,.ix (2*i) [.v (.int .u8 (((cO.toNat:Nat):Int)))]),(6,.z (((2*i+1:Nat):Int))),(7,.ix (2*i+1) [.v (.int .u8 (((db.toNat:Nat):Int)))]),(3,.aV (.z (-1))),(8,.aV (.n (bO db)))])] 2000 r (by kernel_rfl) (U h4 (U (aA ((2*i:Nat):Int)) (U aZ (U cd (U (aA ((2*i+1:Nat):Int)) (U c7 (U (tH h5) (U (o9 cX) trivial))))))))
       | true=>
        have lC:=of_decide_eq_true cX
        rw [show (.tu [.v (.slice none 0 0),.v (.bool false)]:DV)=.tu [.v (.slice none 0 0),.v (.bool false)] from rfl]
        exact bj mo tq hK rfl [(7,[(3,.b true)]),(9,[(2,.ix (2*i) [.v (.int .u8 (((cO.toNat:Nat):Int)))]),(6,.z (((2*i+1:Nat):Int))),(7,.ix (2*i+1) [.v (.int .u8 (((db.toNat:Nat):Int)))]),(3,.aV (.z (-1))),(8,.aV (.z (-1)))])] 2000 r (by kernel_rfl) (U h4 (U (aA ((2*i:Nat):Int)) (U aZ (U cd (U (aA ((2*i+1:Nat):Int)) (U c7 (U (tH h5) (U (tH cX) trivial))))))))
    | true=>
     have di:=of_decide_eq_true h3
     exact absurd (.inr (.inr (by omega))) hN
   | true=>
    have cW:¬ _=_:=bne_iff_ne.1 h2
    exact absurd (.inr (.inl (by omega))) hN
  | true=>
   exact absurd (.inl (eq_of_beq h1)) hN
 | true=>
  exact absurd (eq_of_beq h0) h1
set_option maxRecDepth 100000 in
theorem Jg :aB Tryz.prog 85 [.d (.v (.string ⟨([45]).toArray⟩))] (.tu [.v (.slice none 0 0),.v (.bool true)]):=by
 refine aB.intro (by kernel_rfl) rfl rfl 53 rfl rfl fun w0 K ac hK r=>?_
 rw [show (.tu [.v (.slice none 0 0),.v (.bool true)]:DV)=.tu [.v (.slice none 0 0),.v (.bool true)] from rfl]
 exact bj mo tq hK rfl [(1,[(1,.b true)])] 2000 r (by kernel_rfl) (U ((by first | decide | simp):(([45]:List UInt8)==[45])=true) trivial)
set_option maxRecDepth 100000 in
theorem Ko (w:List UInt8) (h1:w≠[45]) (hO:w=[]∨w.length%2≠0∨510<w.length):aB Tryz.prog 85 [.d (.v (.string ⟨w.toArray⟩))] (.tu [.v (.slice none 0 0),.v (.bool false)]):=by
 refine aB.intro (by kernel_rfl) rfl rfl 53 rfl rfl fun w0 K ac hK r=>?_
 cases h0:(w==([45]:List UInt8)) with
 | false=>
  cases h1:(w==([]:List UInt8)) with
  | false=>
   have aE:=((xF _):(((w.length:Nat):Int):Int).tmod 2=((w.length%2:Nat):Int))
   cases h2:((((w.length%2:Nat):Int):Int) != 0) with
   | false=>
    have cW:=fY h2
    cases h3:(decide ((510:Int)<((w.length:Nat):Int))) with
    | false=>
     have di:=of_decide_eq_false h3
     exact absurd hO (by rintro (h | h | h);exact absurd h (by have q:=‹(w==([]:List UInt8))=false›;intro e;subst e;simp at q);omega;omega)
    | true=>
     have di:=of_decide_eq_true h3
     rw [show (.tu [.v (.slice none 0 0),.v (.bool false)]:DV)=.tu [.v (.slice none 0 0),.v (.bool false)] from rfl]
     exact bj mo tq hK rfl [(1,[(1,.b false)]),(3,[(1,.b false),(5,.z (((w.length%2:Nat):Int))),(6,.b false),(11,.b true)])] 2000 r (by kernel_rfl) (U h0 (U h1 (U aE (U ((by decide):(2:Int)≠0) (U h2 (U h3 trivial))))))
   | true=>
    have cW:¬ _=_:=bne_iff_ne.1 h2
    rw [show (.tu [.v (.slice none 0 0),.v (.bool false)]:DV)=.tu [.v (.slice none 0 0),.v (.bool false)] from rfl]
    exact bj mo tq hK rfl [(1,[(1,.b false)]),(3,[(1,.b false),(5,.z (((w.length%2:Nat):Int))),(6,.b true)])] 2000 r (by kernel_rfl) (U h0 (U h1 (U aE (U ((by decide):(2:Int)≠0) (U h2 trivial)))))
  | true=>
   rw [show (.tu [.v (.slice none 0 0),.v (.bool false)]:DV)=.tu [.v (.slice none 0 0),.v (.bool false)] from rfl]
   exact bj mo tq hK rfl [(1,[(1,.b false)]),(3,[(1,.b true)])] 2000 r (by kernel_rfl) (U h0 (U h1 trivial))
 | true=>
  exact absurd (eq_of_beq h0) h1
theorem zr (w:List UInt8):aB Tryz.prog 85 [.d (.v (.string ⟨w.toArray⟩))] (.tu [.em 5 1 (ae (fM w).1),.v (.bool (fM w).2)]):=by
 have nl:∀ {b:Bool},aB Tryz.prog 85 [.d (.v (.string ⟨w.toArray⟩))] (.tu [.v (.slice none 0 0),.v (.bool b)])→aB Tryz.prog 85 [.d (.v (.string ⟨w.toArray⟩))] (.tu [.em 5 1 (ae []),.v (.bool b)]):=fun h=>h.le (dh.tu (.cons (Le.Cf 5 1) (.cons (Le.refl _) .nil)))
 by_cases h1:w=[45]
 ·subst h1;exact nl Jg
 ·by_cases hO:w=[]∨w.length%2≠0∨510<w.length
  ·rw [HE h1 hO];exact nl (Ko w h1 hO)
  ·cases hq:ig w with
   | none=>rw [F7 h1 hO hq];exact nl (Jf w h1 hO hq)
   | some q=>rw [F8 h1 hO hq];exact Je w h1 hO q hq
end Go.Proofs.YtcnpikbbmbombaaGreatDoor
