/-
  scriptParses_card, part 6 of 6: merged by program from the texts that it needs.
-/
import Derived.Test.YtcnpikbbmbombaaGreatDoorSpE
set_option linter.unusedSimpArgs false
set_option linter.unusedVariables false
set_option linter.unnecessarySimpa false
namespace Go.Proofs.YtcnpikbbmbombaaGreatDoor
open Go.RowKit
def dF (p:aB×Bool) (c:UInt8) (x:List UInt8):aB×Bool:=
 if c.toNat=116 then (⟨p.1.kind,p.1.node,p.1.peer,p.1.n,p.1.bit,p.1.inc,(dj x).1⟩,p.2&&(dj x).2)
 else if c.toNat=110 then (⟨p.1.kind,(dN x 255).1,p.1.peer,p.1.n,p.1.bit,p.1.inc,p.1.body⟩,p.2&&(dN x 255).2)
 else if c.toNat=112 then (⟨p.1.kind,p.1.node,(dN x 255).1,p.1.n,p.1.bit,p.1.inc,p.1.body⟩,p.2&&(dN x 255).2)
 else if c.toNat=105 then (⟨p.1.kind,p.1.node,p.1.peer,(dN x 255).1,p.1.bit,p.1.inc,p.1.body⟩,p.2&&(dN x 255).2)
 else if c.toNat=98 then (⟨p.1.kind,p.1.node,p.1.peer,p.1.n,(dN x 65535).1,p.1.inc,p.1.body⟩,p.2&&(dN x 65535).2)
 else if c.toNat=99 then (⟨p.1.kind,p.1.node,p.1.peer,p.1.n,p.1.bit,(dN x 18446744073709551615).1,p.1.body⟩,p.2&&(dN x 18446744073709551615).2)
 else (p.1,p.2&&(dN x 255).2)
def fY:List UInt8→List (List UInt8)→aB×Bool→aB×Bool
 | c::f,x::q,p=>fY f q (dF p c x)
 | _,_,p=>p
theorem jT (s:aB) (b:Bool) (x:List UInt8):dF (s,b) 116 x=(⟨s.kind,s.node,s.peer,s.n,s.bit,s.inc,(dj x).1⟩,b&&(dj x).2):=rfl
theorem jU (s:aB) (b:Bool) (x:List UInt8):dF (s,b) 110 x=(⟨s.kind,(dN x 255).1,s.peer,s.n,s.bit,s.inc,s.body⟩,b&&(dN x 255).2):=rfl
theorem jV (s:aB) (b:Bool) (x:List UInt8):dF (s,b) 112 x=(⟨s.kind,s.node,(dN x 255).1,s.n,s.bit,s.inc,s.body⟩,b&&(dN x 255).2):=rfl
theorem jW (s:aB) (b:Bool) (x:List UInt8):dF (s,b) 105 x=(⟨s.kind,s.node,s.peer,(dN x 255).1,s.bit,s.inc,s.body⟩,b&&(dN x 255).2):=rfl
theorem jX (s:aB) (b:Bool) (x:List UInt8):dF (s,b) 98 x=(⟨s.kind,s.node,s.peer,s.n,(dN x 65535).1,s.inc,s.body⟩,b&&(dN x 65535).2):=rfl
theorem jY (s:aB) (b:Bool) (x:List UInt8):dF (s,b) 99 x=(⟨s.kind,s.node,s.peer,s.n,s.bit,(dN x 18446744073709551615).1,s.body⟩,b&&(dN x 18446744073709551615).2):=rfl
theorem og {f:List UInt8} {q:List (List UInt8)} {i:Nat} {c:UInt8} {x:List UInt8} {p p2 z:aB×Bool} (g:f[i]?=some c) (gx:q[i]?=some x) (h:fY (f.drop i) (q.drop i) p=z) (e:dF p c x=p2):fY (f.drop (i+1)) (q.drop (i+1)) p2=z:=by
 obtain ⟨h1,rfl⟩:=List.getElem?_eq_some_iff.1 g
 obtain ⟨h2,rfl⟩:=List.getElem?_eq_some_iff.1 gx
 rw [List.drop_eq_getElem_cons h1,List.drop_eq_getElem_cons h2,fY,e] at h;exact h
theorem q6 {f:List UInt8} {q:List (List UInt8)} {i:Nat} {p z:aB×Bool} (hi:f.length≤i) (h:fY (f.drop i) (q.drop i) p=z):p=z:=by
 rw [List.drop_of_length_le hi,fY] at h
 ·exact h
 ·intro _ _ _ _ h;cases h
def dP (k:Nat) (q:List (List UInt8)):aB×Bool:=fY (bZ k) q (⟨k,0,0,0,0,0,[]⟩,true)
def iO (k:Nat):Prop:=∀ line q,pK line=k→(ak 32 line).tail=q→q.length=(bZ k).length→(dP k q).2=dt line∧(dt line=true→(dP k q).1=fU line)
theorem Pm:iO 0:=by
 intro line q hk hw hl
 obtain rfl:q=[]:=List.eq_nil_of_length_eq_zero hl
 unfold dt fU pB gv aU dq c6 cZ cY dQ dP
 rw [hk,hw]
 exact ⟨rfl,fun _=>rfl⟩
theorem Pn:iO 1:=by
 intro line q hk hw hl
 obtain ⟨x0,rfl⟩:∃ x0,q=[x0]:=by
  match q,hl with
  | [x0],_=>exact ⟨x0,rfl⟩
 have e1:ae 1=⟨[116,105,99,107],true,false,false,false,false,false⟩:=rfl
 have e2:bZ 1=[110]:=rfl
 unfold dt fU pB gv aU dq c6 cZ cY dQ dP
 rw [hk,hw,e1,e2]
 simp only [pS,pN,bg,bf,fY,jT,jU,jV,jW,jX,jY,cond_true,cond_false,List.headD_cons,List.tail_cons,List.isEmpty_cons,List.isEmpty_nil,ik]
 have iu:=(dV x0 255).2
 refine ⟨by simp [Bool.and_assoc],fun h=>?_⟩
 simp at h
 simp_all
theorem Po:iO 2:=by
 intro line q hk hw hl
 obtain ⟨x0,x1,x2,rfl⟩:∃ x0 x1 x2,q=[x0,x1,x2]:=by
  match q,hl with
  | [x0,x1,x2],_=>exact ⟨x0,x1,x2,rfl⟩
 have e1:ae 2=⟨[100,101,108,105,118,101,114],true,true,true,false,false,false⟩:=rfl
 have e2:bZ 2=[110,112,105]:=rfl
 unfold dt fU pB gv aU dq c6 cZ cY dQ dP
 rw [hk,hw,e1,e2]
 simp only [pS,pN,bg,bf,fY,jT,jU,jV,jW,jX,jY,cond_true,cond_false,List.headD_cons,List.tail_cons,List.isEmpty_cons,List.isEmpty_nil,ik]
 have iu:=(dV x0 255).2;have qD:=(dV x1 255).2;have zT:=(dV x2 255).2
 refine ⟨by simp [Bool.and_assoc],fun h=>?_⟩
 simp at h
 simp_all
theorem Pp:iO 3:=by
 intro line q hk hw hl
 obtain ⟨x0,x1,x2,rfl⟩:∃ x0 x1 x2,q=[x0,x1,x2]:=by
  match q,hl with
  | [x0,x1,x2],_=>exact ⟨x0,x1,x2,rfl⟩
 have e1:ae 3=⟨[100,114,111,112],true,true,true,false,false,false⟩:=rfl
 have e2:bZ 3=[110,112,105]:=rfl
 unfold dt fU pB gv aU dq c6 cZ cY dQ dP
 rw [hk,hw,e1,e2]
 simp only [pS,pN,bg,bf,fY,jT,jU,jV,jW,jX,jY,cond_true,cond_false,List.headD_cons,List.tail_cons,List.isEmpty_cons,List.isEmpty_nil,ik]
 have iu:=(dV x0 255).2;have qD:=(dV x1 255).2;have zT:=(dV x2 255).2
 refine ⟨by simp [Bool.and_assoc],fun h=>?_⟩
 simp at h
 simp_all
theorem Pq:iO 4:=by
 intro line q hk hw hl
 obtain ⟨x0,x1,x2,rfl⟩:∃ x0 x1 x2,q=[x0,x1,x2]:=by
  match q,hl with
  | [x0,x1,x2],_=>exact ⟨x0,x1,x2,rfl⟩
 have e1:ae 4=⟨[100,111,117,98,108,101],true,true,true,false,false,false⟩:=rfl
 have e2:bZ 4=[110,112,105]:=rfl
 unfold dt fU pB gv aU dq c6 cZ cY dQ dP
 rw [hk,hw,e1,e2]
 simp only [pS,pN,bg,bf,fY,jT,jU,jV,jW,jX,jY,cond_true,cond_false,List.headD_cons,List.tail_cons,List.isEmpty_cons,List.isEmpty_nil,ik]
 have iu:=(dV x0 255).2;have qD:=(dV x1 255).2;have zT:=(dV x2 255).2
 refine ⟨by simp [Bool.and_assoc],fun h=>?_⟩
 simp at h
 simp_all
theorem Pr:iO 5:=by
 intro line q hk hw hl
 obtain ⟨x0,x1,x2,x3,rfl⟩:∃ x0 x1 x2 x3,q=[x0,x1,x2,x3]:=by
  match q,hl with
  | [x0,x1,x2,x3],_=>exact ⟨x0,x1,x2,x3,rfl⟩
 have e1:ae 5=⟨[115,112,111,105,108],true,true,true,true,false,false⟩:=rfl
 have e2:bZ 5=[110,112,105,98]:=rfl
 unfold dt fU pB gv aU dq c6 cZ cY dQ dP
 rw [hk,hw,e1,e2]
 simp only [pS,pN,bg,bf,fY,jT,jU,jV,jW,jX,jY,cond_true,cond_false,List.headD_cons,List.tail_cons,List.isEmpty_cons,List.isEmpty_nil,ik]
 have iu:=(dV x0 255).2;have qD:=(dV x1 255).2;have zT:=(dV x2 255).2;have QJ:=(dV x3 65535).2
 refine ⟨by simp [Bool.and_assoc],fun h=>?_⟩
 simp at h
 simp_all
theorem Ps:iO 6:=by
 intro line q hk hw hl
 obtain ⟨x0,x1,rfl⟩:∃ x0 x1,q=[x0,x1]:=by
  match q,hl with
  | [x0,x1],_=>exact ⟨x0,x1,rfl⟩
 have e1:ae 6=⟨[99,117,116],true,true,false,false,false,false⟩:=rfl
 have e2:bZ 6=[110,112]:=rfl
 unfold dt fU pB gv aU dq c6 cZ cY dQ dP
 rw [hk,hw,e1,e2]
 simp only [pS,pN,bg,bf,fY,jT,jU,jV,jW,jX,jY,cond_true,cond_false,List.headD_cons,List.tail_cons,List.isEmpty_cons,List.isEmpty_nil,ik]
 have iu:=(dV x0 255).2;have qD:=(dV x1 255).2
 refine ⟨by simp [Bool.and_assoc],fun h=>?_⟩
 simp at h
 simp_all
theorem Pt:iO 7:=by
 intro line q hk hw hl
 obtain ⟨x0,x1,rfl⟩:∃ x0 x1,q=[x0,x1]:=by
  match q,hl with
  | [x0,x1],_=>exact ⟨x0,x1,rfl⟩
 have e1:ae 7=⟨[104,101,97,108],true,true,false,false,false,false⟩:=rfl
 have e2:bZ 7=[110,112]:=rfl
 unfold dt fU pB gv aU dq c6 cZ cY dQ dP
 rw [hk,hw,e1,e2]
 simp only [pS,pN,bg,bf,fY,jT,jU,jV,jW,jX,jY,cond_true,cond_false,List.headD_cons,List.tail_cons,List.isEmpty_cons,List.isEmpty_nil,ik]
 have iu:=(dV x0 255).2;have qD:=(dV x1 255).2
 refine ⟨by simp [Bool.and_assoc],fun h=>?_⟩
 simp at h
 simp_all
theorem Pu:iO 8:=by
 intro line q hk hw hl
 obtain ⟨x0,rfl⟩:∃ x0,q=[x0]:=by
  match q,hl with
  | [x0],_=>exact ⟨x0,rfl⟩
 have e1:ae 8=⟨[99,114,97,115,104],true,false,false,false,false,false⟩:=rfl
 have e2:bZ 8=[110]:=rfl
 unfold dt fU pB gv aU dq c6 cZ cY dQ dP
 rw [hk,hw,e1,e2]
 simp only [pS,pN,bg,bf,fY,jT,jU,jV,jW,jX,jY,cond_true,cond_false,List.headD_cons,List.tail_cons,List.isEmpty_cons,List.isEmpty_nil,ik]
 have iu:=(dV x0 255).2
 refine ⟨by simp [Bool.and_assoc],fun h=>?_⟩
 simp at h
 simp_all
theorem Pv:iO 9:=by
 intro line q hk hw hl
 obtain ⟨x0,x1,rfl⟩:∃ x0 x1,q=[x0,x1]:=by
  match q,hl with
  | [x0,x1],_=>exact ⟨x0,x1,rfl⟩
 have e1:ae 9=⟨[115,116,97,114,116],true,false,false,false,true,false⟩:=rfl
 have e2:bZ 9=[110,99]:=rfl
 unfold dt fU pB gv aU dq c6 cZ cY dQ dP
 rw [hk,hw,e1,e2]
 simp only [pS,pN,bg,bf,fY,jT,jU,jV,jW,jX,jY,cond_true,cond_false,List.headD_cons,List.tail_cons,List.isEmpty_cons,List.isEmpty_nil,ik]
 have iu:=(dV x0 255).2;have qD:=(dV x1 18446744073709551615).2
 refine ⟨by simp [Bool.and_assoc],fun h=>?_⟩
 simp at h
 simp_all
theorem N8:iO 10:=by
 intro line q hk hw hl
 obtain ⟨x0,x1,rfl⟩:∃ x0 x1,q=[x0,x1]:=by
  match q,hl with
  | [x0,x1],_=>exact ⟨x0,x1,rfl⟩
 have e1:ae 10=⟨[115,101,110,100],true,false,false,false,false,true⟩:=rfl
 have e2:bZ 10=[110,116]:=rfl
 unfold dt fU pB gv aU dq c6 cZ cY dQ dP
 rw [hk,hw,e1,e2]
 simp only [pS,pN,bg,bf,fY,jT,jU,jV,jW,jX,jY,cond_true,cond_false,List.headD_cons,List.tail_cons,List.isEmpty_cons,List.isEmpty_nil,ik]
 have iu:=(dV x0 255).2
 refine ⟨by simp [Bool.and_assoc],fun h=>?_⟩
 simp at h
 simp_all
theorem N9:iO 11:=by
 intro line q hk hw hl
 obtain ⟨x0,rfl⟩:∃ x0,q=[x0]:=by
  match q,hl with
  | [x0],_=>exact ⟨x0,rfl⟩
 have e1:ae 11=⟨[98,108,111,99,107,111,107],true,false,false,false,false,false⟩:=rfl
 have e2:bZ 11=[110]:=rfl
 unfold dt fU pB gv aU dq c6 cZ cY dQ dP
 rw [hk,hw,e1,e2]
 simp only [pS,pN,bg,bf,fY,jT,jU,jV,jW,jX,jY,cond_true,cond_false,List.headD_cons,List.tail_cons,List.isEmpty_cons,List.isEmpty_nil,ik]
 have iu:=(dV x0 255).2
 refine ⟨by simp [Bool.and_assoc],fun h=>?_⟩
 simp at h
 simp_all
theorem Oa:iO 12:=by
 intro line q hk hw hl
 obtain ⟨x0,rfl⟩:∃ x0,q=[x0]:=by
  match q,hl with
  | [x0],_=>exact ⟨x0,rfl⟩
 have e1:ae 12=⟨[106,111,105,110],true,false,false,false,false,false⟩:=rfl
 have e2:bZ 12=[110]:=rfl
 unfold dt fU pB gv aU dq c6 cZ cY dQ dP
 rw [hk,hw,e1,e2]
 simp only [pS,pN,bg,bf,fY,jT,jU,jV,jW,jX,jY,cond_true,cond_false,List.headD_cons,List.tail_cons,List.isEmpty_cons,List.isEmpty_nil,ik]
 have iu:=(dV x0 255).2
 refine ⟨by simp [Bool.and_assoc],fun h=>?_⟩
 simp at h
 simp_all
theorem Ob:iO 13:=by
 intro line q hk hw hl
 obtain ⟨x0,rfl⟩:∃ x0,q=[x0]:=by
  match q,hl with
  | [x0],_=>exact ⟨x0,rfl⟩
 have e1:ae 13=⟨[108,101,97,118,101],true,false,false,false,false,false⟩:=rfl
 have e2:bZ 13=[110]:=rfl
 unfold dt fU pB gv aU dq c6 cZ cY dQ dP
 rw [hk,hw,e1,e2]
 simp only [pS,pN,bg,bf,fY,jT,jU,jV,jW,jX,jY,cond_true,cond_false,List.headD_cons,List.tail_cons,List.isEmpty_cons,List.isEmpty_nil,ik]
 have iu:=(dV x0 255).2
 refine ⟨by simp [Bool.and_assoc],fun h=>?_⟩
 simp at h
 simp_all
theorem CU {k:Nat} (h:k<14):iO k:=l4 (p:=iO) Pm Pn Po Pp Pq Pr Ps Pt Pu Pv N8 N9 Oa Ob h
theorem rn {b:Bool} {m:Nat} {s:Ws} (h:(pS b m s).2=true):s.2=true∧s.1.length=(pS b m s).1.length+b.toNat:=by
 obtain ⟨l,g⟩:=s
 cases b with
 | false=>exact ⟨h,rfl⟩
 | true=>
  cases l with
  | nil=>unfold pS bg at h;simp at h
  | cons x r=>unfold pS bg at h;simp at h;exact ⟨h.1,rfl⟩
theorem Ky {k:Nat} (h:k<14):(bZ k).length=(ae k).node.toNat+(ae k).peer.toNat+(ae k).n.toNat+(ae k).bit.toNat+(ae k).inc.toNat+(ae k).body.toNat:=l4 (p:=fun k=>(bZ k).length=(ae k).node.toNat+(ae k).peer.toNat+(ae k).n.toNat+(ae k).bit.toNat+(ae k).inc.toNat+(ae k).body.toNat) rfl rfl rfl rfl rfl rfl rfl rfl rfl rfl rfl rfl rfl rfl h
theorem BC {l:List UInt8} (h:dt l=true):pK l<14∧(ak 32 l).tail.length=(bZ (pK l)).length:=by
 unfold dt at h
 simp only [Bool.and_eq_true,decide_eq_true_eq] at h
 obtain ⟨hk,h6,he⟩:=h
 refine ⟨hk,?_⟩
 rw [Ky hk]
 have h5:(aU l).2=true∧(aU l).1.length=(ae (pK l)).body.toNat:=by
  unfold gv at h6 he
  cases hb:(ae (pK l)).body with
  | false=>rw [hb] at h6 he;have e9:(aU l).1=[]:=List.isEmpty_iff.1 he;exact ⟨h6,by rw [e9];rfl⟩
  | true=>
   rw [hb] at h6 he
   generalize aU l=s at h6 he
   obtain ⟨q,g⟩:=s
   cases q with
   | nil=>simp [bg] at h6
   | cons x r=>simp [bg] at h6 he;exact ⟨h6.1,by rw [he];rfl⟩
 have h4:=rn (s:=dq l) (b:=(ae (pK l)).inc) (m:=18446744073709551615) h5.1
 have h3:=rn (s:=c6 l) (b:=(ae (pK l)).bit) (m:=65535) h4.1
 have h2:=rn (s:=cZ l) (b:=(ae (pK l)).n) (m:=255) h3.1
 have h1:=rn (s:=cY l) (b:=(ae (pK l)).peer) (m:=255) h2.1
 have h0:=rn (s:=dQ l) (b:=(ae (pK l)).node) (m:=255) h1.1
 have e4:(dq l).1.length=(aU l).1.length+(ae (pK l)).inc.toNat:=h4.2
 have e3:(c6 l).1.length=(dq l).1.length+(ae (pK l)).bit.toNat:=h3.2
 have e2:(cZ l).1.length=(c6 l).1.length+(ae (pK l)).n.toNat:=h2.2
 have e1:(cY l).1.length=(cZ l).1.length+(ae (pK l)).peer.toNat:=h1.2
 have e0:(ak 32 l).tail.length=(cY l).1.length+(ae (pK l)).node.toNat:=h0.2
 omega
theorem Ce {l:List UInt8} {k:Nat} (h:k<14) (e:(bf (ak 32 l,true)==(ae k).word)=true):pK l=k:=by
 unfold pK;rw [eq_of_beq e];exact Hk h
theorem LB {l:List UInt8} (h:pK l<14):bf (ak 32 l,true)=(ae (pK l)).word:=by
 have hx:lh.findIdx (fun y=>y.word==bf (ak 32 l,true))<lh.length:=h
 have h1:=List.findIdx_getElem (w:=hx)
 have h2:=tq h
 obtain ⟨a,b⟩:=List.getElem?_eq_some_iff.1 h2
 have h3:(ae (pK l)).word==bf (ak 32 l,true):=by rw [← b];exact h1
 exact (eq_of_beq h3).symm
theorem Cf {l:List UInt8} (h:∀ j,j<14→pK l=j→dt l=false):aA l=(gZ,false):=by
 refine ri ?_
 cases e:dt l with
 | false=>rfl
 | true=>exact absurd e (by rw [h _ (BC e).1 rfl];decide)
theorem CV {l:List UInt8} {k:Nat} (hk:pK l=k) (h:k<14) (hl:(ak 32 l).length=1+(bZ k).length) (e:(dP k (ak 32 l).tail).2=true):aA l=dP k (ak 32 l).tail:=by
 obtain ⟨h1,h2⟩:=CU h l _ hk rfl (by rw [List.length_tail];omega)
 rw [e] at h1
 rw [q4 h1.symm]
 exact Prod.ext (h2 h1.symm).symm e.symm
theorem Kz {l:List UInt8} {k:Nat} (hk:pK l=k) (h:k<14) (hl:(ak 32 l).length=1+(bZ k).length) (e:(dP k (ak 32 l).tail).2=false):dt l=false:=by
 obtain ⟨h1,h2⟩:=CU h l _ hk rfl (by rw [List.length_tail];omega)
 rw [e] at h1;exact h1.symm
theorem IU {l:List UInt8} {k:Nat} (hk:pK l=k) (hl:(ak 32 l).length≠1+(bZ k).length):dt l=false:=by
 cases e:dt l with
 | false=>rfl
 | true=>have:=BC e;have h2:=ga 32 l;rw [List.length_tail,hk] at this;omega
end Go.Proofs.YtcnpikbbmbombaaGreatDoor
namespace Go.Proofs.YtcnpikbbmbombaaGreatDoor
open Go.RowKit
theorem IV {k:Nat} (h:k<14):([[.v (.string ⟨([110,111,110,101]).toArray⟩)],[.v (.string ⟨([116,105,99,107]).toArray⟩)],[.v (.string ⟨([100,101,108,105,118,101,114]).toArray⟩)],[.v (.string ⟨([100,114,111,112]).toArray⟩)],[.v (.string ⟨([100,111,117,98,108,101]).toArray⟩)],[.v (.string ⟨([115,112,111,105,108]).toArray⟩)],[.v (.string ⟨([99,117,116]).toArray⟩)],[.v (.string ⟨([104,101,97,108]).toArray⟩)],[.v (.string ⟨([99,114,97,115,104]).toArray⟩)],[.v (.string ⟨([115,116,97,114,116]).toArray⟩)],[.v (.string ⟨([115,101,110,100]).toArray⟩)],[.v (.string ⟨([98,108,111,99,107,111,107]).toArray⟩)],[.v (.string ⟨([106,111,105,110]).toArray⟩)],[.v (.string ⟨([108,101,97,118,101]).toArray⟩)]]:List (List DV))[k]?=some [.v (.string ⟨((ae k).word).toArray⟩)]:=l4 (p:=fun k=>([[.v (.string ⟨([110,111,110,101]).toArray⟩)],[.v (.string ⟨([116,105,99,107]).toArray⟩)],[.v (.string ⟨([100,101,108,105,118,101,114]).toArray⟩)],[.v (.string ⟨([100,114,111,112]).toArray⟩)],[.v (.string ⟨([100,111,117,98,108,101]).toArray⟩)],[.v (.string ⟨([115,112,111,105,108]).toArray⟩)],[.v (.string ⟨([99,117,116]).toArray⟩)],[.v (.string ⟨([104,101,97,108]).toArray⟩)],[.v (.string ⟨([99,114,97,115,104]).toArray⟩)],[.v (.string ⟨([115,116,97,114,116]).toArray⟩)],[.v (.string ⟨([115,101,110,100]).toArray⟩)],[.v (.string ⟨([98,108,111,99,107,111,107]).toArray⟩)],[.v (.string ⟨([106,111,105,110]).toArray⟩)],[.v (.string ⟨([108,101,97,118,101]).toArray⟩)]]:List (List DV))[k]?=some [.v (.string ⟨((ae k).word).toArray⟩)]) rfl rfl rfl rfl rfl rfl rfl rfl rfl rfl rfl rfl rfl rfl h
set_option maxRecDepth 100000 in
theorem wN (k:Nat) (h:k<14):ay Tryz.prog 76 [.n k] (.v (.string ⟨((ae k).word).toArray⟩)):=by
 refine ay.intro (by kernel_rfl) rfl rfl 7 rfl rfl fun w0 K ac hK r=>?_
 rw [show (.v (.string ⟨((ae k).word).toArray⟩):DV)=.v (.string ⟨((ae k).word).toArray⟩) from rfl]
 exact aV tk mo hK rfl [(1,[(2,.n (k)),(3,.ix 0 [.v (.string ⟨((ae k).word).toArray⟩)])])] 2000 r (by kernel_rfl) (U (ax ((k:Nat):Int)) (U ((by first | omega | decide | (simp;done) | (simp;omega)):(k)<(14)) (U ((by first | rfl | (simp;done) | (simp<;>omega)):(14)≤([[.v (.string ⟨([110,111,110,101]).toArray⟩)],[.v (.string ⟨([116,105,99,107]).toArray⟩)],[.v (.string ⟨([100,101,108,105,118,101,114]).toArray⟩)],[.v (.string ⟨([100,114,111,112]).toArray⟩)],[.v (.string ⟨([100,111,117,98,108,101]).toArray⟩)],[.v (.string ⟨([115,112,111,105,108]).toArray⟩)],[.v (.string ⟨([99,117,116]).toArray⟩)],[.v (.string ⟨([104,101,97,108]).toArray⟩)],[.v (.string ⟨([99,114,97,115,104]).toArray⟩)],[.v (.string ⟨([115,116,97,114,116]).toArray⟩)],[.v (.string ⟨([115,101,110,100]).toArray⟩)],[.v (.string ⟨([98,108,111,99,107,111,107]).toArray⟩)],[.v (.string ⟨([106,111,105,110]).toArray⟩)],[.v (.string ⟨([108,101,97,118,101]).toArray⟩)]]:List (List DV)).length) (U (IV (by omega):([[.v (.string ⟨([110,111,110,101]).toArray⟩)],[.v (.string ⟨([116,105,99,107]).toArray⟩)],[.v (.string ⟨([100,101,108,105,118,101,114]).toArray⟩)],[.v (.string ⟨([100,114,111,112]).toArray⟩)],[.v (.string ⟨([100,111,117,98,108,101]).toArray⟩)],[.v (.string ⟨([115,112,111,105,108]).toArray⟩)],[.v (.string ⟨([99,117,116]).toArray⟩)],[.v (.string ⟨([104,101,97,108]).toArray⟩)],[.v (.string ⟨([99,114,97,115,104]).toArray⟩)],[.v (.string ⟨([115,116,97,114,116]).toArray⟩)],[.v (.string ⟨([115,101,110,100]).toArray⟩)],[.v (.string ⟨([98,108,111,99,107,111,107]).toArray⟩)],[.v (.string ⟨([106,111,105,110]).toArray⟩)],[.v (.string ⟨([108,101,97,118,101]).toArray⟩)]]:List (List DV))[k]?=some [.v (.string ⟨((ae k).word).toArray⟩)]) trivial))))
theorem IW (k:Nat):fieldsOf (k:Int)=if k<14 then bZ k else [45]:=by
 unfold fieldsOf
 by_cases h:k<14
 ·rw [if_pos h,if_pos (by omega)];rfl
 ·rw [if_neg h,if_neg (by omega)]
theorem wO {k:Nat} (h:k<14):ay Tryz.prog 59 [.n k] (.v (.string ⟨(bZ k).toArray⟩)):=by
 have q:=Is (k:Int)
 rw [IW,if_pos h] at q;exact q
def Pw (q:aB×Bool):AV:=.tu [.ag [.z q.1.kind,.z q.1.node,.z q.1.peer,.z q.1.n,.z q.1.bit,.u q.1.inc,.sl 0 (af q.1.body).length],.d (.v (.bool q.2))]
def Px (q:aB×Bool):List aj:=[.rw 5 1 (af q.1.body)]
theorem KA {l:List UInt8} {j:Nat} (hj:j<14) (e:pK l=j) (h:((bf (ak 32 l,true))==(ae j).word)=false):False:=by
 subst e;rw [LB hj] at h;simp at h
theorem tail_at {l:List (List UInt8)} {j:Nat} {x:List UInt8} (h:l.tail[j]?=some x):(strs l)[1+j]?=some [.v (.string ⟨x.toArray⟩)]:=by
 refine eM ?_
 rw [List.getElem?_tail] at h;rw [Nat.add_comm];exact h
set_option maxRecDepth 100000 in
theorem AF (line:List UInt8) (hl:line.length≤1048576):aC Tryz.prog 51 [.d (.v (.string ⟨line.toArray⟩))] [] (Pw (aA line)) (Px (aA line)):=by
 refine aC.intro (by kernel_rfl) rfl rfl 116 rfl rfl fun D w0 K bs ac wd hK (al:bs.m=0) r=>?_
 refine bp (todo':=hd Tryz.f51 0) (E':=[(0,.d (.v (.string ⟨line.toArray⟩))),(2,.pt 0 0),(4,.d (.ro 1 (strs (ak 32 line)))),(5,.z 0)]) (M':=[.bx 42 [.z 0,.z 0,.z 0,.z 0,.z 0,.d (.v (.int .u64 0)),.d (.v (.slice none 0 0))]]) tk mo hK al [(1,[(1,.aG (.ro 1 (strs (ak 32 line))))])] 2000 [0] [0,2,4,5] r (by kernel_rfl) (U (nF line 32 hl) trivial) fun ac wd r=>?_
 refine aF.rounds (Φ:=fun (i:Nat) ac wd=>(∀ j,j<i→pK line=j→dt line=false)∧RB D w0 K 116 bs [(0,.d (.v (.string ⟨line.toArray⟩))),(2,.pt 0 0),(4,.d (.ro 1 (strs (ak 32 line)))),(5,.n i)] [.bx 42 [.z 0,.z 0,.z 0,.z 0,.z 0,.d (.v (.int .u64 0)),.d (.v (.slice none 0 0))]] ac wd) (14) ?_ (Nat.zero_le _) ⟨(fun j hj=>absurd hj (Nat.not_lt_zero _)),(r).cast rfl rfl⟩
 clear r
 rintro i dw bj ac wd ⟨ao,r⟩
 cases h0:(decide ((((i:Nat):Int):Int)<14)) with
 | false=>
  have aT:=of_decide_eq_false h0
  refine bS (todo':=aft Tryz.f51 36) (E':=[(2,.pt 0 0),(3,.d (.v (.bool false)))]) (M':=[.bx 42 [.z 0,.z 0,.z 0,.z 0,.z 0,.d (.v (.int .u64 0)),.d (.v (.slice none 0 0))]]) tk mo hK al [(3,[(1,.b false)])] 7 [0] [2,3] r (by kernel_rfl) (U h0 trivial) fun ac wd r=>?_
  have r:=r.dA (E1:=[(2,.pt 0 0),(3,.d (.v (.bool false)))]) (M1:=[.bx 42 [.z 0,.z 0,.z 0,.z 0,.z 0,.d (.v (.int .u64 0)),.d (.v (.slice none 0 0))]]) (M2:=[.bx 42 [.z 0,.z 0,.z 0,.z 0,.z 0,.d (.v (.int .u64 0)),.sl 1 (0)],.rw 5 1 ([])]) [] [(0,6,5,1)] (by kernel_rfl) (by kernel_rfl)
  refine aY (y:=.tu [.ag [.z 0,.z 0,.z 0,.z 0,.z 0,.d (.v (.int .u64 0)),.sl 0 (0)],.d (.v (.bool false))]) (N':=[.rw 5 1 ([])]) ((by rw [Cf fun j hj e=>ao j (by omega) e]<;>rfl)) ((by rw [Cf fun j hj e=>ao j (by omega) e]<;>rfl)) ?_
  exact aX tk mo hK rfl al [] 2000 [1] r (by kernel_rfl) trivial
 | true=>
  have aT:=of_decide_eq_true h0
  have aI:=(s9 32 line:(strs (ak 32 line))[0]?=some [.v (.string ⟨(bf (ak 32 line,true)).toArray⟩)])
  cases h1:((bf (ak 32 line,true))==(ae i).word) with
  | false=>
   exact bp (todo':=hd Tryz.f51 0) (E':=[(0,.d (.v (.string ⟨line.toArray⟩))),(2,.pt 0 0),(4,.d (.ro 1 (strs (ak 32 line)))),(5,.n (i+1))]) (M':=[.bx 42 [.z 0,.z 0,.z 0,.z 0,.z 0,.d (.v (.int .u64 0)),.d (.v (.slice none 0 0))]]) tk mo hK al [(3,[(1,.b true)]),(4,[(1,.z (((i+1:Nat):Int)))]),(5,[(1,.aG (.v (.string ⟨(bZ i).toArray⟩)))]),(6,[(1,.ix (0) [.v (.string ⟨(bf (ak 32 line,true)).toArray⟩)]),(4,.aG (.v (.string ⟨((ae i).word).toArray⟩))),(5,.b true)])] 2000 [0] [0,2,4,5] r (by kernel_rfl) (U h0 (U (wO (k:=i) (by omega)) (U (rfl:(0)=((0:Nat):Int)) (U aI (U (wN i (by omega)) (U ((by simpa [bne] using h1):((bf (ak 32 line,true)) != (ae i).word)=true) (U ((wi (by omega)):IntKind.i64.wrap ((((i:Nat):Int):Int)+1)=((i+1:Nat):Int)) trivial))))))) fun ac wd r=>bj (by omega) ac wd ⟨(fun j hj e=>(Nat.lt_succ_iff_lt_or_eq.1 hj).elim (fun h=>ao j h e) fun h=>(KA (j:=i) (by omega) (h▸e) h1).elim),r.cast rfl rfl⟩
  | true=>
   have eX:(bZ i).length≤4:=JU (k:=i) (by omega)
   have bd:=((by simpa [bne] using h1):((bf (ak 32 line,true)) != (ae i).word)=false)
   have b6:=((by first | rfl | (simp [strs];done)):(((strs (ak 32 line)).length:Nat):Int)=(((ak 32 line).length:Nat):Int))
   have cO:=((wi (by omega)):IntKind.i64.wrap ((1:Int)+(((bZ i).length:Nat):Int))=((1+(bZ i).length:Nat):Int))
   cases h2:(((((ak 32 line).length:Nat):Int):Int) != ((1+(bZ i).length:Nat):Int)) with
   | false=>
    have cz:=fM h2
    refine bp (todo':=hd Tryz.f51 1) (E':=[(0,.d (.v (.string ⟨line.toArray⟩))),(2,.pt 0 0),(4,.d (.ro 1 (strs (ak 32 line)))),(5,.n i),(6,.d (.v (.string ⟨(bZ i).toArray⟩))),(7,.pt 1 0),(8,.d (.v (.bool true))),(9,.z 0)]) (M':=[.bx 42 [.z 0,.z 0,.z 0,.z 0,.z 0,.d (.v (.int .u64 0)),.d (.v (.slice none 0 0))],.bx 42 [.n i,.z 0,.z 0,.z 0,.z 0,.d (.v (.int .u64 0)),.d (.v (.slice none 0 0))]]) tk mo hK al [(3,[(1,.b true)]),(5,[(1,.aG (.v (.string ⟨(bZ i).toArray⟩)))]),(6,[(1,.ix (0) [.v (.string ⟨(bf (ak 32 line,true)).toArray⟩)]),(4,.aG (.v (.string ⟨((ae i).word).toArray⟩))),(5,.b false),(8,.z ((((ak 32 line).length:Nat):Int))),(11,.z (((1+(bZ i).length:Nat):Int))),(12,.b false)])] 2000 [0,1] [0,2,4,5,6,7,8,9] r (by kernel_rfl) (U h0 (U (wO (k:=i) (by omega)) (U (rfl:(0)=((0:Nat):Int)) (U aI (U (wN i (by omega)) (U bd (U b6 (U cO (U h2 trivial))))))))) fun ac wd r=>?_
    refine aF.rounds (Φ:=fun (j:Nat) ac wd=>∃ s:aB,∃ ok:Bool,(j≤(bZ i).length∧fY ((bZ i).drop j) ((ak 32 line).tail.drop j) (s,ok)=dP i (ak 32 line).tail)∧RB D w0 K 116 bs [(0,.d (.v (.string ⟨line.toArray⟩))),(2,.pt 0 0),(4,.d (.ro 1 (strs (ak 32 line)))),(5,.n i),(6,.d (.v (.string ⟨(bZ i).toArray⟩))),(7,.pt 1 0),(8,.d (.v (.bool ok))),(9,.n j)] [.bx 42 [.z 0,.z 0,.z 0,.z 0,.z 0,.d (.v (.int .u64 0)),.d (.v (.slice none 0 0))],.bx 42 [.z s.kind,.z s.node,.z s.peer,.z s.n,.z s.bit,.u s.inc,.sl 2 ((af s.body).length)],.rw 5 1 (af s.body)] ac wd) ((bZ i).length) ?_ (Nat.zero_le _) ⟨(⟨i,0,0,0,0,0,[]⟩:aB),true,⟨Nat.zero_le _,rfl⟩,(r.dA (E1:=[(0,.d (.v (.string ⟨line.toArray⟩))),(2,.pt 0 0),(4,.d (.ro 1 (strs (ak 32 line)))),(5,.n i),(6,.d (.v (.string ⟨(bZ i).toArray⟩))),(7,.pt 1 0),(8,.d (.v (.bool true))),(9,.z 0)]) (M2:=[.bx 42 [.z 0,.z 0,.z 0,.z 0,.z 0,.d (.v (.int .u64 0)),.d (.v (.slice none 0 0))],.bx 42 [.n i,.z 0,.z 0,.z 0,.z 0,.d (.v (.int .u64 0)),.sl 2 (0)],.rw 5 1 ([])]) (M1:=[.bx 42 [.z 0,.z 0,.z 0,.z 0,.z 0,.d (.v (.int .u64 0)),.d (.v (.slice none 0 0))],.bx 42 [.n i,.z 0,.z 0,.z 0,.z 0,.d (.v (.int .u64 0)),.d (.v (.slice none 0 0))]]) [] [(1,6,5,1)] (by kernel_rfl) (by kernel_rfl)).cast rfl rfl⟩
    clear r
    rintro j kX c9 ac wd ⟨s,ok,bo,r⟩
    cases h3:(decide ((((j:Nat):Int):Int)<(((bZ i).length:Nat):Int))) with
    | false=>
     have cT:=of_decide_eq_false h3
     cases h4:(ok) with
     | false=>
      have r:=r.cast (E':=[(0,.d (.v (.string ⟨line.toArray⟩))),(2,.pt 0 0),(4,.d (.ro 1 (strs (ak 32 line)))),(5,.n i),(6,.d (.v (.string ⟨(bZ i).toArray⟩))),(7,.pt 1 0),(8,.d (.v (.bool false))),(9,.n j)]) (by rw [h4]) rfl
      exact bp (todo':=hd Tryz.f51 0) (E':=[(0,.d (.v (.string ⟨line.toArray⟩))),(2,.pt 0 0),(4,.d (.ro 1 (strs (ak 32 line)))),(5,.n (i+1))]) (M':=[.bx 42 [.z 0,.z 0,.z 0,.z 0,.z 0,.d (.v (.int .u64 0)),.d (.v (.slice none 0 0))]]) tk mo hK al [(4,[(1,.z (((i+1:Nat):Int)))]),(10,[(3,.b false)])] 2000 [0] [0,2,4,5] r (by kernel_rfl) (U h3 (U ((wi (by omega)):IntKind.i64.wrap ((((i:Nat):Int):Int)+1)=((i+1:Nat):Int)) trivial)) fun ac wd r=>bj (by omega) ac wd ⟨(fun j hj e=>(Nat.lt_succ_iff_lt_or_eq.1 hj).elim (fun h=>ao j h e) fun h=>Kz (k:=i) (h▸e) (by omega) (by omega) (by rw [← q6 (by omega) bo.2];exact h4)),r.cast rfl rfl⟩
     | true=>
      have r:=r.cast (E':=[(0,.d (.v (.string ⟨line.toArray⟩))),(2,.pt 0 0),(4,.d (.ro 1 (strs (ak 32 line)))),(5,.n i),(6,.d (.v (.string ⟨(bZ i).toArray⟩))),(7,.pt 1 0),(8,.d (.v (.bool true))),(9,.n j)]) (by rw [h4]) rfl
      refine bS (todo':=aft Tryz.f51 35) (E':=[(2,.pt 0 0),(4,.d (.ro 1 (strs (ak 32 line)))),(5,.n i),(6,.d (.v (.string ⟨(bZ i).toArray⟩))),(7,.pt 1 0),(8,.d (.v (.bool true))),(9,.n j),(39,.n j),(40,.d (.v (.string ⟨(bZ i).toArray⟩))),(41,.n ((bZ i).length)),(42,.d (.v (.bool false))),(113,.d (.v (.bool true))),(114,.ag [.z s.kind,.z s.node,.z s.peer,.z s.n,.z s.bit,.u s.inc,.sl 2 ((af s.body).length)]),(3,.d (.v (.bool true)))]) (M':=[.bx 42 [.z s.kind,.z s.node,.z s.peer,.z s.n,.z s.bit,.u s.inc,.sl 2 ((af s.body).length)],.bx 42 [.z s.kind,.z s.node,.z s.peer,.z s.n,.z s.bit,.u s.inc,.sl 2 ((af s.body).length)],.rw 5 1 (af s.body)]) tk mo hK al [(10,[(3,.b false)])] 10 [0,1,2] [2,4,5,6,7,8,9,39,40,41,42,113,114,3] r (by kernel_rfl) (U h3 trivial) fun ac wd r=>?_
      refine aY (y:=.tu [.ag [.z s.kind,.z s.node,.z s.peer,.z s.n,.z s.bit,.u s.inc,.sl 0 ((af s.body).length)],.d (.v (.bool true))]) (N':=[.rw 5 1 (af s.body)]) ((by rw [CV (Ce (by omega) h1) (by omega) (by omega) (by rw [← q6 (by omega) bo.2];exact h4),← q6 (by omega) bo.2,h4]<;>rfl)) ((by rw [CV (Ce (by omega) h1) (by omega) (by omega) (by rw [← q6 (by omega) bo.2];exact h4),← q6 (by omega) bo.2,h4]<;>rfl)) ?_
      exact aX tk mo hK rfl al [] 2000 [2] r (by kernel_rfl) trivial
    | true=>
     have cT:=of_decide_eq_true h3
     obtain ⟨cP,nV⟩:∃ x_,(bZ i)[j]?=some x_:=⟨_,List.getElem?_eq_getElem (by omega)⟩
     obtain ⟨x,cm⟩:∃ x_,(ak 32 line).tail[j]?=some x_:=⟨_,List.getElem?_eq_getElem (by rw [List.length_tail];omega)⟩
     have ko:x.length≤9223372036854775807:=by have:=kz (List.mem_of_mem_tail (List.mem_of_getElem? cm));omega
     have cg:=(⟨_,nV,rfl⟩:∃ u:UInt8,((bZ i):List UInt8)[j]?=some u∧(.v (.int .u8 (((cP.toNat:Nat):Int))):DV)=.v (.int .u8 (u.toNat:Int)))
     cases h5:((((cP.toNat:Nat):Int):Int)==98) with
     | false=>
      have du:=ne_of_beq_false h5
      cases h6:((((cP.toNat:Nat):Int):Int)==99) with
      | false=>
       have dx:=ne_of_beq_false h6
       cases h7:((((cP.toNat:Nat):Int):Int)==116) with
       | false=>
        have dL:=ne_of_beq_false h7
        have ek:=((wi (by omega)):IntKind.i64.wrap ((1:Int)+((j:Nat):Int))=((1+j:Nat):Int))
        have df:=(jI _ _:∃ b0:Bool,(Value.bool ok)=.bool b0∧(bif b0 then (bif ok then Value.bool (dN x 255).2 else undef) else Value.bool false)=.bool (ok&&(dN x 255).2))
        cases h8:((((cP.toNat:Nat):Int):Int)==110) with
        | false=>
         have fg:=ne_of_beq_false h8
         cases h9:((((cP.toNat:Nat):Int):Int)==112) with
         | false=>
          have lL:=ne_of_beq_false h9
          cases cW:((((cP.toNat:Nat):Int):Int)==105) with
          | false=>
           have kO:=ne_of_beq_false cW
           exact bp (todo':=hd Tryz.f51 1) (E':=[(0,.d (.v (.string ⟨line.toArray⟩))),(2,.pt 0 0),(4,.d (.ro 1 (strs (ak 32 line)))),(5,.n i),(6,.d (.v (.string ⟨(bZ i).toArray⟩))),(7,.pt 1 0),(8,.d (.v (.bool ((ok&&(dN x 255).2))))),(9,.n (j+1))]) (M':=[.bx 42 [.z 0,.z 0,.z 0,.z 0,.z 0,.d (.v (.int .u64 0)),.d (.v (.slice none 0 0))],.bx 42 [.z s.kind,.z s.node,.z s.peer,.z s.n,.z s.bit,.u s.inc,.sl 2 ((af s.body).length)],.rw 5 1 (af s.body)]) tk mo hK al [(10,[(3,.b true)]),(11,[(1,.z (((j+1:Nat):Int)))]),(13,[(2,.ix (j) [.v (.int .u8 (((cP.toNat:Nat):Int)))]),(3,.b false)]),(15,[(2,.ix (j) [.v (.int .u8 (((cP.toNat:Nat):Int)))]),(3,.b false)]),(17,[(2,.ix (j) [.v (.int .u8 (((cP.toNat:Nat):Int)))]),(3,.b false)]),(21,[(2,.z (((1+j:Nat):Int))),(3,.ix (1+j) [.v (.string ⟨x.toArray⟩)]),(6,.aG (.tu [.u ((dN x 255).1),.v (.bool ((dN x 255).2))]))]),(22,[(2,.may ok (.n 0)),(3,.res (.v (.bool (ok&&(dN x 255).2))))]),(23,[(2,.ix (j) [.v (.int .u8 (((cP.toNat:Nat):Int)))])]),(24,[(0,.b false)]),(26,[(0,.b false)]),(28,[(0,.b false)]),(30,[(0,.b false)]),(32,[(0,.b false)])] 2000 [0,1,2] [0,2,4,5,6,7,8,9] r (by kernel_rfl) (U h3 (U (ax ((j:Nat):Int)) (U cg (U h5 (U (ax ((j:Nat):Int)) (U cg (U h6 (U (ax ((j:Nat):Int)) (U cg (U h7 (U ek (U (ax ((1+j:Nat):Int)) (U (tail_at cm) (U (k8 x 255 ko (by decide) (by decide)) (U (iJ _:(fO (Value.bool ok)==some true)=ok) (U (fun hc=>trivial:ok=true→True) (U df (U (ax ((j:Nat):Int)) (U cg (U h8 (U h9 (U cW (U h5 (U h6 (U ((wi (by omega)):IntKind.i64.wrap ((((j:Nat):Int):Int)+1)=((j+1:Nat):Int)) trivial))))))))))))))))))))))))) fun ac wd r=>c9 (by omega) ac wd ⟨s,(ok&&(dN x 255).2),⟨by omega,og nV cm bo.2 (by unfold dF;rw [if_neg (by omega),if_neg (by omega),if_neg (by omega),if_neg (by omega),if_neg (by omega),if_neg (by omega)])⟩,r.cast rfl rfl⟩
          | true=>
           have kO:=eq_of_beq cW
           exact bp (todo':=hd Tryz.f51 1) (E':=[(0,.d (.v (.string ⟨line.toArray⟩))),(2,.pt 0 0),(4,.d (.ro 1 (strs (ak 32 line)))),(5,.n i),(6,.d (.v (.string ⟨(bZ i).toArray⟩))),(7,.pt 1 0),(8,.d (.v (.bool ((ok&&(dN x 255).2))))),(9,.n (j+1))]) (M':=[.bx 42 [.z 0,.z 0,.z 0,.z 0,.z 0,.d (.v (.int .u64 0)),.d (.v (.slice none 0 0))],.bx 42 [.z s.kind,.z s.node,.z s.peer,.n ((dN x 255).1),.z s.bit,.u s.inc,.sl 2 ((af s.body).length)],.rw 5 1 (af s.body)]) tk mo hK al [(10,[(3,.b true)]),(11,[(1,.z (((j+1:Nat):Int)))]),(13,[(2,.ix (j) [.v (.int .u8 (((cP.toNat:Nat):Int)))]),(3,.b false)]),(15,[(2,.ix (j) [.v (.int .u8 (((cP.toNat:Nat):Int)))]),(3,.b false)]),(17,[(2,.ix (j) [.v (.int .u8 (((cP.toNat:Nat):Int)))]),(3,.b false)]),(21,[(2,.z (((1+j:Nat):Int))),(3,.ix (1+j) [.v (.string ⟨x.toArray⟩)]),(6,.aG (.tu [.u ((dN x 255).1),.v (.bool ((dN x 255).2))]))]),(22,[(2,.may ok (.n 0)),(3,.res (.v (.bool (ok&&(dN x 255).2))))]),(23,[(2,.ix (j) [.v (.int .u8 (((cP.toNat:Nat):Int)))])]),(24,[(0,.b false)]),(26,[(0,.b false)]),(28,[(0,.b true)]),(29,[(1,.z ((((dN x 255).1:Nat):Int)))])] 2000 [0,1,2] [0,2,4,5,6,7,8,9] r (by kernel_rfl) (U h3 (U (ax ((j:Nat):Int)) (U cg (U h5 (U (ax ((j:Nat):Int)) (U cg (U h6 (U (ax ((j:Nat):Int)) (U cg (U h7 (U ek (U (ax ((1+j:Nat):Int)) (U (tail_at cm) (U (k8 x 255 ko (by decide) (by decide)) (U (iJ _:(fO (Value.bool ok)==some true)=ok) (U (fun hc=>trivial:ok=true→True) (U df (U (ax ((j:Nat):Int)) (U cg (U h8 (U h9 (U cW (U ((wi (by have:=ke x (most:=65535) (by decide);have:=ke x (most:=255) (by decide);omega)):IntKind.i64.wrap ((((dN x 255).1:Nat):Int))=(((dN x 255).1:Nat):Int)) (U ((wi (by omega)):IntKind.i64.wrap ((((j:Nat):Int):Int)+1)=((j+1:Nat):Int)) trivial)))))))))))))))))))))))) fun ac wd r=>c9 (by omega) ac wd ⟨(⟨s.kind,s.node,s.peer,(((dN x 255).1:Nat):Int),s.bit,s.inc,s.body⟩:aB),(ok&&(dN x 255).2),⟨by omega,og nV cm bo.2 (by unfold dF;rw [if_neg (by omega),if_neg (by omega),if_neg (by omega),if_pos (by omega)])⟩,r.cast rfl rfl⟩
         | true=>
          have lL:=eq_of_beq h9
          exact bp (todo':=hd Tryz.f51 1) (E':=[(0,.d (.v (.string ⟨line.toArray⟩))),(2,.pt 0 0),(4,.d (.ro 1 (strs (ak 32 line)))),(5,.n i),(6,.d (.v (.string ⟨(bZ i).toArray⟩))),(7,.pt 1 0),(8,.d (.v (.bool ((ok&&(dN x 255).2))))),(9,.n (j+1))]) (M':=[.bx 42 [.z 0,.z 0,.z 0,.z 0,.z 0,.d (.v (.int .u64 0)),.d (.v (.slice none 0 0))],.bx 42 [.z s.kind,.z s.node,.n ((dN x 255).1),.z s.n,.z s.bit,.u s.inc,.sl 2 ((af s.body).length)],.rw 5 1 (af s.body)]) tk mo hK al [(10,[(3,.b true)]),(11,[(1,.z (((j+1:Nat):Int)))]),(13,[(2,.ix (j) [.v (.int .u8 (((cP.toNat:Nat):Int)))]),(3,.b false)]),(15,[(2,.ix (j) [.v (.int .u8 (((cP.toNat:Nat):Int)))]),(3,.b false)]),(17,[(2,.ix (j) [.v (.int .u8 (((cP.toNat:Nat):Int)))]),(3,.b false)]),(21,[(2,.z (((1+j:Nat):Int))),(3,.ix (1+j) [.v (.string ⟨x.toArray⟩)]),(6,.aG (.tu [.u ((dN x 255).1),.v (.bool ((dN x 255).2))]))]),(22,[(2,.may ok (.n 0)),(3,.res (.v (.bool (ok&&(dN x 255).2))))]),(23,[(2,.ix (j) [.v (.int .u8 (((cP.toNat:Nat):Int)))])]),(24,[(0,.b false)]),(26,[(0,.b true)]),(27,[(1,.z ((((dN x 255).1:Nat):Int)))])] 2000 [0,1,2] [0,2,4,5,6,7,8,9] r (by kernel_rfl) (U h3 (U (ax ((j:Nat):Int)) (U cg (U h5 (U (ax ((j:Nat):Int)) (U cg (U h6 (U (ax ((j:Nat):Int)) (U cg (U h7 (U ek (U (ax ((1+j:Nat):Int)) (U (tail_at cm) (U (k8 x 255 ko (by decide) (by decide)) (U (iJ _:(fO (Value.bool ok)==some true)=ok) (U (fun hc=>trivial:ok=true→True) (U df (U (ax ((j:Nat):Int)) (U cg (U h8 (U h9 (U ((wi (by have:=ke x (most:=65535) (by decide);have:=ke x (most:=255) (by decide);omega)):IntKind.i64.wrap ((((dN x 255).1:Nat):Int))=(((dN x 255).1:Nat):Int)) (U ((wi (by omega)):IntKind.i64.wrap ((((j:Nat):Int):Int)+1)=((j+1:Nat):Int)) trivial))))))))))))))))))))))) fun ac wd r=>c9 (by omega) ac wd ⟨(⟨s.kind,s.node,(((dN x 255).1:Nat):Int),s.n,s.bit,s.inc,s.body⟩:aB),(ok&&(dN x 255).2),⟨by omega,og nV cm bo.2 (by unfold dF;rw [if_neg (by omega),if_neg (by omega),if_pos (by omega)])⟩,r.cast rfl rfl⟩
        | true=>
         have fg:=eq_of_beq h8
         exact bp (todo':=hd Tryz.f51 1) (E':=[(0,.d (.v (.string ⟨line.toArray⟩))),(2,.pt 0 0),(4,.d (.ro 1 (strs (ak 32 line)))),(5,.n i),(6,.d (.v (.string ⟨(bZ i).toArray⟩))),(7,.pt 1 0),(8,.d (.v (.bool ((ok&&(dN x 255).2))))),(9,.n (j+1))]) (M':=[.bx 42 [.z 0,.z 0,.z 0,.z 0,.z 0,.d (.v (.int .u64 0)),.d (.v (.slice none 0 0))],.bx 42 [.z s.kind,.n ((dN x 255).1),.z s.peer,.z s.n,.z s.bit,.u s.inc,.sl 2 ((af s.body).length)],.rw 5 1 (af s.body)]) tk mo hK al [(10,[(3,.b true)]),(11,[(1,.z (((j+1:Nat):Int)))]),(13,[(2,.ix (j) [.v (.int .u8 (((cP.toNat:Nat):Int)))]),(3,.b false)]),(15,[(2,.ix (j) [.v (.int .u8 (((cP.toNat:Nat):Int)))]),(3,.b false)]),(17,[(2,.ix (j) [.v (.int .u8 (((cP.toNat:Nat):Int)))]),(3,.b false)]),(21,[(2,.z (((1+j:Nat):Int))),(3,.ix (1+j) [.v (.string ⟨x.toArray⟩)]),(6,.aG (.tu [.u ((dN x 255).1),.v (.bool ((dN x 255).2))]))]),(22,[(2,.may ok (.n 0)),(3,.res (.v (.bool (ok&&(dN x 255).2))))]),(23,[(2,.ix (j) [.v (.int .u8 (((cP.toNat:Nat):Int)))])]),(24,[(0,.b true)]),(25,[(1,.z ((((dN x 255).1:Nat):Int)))])] 2000 [0,1,2] [0,2,4,5,6,7,8,9] r (by kernel_rfl) (U h3 (U (ax ((j:Nat):Int)) (U cg (U h5 (U (ax ((j:Nat):Int)) (U cg (U h6 (U (ax ((j:Nat):Int)) (U cg (U h7 (U ek (U (ax ((1+j:Nat):Int)) (U (tail_at cm) (U (k8 x 255 ko (by decide) (by decide)) (U (iJ _:(fO (Value.bool ok)==some true)=ok) (U (fun hc=>trivial:ok=true→True) (U df (U (ax ((j:Nat):Int)) (U cg (U h8 (U ((wi (by have:=ke x (most:=65535) (by decide);have:=ke x (most:=255) (by decide);omega)):IntKind.i64.wrap ((((dN x 255).1:Nat):Int))=(((dN x 255).1:Nat):Int)) (U ((wi (by omega)):IntKind.i64.wrap ((((j:Nat):Int):Int)+1)=((j+1:Nat):Int)) trivial)))))))))))))))))))))) fun ac wd r=>c9 (by omega) ac wd ⟨(⟨s.kind,(((dN x 255).1:Nat):Int),s.peer,s.n,s.bit,s.inc,s.body⟩:aB),(ok&&(dN x 255).2),⟨by omega,og nV cm bo.2 (by unfold dF;rw [if_neg (by omega),if_pos (by omega)])⟩,r.cast rfl rfl⟩
       | true=>
        have dL:=eq_of_beq h7
        exact bp (todo':=hd Tryz.f51 1) (E':=[(0,.d (.v (.string ⟨line.toArray⟩))),(2,.pt 0 0),(4,.d (.ro 1 (strs (ak 32 line)))),(5,.n i),(6,.d (.v (.string ⟨(bZ i).toArray⟩))),(7,.pt 1 0),(8,.d (.v (.bool ((ok&&(dj x).2))))),(9,.n (j+1))]) (M':=[.bx 42 [.z 0,.z 0,.z 0,.z 0,.z 0,.d (.v (.int .u64 0)),.d (.v (.slice none 0 0))],.bx 42 [.z s.kind,.z s.node,.z s.peer,.z s.n,.z s.bit,.u s.inc,.sl 2 ((af (dj x).1).length)],.rw 5 1 (af (dj x).1)]) tk mo hK al [(10,[(3,.b true)]),(11,[(1,.z (((j+1:Nat):Int)))]),(13,[(2,.ix (j) [.v (.int .u8 (((cP.toNat:Nat):Int)))]),(3,.b false)]),(15,[(2,.ix (j) [.v (.int .u8 (((cP.toNat:Nat):Int)))]),(3,.b false)]),(17,[(2,.ix (j) [.v (.int .u8 (((cP.toNat:Nat):Int)))]),(3,.b true)]),(18,[(2,.z (((1+j:Nat):Int))),(3,.ix (1+j) [.v (.string ⟨x.toArray⟩)]),(5,.aG (.tu [.em 5 1 (af (dj x).1),.v (.bool ((dj x).2))]))]),(20,[(2,.may ok (.n 0)),(3,.res (.v (.bool (ok&&(dj x).2))))])] 2000 [0,1,3] [0,2,4,5,6,7,8,9] r (by kernel_rfl) (U h3 (U (ax ((j:Nat):Int)) (U cg (U h5 (U (ax ((j:Nat):Int)) (U cg (U h6 (U (ax ((j:Nat):Int)) (U cg (U h7 (U ((wi (by omega)):IntKind.i64.wrap ((1:Int)+((j:Nat):Int))=((1+j:Nat):Int)) (U (ax ((1+j:Nat):Int)) (U (tail_at cm) (U (Nj x) (U (iJ _:(fO (Value.bool ok)==some true)=ok) (U (fun hc=>trivial:ok=true→True) (U (jI _ _:∃ b0:Bool,(Value.bool ok)=.bool b0∧(bif b0 then (bif ok then Value.bool (dj x).2 else undef) else Value.bool false)=.bool (ok&&(dj x).2)) (U ((wi (by omega)):IntKind.i64.wrap ((((j:Nat):Int):Int)+1)=((j+1:Nat):Int)) trivial)))))))))))))))))) fun ac wd r=>c9 (by omega) ac wd ⟨(⟨s.kind,s.node,s.peer,s.n,s.bit,s.inc,(dj x).1⟩:aB),(ok&&(dj x).2),⟨by omega,og nV cm bo.2 (by unfold dF;rw [if_pos (by omega)])⟩,r.cast rfl rfl⟩
      | true=>
       have dx:=eq_of_beq h6
       cases fI:((((cP.toNat:Nat):Int):Int)==116) with
       | false=>
        have rS:=ne_of_beq_false fI
        have en:=((wi (by omega)):IntKind.i64.wrap ((1:Int)+((j:Nat):Int))=((1+j:Nat):Int))
        have gu:=(jI _ _:∃ b0:Bool,(Value.bool ok)=.bool b0∧(bif b0 then (bif ok then Value.bool (dN x 18446744073709551615).2 else undef) else Value.bool false)=.bool (ok&&(dN x 18446744073709551615).2))
        cases ej:((((cP.toNat:Nat):Int):Int)==110) with
        | false=>
         have qd:=ne_of_beq_false ej
         cases fy:((((cP.toNat:Nat):Int):Int)==112) with
         | false=>
          have uz:=ne_of_beq_false fy
          cases ks:((((cP.toNat:Nat):Int):Int)==105) with
          | false=>
           have uA:=ne_of_beq_false ks
           exact bp (todo':=hd Tryz.f51 1) (E':=[(0,.d (.v (.string ⟨line.toArray⟩))),(2,.pt 0 0),(4,.d (.ro 1 (strs (ak 32 line)))),(5,.n i),(6,.d (.v (.string ⟨(bZ i).toArray⟩))),(7,.pt 1 0),(8,.d (.v (.bool ((ok&&(dN x 18446744073709551615).2))))),(9,.n (j+1))]) (M':=[.bx 42 [.z 0,.z 0,.z 0,.z 0,.z 0,.d (.v (.int .u64 0)),.d (.v (.slice none 0 0))],.bx 42 [.z s.kind,.z s.node,.z s.peer,.z s.n,.z s.bit,.u ((dN x 18446744073709551615).1),.sl 2 ((af s.body).length)],.rw 5 1 (af s.body)]) tk mo hK al [(10,[(3,.b true)]),(11,[(1,.z (((j+1:Nat):Int)))]),(13,[(2,.ix (j) [.v (.int .u8 (((cP.toNat:Nat):Int)))]),(3,.b false)]),(15,[(2,.ix (j) [.v (.int .u8 (((cP.toNat:Nat):Int)))]),(3,.b true)]),(17,[(2,.ix (j) [.v (.int .u8 (((cP.toNat:Nat):Int)))]),(3,.b false)]),(21,[(2,.z (((1+j:Nat):Int))),(3,.ix (1+j) [.v (.string ⟨x.toArray⟩)]),(6,.aG (.tu [.u ((dN x 18446744073709551615).1),.v (.bool ((dN x 18446744073709551615).2))]))]),(22,[(2,.may ok (.n 0)),(3,.res (.v (.bool (ok&&(dN x 18446744073709551615).2))))]),(23,[(2,.ix (j) [.v (.int .u8 (((cP.toNat:Nat):Int)))])]),(24,[(0,.b false)]),(26,[(0,.b false)]),(28,[(0,.b false)]),(30,[(0,.b false)]),(32,[(0,.b true)])] 2000 [0,1,2] [0,2,4,5,6,7,8,9] r (by kernel_rfl) (U h3 (U (ax ((j:Nat):Int)) (U cg (U h5 (U (ax ((j:Nat):Int)) (U cg (U h6 (U (ax ((j:Nat):Int)) (U cg (U fI (U en (U (ax ((1+j:Nat):Int)) (U (tail_at cm) (U (k8 x 18446744073709551615 ko (by decide) (by decide)) (U (iJ _:(fO (Value.bool ok)==some true)=ok) (U (fun hc=>trivial:ok=true→True) (U gu (U (ax ((j:Nat):Int)) (U cg (U ej (U fy (U ks (U h5 (U h6 (U ((wi (by omega)):IntKind.i64.wrap ((((j:Nat):Int):Int)+1)=((j+1:Nat):Int)) trivial))))))))))))))))))))))))) fun ac wd r=>c9 (by omega) ac wd ⟨(⟨s.kind,s.node,s.peer,s.n,s.bit,(dN x 18446744073709551615).1,s.body⟩:aB),(ok&&(dN x 18446744073709551615).2),⟨by omega,og nV cm bo.2 (by unfold dF;rw [if_neg (by omega),if_neg (by omega),if_neg (by omega),if_neg (by omega),if_neg (by omega),if_pos (by omega)])⟩,r.cast rfl rfl⟩
          | true=>
           have uA:=eq_of_beq ks
           exact absurd uA (by omega)
         | true=>
          have uz:=eq_of_beq fy
          exact absurd uz (by omega)
        | true=>
         have qd:=eq_of_beq ej
         exact absurd qd (by omega)
       | true=>
        have rS:=eq_of_beq fI
        exact absurd dx (by omega)
     | true=>
      have du:=eq_of_beq h5
      cases nS:((((cP.toNat:Nat):Int):Int)==99) with
      | false=>
       have y7:=ne_of_beq_false nS
       cases lN:((((cP.toNat:Nat):Int):Int)==116) with
       | false=>
        have y8:=ne_of_beq_false lN
        have jC:=((wi (by omega)):IntKind.i64.wrap ((1:Int)+((j:Nat):Int))=((1+j:Nat):Int))
        have nC:=(jI _ _:∃ b0:Bool,(Value.bool ok)=.bool b0∧(bif b0 then (bif ok then Value.bool (dN x 65535).2 else undef) else Value.bool false)=.bool (ok&&(dN x 65535).2))
        cases mK:((((cP.toNat:Nat):Int):Int)==110) with
        | false=>
         have uB:=ne_of_beq_false mK
         cases nT:((((cP.toNat:Nat):Int):Int)==112) with
         | false=>
          have uC:=ne_of_beq_false nT
          cases sA:((((cP.toNat:Nat):Int):Int)==105) with
          | false=>
           have D5:=ne_of_beq_false sA
           exact bp (todo':=hd Tryz.f51 1) (E':=[(0,.d (.v (.string ⟨line.toArray⟩))),(2,.pt 0 0),(4,.d (.ro 1 (strs (ak 32 line)))),(5,.n i),(6,.d (.v (.string ⟨(bZ i).toArray⟩))),(7,.pt 1 0),(8,.d (.v (.bool ((ok&&(dN x 65535).2))))),(9,.n (j+1))]) (M':=[.bx 42 [.z 0,.z 0,.z 0,.z 0,.z 0,.d (.v (.int .u64 0)),.d (.v (.slice none 0 0))],.bx 42 [.z s.kind,.z s.node,.z s.peer,.z s.n,.n ((dN x 65535).1),.u s.inc,.sl 2 ((af s.body).length)],.rw 5 1 (af s.body)]) tk mo hK al [(10,[(3,.b true)]),(11,[(1,.z (((j+1:Nat):Int)))]),(13,[(2,.ix (j) [.v (.int .u8 (((cP.toNat:Nat):Int)))]),(3,.b true)]),(15,[(2,.ix (j) [.v (.int .u8 (((cP.toNat:Nat):Int)))]),(3,.b false)]),(17,[(2,.ix (j) [.v (.int .u8 (((cP.toNat:Nat):Int)))]),(3,.b false)]),(21,[(2,.z (((1+j:Nat):Int))),(3,.ix (1+j) [.v (.string ⟨x.toArray⟩)]),(6,.aG (.tu [.u ((dN x 65535).1),.v (.bool ((dN x 65535).2))]))]),(22,[(2,.may ok (.n 0)),(3,.res (.v (.bool (ok&&(dN x 65535).2))))]),(23,[(2,.ix (j) [.v (.int .u8 (((cP.toNat:Nat):Int)))])]),(24,[(0,.b false)]),(26,[(0,.b false)]),(28,[(0,.b false)]),(30,[(0,.b true)]),(31,[(1,.z ((((dN x 65535).1:Nat):Int)))])] 2000 [0,1,2] [0,2,4,5,6,7,8,9] r (by kernel_rfl) (U h3 (U (ax ((j:Nat):Int)) (U cg (U h5 (U (ax ((j:Nat):Int)) (U cg (U nS (U (ax ((j:Nat):Int)) (U cg (U lN (U jC (U (ax ((1+j:Nat):Int)) (U (tail_at cm) (U (k8 x 65535 ko (by decide) (by decide)) (U (iJ _:(fO (Value.bool ok)==some true)=ok) (U (fun hc=>trivial:ok=true→True) (U nC (U (ax ((j:Nat):Int)) (U cg (U mK (U nT (U sA (U h5 (U ((wi (by have:=ke x (most:=65535) (by decide);have:=ke x (most:=255) (by decide);omega)):IntKind.i64.wrap ((((dN x 65535).1:Nat):Int))=(((dN x 65535).1:Nat):Int)) (U ((wi (by omega)):IntKind.i64.wrap ((((j:Nat):Int):Int)+1)=((j+1:Nat):Int)) trivial))))))))))))))))))))))))) fun ac wd r=>c9 (by omega) ac wd ⟨(⟨s.kind,s.node,s.peer,s.n,(((dN x 65535).1:Nat):Int),s.inc,s.body⟩:aB),(ok&&(dN x 65535).2),⟨by omega,og nV cm bo.2 (by unfold dF;rw [if_neg (by omega),if_neg (by omega),if_neg (by omega),if_neg (by omega),if_pos (by omega)])⟩,r.cast rfl rfl⟩
          | true=>
           have D5:=eq_of_beq sA
           exact absurd D5 (by omega)
         | true=>
          have uC:=eq_of_beq nT
          exact absurd uC (by omega)
        | true=>
         have uB:=eq_of_beq mK
         exact absurd uB (by omega)
       | true=>
        have y8:=eq_of_beq lN
        exact absurd du (by omega)
      | true=>
       have y7:=eq_of_beq nS
       exact absurd du (by omega)
   | true=>
    have cz:¬ _=_:=bne_iff_ne.1 h2
    exact bp (todo':=hd Tryz.f51 0) (E':=[(0,.d (.v (.string ⟨line.toArray⟩))),(2,.pt 0 0),(4,.d (.ro 1 (strs (ak 32 line)))),(5,.n (i+1))]) (M':=[.bx 42 [.z 0,.z 0,.z 0,.z 0,.z 0,.d (.v (.int .u64 0)),.d (.v (.slice none 0 0))]]) tk mo hK al [(3,[(1,.b true)]),(4,[(1,.z (((i+1:Nat):Int)))]),(5,[(1,.aG (.v (.string ⟨(bZ i).toArray⟩)))]),(6,[(1,.ix (0) [.v (.string ⟨(bf (ak 32 line,true)).toArray⟩)]),(4,.aG (.v (.string ⟨((ae i).word).toArray⟩))),(5,.b false),(8,.z ((((ak 32 line).length:Nat):Int))),(11,.z (((1+(bZ i).length:Nat):Int))),(12,.b true)])] 2000 [0] [0,2,4,5] r (by kernel_rfl) (U h0 (U (wO (k:=i) (by omega)) (U (rfl:(0)=((0:Nat):Int)) (U aI (U (wN i (by omega)) (U bd (U b6 (U cO (U h2 (U ((wi (by omega)):IntKind.i64.wrap ((((i:Nat):Int):Int)+1)=((i+1:Nat):Int)) trivial)))))))))) fun ac wd r=>bj (by omega) ac wd ⟨(fun j hj e=>(Nat.lt_succ_iff_lt_or_eq.1 hj).elim (fun h=>ao j h e) fun h=>IU (k:=i) (h▸e) (by omega)),r.cast rfl rfl⟩
end Go.Proofs.YtcnpikbbmbombaaGreatDoor
namespace Go.Proofs.YtcnpikbbmbombaaGreatDoor
open Go.RowKit
theorem xA:∀ (n:Nat) (l:List Nat),l.Nodup→(∀ x ∈ l,x<n)→l.length≤n
 | 0,l,_,h=>by
  cases l with
  | nil=>exact Nat.le_refl _
  | cons x r=>exact absurd (h x List.mem_cons_self) (Nat.not_lt_zero _)
 | n+1,l,hd,h=>by
  by_cases hm:n ∈ l
  ·have h1:=xA n (l.erase n) (hd.erase n) fun x hx=>by
    have h2:=(hd.mem_erase_iff).1 hx
    have h3:=h x h2.2
    have h4:=h2.1
    omega
   have h2:=List.length_erase_of_mem hm
   omega
  ·exact Nat.le_succ_of_le (xA n l hd fun x hx=>by
    have h3:=h x hx
    have h4:x≠n:=fun e=>hm (e▸hx)
    omega)
theorem nB.Py {c:bK} (h:nB c):c.ah.length≤25:=by
 have h1:=xA 25 (c.ah.map fun x=>(x.1*5+x.2).toNat) (by
  rw [List.nodup_iff_pairwise_ne,List.pairwise_map,List.pairwise_iff_getElem]
  intro i j hi hj Pz e
  have a:=h.link i _ (List.getElem?_eq_getElem hi)
  have b:=h.link j _ (List.getElem?_eq_getElem hj)
  have d:=h.lone j i _ _ (List.getElem?_eq_getElem hj) Pz (List.getElem?_eq_getElem hi)
  have hd:=h.head
  unfold jv at a b
  exact d.1 (by omega)) fun x hx=>by
  obtain ⟨y,hy,rfl⟩:=List.mem_map.1 hx
  obtain ⟨i,hi,rfl⟩:=List.getElem_of_mem hy
  have a:=h.link i _ (List.getElem?_eq_getElem hi)
  have hd:=h.head
  unfold jv at a
  omega
 simpa using h1
theorem nB.fits {c:bK} (h:nB c):(0≤c.aD∧c.aD≤255)∧c.ah.length≤255∧c.homes.length≤255∧(∀ x ∈ c.ah,0≤x.1∧x.1≤255∧0≤x.2∧x.2≤255)∧∀ x ∈ c.homes,0≤x∧x≤255:=by
 have hd:=h.head
 have hf:=h.Py
 refine ⟨by omega,by omega,by omega,fun x hx=>?_,fun x hx=>?_⟩
 ·obtain ⟨i,hi,rfl⟩:=List.getElem_of_mem hx
  have a:=h.link i _ (List.getElem?_eq_getElem hi)
  unfold jv at a;omega
 ·obtain ⟨i,hi,rfl⟩:=List.getElem_of_mem hx
  have a:=h.home i _ (List.getElem?_eq_getElem hi)
  unfold jv at a;omega
end Go.Proofs.YtcnpikbbmbombaaGreatDoor
namespace Go.Proofs.YtcnpikbbmbombaaGreatDoor
open Go.RowKit
def fw (s:List UInt8):List (List UInt8):=if h:s=[] then [] else au 10 s::fw (bq 10 s)
termination_by s.length
decreasing_by
 have h2:0<s.length:=List.length_pos_iff.2 h
 unfold bq;simp;omega
theorem ph:fw []=[]:=by rw [fw,dif_pos rfl]
theorem qP {s:List UInt8} (h:s≠[]):fw s=au 10 s::fw (bq 10 s):=by rw [fw,dif_neg h]
noncomputable def bT:List (List UInt8)→Nat→Bool→bK→List (aB×Bool)→List Int→Option (Bool×bK×List (aB×Bool)×List Int)
 | [],_,b,c,S,B=>some (b,c,S,B)
 | x::r,n,b,c,S,B=>
  if x=[]∨x.head?=some 35 then bT r (n+1) b c S B
  else cond b (bT r (n+1) true c (S++[aA x]) (cond (aA x).2 B (B++[((n:Nat):Int)]))) (cond (ct x).2 (bT r (n+1) true (ct x).1 S B) none)
end Go.Proofs.YtcnpikbbmbombaaGreatDoor
namespace Go.Proofs.YtcnpikbbmbombaaGreatDoor
open Go.RowKit
theorem Gj {s:List UInt8} (h:s.count 10=0):au 10 s=s∧bq 10 s=[]:=by
 have key:∀ s:List UInt8,s.count 10=0→au 10 s=s:=by
  intro s
  induction s with
  | nil=>intro _;rfl
  | cons x r ih=>
   intro h
   by_cases hx:x=10
   ·subst hx;simp at h
   ·rw [au,if_neg hx,ih (by rw [List.count_cons_of_ne hx] at h;exact h)]
 refine ⟨key s h,?_⟩
 unfold bq;rw [key s h,List.drop_of_length_le (by omega)]
def dI (x:List UInt8):Int:=(((dN x 255).1:Nat):Int)
def hU:List (List UInt8)→List Int→Bool→List Int×Bool
 | [],H,g=>(H,g)
 | x::r,H,g=>hU r (H++[dI x]) (g&&(dN x 255).2)
def dr (x:List UInt8):List UInt8:=(ak 45 x).getD 0 []
def eG (x:List UInt8):List UInt8:=(ak 45 x).getD 1 []
def gl:List (List UInt8)→List (Int×Int)→Bool→List (Int×Int)×List Int×Bool
 | [],L,_=>(L,[],false)
 | x::r,L,g=>if x=[58] then (L,(hU r [] g).1,(hU r [] g).2) else if (ak 45 x).length=2 then gl r (L++[(dI (dr x),dI (eG x))]) ((g&&(dN (dr x) 255).2)&&(dN (eG x) 255).2) else (L,[],false)
theorem wP:∀ (r:List (List UInt8)) (H:List Int),(hU r H false).2=false
 | [],_=>rfl
 | x::r,H=>by rw [hU,Bool.false_and];exact wP r _
theorem Cg:∀ (r:List (List UInt8)) (L:List (Int×Int)),(gl r L false).2.2=false
 | [],_=>rfl
 | x::r,L=>by
  rw [gl]
  split
  ·exact wP r _
  ·split
   ·rw [Bool.false_and,Bool.false_and];exact Cg r _
   ·rfl
theorem Ch:∀ (r:List (List UInt8)) (L:List (Int×Int)) (H H2:List Int) (g:Bool),(g=true→H=H2)→(r.foldl fR (L,H2,true,g)).1=L∧(r.foldl fR (L,H2,true,g)).2.2.1=true∧(r.foldl fR (L,H2,true,g)).2.2.2=(hU r H g).2∧((hU r H g).2=true→(r.foldl fR (L,H2,true,g)).2.1=(hU r H g).1)
 | [],L,H,H2,g,h=>⟨rfl,rfl,rfl,fun e=>(h e).symm⟩
 | x::r,L,H,H2,g,h=>by
  rw [List.foldl_cons,EU,hU,ik]
  refine Ch r L _ _ _ fun e=>?_
  simp only [Bool.and_eq_true] at e
  rw [h e.1];unfold dI;rw [(dV x 255).2 e.2]
theorem CW:∀ (r:List (List UInt8)) (s:qz),s.2.2.2=false→(r.foldl fR s).2.2.2=false
 | [],s,h=>h
 | x::r,s,h=>by
  rw [List.foldl_cons]
  refine CW r _ ?_
  unfold fR
  split
  ·simp [h]
  ·split
   ·exact h
   ·simp [h]
theorem Ci {most:Nat}:∀ (w:List UInt8) (n:Nat),(45:UInt8) ∈ w→dD most w n=none
 | [],n,h=>by cases h
 | b::r,n,h=>by
  rw [dD]
  split
  ·rfl
  ·rename_i h1
   split
   ·rfl
   ·rcases List.mem_cons.1 h with rfl | h
    ·exact absurd (by decide) h1
    ·exact Ci r _ h
theorem KB {w:List UInt8} {most:Nat} (h:(45:UInt8) ∈ w):(aL w most).2=false:=by
 by_cases hR:w=[]∨(w.head?=some 48∧w≠[48])
 ·rw [ky hR]
 ·rw [gb hR (Ci w 0 h)]
theorem LC {x:List UInt8} (h:(ak 45 x).length=2):cF x=(dr x,eG x):=by
 have hc:=ga 45 x
 have h1:0<x.count 45:=by omega
 have h2:=qG h1
 unfold cF dr eG
 rw [if_pos h1,o6 h1,o5 (by omega)];rfl
theorem LD {x:List UInt8} (h:(ak 45 x).length≠2):(aL (cF x).2 255).2=false:=by
 have hc:=ga 45 x
 unfold cF
 split
 ·rename_i h1
  have h2:=qG h1
  have h3:0<(bq 45 x).count 45:=by omega
  exact KB (List.count_pos_iff.1 h3)
 ·rfl
theorem Cj:∀ (r:List (List UInt8)) (L L2:List (Int×Int)) (g:Bool),(g=true→L=L2)→((r.foldl fR (L2,[],false,g)).2.2.2&&(r.foldl fR (L2,[],false,g)).2.2.1)=(gl r L g).2.2∧((gl r L g).2.2=true→(r.foldl fR (L2,[],false,g)).1=(gl r L g).1∧(r.foldl fR (L2,[],false,g)).2.1=(gl r L g).2.1)
 | [],L,L2,g,h=>⟨by simp [gl],fun e=>by cases e⟩
 | x::r,L,L2,g,h=>by
  rw [List.foldl_cons,gl]
  by_cases hx:x=[58]
  ·rw [if_pos hx,EV (by rw [hx];rfl)]
   obtain ⟨a,b,c,d⟩:=Ch r L2 [] [] g fun _=>rfl
   rw [a,b,c]
   refine ⟨by simp,fun e=>⟨?_,d e⟩⟩
   cases g with
   | false=>rw [wP] at e;cases e
   | true=>exact (h rfl).symm
  ·rw [if_neg hx,EW (by simpa using hx)]
   by_cases h2:(ak 45 x).length=2
   ·rw [if_pos h2,LC h2,ik,ik]
    refine Cj r _ _ _ fun e=>?_
    simp only [Bool.and_eq_true] at e
    rw [h e.1.1];unfold dI;rw [(dV _ 255).2 e.1.2,(dV _ 255).2 e.2]
   ·rw [if_neg h2]
    have hb:=CW r (L2++[((((aL (cF x).1 255).1:Nat):Int),(((aL (cF x).2 255).1:Nat):Int))],[],false,(g&&(aL (cF x).1 255).2)&&(aL (cF x).2 255).2) (by show ((g&&(aL (cF x).1 255).2)&&(aL (cF x).2 255).2)=false;rw [LD h2,Bool.and_false])
    rw [hb];exact ⟨rfl,fun e=>by cases e⟩
def mM (l:List UInt8):List (Int×Int)×List Int×Bool:=gl (dh l) [] (dN (aZ l) 255).2
def iP (l:List UInt8):bK:=⟨dI (aZ l),(mM l).1,(mM l).2.1⟩
noncomputable def bI (l:List UInt8):bK×Bool:=if (ak 32 l).length<3∨(bf (ak 32 l,true)==[119,111,114,108,100])=false then (⟨0,[],[]⟩,false) else (iP l,(mM l).2.2&&bY (iP l))
theorem pA {l:List UInt8} (h:(ak 32 l).length<3∨(bf (ak 32 l,true)==[119,111,114,108,100])=false):bI l=(⟨0,[],[]⟩,false):=by unfold bI;rw [if_pos h]
theorem kF {l:List UInt8} (h:¬ (ak 32 l).length<3) (h2:(bf (ak 32 l,true)==[119,111,114,108,100])=true):bI l=(iP l,(mM l).2.2&&bY (iP l)):=by unfold bI;rw [if_neg (by rintro (e | e);exact h e;rw [h2] at e;cases e)]
theorem wQ (l:List UInt8):(bI l).2=gT l∧(gT l=true→(bI l).1=jS l):=by
 by_cases h1:(ak 32 l).length<3
 ·rw [pA (.inl h1),xw h1];exact ⟨rfl,fun e=>by cases e⟩
 ·cases h2:(bf (ak 32 l,true)==[119,111,114,108,100]) with
  | false=>rw [pA (.inr h2),xx h2];exact ⟨rfl,fun e=>by cases e⟩
  | true=>
   rw [kF h1 h2]
   obtain ⟨a,b⟩:=Cj (dh l) [] [] (dN (aZ l) 255).2 fun _=>rfl
   have ep:(dN (aZ l) 255).2=(aL (aZ l) 255).2:=ik _ _
   have eF:(dh l).foldl fR ([],[],false,(dN (aZ l) 255).2)=lO l:=by unfold lO;rw [ep]
   rw [eF] at a b
   have key:(mM l).2.2=true→iP l=jS l:=fun e=>by
    obtain ⟨b1,b2⟩:=b e
    have hg:(aL (aZ l) 255).2=true:=by
     cases hg:(aL (aZ l) 255).2 with
     | true=>rfl
     | false=>unfold mM at e;rw [ep,hg,Cg] at e;cases e
    unfold iP jS dI ki
    rw [b1,b2,(dV _ 255).2 hg];rfl
   have e3:gT l=((mM l).2.2&&bY (jS l)):=by
    unfold gT;rw [h2,decide_eq_true (by omega),a];rfl
   rw [e3]
   cases hd:(mM l).2.2 with
   | false=>exact ⟨rfl,fun e=>by cases e⟩
   | true=>rw [key hd];exact ⟨rfl,fun _=>rfl⟩
theorem LF {l:List UInt8} (h:(bI l).2=false):(ct l).2=false:=by rw [(wQ l).1] at h;rw [nc h]
theorem KC {l:List UInt8} (h:(bI l).2=true):bI l=ct l:=by
 have e:=(wQ l).1.symm.trans h
 rw [q5 e];exact Prod.ext ((wQ l).2 e) h
theorem IX {X Y:List (List UInt8)} (h:∀ n b c S B,bT X n b c S B=bT Y n b c S B) (x:List UInt8) (n:Nat) (b:Bool) (c:bK) (S:List (aB×Bool)) (B:List Int):bT (x::X) n b c S B=bT (x::Y) n b c S B:=by
 rw [bT,bT];simp only [h]
theorem vB:∀ (k:Nat) (s:List UInt8),s.length≤k→∀ (n:Nat) (b:Bool) (c:bK) (S:List (aB×Bool)) (B:List Int),bT (ak 10 s) n b c S B=bT (fw s) n b c S B:=by
 have e0:∀ n b c S B,bT (ak 10 []) n b c S B=bT (fw []) n b c S B:=fun n b c S B=>by
  rw [ph,bT];show bT [[]] n b c S B=_
  rw [bT,if_pos (.inl rfl),bT]
 intro k
 induction k with
 | zero=>intro s h;obtain rfl:s=[]:=List.eq_nil_of_length_eq_zero (by omega);exact e0
 | succ k ih=>
  intro s h
  by_cases hs:s=[]
  ·subst hs;exact e0
  ·rcases Nat.eq_zero_or_pos (s.count 10) with h0 | h0
   ·intro n b c S B
    have hf:=Gj h0
    rw [o5 h0,qP hs,hf.1,hf.2,ph]
   ·rw [o6 h0,qP hs]
    exact IX (ih _ (by have:=List.length_pos_iff.2 hs;unfold bq;simp;omega)) _
theorem pC {W:List (List UInt8)} {i n:Nat} {x:List UInt8} {b:Bool} {c:bK} {S:List (aB×Bool)} {B:List Int} (g:W[i]?=some x) (h:x=[]∨x.head?=some 35):bT (W.drop i) n b c S B=bT (W.drop (i+1)) (n+1) b c S B:=by
 obtain ⟨h1,rfl⟩:=List.getElem?_eq_some_iff.1 g
 rw [List.drop_eq_getElem_cons h1,bT,if_pos h]
theorem CX {W:List (List UInt8)} {i n:Nat} {x:List UInt8} {c:bK} {S:List (aB×Bool)} {B:List Int} (g:W[i]?=some x) (h:¬ (x=[]∨x.head?=some 35)):bT (W.drop i) n false c S B=cond (ct x).2 (bT (W.drop (i+1)) (n+1) true (ct x).1 S B) none:=by
 obtain ⟨h1,rfl⟩:=List.getElem?_eq_some_iff.1 g
 rw [List.drop_eq_getElem_cons h1,bT,if_neg h];rfl
theorem CY {W:List (List UInt8)} {i n:Nat} {x:List UInt8} {c:bK} {S:List (aB×Bool)} {B:List Int} (g:W[i]?=some x) (h:¬ (x=[]∨x.head?=some 35)):bT (W.drop i) n true c S B=bT (W.drop (i+1)) (n+1) true c (S++[aA x]) (cond (aA x).2 B (B++[((n:Nat):Int)])):=by
 obtain ⟨h1,rfl⟩:=List.getElem?_eq_some_iff.1 g
 rw [List.drop_eq_getElem_cons h1,bT,if_neg h];rfl
end Go.Proofs.YtcnpikbbmbombaaGreatDoor
namespace Go.Proofs.YtcnpikbbmbombaaGreatDoor
open Go.RowKit
theorem KD {ws:List (List UInt8)} {i:Nat} {x:List UInt8} {L:List (Int×Int)} {g:Bool} {z:List (Int×Int)×List Int×Bool} (gx:ws[i]?=some x) (hx:(x==([58]:List UInt8))=false) (h2:(ak 45 x).length=2) (h:gl (ws.drop i) L g=z):gl (ws.drop (i+1)) (L++[((((dN (dr x) 255).1:Nat):Int),(((dN (eG x) 255).1:Nat):Int))]) ((g&&(dN (dr x) 255).2)&&(dN (eG x) 255).2)=z:=by
 obtain ⟨h1,rfl⟩:=List.getElem?_eq_some_iff.1 gx
 rw [List.drop_eq_getElem_cons h1,gl,if_neg (by simpa using hx),if_pos h2] at h;exact h
theorem CZ {ws:List (List UInt8)} {i:Nat} {x:List UInt8} {L:List (Int×Int)} {g:Bool} {z:List (Int×Int)×List Int×Bool} (gx:ws[i]?=some x) (hx:(x==([58]:List UInt8))=false) (h2:(ak 45 x).length≠2) (h:gl (ws.drop i) L g=z):z=(L,[],false):=by
 obtain ⟨h1,rfl⟩:=List.getElem?_eq_some_iff.1 gx
 rw [List.drop_eq_getElem_cons h1,gl,if_neg (by simpa using hx),if_neg h2] at h;exact h.symm
theorem C0 {ws:List (List UInt8)} {i:Nat} {L:List (Int×Int)} {g:Bool} {z:List (Int×Int)×List Int×Bool} (hi:ws.length≤i) (h:gl (ws.drop i) L g=z):z=(L,[],false):=by
 rw [List.drop_of_length_le hi,gl] at h;exact h.symm
theorem pj {ws:List (List UInt8)} {i:Nat} {x:List UInt8} {L:List (Int×Int)} {g:Bool} {z:List (Int×Int)×List Int×Bool} (gx:ws[i]?=some x) (hx:(x==([58]:List UInt8))=true) (h:gl (ws.drop i) L g=z):z=(L,(hU (ws.drop (i+1)) [] g).1,(hU (ws.drop (i+1)) [] g).2):=by
 obtain ⟨h1,rfl⟩:=List.getElem?_eq_some_iff.1 gx
 rw [List.drop_eq_getElem_cons h1,gl,if_pos (by simpa using hx)] at h;exact h.symm
theorem KE {ws:List (List UInt8)} {i:Nat} {x:List UInt8} {H:List Int} {g:Bool} {z:List Int×Bool} (gx:ws[i]?=some x) (h:hU (ws.drop i) H g=z):hU (ws.drop (i+1)) (H++[(((dN x 255).1:Nat):Int)]) (g&&(dN x 255).2)=z:=by
 obtain ⟨h1,rfl⟩:=List.getElem?_eq_some_iff.1 gx
 rw [List.drop_eq_getElem_cons h1,hU] at h;exact h
theorem pM {ws:List (List UInt8)} {i:Nat} {H:List Int} {g:Bool} {z:List Int×Bool} (hi:ws.length≤i) (h:hU (ws.drop i) H g=z):z=(H,g):=by
 rw [List.drop_of_length_le hi,hU] at h;exact h.symm
theorem pZ {l:List UInt8} {i:Nat} {x:List UInt8} (h:(dh l)[i]?=some x):(strs (ak 32 l))[i+2]?=some [.v (.string ⟨x.toArray⟩)]:=by
 refine eM ?_
 unfold dh at h;rw [List.getElem?_drop] at h;rw [Nat.add_comm];exact h
theorem Dv {x:List UInt8} (h:(ak 45 x).length=2):(strs (ak 45 x))[0]?=some [.v (.string ⟨(dr x).toArray⟩)]∧(strs (ak 45 x))[1]?=some [.v (.string ⟨(eG x).toArray⟩)]:=by
 unfold strs dr eG
 match ak 45 x,h with
 | [a,b],_=>exact ⟨rfl,rfl⟩
theorem Dw {x:List UInt8} (h:(ak 45 x).length=2):(dr x).length≤x.length∧(eG x).length≤x.length:=by
 unfold dr eG
 constructor<;>(rw [List.getD_eq_getElem?_getD,List.getElem?_eq_getElem (by omega)];exact kz (List.getElem_mem _))
set_option maxRecDepth 100000 in
theorem AG (line:List UInt8) (hl:line.length≤1048576):aC Tryz.prog 50 [.d (.v (.string ⟨line.toArray⟩))] [] (u1 (bI line)) (uF (bI line)):=by
 refine aC.intro (by kernel_rfl) rfl rfl 129 rfl rfl fun D w0 K bs ac wd hK (al:bs.m=0) r=>?_
 have aI:=((by first | rfl | (simp [strs];done)):(((strs (ak 32 line)).length:Nat):Int)=(((ak 32 line).length:Nat):Int))
 cases h0:(decide (((((ak 32 line).length:Nat):Int):Int)<3)) with
 | false=>
  have aT:=of_decide_eq_false h0
  have bd:=(s9 32 line:(strs (ak 32 line))[0]?=some [.v (.string ⟨(bf (ak 32 line,true)).toArray⟩)])
  cases h1:((bf (ak 32 line,true))==([119,111,114,108,100]:List UInt8)) with
  | false=>
   refine bS (todo':=aft Tryz.f50 4) (E':=[(2,.pt 0 0),(3,.d (.v (.bool false))),(4,.pt 1 0),(5,.d (.ro 1 (strs (ak 32 line))))]) (M':=[.bx 25 [.z 0,.d (.v (.slice none 0 0)),.d (.v (.slice none 0 0))],.bx 25 [.z 0,.d (.v (.slice none 0 0)),.d (.v (.slice none 0 0))]]) tk mo hK al [(2,[(1,.aG (.ro 1 (strs (ak 32 line))))]),(3,[(1,.z ((((ak 32 line).length:Nat):Int))),(2,.b false),(5,.ix (0) [.v (.string ⟨(bf (ak 32 line,true)).toArray⟩)]),(7,.b true)])] 12 [0,1] [2,3,4,5] r (by kernel_rfl) (U (nF line 32 hl) (U aI (U h0 (U (rfl:(0)=((0:Nat):Int)) (U bd (U ((by simpa [bne] using h1):((bf (ak 32 line,true)) != ([119,111,114,108,100]:List UInt8))=true) trivial)))))) fun ac wd r=>?_
   have r:=r.dA (E1:=[(2,.pt 0 0),(3,.d (.v (.bool false))),(4,.pt 1 0),(5,.d (.ro 1 (strs (ak 32 line))))]) (M1:=[.bx 25 [.z 0,.d (.v (.slice none 0 0)),.d (.v (.slice none 0 0))],.bx 25 [.z 0,.d (.v (.slice none 0 0)),.d (.v (.slice none 0 0))]]) (M2:=[.bx 25 [.z 0,.sl 2 (0),.sl 3 (0)],.bx 25 [.z 0,.d (.v (.slice none 0 0)),.d (.v (.slice none 0 0))],.rw 60 2 ([]),.rw 3 1 ([])]) [] [(0,1,60,2),(0,2,3,1)] (by kernel_rfl) (by kernel_rfl)
   refine aY (y:=.tu [.ag [.z 0,.sl 0 (0),.sl 1 (0)],.d (.v (.bool false))]) (N':=[.rw 60 2 ([]),.rw 3 1 ([])]) ((by rw [pA (.inr h1)]<;>rfl)) ((by rw [pA (.inr h1)]<;>rfl)) ?_
   exact aX tk mo hK rfl al [] 2000 [2,3] r (by kernel_rfl) trivial
  | true=>
   refine bp (todo':=hd Tryz.f50 0) (E':=[(0,.d (.v (.string ⟨line.toArray⟩))),(2,.pt 0 0),(4,.pt 1 0),(5,.d (.ro 1 (strs (ak 32 line)))),(7,.d (.v (.bool ((dN (aZ line) 255).2)))),(8,.z 2)]) (M':=[.bx 25 [.z 0,.d (.v (.slice none 0 0)),.d (.v (.slice none 0 0))],.bx 25 [.n ((dN (aZ line) 255).1),.d (.v (.slice none 0 0)),.d (.v (.slice none 0 0))]]) tk mo hK al [(2,[(1,.aG (.ro 1 (strs (ak 32 line))))]),(3,[(1,.z ((((ak 32 line).length:Nat):Int))),(2,.b false),(5,.ix (0) [.v (.string ⟨(bf (ak 32 line,true)).toArray⟩)]),(7,.b false)]),(5,[(1,.ix (1) [.v (.string ⟨(aZ line).toArray⟩)]),(3,.aG (.tu [.u ((dN (aZ line) 255).1),.v (.bool ((dN (aZ line) 255).2))]))]),(6,[(1,.z ((((dN (aZ line) 255).1:Nat):Int)))])] 2000 [0,1] [0,2,4,5,7,8] r (by kernel_rfl) (U (nF line 32 hl) (U aI (U h0 (U (rfl:(0)=((0:Nat):Int)) (U bd (U ((by simpa [bne] using h1):((bf (ak 32 line,true)) != ([119,111,114,108,100]:List UInt8))=false) (U (rfl:(1)=((1:Nat):Int)) (U (A2 (by omega):(strs (ak 32 line))[1]?=some [.v (.string ⟨(aZ line).toArray⟩)]) (U (k8 (aZ line) 255 (by have:=CP hl;omega) (by decide) (by decide)) (U ((wi (by have:=ke (aZ line) (most:=255) (by decide);omega)):IntKind.i64.wrap ((((dN (aZ line) 255).1:Nat):Int))=(((dN (aZ line) 255).1:Nat):Int)) trivial)))))))))) fun ac wd r=>?_
   refine aF.rounds (Φ:=fun (i:Nat) ac wd=>∃ L:List (Int×Int),∃ g:Bool,(i+2≤(ak 32 line).length∧gl ((dh line).drop i) L g=mM line∧L.length≤i)∧RB D w0 K 129 bs [(0,.d (.v (.string ⟨line.toArray⟩))),(2,.pt 0 0),(4,.pt 1 0),(5,.d (.ro 1 (strs (ak 32 line)))),(7,.d (.v (.bool g))),(8,.n (i+2))] [.bx 25 [.z 0,.d (.v (.slice none 0 0)),.d (.v (.slice none 0 0))],.bx 25 [.n ((dN (aZ line) 255).1),.sl 2 (L.length),.d (.v (.slice none 0 0))],.rw 60 2 (ah L)] ac wd) ((dh line).length) ?_ (Nat.zero_le _) ⟨[],(dN (aZ line) 255).2,⟨by omega,rfl,Nat.le_refl _⟩,(r.dA (E1:=[(0,.d (.v (.string ⟨line.toArray⟩))),(2,.pt 0 0),(4,.pt 1 0),(5,.d (.ro 1 (strs (ak 32 line)))),(7,.d (.v (.bool ((dN (aZ line) 255).2)))),(8,.z 2)]) (M2:=[.bx 25 [.z 0,.d (.v (.slice none 0 0)),.d (.v (.slice none 0 0))],.bx 25 [.n ((dN (aZ line) 255).1),.sl 2 (0),.d (.v (.slice none 0 0))],.rw 60 2 ([])]) (M1:=[.bx 25 [.z 0,.d (.v (.slice none 0 0)),.d (.v (.slice none 0 0))],.bx 25 [.n ((dN (aZ line) 255).1),.d (.v (.slice none 0 0)),.d (.v (.slice none 0 0))]]) [] [(1,1,60,2)] (by kernel_rfl) (by kernel_rfl)).cast rfl rfl⟩
   clear r
   rintro i dw bj ac wd ⟨L,g,ao,r⟩
   have Pl:=Cb line
   have eU:=ga 32 line
   have zJ:=List.count_le_length (a:=(32:UInt8)) (l:=line)
   have sD:L.length≤9223372036854775807:=by omega
   cases h2:(decide ((((i+2:Nat):Int):Int)<(((ak 32 line).length:Nat):Int))) with
   | false=>
    have cz:=of_decide_eq_false h2
    cases h3:((((i+2:Nat):Int):Int)==(((ak 32 line).length:Nat):Int)) with
    | false=>
     have cT:=ne_of_beq_false h3
     exact absurd cT (by omega)
    | true=>
     have cT:=eq_of_beq h3
     refine bS (todo':=aft Tryz.f50 18) (E':=[(2,.pt 0 0),(4,.pt 1 0),(5,.d (.ro 1 (strs (ak 32 line)))),(7,.d (.v (.bool g))),(8,.n (i+2)),(3,.d (.v (.bool false)))]) (M':=[.bx 25 [.n ((dN (aZ line) 255).1),.sl 2 (L.length),.d (.v (.slice none 0 0))],.bx 25 [.n ((dN (aZ line) 255).1),.sl 2 (L.length),.d (.v (.slice none 0 0))],.rw 60 2 (ah L)]) tk mo hK al [(8,[(2,.z ((((ak 32 line).length:Nat):Int))),(3,.b false)]),(17,[(2,.z ((((ak 32 line).length:Nat):Int))),(3,.b true)])] 11 [0,1,2] [2,4,5,7,8,3] r (by kernel_rfl) (U aI (U h2 (U aI (U h3 trivial)))) fun ac wd r=>?_
     have r:=r.dA (E1:=[(2,.pt 0 0),(4,.pt 1 0),(5,.d (.ro 1 (strs (ak 32 line)))),(7,.d (.v (.bool g))),(8,.n (i+2)),(3,.d (.v (.bool false)))]) (M1:=[.bx 25 [.n ((dN (aZ line) 255).1),.sl 2 (L.length),.d (.v (.slice none 0 0))],.bx 25 [.n ((dN (aZ line) 255).1),.sl 2 (L.length),.d (.v (.slice none 0 0))],.rw 60 2 (ah L)]) (M2:=[.bx 25 [.n ((dN (aZ line) 255).1),.sl 2 (L.length),.sl 3 (0)],.bx 25 [.n ((dN (aZ line) 255).1),.sl 2 (L.length),.d (.v (.slice none 0 0))],.rw 60 2 (ah L),.rw 3 1 ([])]) [] [(0,2,3,1)] (by kernel_rfl) (by kernel_rfl)
     refine aY (y:=.tu [.ag [.n ((dN (aZ line) 255).1),.sl 0 (L.length),.sl 1 (0)],.d (.v (.bool false))]) (N':=[.rw 60 2 (ah L),.rw 3 1 ([])]) ((by have e:=C0 (by omega) ao.2.1;rw [kF (by omega) h1];unfold iP;rw [e]<;>rfl)) ((by have e:=C0 (by omega) ao.2.1;rw [kF (by omega) h1];unfold iP;rw [e]<;>rfl)) ?_
     exact aX tk mo hK rfl al [] 2000 [2,3] r (by kernel_rfl) trivial
   | true=>
    have cz:=of_decide_eq_true h2
    obtain ⟨x,cm⟩:∃ x_,(dh line)[i]?=some x_:=⟨_,List.getElem?_eq_getElem (by omega)⟩
    have ko:=tE hl cm
    cases h4:(x==([58]:List UInt8)) with
    | false=>
     have b6:=((by first | rfl | (simp [strs];done)):(((strs (ak 45 x)).length:Nat):Int)=(((ak 45 x).length:Nat):Int))
     cases h5:(((((ak 45 x).length:Nat):Int):Int) != 2) with
     | false=>
      have du:=fM h5
      exact bp (todo':=hd Tryz.f50 0) (E':=[(0,.d (.v (.string ⟨line.toArray⟩))),(2,.pt 0 0),(4,.pt 1 0),(5,.d (.ro 1 (strs (ak 32 line)))),(7,.d (.v (.bool (((g&&(dN (dr x) 255).2)&&(dN (eG x) 255).2))))),(8,.n (i+2+1))]) (M':=[.bx 25 [.z 0,.d (.v (.slice none 0 0)),.d (.v (.slice none 0 0))],.bx 25 [.n ((dN (aZ line) 255).1),.sl 2 (L.length+(1)),.d (.v (.slice none 0 0))],.rw 60 2 (ah L++[[.n ((dN (dr x) 255).1),.n ((dN (eG x) 255).1)]])]) tk mo hK al [(8,[(2,.z ((((ak 32 line).length:Nat):Int))),(3,.b true),(7,.ix (i+2) [.v (.string ⟨x.toArray⟩)]),(9,.b true)]),(9,[(2,.ix (i+2) [.v (.string ⟨x.toArray⟩)]),(4,.aG (.ro 1 (strs (ak 45 x))))]),(10,[(1,.z ((((ak 45 x).length:Nat):Int))),(2,.b false)]),(12,[(1,.ix (0) [.v (.string ⟨(dr x).toArray⟩)]),(3,.aG (.tu [.u ((dN (dr x) 255).1),.v (.bool ((dN (dr x) 255).2))]))]),(13,[(1,.ix (1) [.v (.string ⟨(eG x).toArray⟩)]),(3,.aG (.tu [.u ((dN (eG x) 255).1),.v (.bool ((dN (eG x) 255).2))]))]),(14,[(2,.may g (.n 0)),(3,.res (.v (.bool (g&&(dN (dr x) 255).2)))),(5,.may (g&&(dN (dr x) 255).2) (.n 0)),(6,.res (.v (.bool ((g&&(dN (dr x) 255).2)&&(dN (eG x) 255).2))))]),(15,[(3,.z ((((dN (dr x) 255).1:Nat):Int))),(5,.z ((((dN (eG x) 255).1:Nat):Int)))]),(16,[(1,.z (((i+2+1:Nat):Int)))])] 2000 [0,1,2] [0,2,4,5,7,8] r (by kernel_rfl) (U aI (U h2 (U (ax ((i+2:Nat):Int)) (U (pZ cm) (U ((by simpa [bne] using h4):(x != ([58]:List UInt8))=true) (U (ax ((i+2:Nat):Int)) (U (pZ cm) (U (nF x 45 (by omega)) (U b6 (U h5 (U (rfl:(0)=((0:Nat):Int)) (U ((Dv (by omega)).1:(strs (ak 45 x))[0]?=some [.v (.string ⟨(dr x).toArray⟩)]) (U (k8 (dr x) 255 (by have:=Dw (x:=x) (by omega);omega) (by decide) (by decide)) (U (rfl:(1)=((1:Nat):Int)) (U ((Dv (by omega)).2:(strs (ak 45 x))[1]?=some [.v (.string ⟨(eG x).toArray⟩)]) (U (k8 (eG x) 255 (by have:=Dw (x:=x) (by omega);omega) (by decide) (by decide)) (U (iJ _:(fO (Value.bool g)==some true)=g) (U (fun hc=>trivial:g=true→True) (U (jI _ _:∃ b0:Bool,(Value.bool g)=.bool b0∧(bif b0 then (bif g then Value.bool (dN (dr x) 255).2 else undef) else Value.bool false)=.bool (g&&(dN (dr x) 255).2)) (U (iJ _:(fO (Value.bool (g&&(dN (dr x) 255).2))==some true)=(g&&(dN (dr x) 255).2)) (U (fun hc=>trivial:(g&&(dN (dr x) 255).2)=true→True) (U (jI _ _:∃ b0:Bool,(Value.bool (g&&(dN (dr x) 255).2))=.bool b0∧(bif b0 then (bif (g&&(dN (dr x) 255).2) then Value.bool (dN (eG x) 255).2 else undef) else Value.bool false)=.bool ((g&&(dN (dr x) 255).2)&&(dN (eG x) 255).2)) (U ((wi (by have:=ke (dr x) (most:=255) (by decide);omega)):IntKind.i64.wrap ((((dN (dr x) 255).1:Nat):Int))=(((dN (dr x) 255).1:Nat):Int)) (U ((wi (by have:=ke (eG x) (most:=255) (by decide);omega)):IntKind.i64.wrap ((((dN (eG x) 255).1:Nat):Int))=(((dN (eG x) 255).1:Nat):Int)) (U ((by first | rfl | (simp [ah,ints];done) | (simp [ah,ints];omega)):(L.length)=(ah L:List (List DV)).length) (U ((by first | rfl | (simp [ah,ints];done) | (simp [ah,ints];omega)):(1)=([[.n ((dN (dr x) 255).1),.n ((dN (eG x) 255).1)]]:List (List DV)).length) (U ((by first | omega | (simp [ah,ints];done) | (simp [ah,ints];omega)):(2*((L.length)+(1))+192)*16≤281474976710656) (U ((by first | omega | (simp [ah,ints];done) | (simp [ah,ints];omega)):(L.length)+(1)<4611686018427387904) (U ((by simp [aW,AV.one,bQ,af,ah,ints,steps,strs]):aW ([[.n ((dN (dr x) 255).1),.n ((dN (eG x) 255).1)]])) (U ((wi (by omega)):IntKind.i64.wrap ((((i+2:Nat):Int):Int)+1)=((i+2+1:Nat):Int)) trivial)))))))))))))))))))))))))))))) fun ac wd r=>bj (by omega) ac wd ⟨(L++[((((dN (dr x) 255).1:Nat):Int),(((dN (eG x) 255).1:Nat):Int))]),((g&&(dN (dr x) 255).2)&&(dN (eG x) 255).2),⟨by omega,KD cm h4 (by omega) ao.2.1,by simp;omega⟩,r.cast (by first | rfl | (simp;done)) (by simp [ah])⟩
     | true=>
      have du:¬ _=_:=bne_iff_ne.1 h5
      refine bS (todo':=aft Tryz.f50 11) (E':=[(2,.pt 0 0),(4,.pt 1 0),(5,.d (.ro 1 (strs (ak 32 line)))),(7,.d (.v (.bool g))),(8,.n (i+2)),(38,.n (i+2)),(39,.d (.ro 1 (strs (ak 32 line)))),(40,.n ((ak 32 line).length)),(41,.d (.v (.bool true))),(42,.d (.v (.bool true))),(43,.d (.ro 1 (strs (ak 32 line)))),(44,.n (i+2)),(45,.rp [.v (.string ⟨x.toArray⟩)] 0),(46,.d (.v (.string ⟨x.toArray⟩))),(47,.d (.v (.bool true))),(48,.d (.v (.bool true))),(49,.d (.ro 1 (strs (ak 32 line)))),(50,.n (i+2)),(51,.rp [.v (.string ⟨x.toArray⟩)] 0),(52,.d (.v (.string ⟨x.toArray⟩))),(53,.d (.ro 1 (strs (ak 45 x)))),(9,.d (.ro 1 (strs (ak 45 x)))),(54,.d (.ro 1 (strs (ak 45 x)))),(55,.n ((ak 45 x).length)),(56,.d (.v (.bool true))),(57,.ag [.n ((dN (aZ line) 255).1),.sl 2 (L.length),.d (.v (.slice none 0 0))]),(3,.d (.v (.bool false)))]) (M':=[.bx 25 [.n ((dN (aZ line) 255).1),.sl 2 (L.length),.d (.v (.slice none 0 0))],.bx 25 [.n ((dN (aZ line) 255).1),.sl 2 (L.length),.d (.v (.slice none 0 0))],.rw 60 2 (ah L)]) tk mo hK al [(8,[(2,.z ((((ak 32 line).length:Nat):Int))),(3,.b true),(7,.ix (i+2) [.v (.string ⟨x.toArray⟩)]),(9,.b true)]),(9,[(2,.ix (i+2) [.v (.string ⟨x.toArray⟩)]),(4,.aG (.ro 1 (strs (ak 45 x))))]),(10,[(1,.z ((((ak 45 x).length:Nat):Int))),(2,.b true)])] 14 [0,1,2] [2,4,5,7,8,38,39,40,41,42,43,44,45,46,47,48,49,50,51,52,53,9,54,55,56,57,3] r (by kernel_rfl) (U aI (U h2 (U (ax ((i+2:Nat):Int)) (U (pZ cm) (U ((by simpa [bne] using h4):(x != ([58]:List UInt8))=true) (U (ax ((i+2:Nat):Int)) (U (pZ cm) (U (nF x 45 (by omega)) (U b6 (U h5 trivial)))))))))) fun ac wd r=>?_
      have r:=r.dA (E1:=[(2,.pt 0 0),(4,.pt 1 0),(5,.d (.ro 1 (strs (ak 32 line)))),(7,.d (.v (.bool g))),(8,.n (i+2)),(38,.n (i+2)),(39,.d (.ro 1 (strs (ak 32 line)))),(40,.n ((ak 32 line).length)),(41,.d (.v (.bool true))),(42,.d (.v (.bool true))),(43,.d (.ro 1 (strs (ak 32 line)))),(44,.n (i+2)),(45,.rp [.v (.string ⟨x.toArray⟩)] 0),(46,.d (.v (.string ⟨x.toArray⟩))),(47,.d (.v (.bool true))),(48,.d (.v (.bool true))),(49,.d (.ro 1 (strs (ak 32 line)))),(50,.n (i+2)),(51,.rp [.v (.string ⟨x.toArray⟩)] 0),(52,.d (.v (.string ⟨x.toArray⟩))),(53,.d (.ro 1 (strs (ak 45 x)))),(9,.d (.ro 1 (strs (ak 45 x)))),(54,.d (.ro 1 (strs (ak 45 x)))),(55,.n ((ak 45 x).length)),(56,.d (.v (.bool true))),(57,.ag [.n ((dN (aZ line) 255).1),.sl 2 (L.length),.d (.v (.slice none 0 0))]),(3,.d (.v (.bool false)))]) (M1:=[.bx 25 [.n ((dN (aZ line) 255).1),.sl 2 (L.length),.d (.v (.slice none 0 0))],.bx 25 [.n ((dN (aZ line) 255).1),.sl 2 (L.length),.d (.v (.slice none 0 0))],.rw 60 2 (ah L)]) (M2:=[.bx 25 [.n ((dN (aZ line) 255).1),.sl 2 (L.length),.sl 3 (0)],.bx 25 [.n ((dN (aZ line) 255).1),.sl 2 (L.length),.d (.v (.slice none 0 0))],.rw 60 2 (ah L),.rw 3 1 ([])]) [] [(0,2,3,1)] (by kernel_rfl) (by kernel_rfl)
      refine aY (y:=.tu [.ag [.n ((dN (aZ line) 255).1),.sl 0 (L.length),.sl 1 (0)],.d (.v (.bool false))]) (N':=[.rw 60 2 (ah L),.rw 3 1 ([])]) ((by have e:=CZ cm h4 (by omega) ao.2.1;rw [kF (by omega) h1];unfold iP;rw [e]<;>rfl)) ((by have e:=CZ cm h4 (by omega) ao.2.1;rw [kF (by omega) h1];unfold iP;rw [e]<;>rfl)) ?_
      exact aX tk mo hK rfl al [] 2000 [2,3] r (by kernel_rfl) trivial
    | true=>
     cases h6:((((i+2:Nat):Int):Int)==(((ak 32 line).length:Nat):Int)) with
     | false=>
      have dx:=ne_of_beq_false h6
      refine bp (todo':=hd Tryz.f50 1) (E':=[(0,.d (.v (.string ⟨line.toArray⟩))),(2,.pt 0 0),(4,.pt 1 0),(5,.d (.ro 1 (strs (ak 32 line)))),(7,.d (.v (.bool g))),(8,.n (i+2+1))]) (M':=[.bx 25 [.z 0,.d (.v (.slice none 0 0)),.d (.v (.slice none 0 0))],.bx 25 [.n ((dN (aZ line) 255).1),.sl 2 (L.length),.d (.v (.slice none 0 0))],.rw 60 2 (ah L)]) tk mo hK al [(8,[(2,.z ((((ak 32 line).length:Nat):Int))),(3,.b true),(7,.ix (i+2) [.v (.string ⟨x.toArray⟩)]),(9,.b false)]),(17,[(2,.z ((((ak 32 line).length:Nat):Int))),(3,.b false)]),(19,[(1,.z (((i+2+1:Nat):Int)))])] 2000 [0,1,2] [0,2,4,5,7,8] r (by kernel_rfl) (U aI (U h2 (U (ax ((i+2:Nat):Int)) (U (pZ cm) (U ((by simpa [bne] using h4):(x != ([58]:List UInt8))=false) (U aI (U h6 (U ((wi (by omega)):IntKind.i64.wrap ((((i+2:Nat):Int):Int)+1)=((i+2+1:Nat):Int)) trivial)))))))) fun ac wd r=>?_
      refine aF.rounds (Φ:=fun (k:Nat) ac wd=>∃ H:List Int,∃ g2:Bool,(i+3+k≤(ak 32 line).length∧hU ((dh line).drop (i+1+k)) H g2=hU ((dh line).drop (i+1)) [] g∧H.length≤k)∧RB D w0 K 129 bs [(0,.d (.v (.string ⟨line.toArray⟩))),(2,.pt 0 0),(4,.pt 1 0),(5,.d (.ro 1 (strs (ak 32 line)))),(7,.d (.v (.bool g2))),(8,.n (i+2+1+k))] [.bx 25 [.z 0,.d (.v (.slice none 0 0)),.d (.v (.slice none 0 0))],.bx 25 [.n ((dN (aZ line) 255).1),.sl 2 (L.length),.sl 3 (H.length)],.rw 60 2 (ah L),.rw 3 1 (ints H)] ac wd) ((dh line).length-(i+1)) ?_ (Nat.zero_le _) ⟨[],g,⟨by omega,rfl,Nat.le_refl _⟩,(r.dA (E1:=[(0,.d (.v (.string ⟨line.toArray⟩))),(2,.pt 0 0),(4,.pt 1 0),(5,.d (.ro 1 (strs (ak 32 line)))),(7,.d (.v (.bool g))),(8,.n (i+2+1))]) (M2:=[.bx 25 [.z 0,.d (.v (.slice none 0 0)),.d (.v (.slice none 0 0))],.bx 25 [.n ((dN (aZ line) 255).1),.sl 2 (L.length),.sl 3 (0)],.rw 60 2 (ah L),.rw 3 1 ([])]) (M1:=[.bx 25 [.z 0,.d (.v (.slice none 0 0)),.d (.v (.slice none 0 0))],.bx 25 [.n ((dN (aZ line) 255).1),.sl 2 (L.length),.d (.v (.slice none 0 0))],.rw 60 2 (ah L)]) [] [(1,2,3,1)] (by kernel_rfl) (by kernel_rfl)).cast rfl rfl⟩
      clear r
      rintro k kX c9 ac wd ⟨H,g2,bo,r⟩
      have sE:H.length≤9223372036854775807:=by omega
      cases h7:(decide ((((i+2+1+k:Nat):Int):Int)<(((ak 32 line).length:Nat):Int))) with
      | false=>
       have dL:=of_decide_eq_false h7
       cases h8:(g2) with
       | false=>
        have r:=r.cast (E':=[(0,.d (.v (.string ⟨line.toArray⟩))),(2,.pt 0 0),(4,.pt 1 0),(5,.d (.ro 1 (strs (ak 32 line)))),(7,.d (.v (.bool false))),(8,.n (i+2+1+k))]) (by rw [h8]) rfl
        refine aY (y:=.tu [.ag [.n ((dN (aZ line) 255).1),.sl 0 (L.length),.sl 1 (H.length)],.d (.v (.bool false))]) (N':=[.rw 60 2 (ah L),.rw 3 1 (ints H)]) ((by have e:=pj cm h4 ao.2.1;rw [pM (by omega) bo.2.1] at e;rw [kF (by omega) h1];unfold iP;rw [e];simp only [h8]<;>rfl)) ((by have e:=pj cm h4 ao.2.1;rw [pM (by omega) bo.2.1] at e;rw [kF (by omega) h1];unfold iP;rw [e];simp only [h8]<;>rfl)) ?_
        exact aX tk mo hK rfl al [(20,[(2,.z ((((ak 32 line).length:Nat):Int))),(3,.b false)])] 2000 [2,3] r (by kernel_rfl) (U aI (U h7 trivial))
       | true=>
        have r:=r.cast (E':=[(0,.d (.v (.string ⟨line.toArray⟩))),(2,.pt 0 0),(4,.pt 1 0),(5,.d (.ro 1 (strs (ak 32 line)))),(7,.d (.v (.bool true))),(8,.n (i+2+1+k))]) (by rw [h8]) rfl
        cases h9:(bY ⟨dI (aZ line),L,H⟩) with
        | false=>
         refine aY (y:=.tu [.ag [.n ((dN (aZ line) 255).1),.sl 0 (L.length),.sl 1 (H.length)],.d (.v (.bool false))]) (N':=[.rw 60 2 (ah L),.rw 3 1 (ints H)]) ((by have e:=pj cm h4 ao.2.1;rw [pM (by omega) bo.2.1] at e;rw [kF (by omega) h1];unfold iP;rw [e];simp only [h8,h9]<;>rfl)) ((by have e:=pj cm h4 ao.2.1;rw [pM (by omega) bo.2.1] at e;rw [kF (by omega) h1];unfold iP;rw [e];simp only [h8,h9]<;>rfl)) ?_
         exact aX tk mo hK rfl al [(20,[(2,.z ((((ak 32 line).length:Nat):Int))),(3,.b false)]),(25,[(4,.call [.ag [.n ((dN (aZ line) 255).1),.d (.ro 2 (ah L)),.d (.ro 1 (ints H))]] (.v (.bool false)))])] 2000 [2,3] r (by kernel_rfl) (U aI (U h7 (U ((by have k:=Bo ⟨dI (aZ line),L,H⟩ sD sE;rw [h9] at k;exact k):ay Tryz.prog 28 [.ag [.n ((dN (aZ line) 255).1),.d (.ro 2 (ah L)),.d (.ro 1 (ints H))]] (.v (.bool false))) (U ((ft _):fe (.v (.bool false))) (U (iK (.n ((dN (aZ line) 255).1))) (U (cK (2)) (U ((by first | rfl | (simp [ah,ints];done) | (simp [ah,ints];omega)):(L.length)=(ah L:List (List DV)).length) (U ((by first | exact ew _ | exact ey _):b5 (ah L)=ah L) (U (cK (1)) (U ((by first | rfl | (simp [ah,ints];done) | (simp [ah,ints];omega)):(H.length)=(ints H).length) (U ((by first | exact ew _ | exact ey _):b5 (ints H)=ints H) trivial)))))))))))
        | true=>
         refine aY (y:=.tu [.ag [.n ((dN (aZ line) 255).1),.sl 0 (L.length),.sl 1 (H.length)],.d (.v (.bool true))]) (N':=[.rw 60 2 (ah L),.rw 3 1 (ints H)]) ((by have e:=pj cm h4 ao.2.1;rw [pM (by omega) bo.2.1] at e;rw [kF (by omega) h1];unfold iP;rw [e];simp only [h8,h9]<;>rfl)) ((by have e:=pj cm h4 ao.2.1;rw [pM (by omega) bo.2.1] at e;rw [kF (by omega) h1];unfold iP;rw [e];simp only [h8,h9]<;>rfl)) ?_
         exact aX tk mo hK rfl al [(20,[(2,.z ((((ak 32 line).length:Nat):Int))),(3,.b false)]),(25,[(4,.call [.ag [.n ((dN (aZ line) 255).1),.d (.ro 2 (ah L)),.d (.ro 1 (ints H))]] (.v (.bool true)))])] 2000 [2,3] r (by kernel_rfl) (U aI (U h7 (U ((by have k:=Bo ⟨dI (aZ line),L,H⟩ sD sE;rw [h9] at k;exact k):ay Tryz.prog 28 [.ag [.n ((dN (aZ line) 255).1),.d (.ro 2 (ah L)),.d (.ro 1 (ints H))]] (.v (.bool true))) (U ((ft _):fe (.v (.bool true))) (U (iK (.n ((dN (aZ line) 255).1))) (U (cK (2)) (U ((by first | rfl | (simp [ah,ints];done) | (simp [ah,ints];omega)):(L.length)=(ah L:List (List DV)).length) (U ((by first | exact ew _ | exact ey _):b5 (ah L)=ah L) (U (cK (1)) (U ((by first | rfl | (simp [ah,ints];done) | (simp [ah,ints];omega)):(H.length)=(ints H).length) (U ((by first | exact ew _ | exact ey _):b5 (ints H)=ints H) trivial)))))))))))
      | true=>
       have dL:=of_decide_eq_true h7
       obtain ⟨y,hY⟩:∃ x_,(dh line)[i+1+k]?=some x_:=⟨_,List.getElem?_eq_getElem (by omega)⟩
       have r5:=tE hl hY
       exact bp (todo':=hd Tryz.f50 1) (E':=[(0,.d (.v (.string ⟨line.toArray⟩))),(2,.pt 0 0),(4,.pt 1 0),(5,.d (.ro 1 (strs (ak 32 line)))),(7,.d (.v (.bool ((g2&&(dN y 255).2))))),(8,.n (i+2+1+k+1))]) (M':=[.bx 25 [.z 0,.d (.v (.slice none 0 0)),.d (.v (.slice none 0 0))],.bx 25 [.n ((dN (aZ line) 255).1),.sl 2 (L.length),.sl 3 (H.length+(1))],.rw 60 2 (ah L),.rw 3 1 (ints H++[[.n ((dN y 255).1)]])]) tk mo hK al [(20,[(2,.z ((((ak 32 line).length:Nat):Int))),(3,.b true)]),(21,[(1,.z (((i+2+1+k+1:Nat):Int)))]),(22,[(2,.ix (i+2+1+k) [.v (.string ⟨y.toArray⟩)]),(4,.aG (.tu [.u ((dN y 255).1),.v (.bool ((dN y 255).2))]))]),(23,[(2,.may g2 (.n 0)),(3,.res (.v (.bool (g2&&(dN y 255).2))))]),(24,[(3,.z ((((dN y 255).1:Nat):Int)))])] 2000 [0,1,2,3] [0,2,4,5,7,8] r (by kernel_rfl) (U aI (U h7 (U (ax ((i+2+1+k:Nat):Int)) (U ((by have h:=pZ hY;rw [show i+1+k+2=i+2+1+k by omega] at h;exact h):(strs (ak 32 line))[i+2+1+k]?=some [.v (.string ⟨y.toArray⟩)]) (U (k8 y 255 (by omega) (by decide) (by decide)) (U (iJ _:(fO (Value.bool g2)==some true)=g2) (U (fun hc=>trivial:g2=true→True) (U (jI _ _:∃ b0:Bool,(Value.bool g2)=.bool b0∧(bif b0 then (bif g2 then Value.bool (dN y 255).2 else undef) else Value.bool false)=.bool (g2&&(dN y 255).2)) (U ((wi (by have:=ke y (most:=255) (by decide);omega)):IntKind.i64.wrap ((((dN y 255).1:Nat):Int))=(((dN y 255).1:Nat):Int)) (U ((by first | rfl | (simp [ah,ints];done) | (simp [ah,ints];omega)):(H.length)=(ints H).length) (U ((by first | rfl | (simp [ah,ints];done) | (simp [ah,ints];omega)):(1)=([[.n ((dN y 255).1)]]:List (List DV)).length) (U ((by first | omega | (simp [ah,ints];done) | (simp [ah,ints];omega)):(2*((H.length)+(1))+192)*8≤281474976710656) (U ((by first | omega | (simp [ah,ints];done) | (simp [ah,ints];omega)):(H.length)+(1)<4611686018427387904) (U ((by simp [aW,AV.one,bQ,af,ah,ints,steps,strs]):aW ([[.n ((dN y 255).1)]])) (U ((wi (by omega)):IntKind.i64.wrap ((((i+2+1+k:Nat):Int):Int)+1)=((i+2+1+k+1:Nat):Int)) trivial))))))))))))))) fun ac wd r=>c9 (by omega) ac wd ⟨(H++[(((dN y 255).1:Nat):Int)]),(g2&&(dN y 255).2),⟨by omega,KE hY bo.2.1,by simp;omega⟩,r.cast (by first | rfl | (simp;done)) (by simp [ints])⟩
     | true=>
      have dx:=eq_of_beq h6
      exact absurd dx (by omega)
 | true=>
  have aT:=of_decide_eq_true h0
  refine bS (todo':=aft Tryz.f50 4) (E':=[(2,.pt 0 0),(3,.d (.v (.bool false))),(4,.pt 1 0),(5,.d (.ro 1 (strs (ak 32 line))))]) (M':=[.bx 25 [.z 0,.d (.v (.slice none 0 0)),.d (.v (.slice none 0 0))],.bx 25 [.z 0,.d (.v (.slice none 0 0)),.d (.v (.slice none 0 0))]]) tk mo hK al [(2,[(1,.aG (.ro 1 (strs (ak 32 line))))]),(3,[(1,.z ((((ak 32 line).length:Nat):Int))),(2,.b true)])] 12 [0,1] [2,3,4,5] r (by kernel_rfl) (U (nF line 32 hl) (U aI (U h0 trivial))) fun ac wd r=>?_
  have r:=r.dA (E1:=[(2,.pt 0 0),(3,.d (.v (.bool false))),(4,.pt 1 0),(5,.d (.ro 1 (strs (ak 32 line))))]) (M1:=[.bx 25 [.z 0,.d (.v (.slice none 0 0)),.d (.v (.slice none 0 0))],.bx 25 [.z 0,.d (.v (.slice none 0 0)),.d (.v (.slice none 0 0))]]) (M2:=[.bx 25 [.z 0,.sl 2 (0),.sl 3 (0)],.bx 25 [.z 0,.d (.v (.slice none 0 0)),.d (.v (.slice none 0 0))],.rw 60 2 ([]),.rw 3 1 ([])]) [] [(0,1,60,2),(0,2,3,1)] (by kernel_rfl) (by kernel_rfl)
  refine aY (y:=.tu [.ag [.z 0,.sl 0 (0),.sl 1 (0)],.d (.v (.bool false))]) (N':=[.rw 60 2 ([]),.rw 3 1 ([])]) ((by rw [pA (.inl (by omega))]<;>rfl)) ((by rw [pA (.inl (by omega))]<;>rfl)) ?_
  exact aX tk mo hK rfl al [] 2000 [2,3] r (by kernel_rfl) trivial
end Go.Proofs.YtcnpikbbmbombaaGreatDoor
namespace Go.Proofs.YtcnpikbbmbombaaGreatDoor
open Go.RowKit
theorem PA:aC Tryz.prog 47 [.d (.v (.string ⟨([119,111,114,108,100,32,49,32,58,32,49]:List UInt8).toArray⟩))] [] (.tu [.ag [.z 1,.sl 0 0,.sl 1 1],.d (.v (.bool true))]) [.rw 60 2 (ah []),.rw 3 1 (ints [1])]:=by
 have hM:bY ⟨1,[],[1]⟩=true:=yj ⟨by decide,fun i x h=>by simp at h,fun i k x o h=>by simp at h,fun i x h=>by
  cases i with
  | zero=>simp at h;subst h;exact ⟨by decide,by decide⟩
  | succ i=>simp at h⟩
 have h:=sH [119,111,114,108,100,32,49,32,58,32,49] (by decide)
 have e:lO [119,111,114,108,100,32,49,32,58,32,49]=([],[1],true,true):=by kernel_rfl
 rw [q5 (xy e (by decide) (by decide) (by rw [show ki (aZ [119,111,114,108,100,32,49,32,58,32,49])=1 by kernel_rfl];exact hM))] at h
 unfold jS at h
 rw [e,show ki (aZ [119,111,114,108,100,32,49,32,58,32,49])=1 by kernel_rfl] at h;exact h
theorem PB:aC Tryz.prog 48 [.d (.v (.string ⟨([116,105,99,107,32,48]:List UInt8).toArray⟩))] [.gw 0 ai] (.tu [.ag [.z 1,.z 0,.z 0,.z 0,.z 0,.u 0,.sl 1 0],.d (.v (.bool true))]) [.gw 0 ai,.rw 5 1 []]:=by
 have h:=nX [116,105,99,107,32,48] (by decide)
 rw [show aA [116,105,99,107,32,48]=(⟨1,0,0,0,0,0,[]⟩,true) by kernel_rfl] at h;exact h
theorem PC:aC Tryz.prog 48 [.d (.v (.string ⟨([106,111,105,110,32,50]:List UInt8).toArray⟩))] [.gw 0 ai] (.tu [.ag [.z 12,.z 2,.z 0,.z 0,.z 0,.u 0,.sl 1 0],.d (.v (.bool true))]) [.gw 0 ai,.rw 5 1 []]:=by
 have h:=nX [106,111,105,110,32,50] (by decide)
 rw [show aA [106,111,105,110,32,50]=(⟨12,2,0,0,0,0,[]⟩,true) by kernel_rfl] at h;exact h
theorem PD:aC Tryz.prog 48 [.d (.v (.string ⟨([115,101,110,100,32,50,32,54,56,54,57]:List UInt8).toArray⟩))] [.gw 0 ai] (.tu [.ag [.z 10,.z 2,.z 0,.z 0,.z 0,.u 0,.sl 1 2],.d (.v (.bool true))]) [.gw 0 ai,.rw 5 1 (af [104,105])]:=by
 have h:=nX [115,101,110,100,32,50,32,54,56,54,57] (by decide)
 rw [show aA [115,101,110,100,32,50,32,54,56,54,57]=(⟨10,2,0,0,0,0,[104,105]⟩,true) by kernel_rfl] at h;exact h
theorem LG:ay Tryz.prog 79 [.d (.v (.string ⟨([119,111,114,108,100,32,49,32,58,32,49,10,116,105,99,107,32,48,10,106,111,105,110,32,50,10,115,101,110,100,32,50,32,54,56,54,57,10]:List UInt8).toArray⟩)),.d (.v (.string ⟨[10].toArray⟩))] (.tu [.v (.string ⟨([119,111,114,108,100,32,49,32,58,32,49]:List UInt8).toArray⟩),.v (.string ⟨([116,105,99,107,32,48,10,106,111,105,110,32,50,10,115,101,110,100,32,50,32,54,56,54,57,10]:List UInt8).toArray⟩),.v (.bool true)]):=by
 have h:=px 10 [119,111,114,108,100,32,49,32,58,32,49,10,116,105,99,107,32,48,10,106,111,105,110,32,50,10,115,101,110,100,32,50,32,54,56,54,57,10] (by decide) (by decide)
 rw [show au 10 [119,111,114,108,100,32,49,32,58,32,49,10,116,105,99,107,32,48,10,106,111,105,110,32,50,10,115,101,110,100,32,50,32,54,56,54,57,10]=[119,111,114,108,100,32,49,32,58,32,49] from by decide,show bq 10 [119,111,114,108,100,32,49,32,58,32,49,10,116,105,99,107,32,48,10,106,111,105,110,32,50,10,115,101,110,100,32,50,32,54,56,54,57,10]=[116,105,99,107,32,48,10,106,111,105,110,32,50,10,115,101,110,100,32,50,32,54,56,54,57,10] from by decide] at h;exact h
theorem LH:ay Tryz.prog 79 [.d (.v (.string ⟨([116,105,99,107,32,48,10,106,111,105,110,32,50,10,115,101,110,100,32,50,32,54,56,54,57,10]:List UInt8).toArray⟩)),.d (.v (.string ⟨[10].toArray⟩))] (.tu [.v (.string ⟨([116,105,99,107,32,48]:List UInt8).toArray⟩),.v (.string ⟨([106,111,105,110,32,50,10,115,101,110,100,32,50,32,54,56,54,57,10]:List UInt8).toArray⟩),.v (.bool true)]):=by
 have h:=px 10 [116,105,99,107,32,48,10,106,111,105,110,32,50,10,115,101,110,100,32,50,32,54,56,54,57,10] (by decide) (by decide)
 rw [show au 10 [116,105,99,107,32,48,10,106,111,105,110,32,50,10,115,101,110,100,32,50,32,54,56,54,57,10]=[116,105,99,107,32,48] from by decide,show bq 10 [116,105,99,107,32,48,10,106,111,105,110,32,50,10,115,101,110,100,32,50,32,54,56,54,57,10]=[106,111,105,110,32,50,10,115,101,110,100,32,50,32,54,56,54,57,10] from by decide] at h;exact h
theorem LI:ay Tryz.prog 79 [.d (.v (.string ⟨([106,111,105,110,32,50,10,115,101,110,100,32,50,32,54,56,54,57,10]:List UInt8).toArray⟩)),.d (.v (.string ⟨[10].toArray⟩))] (.tu [.v (.string ⟨([106,111,105,110,32,50]:List UInt8).toArray⟩),.v (.string ⟨([115,101,110,100,32,50,32,54,56,54,57,10]:List UInt8).toArray⟩),.v (.bool true)]):=by
 have h:=px 10 [106,111,105,110,32,50,10,115,101,110,100,32,50,32,54,56,54,57,10] (by decide) (by decide)
 rw [show au 10 [106,111,105,110,32,50,10,115,101,110,100,32,50,32,54,56,54,57,10]=[106,111,105,110,32,50] from by decide,show bq 10 [106,111,105,110,32,50,10,115,101,110,100,32,50,32,54,56,54,57,10]=[115,101,110,100,32,50,32,54,56,54,57,10] from by decide] at h;exact h
theorem LJ:ay Tryz.prog 79 [.d (.v (.string ⟨([115,101,110,100,32,50,32,54,56,54,57,10]:List UInt8).toArray⟩)),.d (.v (.string ⟨[10].toArray⟩))] (.tu [.v (.string ⟨([115,101,110,100,32,50,32,54,56,54,57]:List UInt8).toArray⟩),.v (.string ⟨([]:List UInt8).toArray⟩),.v (.bool true)]):=by
 have h:=px 10 [115,101,110,100,32,50,32,54,56,54,57,10] (by decide) (by decide)
 rw [show au 10 [115,101,110,100,32,50,32,54,56,54,57,10]=[115,101,110,100,32,50,32,54,56,54,57] from by decide,show bq 10 [115,101,110,100,32,50,32,54,56,54,57,10]=[] from by decide] at h;exact h
end Go.Proofs.YtcnpikbbmbombaaGreatDoor
namespace Go.Proofs.YtcnpikbbmbombaaGreatDoor
open Go.RowKit
set_option maxRecDepth 100000 in
theorem KF :aC Tryz.prog 78 [.yl 7,.pt 0 0] [.bx 9 [.d (.v (.string ⟨([119,111,114,108,100,32,49,32,58,32,49,10,116,105,99,107,32,48,10,106,111,105,110,32,50,10,115,101,110,100,32,50,32,54,56,54,57,10]).toArray⟩))],.gw 0 ai,.bx 25 [.z 0,.d (.v (.slice none 0 0)),.d (.v (.slice none 0 0))],.bx 26 [.d (.v (.slice none 0 0))],.bx 23 [.d (.v (.slice none 0 0))],.bx 32 [.z 0],.bx 4 [.d (.v (.bool false))],.lp .ready 19 61 [(2,.pt 2 0),(3,.pt 3 0),(4,.pt 4 0),(5,.pt 5 0),(6,.pt 6 0)] (cV Tryz.f19 0)] (.tu []) ([.bx 9 [.d (.v (.string ⟨([]).toArray⟩))],.gw 0 ai,.bx 25 [.z 1,.sl 8 (0),.sl 9 (1)],.bx 26 [.sl 10 (3)],.bx 23 [.d (.v (.slice none 0 0))],.bx 32 [.z 0],.bx 4 [.d (.v (.bool true))],.lp .ready 19 61 [(2,.pt 2 0),(3,.pt 3 0),(4,.pt 4 0),(5,.pt 5 0),(6,.pt 6 0)] (cV Tryz.f19 0),.rw 60 2 (ah []),.rw 3 1 (ints [1]),.rw 42 7 (bO [⟨1,0,0,0,0,0,[]⟩,⟨12,2,0,0,0,0,[]⟩,⟨10,2,0,0,0,0,[104,105]⟩])]):=by
 refine aC.intro (by kernel_rfl) rfl rfl 23 rfl rfl fun D w0 K bs ac wd hK (al:bs.m=8) r=>?_
 refine bp (todo':=hd Tryz.f78 0) (E':=[(0,.yl 7),(1,.pt 0 0),(3,.z 1)]) (M':=[.bx 9 [.d (.v (.string ⟨([119,111,114,108,100,32,49,32,58,32,49,10,116,105,99,107,32,48,10,106,111,105,110,32,50,10,115,101,110,100,32,50,32,54,56,54,57,10]).toArray⟩))],.gw 0 ai,.bx 25 [.z 0,.d (.v (.slice none 0 0)),.d (.v (.slice none 0 0))],.bx 26 [.d (.v (.slice none 0 0))],.bx 23 [.d (.v (.slice none 0 0))],.bx 32 [.z 0],.bx 4 [.d (.v (.bool false))],.lp .ready 19 61 [(2,.pt 2 0),(3,.pt 3 0),(4,.pt 4 0),(5,.pt 5 0),(6,.pt 6 0)] (cV Tryz.f19 0)]) tk mo hK al [] 2000 [0,1,2,3,4,5,6,7] [0,1,3] r (by kernel_rfl) trivial fun ac wd r=>?_
 refine bp (todo':=hd Tryz.f78 0) (E':=[(0,.yl 7),(1,.pt 0 0),(3,.z 2),(7,.d (.v (.string ⟨([119,111,114,108,100,32,49,32,58,32,49,10,116,105,99,107,32,48,10,106,111,105,110,32,50,10,115,101,110,100,32,50,32,54,56,54,57,10]).toArray⟩))),(8,.d (.v (.bool true))),(12,.d (.v (.string ⟨([119,111,114,108,100,32,49,32,58,32,49,10,116,105,99,107,32,48,10,106,111,105,110,32,50,10,115,101,110,100,32,50,32,54,56,54,57,10]).toArray⟩))),(13,.tu [.d (.v (.string ⟨([119,111,114,108,100,32,49,32,58,32,49]).toArray⟩)),.d (.v (.string ⟨([116,105,99,107,32,48,10,106,111,105,110,32,50,10,115,101,110,100,32,50,32,54,56,54,57,10]).toArray⟩)),.d (.v (.bool true))]),(11,.tu [.d (.v (.string ⟨([119,111,114,108,100,32,49,32,58,32,49]).toArray⟩)),.d (.v (.string ⟨([116,105,99,107,32,48,10,106,111,105,110,32,50,10,115,101,110,100,32,50,32,54,56,54,57,10]).toArray⟩)),.d (.v (.bool true))]),(14,.d (.v (.string ⟨([119,111,114,108,100,32,49,32,58,32,49]).toArray⟩))),(15,.d (.v (.string ⟨([116,105,99,107,32,48,10,106,111,105,110,32,50,10,115,101,110,100,32,50,32,54,56,54,57,10]).toArray⟩))),(16,.d (.v (.bool true))),(4,.d (.v (.string ⟨([119,111,114,108,100,32,49,32,58,32,49]).toArray⟩))),(5,.d (.v (.string ⟨([116,105,99,107,32,48,10,106,111,105,110,32,50,10,115,101,110,100,32,50,32,54,56,54,57,10]).toArray⟩))),(6,.d (.v (.bool true))),(17,.yl 7),(18,.z 1),(19,.d (.v (.string ⟨([119,111,114,108,100,32,49,32,58,32,49]).toArray⟩))),(20,.d (.v (.bool true))),(21,.d (.v (.bool false))),(22,.d (.v (.string ⟨([116,105,99,107,32,48,10,106,111,105,110,32,50,10,115,101,110,100,32,50,32,54,56,54,57,10]).toArray⟩))),(9,.z 1),(10,.z 2)]) (M':=[.bx 9 [.d (.v (.string ⟨([116,105,99,107,32,48,10,106,111,105,110,32,50,10,115,101,110,100,32,50,32,54,56,54,57,10]).toArray⟩))],.gw 0 ai,.bx 25 [.z 1,.sl 8 (0),.sl 9 (1)],.bx 26 [.d (.v (.slice none 0 0))],.bx 23 [.d (.v (.slice none 0 0))],.bx 32 [.z 0],.bx 4 [.d (.v (.bool true))],.lp .ready 19 61 [(2,.pt 2 0),(3,.pt 3 0),(4,.pt 4 0),(5,.pt 5 0),(6,.pt 6 0)] (cV Tryz.f19 0),.rw 60 2 (ah []),.rw 3 1 (ints [1]),.bx 25 [.z 1,.sl 8 (0),.sl 9 (1)]]) tk mo hK al [(1,[(1,.b true)]),(2,[(1,.z (2))]),(3,[(1,.aG (.tu [.v (.string ⟨([119,111,114,108,100,32,49,32,58,32,49]).toArray⟩),.v (.string ⟨([116,105,99,107,32,48,10,106,111,105,110,32,50,10,115,101,110,100,32,50,32,54,56,54,57,10]).toArray⟩),.v (.bool true)]))]),(4,[(3,.bw 200 [(7,[(1,.b false),(4,.n 0)]),(9,[(1,.mem [] (.tu [.ag [.z 1,.sl 0 (0),.sl 1 (1)],.d (.v (.bool true))]) [.rw 60 2 (ah []),.rw 3 1 (ints [1])])])])])] 2000 [0,1,2,3,4,5,6,7,8,9,10] [0,1,3,7,8,12,13,11,14,15,16,4,5,6,17,18,19,20,21,22,9,10] r (by kernel_rfl) (U ((by first | decide | simp):(([119,111,114,108,100,32,49,32,58,32,49,10,116,105,99,107,32,48,10,106,111,105,110,32,50,10,115,101,110,100,32,50,32,54,56,54,57,10]:List UInt8) != [])=true) (U (LG) (U ((by first | decide | simp):(([119,111,114,108,100,32,49,32,58,32,49]:List UInt8)==[])=false) (U (rfl:(0:Int)=((0:Nat):Int)) (U (PA) (U ((wi (by omega)):IntKind.i64.wrap ((1:Int)+1)=2) trivial)))))) fun ac wd r=>?_
 refine bp (todo':=hd Tryz.f78 0) (E':=[(0,.yl 7),(1,.pt 0 0),(3,.z 3),(7,.d (.v (.string ⟨([116,105,99,107,32,48,10,106,111,105,110,32,50,10,115,101,110,100,32,50,32,54,56,54,57,10]).toArray⟩))),(8,.d (.v (.bool true))),(12,.d (.v (.string ⟨([116,105,99,107,32,48,10,106,111,105,110,32,50,10,115,101,110,100,32,50,32,54,56,54,57,10]).toArray⟩))),(13,.tu [.d (.v (.string ⟨([116,105,99,107,32,48]).toArray⟩)),.d (.v (.string ⟨([106,111,105,110,32,50,10,115,101,110,100,32,50,32,54,56,54,57,10]).toArray⟩)),.d (.v (.bool true))]),(11,.tu [.d (.v (.string ⟨([116,105,99,107,32,48]).toArray⟩)),.d (.v (.string ⟨([106,111,105,110,32,50,10,115,101,110,100,32,50,32,54,56,54,57,10]).toArray⟩)),.d (.v (.bool true))]),(14,.d (.v (.string ⟨([116,105,99,107,32,48]).toArray⟩))),(15,.d (.v (.string ⟨([106,111,105,110,32,50,10,115,101,110,100,32,50,32,54,56,54,57,10]).toArray⟩))),(16,.d (.v (.bool true))),(4,.d (.v (.string ⟨([116,105,99,107,32,48]).toArray⟩))),(5,.d (.v (.string ⟨([106,111,105,110,32,50,10,115,101,110,100,32,50,32,54,56,54,57,10]).toArray⟩))),(6,.d (.v (.bool true))),(17,.yl 7),(18,.z 2),(19,.d (.v (.string ⟨([116,105,99,107,32,48]).toArray⟩))),(20,.d (.v (.bool true))),(21,.d (.v (.bool false))),(22,.d (.v (.string ⟨([106,111,105,110,32,50,10,115,101,110,100,32,50,32,54,56,54,57,10]).toArray⟩))),(9,.z 2),(10,.z 3)]) (M':=[.bx 9 [.d (.v (.string ⟨([106,111,105,110,32,50,10,115,101,110,100,32,50,32,54,56,54,57,10]).toArray⟩))],.gw 0 ai,.bx 25 [.z 1,.sl 8 (0),.sl 9 (1)],.bx 26 [.sl 14 ((1))],.bx 23 [.d (.v (.slice none 0 0))],.bx 32 [.z 0],.bx 4 [.d (.v (.bool true))],.lp .ready 19 61 [(2,.pt 2 0),(3,.pt 3 0),(4,.pt 4 0),(5,.pt 5 0),(6,.pt 6 0)] (cV Tryz.f19 0),.rw 60 2 (ah []),.rw 3 1 (ints [1]),.bx 25 [.z 1,.sl 8 (0),.sl 9 (1)],.dead,.bx 42 [.z 1,.z 0,.z 0,.z 0,.z 0,.d (.v (.int .u64 0)),.sl 11 (0)],.dead,.rw 42 7 ([[.z 1,.z 0,.z 0,.z 0,.z 0,.v (.int .u64 0),.em 5 1 ([])]])]) tk mo hK al [(1,[(1,.b true)]),(2,[(1,.z (3))]),(3,[(1,.aG (.tu [.v (.string ⟨([116,105,99,107,32,48]).toArray⟩),.v (.string ⟨([106,111,105,110,32,50,10,115,101,110,100,32,50,32,54,56,54,57,10]).toArray⟩),.v (.bool true)]))]),(4,[(3,.bw 200 [(7,[(1,.b false),(4,.n 0)]),(13,[(1,.mem [1] (.tu [.ag [.z 1,.z 0,.z 0,.z 0,.z 0,.d (.v (.int .u64 0)),.sl 1 (0)],.d (.v (.bool true))]) [.gw 0 ai,.rw 5 1 ([])])])])])] 2000 [0,1,2,3,4,5,6,7,8,9,10,11,12,13,14] [0,1,3,7,8,12,13,11,14,15,16,4,5,6,17,18,19,20,21,22,9,10] r (by kernel_rfl) (U ((by first | decide | simp):(([116,105,99,107,32,48,10,106,111,105,110,32,50,10,115,101,110,100,32,50,32,54,56,54,57,10]:List UInt8) != [])=true) (U (LH) (U ((by first | decide | simp):(([116,105,99,107,32,48]:List UInt8)==[])=false) (U (rfl:(0:Int)=((0:Nat):Int)) (U (PB) (U ((by first | rfl | decide):(0)=([]:List (List DV)).length) (U ((by first | rfl | decide):(1)=([[.z 1,.z 0,.z 0,.z 0,.z 0,.v (.int .u64 0),.em 5 1 ([])]]:List (List DV)).length) (U ((by decide):(2*(0+(1))+192)*72≤281474976710656) (U ((by decide):0+(1)<4611686018427387904) (U ((by simp [aW,AV.one,bQ,af]):aW ([[.z 1,.z 0,.z 0,.z 0,.z 0,.v (.int .u64 0),.em 5 1 ([])]])) (U ((wi (by omega)):IntKind.i64.wrap ((2:Int)+1)=3) trivial))))))))))) fun ac wd r=>?_
 refine bp (todo':=hd Tryz.f78 0) (E':=[(0,.yl 7),(1,.pt 0 0),(3,.z 4),(7,.d (.v (.string ⟨([106,111,105,110,32,50,10,115,101,110,100,32,50,32,54,56,54,57,10]).toArray⟩))),(8,.d (.v (.bool true))),(12,.d (.v (.string ⟨([106,111,105,110,32,50,10,115,101,110,100,32,50,32,54,56,54,57,10]).toArray⟩))),(13,.tu [.d (.v (.string ⟨([106,111,105,110,32,50]).toArray⟩)),.d (.v (.string ⟨([115,101,110,100,32,50,32,54,56,54,57,10]).toArray⟩)),.d (.v (.bool true))]),(11,.tu [.d (.v (.string ⟨([106,111,105,110,32,50]).toArray⟩)),.d (.v (.string ⟨([115,101,110,100,32,50,32,54,56,54,57,10]).toArray⟩)),.d (.v (.bool true))]),(14,.d (.v (.string ⟨([106,111,105,110,32,50]).toArray⟩))),(15,.d (.v (.string ⟨([115,101,110,100,32,50,32,54,56,54,57,10]).toArray⟩))),(16,.d (.v (.bool true))),(4,.d (.v (.string ⟨([106,111,105,110,32,50]).toArray⟩))),(5,.d (.v (.string ⟨([115,101,110,100,32,50,32,54,56,54,57,10]).toArray⟩))),(6,.d (.v (.bool true))),(17,.yl 7),(18,.z 3),(19,.d (.v (.string ⟨([106,111,105,110,32,50]).toArray⟩))),(20,.d (.v (.bool true))),(21,.d (.v (.bool false))),(22,.d (.v (.string ⟨([115,101,110,100,32,50,32,54,56,54,57,10]).toArray⟩))),(9,.z 3),(10,.z 4)]) (M':=[.bx 9 [.d (.v (.string ⟨([115,101,110,100,32,50,32,54,56,54,57,10]).toArray⟩))],.gw 0 ai,.bx 25 [.z 1,.sl 8 (0),.sl 9 (1)],.bx 26 [.sl 14 ((1)+(1))],.bx 23 [.d (.v (.slice none 0 0))],.bx 32 [.z 0],.bx 4 [.d (.v (.bool true))],.lp .ready 19 61 [(2,.pt 2 0),(3,.pt 3 0),(4,.pt 4 0),(5,.pt 5 0),(6,.pt 6 0)] (cV Tryz.f19 0),.rw 60 2 (ah []),.rw 3 1 (ints [1]),.bx 25 [.z 1,.sl 8 (0),.sl 9 (1)],.dead,.bx 42 [.z 1,.z 0,.z 0,.z 0,.z 0,.d (.v (.int .u64 0)),.sl 11 (0)],.dead,.rw 42 7 ([[.z 1,.z 0,.z 0,.z 0,.z 0,.v (.int .u64 0),.em 5 1 ([])]]++[[.z 12,.z 2,.z 0,.z 0,.z 0,.v (.int .u64 0),.em 5 1 ([])]]),.dead,.bx 42 [.z 12,.z 2,.z 0,.z 0,.z 0,.d (.v (.int .u64 0)),.sl 15 (0)],.dead]) tk mo hK al [(1,[(1,.b true)]),(2,[(1,.z (4))]),(3,[(1,.aG (.tu [.v (.string ⟨([106,111,105,110,32,50]).toArray⟩),.v (.string ⟨([115,101,110,100,32,50,32,54,56,54,57,10]).toArray⟩),.v (.bool true)]))]),(4,[(3,.bw 200 [(7,[(1,.b false),(4,.n 0)]),(13,[(1,.mem [1] (.tu [.ag [.z 12,.z 2,.z 0,.z 0,.z 0,.d (.v (.int .u64 0)),.sl 1 (0)],.d (.v (.bool true))]) [.gw 0 ai,.rw 5 1 ([])])])])])] 2000 [0,1,2,3,4,5,6,7,8,9,10,11,12,13,14,15,16,17] [0,1,3,7,8,12,13,11,14,15,16,4,5,6,17,18,19,20,21,22,9,10] r (by kernel_rfl) (U ((by first | decide | simp):(([106,111,105,110,32,50,10,115,101,110,100,32,50,32,54,56,54,57,10]:List UInt8) != [])=true) (U (LI) (U ((by first | decide | simp):(([106,111,105,110,32,50]:List UInt8)==[])=false) (U (rfl:(0:Int)=((0:Nat):Int)) (U (PC) (U ((by first | rfl | decide):(0)=([]:List (List DV)).length) (U ((by first | rfl | decide):((1))=([[.z 1,.z 0,.z 0,.z 0,.z 0,.v (.int .u64 0),.em 5 1 ([])]]:List (List DV)).length) (U ((by first | rfl | decide):(1)=([[.z 12,.z 2,.z 0,.z 0,.z 0,.v (.int .u64 0),.em 5 1 ([])]]:List (List DV)).length) (U ((by decide):(2*(((1))+(1))+192)*72≤281474976710656) (U ((by decide):((1))+(1)<4611686018427387904) (U ((by simp [aW,AV.one,bQ,af]):aW ([[.z 12,.z 2,.z 0,.z 0,.z 0,.v (.int .u64 0),.em 5 1 ([])]])) (U ((wi (by omega)):IntKind.i64.wrap ((3:Int)+1)=4) trivial)))))))))))) fun ac wd r=>?_
 refine bp (todo':=hd Tryz.f78 0) (E':=[(0,.yl 7),(1,.pt 0 0),(3,.z 5),(7,.d (.v (.string ⟨([115,101,110,100,32,50,32,54,56,54,57,10]).toArray⟩))),(8,.d (.v (.bool true))),(12,.d (.v (.string ⟨([115,101,110,100,32,50,32,54,56,54,57,10]).toArray⟩))),(13,.tu [.d (.v (.string ⟨([115,101,110,100,32,50,32,54,56,54,57]).toArray⟩)),.d (.v (.string ⟨([]).toArray⟩)),.d (.v (.bool true))]),(11,.tu [.d (.v (.string ⟨([115,101,110,100,32,50,32,54,56,54,57]).toArray⟩)),.d (.v (.string ⟨([]).toArray⟩)),.d (.v (.bool true))]),(14,.d (.v (.string ⟨([115,101,110,100,32,50,32,54,56,54,57]).toArray⟩))),(15,.d (.v (.string ⟨([]).toArray⟩))),(16,.d (.v (.bool true))),(4,.d (.v (.string ⟨([115,101,110,100,32,50,32,54,56,54,57]).toArray⟩))),(5,.d (.v (.string ⟨([]).toArray⟩))),(6,.d (.v (.bool true))),(17,.yl 7),(18,.z 4),(19,.d (.v (.string ⟨([115,101,110,100,32,50,32,54,56,54,57]).toArray⟩))),(20,.d (.v (.bool true))),(21,.d (.v (.bool false))),(22,.d (.v (.string ⟨([]).toArray⟩))),(9,.z 4),(10,.z 5)]) (M':=[.bx 9 [.d (.v (.string ⟨([]).toArray⟩))],.gw 0 ai,.bx 25 [.z 1,.sl 8 (0),.sl 9 (1)],.bx 26 [.sl 14 ((1)+(1)+(1))],.bx 23 [.d (.v (.slice none 0 0))],.bx 32 [.z 0],.bx 4 [.d (.v (.bool true))],.lp .ready 19 61 [(2,.pt 2 0),(3,.pt 3 0),(4,.pt 4 0),(5,.pt 5 0),(6,.pt 6 0)] (cV Tryz.f19 0),.rw 60 2 (ah []),.rw 3 1 (ints [1]),.bx 25 [.z 1,.sl 8 (0),.sl 9 (1)],.dead,.bx 42 [.z 1,.z 0,.z 0,.z 0,.z 0,.d (.v (.int .u64 0)),.sl 11 (0)],.dead,.rw 42 7 ([[.z 1,.z 0,.z 0,.z 0,.z 0,.v (.int .u64 0),.em 5 1 ([])]]++[[.z 12,.z 2,.z 0,.z 0,.z 0,.v (.int .u64 0),.em 5 1 ([])]]++[[.z 10,.z 2,.z 0,.z 0,.z 0,.v (.int .u64 0),.em 5 1 (af [104,105])]]),.dead,.bx 42 [.z 12,.z 2,.z 0,.z 0,.z 0,.d (.v (.int .u64 0)),.sl 15 (0)],.dead,.dead,.bx 42 [.z 10,.z 2,.z 0,.z 0,.z 0,.d (.v (.int .u64 0)),.sl 18 (2)],.dead]) tk mo hK al [(1,[(1,.b true)]),(2,[(1,.z (5))]),(3,[(1,.aG (.tu [.v (.string ⟨([115,101,110,100,32,50,32,54,56,54,57]).toArray⟩),.v (.string ⟨([]).toArray⟩),.v (.bool true)]))]),(4,[(3,.bw 200 [(7,[(1,.b false),(4,.n 0)]),(13,[(1,.mem [1] (.tu [.ag [.z 10,.z 2,.z 0,.z 0,.z 0,.d (.v (.int .u64 0)),.sl 1 (2)],.d (.v (.bool true))]) [.gw 0 ai,.rw 5 1 (af [104,105])])])])])] 2000 [0,1,2,3,4,5,6,7,8,9,10,11,12,13,14,15,16,17,18,19,20] [0,1,3,7,8,12,13,11,14,15,16,4,5,6,17,18,19,20,21,22,9,10] r (by kernel_rfl) (U ((by first | decide | simp):(([115,101,110,100,32,50,32,54,56,54,57,10]:List UInt8) != [])=true) (U (LJ) (U ((by first | decide | simp):(([115,101,110,100,32,50,32,54,56,54,57]:List UInt8)==[])=false) (U (rfl:(0:Int)=((0:Nat):Int)) (U (PD) (U ((by first | rfl | decide):(2)=(af [104,105]).length) (U ((by first | rfl | decide):((1)+(1))=([[.z 1,.z 0,.z 0,.z 0,.z 0,.v (.int .u64 0),.em 5 1 ([])]]++[[.z 12,.z 2,.z 0,.z 0,.z 0,.v (.int .u64 0),.em 5 1 ([])]]:List (List DV)).length) (U ((by first | rfl | decide):(1)=([[.z 10,.z 2,.z 0,.z 0,.z 0,.v (.int .u64 0),.em 5 1 (af [104,105])]]:List (List DV)).length) (U ((by decide):(2*(((1)+(1))+(1))+192)*72≤281474976710656) (U ((by decide):((1)+(1))+(1)<4611686018427387904) (U ((by simp [aW,AV.one,bQ,af]):aW ([[.z 10,.z 2,.z 0,.z 0,.z 0,.v (.int .u64 0),.em 5 1 (af [104,105])]])) (U ((wi (by omega)):IntKind.i64.wrap ((4:Int)+1)=5) trivial)))))))))))) fun ac wd r=>?_
 refine aY (y:=.tu []) (N':=[.bx 9 [.d (.v (.string ⟨([]).toArray⟩))],.gw 0 ai,.bx 25 [.z 1,.sl 8 (0),.sl 9 (1)],.bx 26 [.sl 10 ((1)+(1)+(1))],.bx 23 [.d (.v (.slice none 0 0))],.bx 32 [.z 0],.bx 4 [.d (.v (.bool true))],.lp .ready 19 61 [(2,.pt 2 0),(3,.pt 3 0),(4,.pt 4 0),(5,.pt 5 0),(6,.pt 6 0)] (cV Tryz.f19 0),.rw 60 2 (ah []),.rw 3 1 (ints [1]),.rw 42 7 ([[.z 1,.z 0,.z 0,.z 0,.z 0,.v (.int .u64 0),.em 5 1 ([])]]++[[.z 12,.z 2,.z 0,.z 0,.z 0,.v (.int .u64 0),.em 5 1 ([])]]++[[.z 10,.z 2,.z 0,.z 0,.z 0,.v (.int .u64 0),.em 5 1 (af [104,105])]])]) (rfl) (rfl) ?_
 exact aX tk mo hK rfl al [(1,[(1,.b false)])] 2000 [0,1,2,3,4,5,6,7,8,9,14] r (by kernel_rfl) (U ((by first | decide | simp):(([]:List UInt8) != [])=false) trivial)
end Go.Proofs.YtcnpikbbmbombaaGreatDoor
namespace Go.Proofs.YtcnpikbbmbombaaGreatDoor
open Go.RowKit
theorem gp.u4 {T k:Nat} {rows:List (List DV)} (h:∀ r ∈ rows,∀ c ∈ r,fe c):gp (.rw T k rows):=fun K K' β u H r=>by
 cases r with | rw hb X F hl hs hr=>exact .rw hb X F hl hs fun i r j c x h1 h2 h3=>h r (List.mem_of_getElem? h1) c (List.mem_of_getElem? h2) _ _ _ _ (hr i r j c x h1 h2 h3)
theorem BD (T k:Nat) (l:List (Int×Int)):gp (.rw T k (ah l)):=gp.u4 fun r hr c hc=>by
 obtain ⟨x,-,rfl⟩:=List.mem_map.1 hr
 simp only [List.mem_cons,List.not_mem_nil,or_false] at hc
 rcases hc with rfl | rfl<;>exact ft _
theorem Ck (T k:Nat) (l:List Int):gp (.rw T k (ints l)):=gp.u4 fun r hr c hc=>by
 obtain ⟨x,-,rfl⟩:=List.mem_map.1 hr
 simp only [List.mem_cons,List.not_mem_nil,or_false] at hc
 subst hc;exact ft _
theorem IY (T k:Nat) (l:List aB):gp (.rw T k (bO l)):=gp.u4 fun r hr c hc=>by
 obtain ⟨x,-,rfl⟩:=List.mem_map.1 hr
 simp only [aB.jw,List.mem_cons,List.not_mem_nil,or_false] at hc
 rcases hc with rfl | rfl | rfl | rfl | rfl | rfl | rfl<;>first | exact ft _ | exact vv _ _
set_option maxRecDepth 100000 in
theorem IZ :aC Tryz.prog 19 [.d (.v (.string ⟨([119,111,114,108,100,32,49,32,58,32,49,10,116,105,99,107,32,48,10,106,111,105,110,32,50,10,115,101,110,100,32,50,32,54,56,54,57,10]).toArray⟩))] [.gw 0 ai] (mapA (·+1) (.tu [.ag [.z 1,.sl 4 0,.sl 5 1],.sl 6 3,.d (.v (.slice none 0 0)),.z 0])) (.gw 0 ai::List.map (fb (·+1)) ([.bx 25 [.z 1,.sl 4 0,.sl 5 1],.bx 26 [.sl 6 3],.bx 23 [.d (.v (.slice none 0 0))],.bx 32 [.z 0],.rw 60 2 (ah []),.rw 3 1 (ints [1]),.rw 42 7 (bO [⟨1,0,0,0,0,0,[]⟩,⟨12,2,0,0,0,0,[]⟩,⟨10,2,0,0,0,0,[104,105]⟩])])):=by
 refine aC.q8 (by kernel_rfl) rfl rfl 61 rfl rfl fun w0 K ac hK r=>?_
 have r:=r.mark
 refine tj (todo':=uy Tryz.f19 0) (E2:=[(2,.pt 1 0),(3,.pt 2 0),(4,.pt 3 0),(5,.pt 4 0),(6,.pt 5 0)]) (M2:=[.gw 0 ai,.bx 25 [.z 1,.sl 6 (0),.sl 7 (1)],.bx 26 [.sl 8 (3)],.bx 23 [.d (.v (.slice none 0 0))],.bx 32 [.z 0],.bx 4 [.d (.v (.bool true))],.rw 60 2 (ah []),.rw 3 1 (ints [1]),.rw 42 7 (bO [⟨1,0,0,0,0,0,[]⟩,⟨12,2,0,0,0,0,[]⟩,⟨10,2,0,0,0,0,[104,105]⟩])]) tk mo hK rfl [(1,[(1,.z (38))]),(4,[(1,.bw 200 [])])] 15 [6,0,1,2,3,4,5] [2,3,4,5,6] (.tu []) [.bx 9 [.d (.v (.string ⟨([]).toArray⟩))],.gw 0 ai,.bx 25 [.z 1,.sl 8 (0),.sl 9 (1)],.bx 26 [.sl 10 (3)],.bx 23 [.d (.v (.slice none 0 0))],.bx 32 [.z 0],.bx 4 [.d (.v (.bool true))],.lp .ready 19 61 [(2,.pt 2 0),(3,.pt 3 0),(4,.pt 4 0),(5,.pt 5 0),(6,.pt 6 0)] (cV Tryz.f19 0),.rw 60 2 (ah []),.rw 3 1 (ints [1]),.rw 42 7 (bO [⟨1,0,0,0,0,0,[]⟩,⟨12,2,0,0,0,0,[]⟩,⟨10,2,0,0,0,0,[104,105]⟩])] [0,1,2,3,4,5,8,9,10] [2,3,4,5,6] r (by kernel_rfl) (U KF (U ((by decide):((([119,111,114,108,100,32,49,32,58,32,49,10,116,105,99,107,32,48,10,106,111,105,110,32,50,10,115,101,110,100,32,50,32,54,56,54,57,10]:List UInt8).length:Nat):Int)=38) trivial)) fun ac wd r=>?_
 refine pH (E':=[(2,.pt 0 0),(3,.pt 1 0),(4,.pt 2 0),(5,.pt 3 0)]) (M':=[.bx 25 [.z 1,.sl 4 (0),.sl 5 (1)],.bx 26 [.sl 6 (3)],.bx 23 [.d (.v (.slice none 0 0))],.bx 32 [.z 0],.rw 60 2 (ah []),.rw 3 1 (ints [1]),.rw 42 7 (bO [⟨1,0,0,0,0,0,[]⟩,⟨12,2,0,0,0,0,[]⟩,⟨10,2,0,0,0,0,[104,105]⟩])]) tk mo hK rfl [] 2000 [1,2,3,4,6,7,8] [2,3,4,5] r (by kernel_rfl) (by kernel_rfl) trivial ?_ ?_
 ·intro x hx;simp only [List.mem_cons,List.not_mem_nil,or_false] at hx;rcases hx with rfl | rfl | rfl | rfl<;>exact ec.pt _ _
 ·intro x hx;simp only [List.mem_cons,List.not_mem_nil,or_false] at hx;rcases hx with rfl | rfl | rfl | rfl | rfl | rfl | rfl<;>first | exact BD _ _ _ | exact Ck _ _ _ | exact IY _ _ _ | (refine gp.bx fun c hc=>?_;simp only [List.mem_cons,List.not_mem_nil,or_false] at hc;first | (subst hc;first | exact ec.v _ | exact ec.sl _ _) | (rcases hc with rfl | rfl | rfl<;>first | exact ec.v _ | exact ec.sl _ _))
end Go.Proofs.YtcnpikbbmbombaaGreatDoor
namespace Go.Proofs.YtcnpikbbmbombaaGreatDoor
open Go.RowKit
def uI (s:aB×Bool):List DV:=cond s.2 s.1.jw [.z 0,.z 0,.z 0,.z 0,.z 0,.v (.int .u64 0),.v (.slice none 0 0)]
def bE (l:List (aB×Bool)):List (List DV):=l.map uI
theorem BE {l:List (aB×Bool)} {s:aB×Bool} (h:s.2=true):bE (l++[s])=bE l++[s.1.jw]:=by unfold bE uI;rw [List.map_append,List.map_cons,List.map_nil,h];rfl
theorem BF {l:List (aB×Bool)} {s:aB×Bool} (h:s.2=false):bE (l++[s])=bE l++[[.z 0,.z 0,.z 0,.z 0,.z 0,.v (.int .u64 0),.v (.slice none 0 0)]]:=by unfold bE uI;rw [List.map_append,List.map_cons,List.map_nil,h];rfl
theorem BG {c:UInt8}:∀ {s:List UInt8},s.count c=0→au c s=s
 | [],_=>rfl
 | x::r,h=>by
  by_cases hx:x=c
  ·subst hx;simp at h
  ·rw [au,if_neg hx,BG (by rw [List.count_cons_of_ne hx] at h;exact h)]
theorem ja (q:List UInt8) (hl:q.length≤1048576):ay Tryz.prog 79 [.d (.v (.string ⟨q.toArray⟩)),.d (.v (.string ⟨[10].toArray⟩))] (.tu [.v (.string ⟨(au 10 q).toArray⟩),.v (.string ⟨(bq 10 q).toArray⟩),.v (.bool (decide (0<q.count 10)))]):=by
 by_cases h:0<q.count 10
 ·rw [decide_eq_true h];exact px 10 q (by omega) h
 ·rw [decide_eq_false h]
  have e:=BG (c:=10) (s:=q) (by omega)
  have e2:bq 10 q=[]:=by unfold bq;rw [e,List.drop_of_length_le (by omega)]
  rw [e,e2];exact CI 10 q (by omega) (by omega)
theorem na {q:List UInt8} {n:Nat} {b:Bool} {c:bK} {S:List (aB×Bool)} {B:List Int} (hq:q≠[]) (h:au 10 q=[]∨(au 10 q).head?=some 35):bT (fw q) n b c S B=bT (fw (bq 10 q)) (n+1) b c S B:=by
 rw [qP hq,bT,if_pos h]
theorem xB {q:List UInt8} {n:Nat} {c:bK} {S:List (aB×Bool)} {B:List Int} (hq:q≠[]) (h:¬ (au 10 q=[]∨(au 10 q).head?=some 35)):bT (fw q) n false c S B=cond (ct (au 10 q)).2 (bT (fw (bq 10 q)) (n+1) true (ct (au 10 q)).1 S B) none:=by
 rw [qP hq,bT,if_neg h];rfl
theorem tH {q:List UInt8} {n:Nat} {c:bK} {S:List (aB×Bool)} {B:List Int} (hq:q≠[]) (h:¬ (au 10 q=[]∨(au 10 q).head?=some 35)):bT (fw q) n true c S B=bT (fw (bq 10 q)) (n+1) true c (S++[aA (au 10 q)]) (cond (aA (au 10 q)).2 B (B++[((n:Nat):Int)])):=by
 rw [qP hq,bT,if_neg h];rfl
theorem nY {x:List UInt8} {e:UInt8} (hx:(x==([]:List UInt8))=false) (g:x[0]?=some e) (h:¬ ((e.toNat:Nat):Int)=35):¬ (x=[]∨x.head?=some 35):=by
 rintro (h1 | h1)
 ·subst h1;simp at hx
 ·rw [gF g] at h1;cases h1;exact h rfl
theorem n8 {x:List UInt8} (hx:(x==([]:List UInt8))=false):∃ e,x[0]?=some e:=by
 cases x with
 | nil=>simp at hx
 | cons e r=>exact ⟨e,rfl⟩
theorem ne_nil {x:List UInt8} (hx:(x==([]:List UInt8))=false):x≠[]:=fun e=>by subst e;simp at hx
theorem nW {e:UInt8} (h:((e.toNat:Nat):Int)=35):e=35:=by apply UInt8.toNat_inj.1;simp;omega
theorem qQ {q:List UInt8} (h:q≠[]):(bq 10 q).length+1≤q.length:=by
 have:=List.length_pos_iff.2 h
 unfold bq;simp;omega
set_option maxRecDepth 100000 in
theorem BH (s:List UInt8) (hl:s.length≤524288) (b1:Bool) (c1:bK) (S1:List (aB×Bool)) (B1:List Int) (hS:bT (fw s) 1 false ⟨0,[],[]⟩ [] []=some (b1,c1,S1,B1)):aC Tryz.prog 78 [.yl 7,.pt 0 0] [.bx 9 [.d (.v (.string ⟨s.toArray⟩))],.gw 0 ai,.bx 25 [.z 0,.d (.v (.slice none 0 0)),.d (.v (.slice none 0 0))],.bx 26 [.d (.v (.slice none 0 0))],.bx 23 [.d (.v (.slice none 0 0))],.bx 32 [.z 0],.bx 4 [.d (.v (.bool false))],.lp .ready 19 61 [(2,.pt 2 0),(3,.pt 3 0),(4,.pt 4 0),(5,.pt 5 0),(6,.pt 6 0)] (cV Tryz.f19 0)] (.tu []) ([.bx 9 [.d (.v (.string ⟨([]).toArray⟩))],.gw 0 ai,.bx 25 [.z c1.aD,.sl 8 (c1.ah.length),.sl 9 (c1.homes.length)],.bx 26 [.sl 10 (S1.length)],.bx 23 [.sl 11 (B1.length)],.bx 32 [.z 0],.bx 4 [.d (.v (.bool b1))],.lp .ready 19 61 [(2,.pt 2 0),(3,.pt 3 0),(4,.pt 4 0),(5,.pt 5 0),(6,.pt 6 0)] (cV Tryz.f19 0),.rw 60 2 (ah c1.ah),.rw 3 1 (ints c1.homes),.rw 42 7 (bE S1),.rw 3 1 (ints B1)]):=by
 refine aC.intro (by kernel_rfl) rfl rfl 23 rfl rfl fun D w0 K bs ac wd hK (al:bs.m=8) r=>?_
 refine bp (todo':=hd Tryz.f78 0) (E':=[(0,.yl 7),(1,.pt 0 0),(3,.z 1)]) (M':=[.bx 9 [.d (.v (.string ⟨s.toArray⟩))],.gw 0 ai,.bx 25 [.z 0,.d (.v (.slice none 0 0)),.d (.v (.slice none 0 0))],.bx 26 [.d (.v (.slice none 0 0))],.bx 23 [.d (.v (.slice none 0 0))],.bx 32 [.z 0],.bx 4 [.d (.v (.bool false))],.lp .ready 19 61 [(2,.pt 2 0),(3,.pt 3 0),(4,.pt 4 0),(5,.pt 5 0),(6,.pt 6 0)] (cV Tryz.f19 0)]) tk mo hK al [] 2000 [0,1,2,3,4,5,6,7] [0,1,3] r (by kernel_rfl) trivial fun ac wd r=>?_
 refine aF.rounds (Φ:=fun (i:Nat) ac wd=>∃ q:List UInt8,∃ b:Bool,∃ c:bK,∃ S:List (aB×Bool),∃ B:List Int,(i+q.length≤s.length∧S.length≤i∧B.length≤i∧bT (fw q) (i+1) b c S B=some (b1,c1,S1,B1))∧RB D w0 K 23 bs [(0,.yl 7),(1,.pt 0 0),(3,.n (i+1))] [.bx 9 [.d (.v (.string ⟨q.toArray⟩))],.gw 0 ai,.bx 25 [.z c.aD,.sl 8 (c.ah.length),.sl 9 (c.homes.length)],.bx 26 [.sl 10 (S.length)],.bx 23 [.sl 11 (B.length)],.bx 32 [.z 0],.bx 4 [.d (.v (.bool b))],.lp .ready 19 61 [(2,.pt 2 0),(3,.pt 3 0),(4,.pt 4 0),(5,.pt 5 0),(6,.pt 6 0)] (cV Tryz.f19 0),.rw 60 2 (ah c.ah),.rw 3 1 (ints c.homes),.rw 42 7 (bE S),.rw 3 1 (ints B)] ac wd) (s.length) ?_ (Nat.zero_le _) ⟨s,false,⟨0,[],[]⟩,[],[],⟨by simp,Nat.zero_le _,Nat.zero_le _,hS⟩,(r.dA (E1:=[(0,.yl 7),(1,.pt 0 0),(3,.z 1)]) (M2:=[.bx 9 [.d (.v (.string ⟨s.toArray⟩))],.gw 0 ai,.bx 25 [.z 0,.sl 8 (0),.sl 9 (0)],.bx 26 [.sl 10 (0)],.bx 23 [.sl 11 (0)],.bx 32 [.z 0],.bx 4 [.d (.v (.bool false))],.lp .ready 19 61 [(2,.pt 2 0),(3,.pt 3 0),(4,.pt 4 0),(5,.pt 5 0),(6,.pt 6 0)] (cV Tryz.f19 0),.rw 60 2 ([]),.rw 3 1 ([]),.rw 42 7 ([]),.rw 3 1 ([])]) (M1:=[.bx 9 [.d (.v (.string ⟨s.toArray⟩))],.gw 0 ai,.bx 25 [.z 0,.d (.v (.slice none 0 0)),.d (.v (.slice none 0 0))],.bx 26 [.d (.v (.slice none 0 0))],.bx 23 [.d (.v (.slice none 0 0))],.bx 32 [.z 0],.bx 4 [.d (.v (.bool false))],.lp .ready 19 61 [(2,.pt 2 0),(3,.pt 3 0),(4,.pt 4 0),(5,.pt 5 0),(6,.pt 6 0)] (cV Tryz.f19 0)]) [] [(2,1,60,2),(2,2,3,1),(3,0,42,7),(4,0,3,1)] (by kernel_rfl) (by kernel_rfl)).cast rfl rfl⟩
 clear r
 rintro i dw bj ac wd ⟨q,b,c,S,B,ao,r⟩
 cases b with
 | false=>
  cases h0:(q==([]:List UInt8)) with
  | false=>
   have cN:=ne_nil (x:=q) (by assumption)
   have zU:=qQ cN
   cases h1:((au 10 q)==([]:List UInt8)) with
   | false=>
    obtain ⟨e0,g0⟩:=n8 (x:=(au 10 q)) (by assumption)
    have aI:=(⟨_,g0,rfl⟩:∃ u:UInt8,((au 10 q):List UInt8)[0]?=some u∧(.v (.int .u8 (((e0.toNat:Nat):Int))):DV)=.v (.int .u8 (u.toNat:Int)))
    cases h2:((((e0.toNat:Nat):Int):Int)==35) with
    | false=>
     have cz:=ne_of_beq_false h2
     have j5:=nY (x:=(au 10 q)) (by assumption) g0 (by assumption)
     cases h3:((ct (au 10 q)).2) with
     | false=>
      exact absurd ao.2.2.2 (by rw [xB cN j5,h3];simp)
     | true=>
      exact bp (todo':=hd Tryz.f78 0) (E':=[(0,.yl 7),(1,.pt 0 0),(3,.n (i+1+1))]) (M':=[.bx 9 [.d (.v (.string ⟨(bq 10 q).toArray⟩))],.gw 0 ai,.bx 25 [.z ((ct (au 10 q)).1.aD),.sl 8 ((ct (au 10 q)).1.ah.length),.sl 9 ((ct (au 10 q)).1.homes.length)],.bx 26 [.sl 10 (S.length)],.bx 23 [.sl 11 (B.length)],.bx 32 [.z 0],.bx 4 [.d (.v (.bool true))],.lp .ready 19 61 [(2,.pt 2 0),(3,.pt 3 0),(4,.pt 4 0),(5,.pt 5 0),(6,.pt 6 0)] (cV Tryz.f19 0),.rw 60 2 (ah (ct (au 10 q)).1.ah),.rw 3 1 (ints (ct (au 10 q)).1.homes),.rw 42 7 (bE S),.rw 3 1 (ints B)]) tk mo hK al [(1,[(1,.b true)]),(2,[(1,.z (((i+1+1:Nat):Int)))]),(3,[(1,.aG (.tu [.v (.string ⟨(au 10 q).toArray⟩),.v (.string ⟨(bq 10 q).toArray⟩),.v (.bool (decide (0<q.count 10)))]))]),(4,[(3,.bw 200 [(7,[(1,.b false),(4,.ix (0) [.v (.int .u8 (((e0.toNat:Nat):Int)))]),(5,.b false)]),(9,[(1,.mem [] (.tu [.ag [.z ((ct (au 10 q)).1.aD),.sl 0 ((ct (au 10 q)).1.ah.length),.sl 1 ((ct (au 10 q)).1.homes.length)],.d (.v (.bool ((ct (au 10 q)).2)))]) [.rw 60 2 (ah (ct (au 10 q)).1.ah),.rw 3 1 (ints (ct (au 10 q)).1.homes)])]),(10,[(1,.b false)])])])] 2000 [0,1,2,3,4,5,6,7,12,13,10,11] [0,1,3] r (by kernel_rfl) (U ((by simpa [bne] using h0):(q != ([]:List UInt8))=true) (U (ja q (by omega)) (U h1 (U (rfl:(0:Int)=((0:Nat):Int)) (U aI (U h2 (U (sH (au 10 q) (by have:=mZ 10 q;omega)) (U ((by rw [h3];rfl):(!((ct (au 10 q)).2))=false) (U ((wi (by omega)):IntKind.i64.wrap ((((i+1:Nat):Int):Int)+1)=((i+1+1:Nat):Int)) trivial))))))))) fun ac wd r=>bj (by omega) ac wd ⟨(bq 10 q),true,(ct (au 10 q)).1,S,B,⟨by omega,by omega,by omega,by rw [← ao.2.2.2,xB cN j5,h3];rfl⟩,r.cast rfl (by simp [ah,ints])⟩
    | true=>
     have cz:=eq_of_beq h2
     exact bp (todo':=hd Tryz.f78 0) (E':=[(0,.yl 7),(1,.pt 0 0),(3,.n (i+1+1))]) (M':=[.bx 9 [.d (.v (.string ⟨(bq 10 q).toArray⟩))],.gw 0 ai,.bx 25 [.z c.aD,.sl 8 (c.ah.length),.sl 9 (c.homes.length)],.bx 26 [.sl 10 (S.length)],.bx 23 [.sl 11 (B.length)],.bx 32 [.z 0],.bx 4 [.d (.v (.bool false))],.lp .ready 19 61 [(2,.pt 2 0),(3,.pt 3 0),(4,.pt 4 0),(5,.pt 5 0),(6,.pt 6 0)] (cV Tryz.f19 0),.rw 60 2 (ah c.ah),.rw 3 1 (ints c.homes),.rw 42 7 (bE S),.rw 3 1 (ints B)]) tk mo hK al [(1,[(1,.b true)]),(2,[(1,.z (((i+1+1:Nat):Int)))]),(3,[(1,.aG (.tu [.v (.string ⟨(au 10 q).toArray⟩),.v (.string ⟨(bq 10 q).toArray⟩),.v (.bool (decide (0<q.count 10)))]))]),(4,[(3,.bw 200 [(7,[(1,.b false),(4,.ix (0) [.v (.int .u8 (((e0.toNat:Nat):Int)))]),(5,.b true)])])])] 2000 [0,1,2,3,4,5,6,7,8,9,10,11] [0,1,3] r (by kernel_rfl) (U ((by simpa [bne] using h0):(q != ([]:List UInt8))=true) (U (ja q (by omega)) (U h1 (U (rfl:(0:Int)=((0:Nat):Int)) (U aI (U h2 (U ((wi (by omega)):IntKind.i64.wrap ((((i+1:Nat):Int):Int)+1)=((i+1+1:Nat):Int)) trivial))))))) fun ac wd r=>bj (by omega) ac wd ⟨(bq 10 q),false,c,S,B,⟨by omega,by omega,by omega,by rw [← ao.2.2.2,na cN (.inr ((gF g0).trans (congrArg some (nW (by assumption)))))]⟩,r.cast rfl (by simp [ah,ints])⟩
   | true=>
    exact bp (todo':=hd Tryz.f78 0) (E':=[(0,.yl 7),(1,.pt 0 0),(3,.n (i+1+1))]) (M':=[.bx 9 [.d (.v (.string ⟨(bq 10 q).toArray⟩))],.gw 0 ai,.bx 25 [.z c.aD,.sl 8 (c.ah.length),.sl 9 (c.homes.length)],.bx 26 [.sl 10 (S.length)],.bx 23 [.sl 11 (B.length)],.bx 32 [.z 0],.bx 4 [.d (.v (.bool false))],.lp .ready 19 61 [(2,.pt 2 0),(3,.pt 3 0),(4,.pt 4 0),(5,.pt 5 0),(6,.pt 6 0)] (cV Tryz.f19 0),.rw 60 2 (ah c.ah),.rw 3 1 (ints c.homes),.rw 42 7 (bE S),.rw 3 1 (ints B)]) tk mo hK al [(1,[(1,.b true)]),(2,[(1,.z (((i+1+1:Nat):Int)))]),(3,[(1,.aG (.tu [.v (.string ⟨(au 10 q).toArray⟩),.v (.string ⟨(bq 10 q).toArray⟩),.v (.bool (decide (0<q.count 10)))]))]),(4,[(3,.bw 200 [(7,[(1,.b true)])])])] 2000 [0,1,2,3,4,5,6,7,8,9,10,11] [0,1,3] r (by kernel_rfl) (U ((by simpa [bne] using h0):(q != ([]:List UInt8))=true) (U (ja q (by omega)) (U h1 (U ((wi (by omega)):IntKind.i64.wrap ((((i+1:Nat):Int):Int)+1)=((i+1+1:Nat):Int)) trivial)))) fun ac wd r=>bj (by omega) ac wd ⟨(bq 10 q),false,c,S,B,⟨by omega,by omega,by omega,by rw [← ao.2.2.2,na cN (.inl (eq_of_beq (by assumption)))]⟩,r.cast rfl (by simp [ah,ints])⟩
  | true=>
   refine aY (y:=.tu []) (N':=[.bx 9 [.d (.v (.string ⟨q.toArray⟩))],.gw 0 ai,.bx 25 [.z c.aD,.sl 8 (c.ah.length),.sl 9 (c.homes.length)],.bx 26 [.sl 10 (S.length)],.bx 23 [.sl 11 (B.length)],.bx 32 [.z 0],.bx 4 [.d (.v (.bool false))],.lp .ready 19 61 [(2,.pt 2 0),(3,.pt 3 0),(4,.pt 4 0),(5,.pt 5 0),(6,.pt 6 0)] (cV Tryz.f19 0),.rw 60 2 (ah c.ah),.rw 3 1 (ints c.homes),.rw 42 7 (bE S),.rw 3 1 (ints B)]) (rfl) ((by have oW:q=[]:=eq_of_beq (by assumption);have e:=ao.2.2.2;rw [oW,ph,bT] at e;simp only [Option.some.injEq,Prod.mk.injEq] at e;obtain ⟨e1,e2,e3,e4⟩:=e;rw [← e1,← e2,← e3,← e4,oW])) ?_
   exact aX tk mo hK rfl al [(1,[(1,.b false)])] 2000 [0,1,2,3,4,5,6,7,8,9,10,11] r (by kernel_rfl) (U ((by simpa [bne] using h0):(q != ([]:List UInt8))=false) trivial)
 | true=>
  cases h4:(q==([]:List UInt8)) with
  | false=>
   have cN:=ne_nil (x:=q) (by assumption)
   have zU:=qQ cN
   cases h5:((au 10 q)==([]:List UInt8)) with
   | false=>
    obtain ⟨e0,g0⟩:=n8 (x:=(au 10 q)) (by assumption)
    have bd:=(⟨_,g0,rfl⟩:∃ u:UInt8,((au 10 q):List UInt8)[0]?=some u∧(.v (.int .u8 (((e0.toNat:Nat):Int))):DV)=.v (.int .u8 (u.toNat:Int)))
    cases h6:((((e0.toNat:Nat):Int):Int)==35) with
    | false=>
     have dx:=ne_of_beq_false h6
     have j5:=nY (x:=(au 10 q)) (by assumption) g0 (by assumption)
     cases h7:((aA (au 10 q)).2) with
     | false=>
      exact bp (todo':=hd Tryz.f78 0) (E':=[(0,.yl 7),(1,.pt 0 0),(3,.n (i+1+1))]) (M':=[.bx 9 [.d (.v (.string ⟨(bq 10 q).toArray⟩))],.gw 0 ai,.bx 25 [.z c.aD,.sl 8 (c.ah.length),.sl 9 (c.homes.length)],.bx 26 [.sl 10 (S.length+(1))],.bx 23 [.sl 11 (B.length+(1))],.bx 32 [.z 0],.bx 4 [.d (.v (.bool true))],.lp .ready 19 61 [(2,.pt 2 0),(3,.pt 3 0),(4,.pt 4 0),(5,.pt 5 0),(6,.pt 6 0)] (cV Tryz.f19 0),.rw 60 2 (ah c.ah),.rw 3 1 (ints c.homes),.rw 42 7 (bE S++[[.z 0,.z 0,.z 0,.z 0,.z 0,.v (.int .u64 0),.v (.slice none 0 0)]]),.rw 3 1 (ints B++[[.n (i+1)]])]) tk mo hK al [(1,[(1,.b true)]),(2,[(1,.z (((i+1+1:Nat):Int)))]),(3,[(1,.aG (.tu [.v (.string ⟨(au 10 q).toArray⟩),.v (.string ⟨(bq 10 q).toArray⟩),.v (.bool (decide (0<q.count 10)))]))]),(4,[(3,.bw 200 [(7,[(1,.b false),(4,.ix (0) [.v (.int .u8 (((e0.toNat:Nat):Int)))]),(5,.b false)]),(13,[(1,.mem [1] (.tu [.ag [.z ((aA (au 10 q)).1.kind),.z ((aA (au 10 q)).1.node),.z ((aA (au 10 q)).1.peer),.z ((aA (au 10 q)).1.n),.z ((aA (au 10 q)).1.bit),.u ((aA (au 10 q)).1.inc),.sl 1 ((af (aA (au 10 q)).1.body).length)],.d (.v (.bool ((aA (au 10 q)).2)))]) [.gw 0 ai,.rw 5 1 (af (aA (au 10 q)).1.body)])]),(14,[(1,.b true)])])])] 2000 [0,1,2,3,4,5,6,7,8,9,10,11] [0,1,3] r (by kernel_rfl) (U ((by simpa [bne] using h4):(q != ([]:List UInt8))=true) (U (ja q (by omega)) (U h5 (U (rfl:(0:Int)=((0:Nat):Int)) (U bd (U h6 (U (nX (au 10 q) (by have:=mZ 10 q;omega)) (U ((by rw [h7];rfl):(!((aA (au 10 q)).2))=true) (U ((by first | rfl | (simp [ah,ints,bE];done) | (simp [ah,ints,bE];omega)):(B.length)=(ints B).length) (U ((by first | rfl | (simp [ah,ints,bE];done) | (simp [ah,ints,bE];omega)):(1)=([[.n (i+1)]]:List (List DV)).length) (U ((by first | omega | (simp [ah,ints,bE];omega)):(2*((B.length)+(1))+192)*8≤281474976710656) (U ((by first | omega | (simp [ah,ints,bE];omega)):(B.length)+(1)<4611686018427387904) (U ((by simp [aW,AV.one,bQ,af,ah,ints,steps,strs]):aW ([[.n (i+1)]])) (U ((by first | rfl | (simp [ah,ints,bE];done) | (simp [ah,ints,bE];omega)):(S.length)=(bE S:List (List DV)).length) (U ((by first | rfl | (simp [ah,ints,bE];done) | (simp [ah,ints,bE];omega)):(1)=([[.z 0,.z 0,.z 0,.z 0,.z 0,.v (.int .u64 0),.v (.slice none 0 0)]]:List (List DV)).length) (U ((by first | omega | (simp [ah,ints,bE];omega)):(2*((S.length)+(1))+192)*72≤281474976710656) (U ((by first | omega | (simp [ah,ints,bE];omega)):(S.length)+(1)<4611686018427387904) (U ((by simp [aW,AV.one,bQ,af,ah,ints,steps,strs]):aW ([[.z 0,.z 0,.z 0,.z 0,.z 0,.v (.int .u64 0),.v (.slice none 0 0)]])) (U ((wi (by omega)):IntKind.i64.wrap ((((i+1:Nat):Int):Int)+1)=((i+1+1:Nat):Int)) trivial))))))))))))))))))) fun ac wd r=>bj (by omega) ac wd ⟨(bq 10 q),true,c,(S++[aA (au 10 q)]),(B++[((i+1:Nat):Int)]),⟨by omega,by simp;omega,by first | omega | (simp;omega),by rw [← ao.2.2.2,tH cN j5,h7];rfl⟩,r.cast rfl (by rw [BF h7];simp [ah,ints,aB.jw])⟩
     | true=>
      exact bp (todo':=hd Tryz.f78 0) (E':=[(0,.yl 7),(1,.pt 0 0),(3,.n (i+1+1))]) (M':=[.bx 9 [.d (.v (.string ⟨(bq 10 q).toArray⟩))],.gw 0 ai,.bx 25 [.z c.aD,.sl 8 (c.ah.length),.sl 9 (c.homes.length)],.bx 26 [.sl 10 (S.length+(1))],.bx 23 [.sl 11 (B.length)],.bx 32 [.z 0],.bx 4 [.d (.v (.bool true))],.lp .ready 19 61 [(2,.pt 2 0),(3,.pt 3 0),(4,.pt 4 0),(5,.pt 5 0),(6,.pt 6 0)] (cV Tryz.f19 0),.rw 60 2 (ah c.ah),.rw 3 1 (ints c.homes),.rw 42 7 (bE S++[[.z ((aA (au 10 q)).1.kind),.z ((aA (au 10 q)).1.node),.z ((aA (au 10 q)).1.peer),.z ((aA (au 10 q)).1.n),.z ((aA (au 10 q)).1.bit),.u ((aA (au 10 q)).1.inc),.em 5 1 (af (aA (au 10 q)).1.body)]]),.rw 3 1 (ints B)]) tk mo hK al [(1,[(1,.b true)]),(2,[(1,.z (((i+1+1:Nat):Int)))]),(3,[(1,.aG (.tu [.v (.string ⟨(au 10 q).toArray⟩),.v (.string ⟨(bq 10 q).toArray⟩),.v (.bool (decide (0<q.count 10)))]))]),(4,[(3,.bw 200 [(7,[(1,.b false),(4,.ix (0) [.v (.int .u8 (((e0.toNat:Nat):Int)))]),(5,.b false)]),(13,[(1,.mem [1] (.tu [.ag [.z ((aA (au 10 q)).1.kind),.z ((aA (au 10 q)).1.node),.z ((aA (au 10 q)).1.peer),.z ((aA (au 10 q)).1.n),.z ((aA (au 10 q)).1.bit),.u ((aA (au 10 q)).1.inc),.sl 1 ((af (aA (au 10 q)).1.body).length)],.d (.v (.bool ((aA (au 10 q)).2)))]) [.gw 0 ai,.rw 5 1 (af (aA (au 10 q)).1.body)])]),(14,[(1,.b false)])])])] 2000 [0,1,2,3,4,5,6,7,8,9,10,11] [0,1,3] r (by kernel_rfl) (U ((by simpa [bne] using h4):(q != ([]:List UInt8))=true) (U (ja q (by omega)) (U h5 (U (rfl:(0:Int)=((0:Nat):Int)) (U bd (U h6 (U (nX (au 10 q) (by have:=mZ 10 q;omega)) (U ((by rw [h7];rfl):(!((aA (au 10 q)).2))=false) (U (cK ((af (aA (au 10 q)).1.body).length)) (U ((by first | rfl | (simp [ah,ints,bE];done) | (simp [ah,ints,bE];omega)):(S.length)=(bE S:List (List DV)).length) (U ((by first | rfl | (simp [ah,ints,bE];done) | (simp [ah,ints,bE];omega)):(1)=([[.z ((aA (au 10 q)).1.kind),.z ((aA (au 10 q)).1.node),.z ((aA (au 10 q)).1.peer),.z ((aA (au 10 q)).1.n),.z ((aA (au 10 q)).1.bit),.u ((aA (au 10 q)).1.inc),.em 5 1 (af (aA (au 10 q)).1.body)]]:List (List DV)).length) (U ((by first | omega | (simp [ah,ints,bE];omega)):(2*((S.length)+(1))+192)*72≤281474976710656) (U ((by first | omega | (simp [ah,ints,bE];omega)):(S.length)+(1)<4611686018427387904) (U ((by simp [aW,AV.one,bQ,af,ah,ints,steps,strs]):aW ([[.z ((aA (au 10 q)).1.kind),.z ((aA (au 10 q)).1.node),.z ((aA (au 10 q)).1.peer),.z ((aA (au 10 q)).1.n),.z ((aA (au 10 q)).1.bit),.u ((aA (au 10 q)).1.inc),.em 5 1 (af (aA (au 10 q)).1.body)]])) (U ((wi (by omega)):IntKind.i64.wrap ((((i+1:Nat):Int):Int)+1)=((i+1+1:Nat):Int)) trivial))))))))))))))) fun ac wd r=>bj (by omega) ac wd ⟨(bq 10 q),true,c,(S++[aA (au 10 q)]),B,⟨by omega,by simp;omega,by first | omega | (simp;omega),by rw [← ao.2.2.2,tH cN j5,h7];rfl⟩,r.cast rfl (by rw [BE h7];simp [ah,ints,aB.jw])⟩
    | true=>
     have dx:=eq_of_beq h6
     exact bp (todo':=hd Tryz.f78 0) (E':=[(0,.yl 7),(1,.pt 0 0),(3,.n (i+1+1))]) (M':=[.bx 9 [.d (.v (.string ⟨(bq 10 q).toArray⟩))],.gw 0 ai,.bx 25 [.z c.aD,.sl 8 (c.ah.length),.sl 9 (c.homes.length)],.bx 26 [.sl 10 (S.length)],.bx 23 [.sl 11 (B.length)],.bx 32 [.z 0],.bx 4 [.d (.v (.bool true))],.lp .ready 19 61 [(2,.pt 2 0),(3,.pt 3 0),(4,.pt 4 0),(5,.pt 5 0),(6,.pt 6 0)] (cV Tryz.f19 0),.rw 60 2 (ah c.ah),.rw 3 1 (ints c.homes),.rw 42 7 (bE S),.rw 3 1 (ints B)]) tk mo hK al [(1,[(1,.b true)]),(2,[(1,.z (((i+1+1:Nat):Int)))]),(3,[(1,.aG (.tu [.v (.string ⟨(au 10 q).toArray⟩),.v (.string ⟨(bq 10 q).toArray⟩),.v (.bool (decide (0<q.count 10)))]))]),(4,[(3,.bw 200 [(7,[(1,.b false),(4,.ix (0) [.v (.int .u8 (((e0.toNat:Nat):Int)))]),(5,.b true)])])])] 2000 [0,1,2,3,4,5,6,7,8,9,10,11] [0,1,3] r (by kernel_rfl) (U ((by simpa [bne] using h4):(q != ([]:List UInt8))=true) (U (ja q (by omega)) (U h5 (U (rfl:(0:Int)=((0:Nat):Int)) (U bd (U h6 (U ((wi (by omega)):IntKind.i64.wrap ((((i+1:Nat):Int):Int)+1)=((i+1+1:Nat):Int)) trivial))))))) fun ac wd r=>bj (by omega) ac wd ⟨(bq 10 q),true,c,S,B,⟨by omega,by omega,by omega,by rw [← ao.2.2.2,na cN (.inr ((gF g0).trans (congrArg some (nW (by assumption)))))]⟩,r.cast rfl (by simp [ah,ints])⟩
   | true=>
    exact bp (todo':=hd Tryz.f78 0) (E':=[(0,.yl 7),(1,.pt 0 0),(3,.n (i+1+1))]) (M':=[.bx 9 [.d (.v (.string ⟨(bq 10 q).toArray⟩))],.gw 0 ai,.bx 25 [.z c.aD,.sl 8 (c.ah.length),.sl 9 (c.homes.length)],.bx 26 [.sl 10 (S.length)],.bx 23 [.sl 11 (B.length)],.bx 32 [.z 0],.bx 4 [.d (.v (.bool true))],.lp .ready 19 61 [(2,.pt 2 0),(3,.pt 3 0),(4,.pt 4 0),(5,.pt 5 0),(6,.pt 6 0)] (cV Tryz.f19 0),.rw 60 2 (ah c.ah),.rw 3 1 (ints c.homes),.rw 42 7 (bE S),.rw 3 1 (ints B)]) tk mo hK al [(1,[(1,.b true)]),(2,[(1,.z (((i+1+1:Nat):Int)))]),(3,[(1,.aG (.tu [.v (.string ⟨(au 10 q).toArray⟩),.v (.string ⟨(bq 10 q).toArray⟩),.v (.bool (decide (0<q.count 10)))]))]),(4,[(3,.bw 200 [(7,[(1,.b true)])])])] 2000 [0,1,2,3,4,5,6,7,8,9,10,11] [0,1,3] r (by kernel_rfl) (U ((by simpa [bne] using h4):(q != ([]:List UInt8))=true) (U (ja q (by omega)) (U h5 (U ((wi (by omega)):IntKind.i64.wrap ((((i+1:Nat):Int):Int)+1)=((i+1+1:Nat):Int)) trivial)))) fun ac wd r=>bj (by omega) ac wd ⟨(bq 10 q),true,c,S,B,⟨by omega,by omega,by omega,by rw [← ao.2.2.2,na cN (.inl (eq_of_beq (by assumption)))]⟩,r.cast rfl (by simp [ah,ints])⟩
  | true=>
   refine aY (y:=.tu []) (N':=[.bx 9 [.d (.v (.string ⟨q.toArray⟩))],.gw 0 ai,.bx 25 [.z c.aD,.sl 8 (c.ah.length),.sl 9 (c.homes.length)],.bx 26 [.sl 10 (S.length)],.bx 23 [.sl 11 (B.length)],.bx 32 [.z 0],.bx 4 [.d (.v (.bool true))],.lp .ready 19 61 [(2,.pt 2 0),(3,.pt 3 0),(4,.pt 4 0),(5,.pt 5 0),(6,.pt 6 0)] (cV Tryz.f19 0),.rw 60 2 (ah c.ah),.rw 3 1 (ints c.homes),.rw 42 7 (bE S),.rw 3 1 (ints B)]) (rfl) ((by have oW:q=[]:=eq_of_beq (by assumption);have e:=ao.2.2.2;rw [oW,ph,bT] at e;simp only [Option.some.injEq,Prod.mk.injEq] at e;obtain ⟨e1,e2,e3,e4⟩:=e;rw [← e1,← e2,← e3,← e4,oW])) ?_
   exact aX tk mo hK rfl al [(1,[(1,.b false)])] 2000 [0,1,2,3,4,5,6,7,8,9,10,11] r (by kernel_rfl) (U ((by simpa [bne] using h4):(q != ([]:List UInt8))=false) trivial)
end Go.Proofs.YtcnpikbbmbombaaGreatDoor
namespace Go.Proofs.YtcnpikbbmbombaaGreatDoor
open Go.RowKit
def eh (S:List (aB×Bool)):List aB:=S.map fun s=>cond s.2 s.1 gZ
theorem I0 (l:List UInt8):cond (aA l).2 (aA l).1 gZ=(aA l).1:=by unfold aA;cases dt l<;>rfl
theorem I5 (S:List (aB×Bool)) (l:List UInt8):eh (S++[aA l])=eh S++[(aA l).1]:=by unfold eh;rw [List.map_append,List.map_cons,List.map_nil,I0]
theorem e5 (S:List (aB×Bool)):(eh S).length=S.length:=by unfold eh;rw [List.length_map]
theorem AH (S:List (aB×Bool)) (l:List UInt8):bO (eh (S++[aA l]))=bO (eh S)++[(aA l).1.jw]:=by rw [I5];unfold bO;rw [List.map_append];rfl
theorem vX:∀ (r:List (List UInt8)) (n:Nat) (c:bK) (S:List (aB×Bool)) (B:List Int),∃ S' B',bT r n true c S B=some (true,c,S',B')
 | [],n,c,S,B=>⟨S,B,by rw [bT]⟩
 | x::r,n,c,S,B=>by
  rw [bT]
  split
  ·exact vX r _ c S B
  ·exact vX r _ c _ _
theorem vC (c:UInt8) (s:List UInt8):(ak c s).length≤s.length+1:=by rw [ga];have:=List.count_le_length (a:=c) (l:=s);omega
theorem Nk {W:List (List UInt8)} {i n:Nat} {x:List UInt8} {z:Option (Bool×bK×List (aB×Bool)×List Int)} (g:W[i]?=some x) (h:¬ (x=[]∨x.head?=some 35)) (e:(bI x).2=false) (hz:bT (W.drop i) n false ⟨0,[],[]⟩ [] []=z):z=none:=by rw [CX g h,LF e] at hz;exact hz.symm
theorem C1 {W:List (List UInt8)} {i n:Nat} {x:List UInt8} {z:Option (Bool×bK×List (aB×Bool)×List Int)} (g:W[i]?=some x) (h:¬ (x=[]∨x.head?=some 35)) (e:(bI x).2=true) (hz:bT (W.drop i) n false ⟨0,[],[]⟩ [] []=z):bT (W.drop (i+1)) (n+1) true (bI x).1 [] []=z:=by
 have e2:=KC e
 rw [CX g h,← e2,e] at hz;exact hz
theorem xC {W:List (List UInt8)} {i n:Nat} {b:Bool} {c:bK} {S:List (aB×Bool)} {B:List Int} {z:Option (Bool×bK×List (aB×Bool)×List Int)} (hi:W.length≤i) (h:bT (W.drop i) n b c S B=z):z=some (b,c,S,B):=by rw [List.drop_of_length_le hi,bT] at h;exact h.symm
set_option maxRecDepth 100000 in
theorem Gk (s:List UInt8) (hl:524288<s.length):aC Tryz.prog 20 [.d (.v (.string ⟨s.toArray⟩))] [] (.tu [.ag [.z 0,.d (.v (.slice none 0 0)),.d (.v (.slice none 0 0))],.d (.v (.slice none 0 0)),.d (.v (.slice none 0 0)),.z 2]) ([]):=by
 refine aC.intro (by kernel_rfl) rfl rfl 100 rfl rfl fun D w0 K bs ac wd hK (al:bs.m=0) r=>?_
 cases h0:(decide ((524288:Int)<((s.length:Nat):Int))) with
 | false=>
  have aT:=of_decide_eq_false h0
  exact absurd aT (by omega)
 | true=>
  have aT:=of_decide_eq_true h0
  refine aY (y:=.tu [.ag [.z 0,.d (.v (.slice none 0 0)),.d (.v (.slice none 0 0))],.d (.v (.slice none 0 0)),.d (.v (.slice none 0 0)),.z 2]) (N':=[]) (rfl) (rfl) ?_
  exact aX tk mo hK rfl al [(1,[(2,.b true)])] 2000 [] r (by kernel_rfl) (U h0 trivial)
set_option maxRecDepth 100000 in
theorem BI (s:List UInt8) (hl:s.length≤524288) (hS:∀ c S B,bT (ak 10 s) 1 false ⟨0,[],[]⟩ [] []≠some (true,c,S,B)):aC Tryz.prog 20 [.d (.v (.string ⟨s.toArray⟩))] [] (.tu [.ag [.z 0,.d (.v (.slice none 0 0)),.d (.v (.slice none 0 0))],.d (.v (.slice none 0 0)),.d (.v (.slice none 0 0)),.z 3]) ([]):=by
 refine aC.intro (by kernel_rfl) rfl rfl 100 rfl rfl fun D w0 K bs ac wd hK (al:bs.m=0) r=>?_
 cases h0:(decide ((524288:Int)<((s.length:Nat):Int))) with
 | false=>
  have aT:=of_decide_eq_false h0
  refine bp (todo':=hd Tryz.f20 0) (E':=[(0,.d (.v (.string ⟨s.toArray⟩))),(2,.pt 0 0),(6,.d (.ro 1 (strs (ak 10 s)))),(7,.z 0)]) (M':=[.bx 25 [.z 0,.d (.v (.slice none 0 0)),.d (.v (.slice none 0 0))]]) tk mo hK al [(1,[(2,.b false)]),(3,[(1,.aG (.ro 1 (strs (ak 10 s))))])] 2000 [0] [0,2,6,7] r (by kernel_rfl) (U h0 (U (nF s 10 (by omega)) trivial)) fun ac wd r=>?_
  refine aF.rounds (Φ:=fun (i:Nat) ac wd=>(i≤(ak 10 s).length∧bT ((ak 10 s).drop i) (i+1) false ⟨0,[],[]⟩ [] []=bT (ak 10 s) 1 false ⟨0,[],[]⟩ [] [])∧RB D w0 K 100 bs [(0,.d (.v (.string ⟨s.toArray⟩))),(2,.pt 0 0),(6,.d (.ro 1 (strs (ak 10 s)))),(7,.n i)] [.bx 25 [.z 0,.d (.v (.slice none 0 0)),.d (.v (.slice none 0 0))]] ac wd) ((ak 10 s).length) ?_ (Nat.zero_le _) ⟨⟨Nat.zero_le _,rfl⟩,(r).cast rfl rfl⟩
  clear r
  rintro i dw bj ac wd ⟨ao,r⟩
  have PE:=vC 10 s
  have aI:=((by first | rfl | (simp [strs];done)):(((strs (ak 10 s)).length:Nat):Int)=(((ak 10 s).length:Nat):Int))
  cases h1:(decide ((((i:Nat):Int):Int)<(((ak 10 s).length:Nat):Int))) with
  | false=>
   have bR:=of_decide_eq_false h1
   cases h2:((((i:Nat):Int):Int)==(((ak 10 s).length:Nat):Int)) with
   | false=>
    have cz:=ne_of_beq_false h2
    exact absurd cz (by omega)
   | true=>
    have cz:=eq_of_beq h2
    refine aY (y:=.tu [.ag [.z 0,.d (.v (.slice none 0 0)),.d (.v (.slice none 0 0))],.d (.v (.slice none 0 0)),.d (.v (.slice none 0 0)),.z 3]) (N':=[]) (rfl) (rfl) ?_
    exact aX tk mo hK rfl al [(5,[(2,.z ((((ak 10 s).length:Nat):Int))),(3,.b false)]),(7,[(2,.z ((((ak 10 s).length:Nat):Int))),(3,.b true)])] 2000 [] r (by kernel_rfl) (U aI (U h1 (U aI (U h2 trivial))))
  | true=>
   have bR:=of_decide_eq_true h1
   obtain ⟨x,cm⟩:∃ x_,(ak 10 s)[i]?=some x_:=⟨_,List.getElem?_eq_getElem (by omega)⟩
   have ko:x.length≤s.length:=kz (List.mem_of_getElem? cm)
   cases h3:(x==([]:List UInt8)) with
   | false=>
    obtain ⟨e0,g0⟩:=n8 (x:=x) (by assumption)
    have bd:=(⟨_,g0,rfl⟩:∃ u:UInt8,(x:List UInt8)[0]?=some u∧(.v (.int .u8 (((e0.toNat:Nat):Int))):DV)=.v (.int .u8 (u.toNat:Int)))
    cases h4:((((e0.toNat:Nat):Int):Int)==35) with
    | false=>
     have dT:=ne_of_beq_false h4
     have u5:=nY (x:=x) (by assumption) g0 (by assumption)
     cases h5:((((i:Nat):Int):Int)==(((ak 10 s).length:Nat):Int)) with
     | false=>
      have du:=ne_of_beq_false h5
      cases h6:((bI x).2) with
      | false=>
       refine aY (y:=.tu [.ag [.z 0,.d (.v (.slice none 0 0)),.d (.v (.slice none 0 0))],.d (.v (.slice none 0 0)),.d (.v (.slice none 0 0)),.z 3]) (N':=[]) (rfl) (rfl) ?_
       exact aX tk mo hK rfl al [(5,[(2,.z ((((ak 10 s).length:Nat):Int))),(3,.b true),(7,.ix (i) [.v (.string ⟨x.toArray⟩)]),(9,.b false),(13,.ix (i) [.v (.string ⟨x.toArray⟩)]),(15,.ix (0) [.v (.int .u8 (((e0.toNat:Nat):Int)))]),(16,.b false)]),(7,[(2,.z ((((ak 10 s).length:Nat):Int))),(3,.b false)]),(9,[(2,.ix (i) [.v (.string ⟨x.toArray⟩)]),(4,.mem [] (.tu [.ag [.z ((bI x).1.aD),.sl 0 ((bI x).1.ah.length),.sl 1 ((bI x).1.homes.length)],.d (.v (.bool ((bI x).2)))]) [.rw 60 2 (ah (bI x).1.ah),.rw 3 1 (ints (bI x).1.homes)])]),(10,[(1,.b true)])] 2000 [] r (by kernel_rfl) (U aI (U h1 (U (ax ((i:Nat):Int)) (U (eM cm) (U h3 (U (ax ((i:Nat):Int)) (U (eM cm) (U (rfl:(0:Int)=((0:Nat):Int)) (U bd (U h4 (U aI (U h5 (U (ax ((i:Nat):Int)) (U (eM cm) (U (AG x (by omega)) (U ((by rw [h6];rfl):(!((bI x).2))=true) trivial))))))))))))))))
      | true=>
       have E5:(bI x).2=true:=by assumption
       exact absurd (C1 cm u5 h6 ao.2).symm (fun q=>by obtain ⟨S,B,e⟩:=vX ((ak 10 s).drop (i+1)) (i+1+1) (bI x).1 [] [];exact hS _ _ _ (q.trans e))
     | true=>
      have du:=eq_of_beq h5
      exact absurd du (by omega)
    | true=>
     have dT:=eq_of_beq h4
     exact bp (todo':=hd Tryz.f20 0) (E':=[(0,.d (.v (.string ⟨s.toArray⟩))),(2,.pt 0 0),(6,.d (.ro 1 (strs (ak 10 s)))),(7,.n (i+1))]) (M':=[.bx 25 [.z 0,.d (.v (.slice none 0 0)),.d (.v (.slice none 0 0))]]) tk mo hK al [(5,[(2,.z ((((ak 10 s).length:Nat):Int))),(3,.b true),(7,.ix (i) [.v (.string ⟨x.toArray⟩)]),(9,.b false),(13,.ix (i) [.v (.string ⟨x.toArray⟩)]),(15,.ix (0) [.v (.int .u8 (((e0.toNat:Nat):Int)))]),(16,.b true)]),(6,[(1,.z (((i+1:Nat):Int)))])] 2000 [0] [0,2,6,7] r (by kernel_rfl) (U aI (U h1 (U (ax ((i:Nat):Int)) (U (eM cm) (U h3 (U (ax ((i:Nat):Int)) (U (eM cm) (U (rfl:(0:Int)=((0:Nat):Int)) (U bd (U h4 (U ((wi (by omega)):IntKind.i64.wrap ((((i:Nat):Int):Int)+1)=((i+1:Nat):Int)) trivial))))))))))) fun ac wd r=>bj (by omega) ac wd ⟨⟨by omega,by rw [← ao.2];exact (pC cm (.inr ((gF g0).trans (congrArg some (nW (by omega)))))).symm⟩,r.cast rfl rfl⟩
   | true=>
    exact bp (todo':=hd Tryz.f20 0) (E':=[(0,.d (.v (.string ⟨s.toArray⟩))),(2,.pt 0 0),(6,.d (.ro 1 (strs (ak 10 s)))),(7,.n (i+1))]) (M':=[.bx 25 [.z 0,.d (.v (.slice none 0 0)),.d (.v (.slice none 0 0))]]) tk mo hK al [(5,[(2,.z ((((ak 10 s).length:Nat):Int))),(3,.b true),(7,.ix (i) [.v (.string ⟨x.toArray⟩)]),(9,.b true)]),(6,[(1,.z (((i+1:Nat):Int)))])] 2000 [0] [0,2,6,7] r (by kernel_rfl) (U aI (U h1 (U (ax ((i:Nat):Int)) (U (eM cm) (U h3 (U ((wi (by omega)):IntKind.i64.wrap ((((i:Nat):Int):Int)+1)=((i+1:Nat):Int)) trivial)))))) fun ac wd r=>bj (by omega) ac wd ⟨⟨by omega,by rw [← ao.2];exact (pC cm (.inl (eq_of_beq h3))).symm⟩,r.cast rfl rfl⟩
 | true=>
  have aT:=of_decide_eq_true h0
  exact absurd aT (by omega)
set_option maxRecDepth 100000 in
theorem Hl (s:List UInt8) (hl:s.length≤524288) (c1:bK) (S1:List (aB×Bool)) (B1:List Int) (hS:bT (ak 10 s) 1 false ⟨0,[],[]⟩ [] []=some (true,c1,S1,B1)):aC Tryz.prog 20 [.d (.v (.string ⟨s.toArray⟩))] [] (.tu [.ag [.z c1.aD,.sl 0 c1.ah.length,.sl 1 c1.homes.length],.sl 2 S1.length,.sl 3 B1.length,.z 0]) ([.rw 60 2 (ah c1.ah),.rw 3 1 (ints c1.homes),.rw 42 7 (bO (eh S1)),.rw 3 1 (ints B1)]):=by
 refine aC.intro (by kernel_rfl) rfl rfl 100 rfl rfl fun D w0 K bs ac wd hK (al:bs.m=0) r=>?_
 cases h0:(decide ((524288:Int)<((s.length:Nat):Int))) with
 | false=>
  have aT:=of_decide_eq_false h0
  refine bp (todo':=hd Tryz.f20 0) (E':=[(0,.d (.v (.string ⟨s.toArray⟩))),(2,.pt 0 0),(6,.d (.ro 1 (strs (ak 10 s)))),(7,.z 0)]) (M':=[.bx 25 [.z 0,.d (.v (.slice none 0 0)),.d (.v (.slice none 0 0))]]) tk mo hK al [(1,[(2,.b false)]),(3,[(1,.aG (.ro 1 (strs (ak 10 s))))])] 2000 [0] [0,2,6,7] r (by kernel_rfl) (U h0 (U (nF s 10 (by omega)) trivial)) fun ac wd r=>?_
  refine aF.rounds (Φ:=fun (i:Nat) ac wd=>(i≤(ak 10 s).length∧bT ((ak 10 s).drop i) (i+1) false ⟨0,[],[]⟩ [] []=some (true,c1,S1,B1))∧RB D w0 K 100 bs [(0,.d (.v (.string ⟨s.toArray⟩))),(2,.pt 0 0),(6,.d (.ro 1 (strs (ak 10 s)))),(7,.n i)] [.bx 25 [.z 0,.d (.v (.slice none 0 0)),.d (.v (.slice none 0 0))]] ac wd) ((ak 10 s).length) ?_ (Nat.zero_le _) ⟨⟨Nat.zero_le _,hS⟩,(r).cast rfl rfl⟩
  clear r
  rintro i dw bj ac wd ⟨ao,r⟩
  have PE:=vC 10 s
  have aI:=((by first | rfl | (simp [strs];done)):(((strs (ak 10 s)).length:Nat):Int)=(((ak 10 s).length:Nat):Int))
  cases h1:(decide ((((i:Nat):Int):Int)<(((ak 10 s).length:Nat):Int))) with
  | false=>
   have bR:=of_decide_eq_false h1
   exact absurd (xC (by omega) ao.2) (by simp)
  | true=>
   have bR:=of_decide_eq_true h1
   obtain ⟨x,cm⟩:∃ x_,(ak 10 s)[i]?=some x_:=⟨_,List.getElem?_eq_getElem (by omega)⟩
   have ko:x.length≤s.length:=kz (List.mem_of_getElem? cm)
   cases h2:(x==([]:List UInt8)) with
   | false=>
    obtain ⟨e0,g0⟩:=n8 (x:=x) (by assumption)
    have bd:=(⟨_,g0,rfl⟩:∃ u:UInt8,(x:List UInt8)[0]?=some u∧(.v (.int .u8 (((e0.toNat:Nat):Int))):DV)=.v (.int .u8 (u.toNat:Int)))
    cases h3:((((e0.toNat:Nat):Int):Int)==35) with
    | false=>
     have cT:=ne_of_beq_false h3
     have u5:=nY (x:=x) (by assumption) g0 (by assumption)
     cases h4:((((i:Nat):Int):Int)==(((ak 10 s).length:Nat):Int)) with
     | false=>
      have dT:=ne_of_beq_false h4
      cases h5:((bI x).2) with
      | false=>
       exact absurd (Nk cm u5 h5 ao.2) (by simp)
      | true=>
       have E5:(bI x).2=true:=by assumption
       refine bp (todo':=hd Tryz.f20 1) (E':=[(0,.d (.v (.string ⟨s.toArray⟩))),(2,.pt 0 0),(6,.d (.ro 1 (strs (ak 10 s)))),(7,.n (i+1)),(8,.pt 1 0),(10,.d (.v (.slice none 0 0))),(11,.d (.v (.slice none 0 0)))]) (M':=[.bx 25 [.z 0,.d (.v (.slice none 0 0)),.d (.v (.slice none 0 0))],.bx 25 [.z ((bI x).1.aD),.sl 2 ((bI x).1.ah.length),.sl 3 ((bI x).1.homes.length)],.rw 60 2 (ah (bI x).1.ah),.rw 3 1 (ints (bI x).1.homes)]) tk mo hK al [(5,[(2,.z ((((ak 10 s).length:Nat):Int))),(3,.b true),(7,.ix (i) [.v (.string ⟨x.toArray⟩)]),(9,.b false),(13,.ix (i) [.v (.string ⟨x.toArray⟩)]),(15,.ix (0) [.v (.int .u8 (((e0.toNat:Nat):Int)))]),(16,.b false)]),(7,[(2,.z ((((ak 10 s).length:Nat):Int))),(3,.b false)]),(9,[(2,.ix (i) [.v (.string ⟨x.toArray⟩)]),(4,.mem [] (.tu [.ag [.z ((bI x).1.aD),.sl 0 ((bI x).1.ah.length),.sl 1 ((bI x).1.homes.length)],.d (.v (.bool ((bI x).2)))]) [.rw 60 2 (ah (bI x).1.ah),.rw 3 1 (ints (bI x).1.homes)])]),(10,[(1,.b false)]),(14,[(1,.z (((i+1:Nat):Int)))])] 2000 [0,3,1,2] [0,2,6,7,8,10,11] r (by kernel_rfl) (U aI (U h1 (U (ax ((i:Nat):Int)) (U (eM cm) (U h2 (U (ax ((i:Nat):Int)) (U (eM cm) (U (rfl:(0:Int)=((0:Nat):Int)) (U bd (U h3 (U aI (U h4 (U (ax ((i:Nat):Int)) (U (eM cm) (U (AG x (by omega)) (U ((by rw [h5];rfl):(!((bI x).2))=false) (U ((wi (by omega)):IntKind.i64.wrap ((((i:Nat):Int):Int)+1)=((i+1:Nat):Int)) trivial))))))))))))))))) fun ac wd r=>?_
       refine aF.rounds (Φ:=fun (k:Nat) ac wd=>∃ S:List (aB×Bool),∃ B:List Int,(i+1+k≤(ak 10 s).length∧bT ((ak 10 s).drop (i+1+k)) (i+1+k+1) true (bI x).1 S B=some (true,c1,S1,B1)∧S.length≤k∧B.length≤k)∧RB D w0 K 100 bs [(0,.d (.v (.string ⟨s.toArray⟩))),(2,.pt 0 0),(6,.d (.ro 1 (strs (ak 10 s)))),(7,.n (i+1+k)),(8,.pt 1 0),(10,.sl 4 (S.length)),(11,.sl 5 (B.length))] [.bx 25 [.z 0,.d (.v (.slice none 0 0)),.d (.v (.slice none 0 0))],.bx 25 [.z ((bI x).1.aD),.sl 2 ((bI x).1.ah.length),.sl 3 ((bI x).1.homes.length)],.rw 60 2 (ah (bI x).1.ah),.rw 3 1 (ints (bI x).1.homes),.rw 42 7 (bO (eh S)),.rw 3 1 (ints B)] ac wd) ((ak 10 s).length-(i+1)) ?_ (Nat.zero_le _) ⟨[],[],⟨by omega,C1 cm u5 E5 ao.2,Nat.le_refl _,Nat.le_refl _⟩,(r.dA (M1:=[.bx 25 [.z 0,.d (.v (.slice none 0 0)),.d (.v (.slice none 0 0))],.bx 25 [.z ((bI x).1.aD),.sl 2 ((bI x).1.ah.length),.sl 3 ((bI x).1.homes.length)],.rw 60 2 (ah (bI x).1.ah),.rw 3 1 (ints (bI x).1.homes),.rw 42 7 [],.rw 3 1 []]) [(10,42,7),(11,3,1)] [] (by kernel_rfl) (by kernel_rfl)).cast rfl rfl⟩
       clear r
       rintro k kX c9 ac wd ⟨S,B,bo,r⟩
       cases h6:(decide ((((i+1+k:Nat):Int):Int)<(((ak 10 s).length:Nat):Int))) with
       | false=>
        have dx:=of_decide_eq_false h6
        refine aY (y:=.tu [.ag [.z ((bI x).1.aD),.sl 0 ((bI x).1.ah.length),.sl 1 ((bI x).1.homes.length)],.sl 2 (S.length),.sl 3 (B.length),.z 0]) (N':=[.rw 60 2 (ah (bI x).1.ah),.rw 3 1 (ints (bI x).1.homes),.rw 42 7 (bO (eh S)),.rw 3 1 (ints B)]) ((by have e:=xC (by omega) bo.2.1;simp only [Option.some.injEq,Prod.mk.injEq] at e;obtain ⟨-,e2,e3,e4⟩:=e;rw [e2,e3,e4])) ((by have e:=xC (by omega) bo.2.1;simp only [Option.some.injEq,Prod.mk.injEq] at e;obtain ⟨-,e2,e3,e4⟩:=e;rw [e2,e3,e4])) ?_
        exact aX tk mo hK rfl al [(15,[(2,.z ((((ak 10 s).length:Nat):Int))),(3,.b false)])] 2000 [2,3,4,5] r (by kernel_rfl) (U aI (U h6 trivial))
       | true=>
        have dx:=of_decide_eq_true h6
        obtain ⟨y,hY⟩:∃ x_,(ak 10 s)[i+1+k]?=some x_:=⟨_,List.getElem?_eq_getElem (by omega)⟩
        have r5:y.length≤s.length:=kz (List.mem_of_getElem? hY)
        cases h7:(y==([]:List UInt8)) with
        | false=>
         obtain ⟨e1,g1⟩:=n8 (x:=y) (by assumption)
         have b6:=(⟨_,g1,rfl⟩:∃ u:UInt8,(y:List UInt8)[0]?=some u∧(.v (.int .u8 (((e1.toNat:Nat):Int))):DV)=.v (.int .u8 (u.toNat:Int)))
         cases h8:((((e1.toNat:Nat):Int):Int)==35) with
         | false=>
          have fg:=ne_of_beq_false h8
          have E6:=nY (x:=y) (by assumption) g1 (by assumption)
          have cO:=((by first | rfl | (simp [ah,ints,af,bO,e5];done)):(S.length)=(bO (eh S):List (List DV)).length)
          have cg:=((by first | rfl | (simp [ah,ints,af,bO,e5];done)):(1)=([[.z ((aA y).1.kind),.z ((aA y).1.node),.z ((aA y).1.peer),.z ((aA y).1.n),.z ((aA y).1.bit),.u ((aA y).1.inc),.em 5 1 (af (aA y).1.body)]]:List (List DV)).length)
          have ek:=((by first | omega | (simp;omega)):(2*((S.length)+(1))+192)*72≤281474976710656)
          have df:=((by first | omega | (simp;omega)):(S.length)+(1)<4611686018427387904)
          have en:=((by simp [aW,AV.one,bQ,af,ah,ints,steps,strs]):aW ([[.z ((aA y).1.kind),.z ((aA y).1.node),.z ((aA y).1.peer),.z ((aA y).1.n),.z ((aA y).1.bit),.u ((aA y).1.inc),.em 5 1 (af (aA y).1.body)]]))
          cases h9:((aA y).2) with
          | false=>
           exact bp (todo':=hd Tryz.f20 1) (E':=[(0,.d (.v (.string ⟨s.toArray⟩))),(2,.pt 0 0),(6,.d (.ro 1 (strs (ak 10 s)))),(7,.n (i+1+k+1)),(8,.pt 1 0),(10,.sl 4 (S.length+(1))),(11,.sl 5 (B.length+(1)))]) (M':=[.bx 25 [.z 0,.d (.v (.slice none 0 0)),.d (.v (.slice none 0 0))],.bx 25 [.z ((bI x).1.aD),.sl 2 ((bI x).1.ah.length),.sl 3 ((bI x).1.homes.length)],.rw 60 2 (ah (bI x).1.ah),.rw 3 1 (ints (bI x).1.homes),.rw 42 7 (bO (eh S)++[[.z ((aA y).1.kind),.z ((aA y).1.node),.z ((aA y).1.peer),.z ((aA y).1.n),.z ((aA y).1.bit),.u ((aA y).1.inc),.em 5 1 (af (aA y).1.body)]]),.rw 3 1 (ints B++[[.n (i+1+k+1)]])]) tk mo hK al [(15,[(2,.z ((((ak 10 s).length:Nat):Int))),(3,.b true)]),(16,[(1,.z (((i+1+k+1:Nat):Int)))]),(17,[(2,.ix (i+1+k) [.v (.string ⟨y.toArray⟩)]),(4,.b false),(8,.ix (i+1+k) [.v (.string ⟨y.toArray⟩)]),(10,.ix (0) [.v (.int .u8 (((e1.toNat:Nat):Int)))]),(11,.b false)]),(18,[(2,.ix (i+1+k) [.v (.string ⟨y.toArray⟩)]),(4,.mem [] (.tu [.ag [.z ((aA y).1.kind),.z ((aA y).1.node),.z ((aA y).1.peer),.z ((aA y).1.n),.z ((aA y).1.bit),.u ((aA y).1.inc),.sl 0 ((af (aA y).1.body).length)],.d (.v (.bool ((aA y).2)))]) [.rw 5 1 (af (aA y).1.body)])]),(20,[(1,.b true)]),(21,[(2,.z (((i+1+k+1:Nat):Int)))])] 2000 [0,1,2,3,4,5] [0,2,6,7,8,10,11] r (by kernel_rfl) (U aI (U h6 (U (ax ((i+1+k:Nat):Int)) (U (eM hY) (U h7 (U (ax ((i+1+k:Nat):Int)) (U (eM hY) (U (rfl:(0:Int)=((0:Nat):Int)) (U b6 (U h8 (U (ax ((i+1+k:Nat):Int)) (U (eM hY) (U (AF y (by omega)) (U (cK ((af (aA y).1.body).length)) (U cO (U cg (U ek (U df (U en (U ((by rw [h9];rfl):(!((aA y).2))=true) (U ((wi (by omega)):IntKind.i64.wrap ((((i+1+k:Nat):Int):Int)+1)=((i+1+k+1:Nat):Int)) (U ((by first | rfl | (simp [ah,ints,af,bO,e5];done)):(B.length)=(ints B).length) (U ((by first | rfl | (simp [ah,ints,af,bO,e5];done)):(1)=([[.n (i+1+k+1)]]:List (List DV)).length) (U ((by first | omega | (simp;omega)):(2*((B.length)+(1))+192)*8≤281474976710656) (U ((by first | omega | (simp;omega)):(B.length)+(1)<4611686018427387904) (U ((by simp [aW,AV.one,bQ,af,ah,ints,steps,strs]):aW ([[.n (i+1+k+1)]])) (U ((wi (by omega)):IntKind.i64.wrap ((((i+1+k:Nat):Int):Int)+1)=((i+1+k+1:Nat):Int)) trivial))))))))))))))))))))))))))) fun ac wd r=>c9 (by omega) ac wd ⟨(S++[aA y]),(B++[((i+1+k+1:Nat):Int)]),⟨by omega,by rw [← bo.2.1,CY hY E6,h9];rfl,by simp;omega,by first | omega | (simp;omega)⟩,r.cast (by first | rfl | (simp;done) | (simp;omega)) (by rw [AH];simp [ints,aB.jw])⟩
          | true=>
           exact bp (todo':=hd Tryz.f20 1) (E':=[(0,.d (.v (.string ⟨s.toArray⟩))),(2,.pt 0 0),(6,.d (.ro 1 (strs (ak 10 s)))),(7,.n (i+1+k+1)),(8,.pt 1 0),(10,.sl 4 (S.length+(1))),(11,.sl 5 (B.length))]) (M':=[.bx 25 [.z 0,.d (.v (.slice none 0 0)),.d (.v (.slice none 0 0))],.bx 25 [.z ((bI x).1.aD),.sl 2 ((bI x).1.ah.length),.sl 3 ((bI x).1.homes.length)],.rw 60 2 (ah (bI x).1.ah),.rw 3 1 (ints (bI x).1.homes),.rw 42 7 (bO (eh S)++[[.z ((aA y).1.kind),.z ((aA y).1.node),.z ((aA y).1.peer),.z ((aA y).1.n),.z ((aA y).1.bit),.u ((aA y).1.inc),.em 5 1 (af (aA y).1.body)]]),.rw 3 1 (ints B)]) tk mo hK al [(15,[(2,.z ((((ak 10 s).length:Nat):Int))),(3,.b true)]),(16,[(1,.z (((i+1+k+1:Nat):Int)))]),(17,[(2,.ix (i+1+k) [.v (.string ⟨y.toArray⟩)]),(4,.b false),(8,.ix (i+1+k) [.v (.string ⟨y.toArray⟩)]),(10,.ix (0) [.v (.int .u8 (((e1.toNat:Nat):Int)))]),(11,.b false)]),(18,[(2,.ix (i+1+k) [.v (.string ⟨y.toArray⟩)]),(4,.mem [] (.tu [.ag [.z ((aA y).1.kind),.z ((aA y).1.node),.z ((aA y).1.peer),.z ((aA y).1.n),.z ((aA y).1.bit),.u ((aA y).1.inc),.sl 0 ((af (aA y).1.body).length)],.d (.v (.bool ((aA y).2)))]) [.rw 5 1 (af (aA y).1.body)])]),(20,[(1,.b false)])] 2000 [0,1,2,3,4,5] [0,2,6,7,8,10,11] r (by kernel_rfl) (U aI (U h6 (U (ax ((i+1+k:Nat):Int)) (U (eM hY) (U h7 (U (ax ((i+1+k:Nat):Int)) (U (eM hY) (U (rfl:(0:Int)=((0:Nat):Int)) (U b6 (U h8 (U (ax ((i+1+k:Nat):Int)) (U (eM hY) (U (AF y (by omega)) (U (cK ((af (aA y).1.body).length)) (U cO (U cg (U ek (U df (U en (U ((by rw [h9];rfl):(!((aA y).2))=false) (U ((wi (by omega)):IntKind.i64.wrap ((((i+1+k:Nat):Int):Int)+1)=((i+1+k+1:Nat):Int)) trivial))))))))))))))))))))) fun ac wd r=>c9 (by omega) ac wd ⟨(S++[aA y]),B,⟨by omega,by rw [← bo.2.1,CY hY E6,h9];rfl,by simp;omega,by first | omega | (simp;omega)⟩,r.cast (by first | rfl | (simp;done) | (simp;omega)) (by rw [AH];simp [ints,aB.jw])⟩
         | true=>
          have fg:=eq_of_beq h8
          exact bp (todo':=hd Tryz.f20 1) (E':=[(0,.d (.v (.string ⟨s.toArray⟩))),(2,.pt 0 0),(6,.d (.ro 1 (strs (ak 10 s)))),(7,.n (i+1+k+1)),(8,.pt 1 0),(10,.sl 4 (S.length)),(11,.sl 5 (B.length))]) (M':=[.bx 25 [.z 0,.d (.v (.slice none 0 0)),.d (.v (.slice none 0 0))],.bx 25 [.z ((bI x).1.aD),.sl 2 ((bI x).1.ah.length),.sl 3 ((bI x).1.homes.length)],.rw 60 2 (ah (bI x).1.ah),.rw 3 1 (ints (bI x).1.homes),.rw 42 7 (bO (eh S)),.rw 3 1 (ints B)]) tk mo hK al [(15,[(2,.z ((((ak 10 s).length:Nat):Int))),(3,.b true)]),(16,[(1,.z (((i+1+k+1:Nat):Int)))]),(17,[(2,.ix (i+1+k) [.v (.string ⟨y.toArray⟩)]),(4,.b false),(8,.ix (i+1+k) [.v (.string ⟨y.toArray⟩)]),(10,.ix (0) [.v (.int .u8 (((e1.toNat:Nat):Int)))]),(11,.b true)])] 2000 [0,1,2,3,4,5] [0,2,6,7,8,10,11] r (by kernel_rfl) (U aI (U h6 (U (ax ((i+1+k:Nat):Int)) (U (eM hY) (U h7 (U (ax ((i+1+k:Nat):Int)) (U (eM hY) (U (rfl:(0:Int)=((0:Nat):Int)) (U b6 (U h8 (U ((wi (by omega)):IntKind.i64.wrap ((((i+1+k:Nat):Int):Int)+1)=((i+1+k+1:Nat):Int)) trivial))))))))))) fun ac wd r=>c9 (by omega) ac wd ⟨S,B,⟨by omega,by rw [← bo.2.1];exact (pC hY (.inr ((gF g1).trans (congrArg some (nW (by omega)))))).symm,by omega,by omega⟩,r.cast (by first | rfl | (simp;done) | (simp;omega)) rfl⟩
        | true=>
         exact bp (todo':=hd Tryz.f20 1) (E':=[(0,.d (.v (.string ⟨s.toArray⟩))),(2,.pt 0 0),(6,.d (.ro 1 (strs (ak 10 s)))),(7,.n (i+1+k+1)),(8,.pt 1 0),(10,.sl 4 (S.length)),(11,.sl 5 (B.length))]) (M':=[.bx 25 [.z 0,.d (.v (.slice none 0 0)),.d (.v (.slice none 0 0))],.bx 25 [.z ((bI x).1.aD),.sl 2 ((bI x).1.ah.length),.sl 3 ((bI x).1.homes.length)],.rw 60 2 (ah (bI x).1.ah),.rw 3 1 (ints (bI x).1.homes),.rw 42 7 (bO (eh S)),.rw 3 1 (ints B)]) tk mo hK al [(15,[(2,.z ((((ak 10 s).length:Nat):Int))),(3,.b true)]),(16,[(1,.z (((i+1+k+1:Nat):Int)))]),(17,[(2,.ix (i+1+k) [.v (.string ⟨y.toArray⟩)]),(4,.b true)])] 2000 [0,1,2,3,4,5] [0,2,6,7,8,10,11] r (by kernel_rfl) (U aI (U h6 (U (ax ((i+1+k:Nat):Int)) (U (eM hY) (U h7 (U ((wi (by omega)):IntKind.i64.wrap ((((i+1+k:Nat):Int):Int)+1)=((i+1+k+1:Nat):Int)) trivial)))))) fun ac wd r=>c9 (by omega) ac wd ⟨S,B,⟨by omega,by rw [← bo.2.1];exact (pC hY (.inl (eq_of_beq h7))).symm,by omega,by omega⟩,r.cast (by first | rfl | (simp;done) | (simp;omega)) rfl⟩
     | true=>
      have dT:=eq_of_beq h4
      exact absurd dT (by omega)
    | true=>
     have cT:=eq_of_beq h3
     exact bp (todo':=hd Tryz.f20 0) (E':=[(0,.d (.v (.string ⟨s.toArray⟩))),(2,.pt 0 0),(6,.d (.ro 1 (strs (ak 10 s)))),(7,.n (i+1))]) (M':=[.bx 25 [.z 0,.d (.v (.slice none 0 0)),.d (.v (.slice none 0 0))]]) tk mo hK al [(5,[(2,.z ((((ak 10 s).length:Nat):Int))),(3,.b true),(7,.ix (i) [.v (.string ⟨x.toArray⟩)]),(9,.b false),(13,.ix (i) [.v (.string ⟨x.toArray⟩)]),(15,.ix (0) [.v (.int .u8 (((e0.toNat:Nat):Int)))]),(16,.b true)]),(6,[(1,.z (((i+1:Nat):Int)))])] 2000 [0] [0,2,6,7] r (by kernel_rfl) (U aI (U h1 (U (ax ((i:Nat):Int)) (U (eM cm) (U h2 (U (ax ((i:Nat):Int)) (U (eM cm) (U (rfl:(0:Int)=((0:Nat):Int)) (U bd (U h3 (U ((wi (by omega)):IntKind.i64.wrap ((((i:Nat):Int):Int)+1)=((i+1:Nat):Int)) trivial))))))))))) fun ac wd r=>bj (by omega) ac wd ⟨⟨by omega,by rw [← ao.2];exact (pC cm (.inr ((gF g0).trans (congrArg some (nW (by omega)))))).symm⟩,r.cast rfl rfl⟩
   | true=>
    exact bp (todo':=hd Tryz.f20 0) (E':=[(0,.d (.v (.string ⟨s.toArray⟩))),(2,.pt 0 0),(6,.d (.ro 1 (strs (ak 10 s)))),(7,.n (i+1))]) (M':=[.bx 25 [.z 0,.d (.v (.slice none 0 0)),.d (.v (.slice none 0 0))]]) tk mo hK al [(5,[(2,.z ((((ak 10 s).length:Nat):Int))),(3,.b true),(7,.ix (i) [.v (.string ⟨x.toArray⟩)]),(9,.b true)]),(6,[(1,.z (((i+1:Nat):Int)))])] 2000 [0] [0,2,6,7] r (by kernel_rfl) (U aI (U h1 (U (ax ((i:Nat):Int)) (U (eM cm) (U h2 (U ((wi (by omega)):IntKind.i64.wrap ((((i:Nat):Int):Int)+1)=((i+1:Nat):Int)) trivial)))))) fun ac wd r=>bj (by omega) ac wd ⟨⟨by omega,by rw [← ao.2];exact (pC cm (.inl (eq_of_beq h2))).symm⟩,r.cast rfl rfl⟩
 | true=>
  have aT:=of_decide_eq_true h0
  exact absurd aT (by omega)
end Go.Proofs.YtcnpikbbmbombaaGreatDoor
namespace Go.Proofs.YtcnpikbbmbombaaGreatDoor
open Go.RowKit
def lP (q:List UInt8):List UInt8:=if h:q=[] then [] else if au 10 q=[]∨(au 10 q).head?=some 35 then lP (bq 10 q) else q
termination_by q.length
decreasing_by
 have:=qQ h
 omega
theorem BJ {q:List UInt8} (hq:q≠[]) (h:au 10 q=[]∨(au 10 q).head?=some 35):lP q=lP (bq 10 q):=by rw [lP,dif_neg hq,if_pos h]
theorem I6 {q:List UInt8} (hq:q≠[]) (h:¬ (au 10 q=[]∨(au 10 q).head?=some 35)):lP q=q:=by rw [lP,dif_neg hq,if_neg h]
set_option maxRecDepth 100000 in
theorem I7 (s:List UInt8) (hl:s.length≤524288) (hS:bT (fw s) 1 false ⟨0,[],[]⟩ [] []=none):aC Tryz.prog 78 [.yl 7,.pt 0 0] [.bx 9 [.d (.v (.string ⟨s.toArray⟩))],.gw 0 ai,.bx 25 [.z 0,.d (.v (.slice none 0 0)),.d (.v (.slice none 0 0))],.bx 26 [.d (.v (.slice none 0 0))],.bx 23 [.d (.v (.slice none 0 0))],.bx 32 [.z 0],.bx 4 [.d (.v (.bool false))],.lp .ready 19 61 [(2,.pt 2 0),(3,.pt 3 0),(4,.pt 4 0),(5,.pt 5 0),(6,.pt 6 0)] (cV Tryz.f19 0)] (.tu []) ([.bx 9 [.d (.v (.string ⟨(lP s).toArray⟩))],.gw 0 ai,.bx 25 [.z 0,.d (.v (.slice none 0 0)),.d (.v (.slice none 0 0))],.bx 26 [.d (.v (.slice none 0 0))],.bx 23 [.d (.v (.slice none 0 0))],.bx 32 [.z 3],.bx 4 [.d (.v (.bool false))],.lp .left 19 61 [(2,.pt 2 0),(3,.pt 3 0),(4,.pt 4 0),(5,.pt 5 0),(6,.pt 6 0)] (cV Tryz.f19 0)]):=by
 refine aC.intro (by kernel_rfl) rfl rfl 23 rfl rfl fun D w0 K bs ac wd hK (al:bs.m=8) r=>?_
 refine bp (todo':=hd Tryz.f78 0) (E':=[(0,.yl 7),(1,.pt 0 0),(3,.z 1)]) (M':=[.bx 9 [.d (.v (.string ⟨s.toArray⟩))],.gw 0 ai,.bx 25 [.z 0,.d (.v (.slice none 0 0)),.d (.v (.slice none 0 0))],.bx 26 [.d (.v (.slice none 0 0))],.bx 23 [.d (.v (.slice none 0 0))],.bx 32 [.z 0],.bx 4 [.d (.v (.bool false))],.lp .ready 19 61 [(2,.pt 2 0),(3,.pt 3 0),(4,.pt 4 0),(5,.pt 5 0),(6,.pt 6 0)] (cV Tryz.f19 0)]) tk mo hK al [] 2000 [0,1,2,3,4,5,6,7] [0,1,3] r (by kernel_rfl) trivial fun ac wd r=>?_
 refine aF.rounds (Φ:=fun (i:Nat) ac wd=>∃ q:List UInt8,∃ b:Bool,∃ c:bK,∃ S:List (aB×Bool),∃ B:List Int,(i+q.length≤s.length∧S.length≤i∧B.length≤i∧bT (fw q) (i+1) b c S B=none∧(b=false→lP q=lP s))∧RB D w0 K 23 bs [(0,.yl 7),(1,.pt 0 0),(3,.n (i+1))] [.bx 9 [.d (.v (.string ⟨q.toArray⟩))],.gw 0 ai,.bx 25 [.z c.aD,.sl 8 (c.ah.length),.sl 9 (c.homes.length)],.bx 26 [.sl 10 (S.length)],.bx 23 [.sl 11 (B.length)],.bx 32 [.z 0],.bx 4 [.d (.v (.bool b))],.lp .ready 19 61 [(2,.pt 2 0),(3,.pt 3 0),(4,.pt 4 0),(5,.pt 5 0),(6,.pt 6 0)] (cV Tryz.f19 0),.rw 60 2 (ah c.ah),.rw 3 1 (ints c.homes),.rw 42 7 (bE S),.rw 3 1 (ints B)] ac wd) (s.length) ?_ (Nat.zero_le _) ⟨s,false,⟨0,[],[]⟩,[],[],⟨by simp,Nat.zero_le _,Nat.zero_le _,hS,fun _=>rfl⟩,(r.dA (E1:=[(0,.yl 7),(1,.pt 0 0),(3,.z 1)]) (M2:=[.bx 9 [.d (.v (.string ⟨s.toArray⟩))],.gw 0 ai,.bx 25 [.z 0,.sl 8 (0),.sl 9 (0)],.bx 26 [.sl 10 (0)],.bx 23 [.sl 11 (0)],.bx 32 [.z 0],.bx 4 [.d (.v (.bool false))],.lp .ready 19 61 [(2,.pt 2 0),(3,.pt 3 0),(4,.pt 4 0),(5,.pt 5 0),(6,.pt 6 0)] (cV Tryz.f19 0),.rw 60 2 ([]),.rw 3 1 ([]),.rw 42 7 ([]),.rw 3 1 ([])]) (M1:=[.bx 9 [.d (.v (.string ⟨s.toArray⟩))],.gw 0 ai,.bx 25 [.z 0,.d (.v (.slice none 0 0)),.d (.v (.slice none 0 0))],.bx 26 [.d (.v (.slice none 0 0))],.bx 23 [.d (.v (.slice none 0 0))],.bx 32 [.z 0],.bx 4 [.d (.v (.bool false))],.lp .ready 19 61 [(2,.pt 2 0),(3,.pt 3 0),(4,.pt 4 0),(5,.pt 5 0),(6,.pt 6 0)] (cV Tryz.f19 0)]) [] [(2,1,60,2),(2,2,3,1),(3,0,42,7),(4,0,3,1)] (by kernel_rfl) (by kernel_rfl)).cast rfl rfl⟩
 clear r
 rintro i dw bj ac wd ⟨q,b,c,S,B,ao,r⟩
 cases b with
 | false=>
  cases h0:(q==([]:List UInt8)) with
  | false=>
   have cN:=ne_nil (x:=q) (by assumption)
   have zU:=qQ cN
   cases h1:((au 10 q)==([]:List UInt8)) with
   | false=>
    obtain ⟨e0,g0⟩:=n8 (x:=(au 10 q)) (by assumption)
    have aI:=(⟨_,g0,rfl⟩:∃ u:UInt8,((au 10 q):List UInt8)[0]?=some u∧(.v (.int .u8 (((e0.toNat:Nat):Int))):DV)=.v (.int .u8 (u.toNat:Int)))
    cases h2:((((e0.toNat:Nat):Int):Int)==35) with
    | false=>
     have cz:=ne_of_beq_false h2
     have j5:=nY (x:=(au 10 q)) (by assumption) g0 (by assumption)
     cases h3:((ct (au 10 q)).2) with
     | false=>
      refine aY (y:=.tu []) (N':=[.bx 9 [.d (.v (.string ⟨q.toArray⟩))],.gw 0 ai,.bx 25 [.z 0,.d (.v (.slice none 0 0)),.d (.v (.slice none 0 0))],.bx 26 [.d (.v (.slice none 0 0))],.bx 23 [.d (.v (.slice none 0 0))],.bx 32 [.z 3],.bx 4 [.d (.v (.bool false))],.lp .left 19 61 [(2,.pt 2 0),(3,.pt 3 0),(4,.pt 4 0),(5,.pt 5 0),(6,.pt 6 0)] (cV Tryz.f19 0)]) (rfl) ((by rw [← ao.2.2.2.2 rfl,I6 cN j5])) ?_
      exact aX tk mo hK rfl al [(1,[(1,.b true)]),(3,[(1,.aG (.tu [.v (.string ⟨(au 10 q).toArray⟩),.v (.string ⟨(bq 10 q).toArray⟩),.v (.bool (decide (0<q.count 10)))]))]),(4,[(3,.bw 200 [(7,[(1,.b false),(4,.ix (0) [.v (.int .u8 (((e0.toNat:Nat):Int)))]),(5,.b false)]),(9,[(1,.mem [] (.tu [.ag [.z ((ct (au 10 q)).1.aD),.sl 0 ((ct (au 10 q)).1.ah.length),.sl 1 ((ct (au 10 q)).1.homes.length)],.d (.v (.bool ((ct (au 10 q)).2)))]) [.rw 60 2 (ah (ct (au 10 q)).1.ah),.rw 3 1 (ints (ct (au 10 q)).1.homes)])]),(10,[(1,.b true)])])])] 2000 [0,1,2,3,4,5,6,7] r (by kernel_rfl) (U ((by simpa [bne] using h0):(q != ([]:List UInt8))=true) (U (ja q (by omega)) (U h1 (U (rfl:(0:Int)=((0:Nat):Int)) (U aI (U h2 (U (sH (au 10 q) (by have:=mZ 10 q;omega)) (U ((by rw [h3];rfl):(!((ct (au 10 q)).2))=true) trivial))))))))
     | true=>
      exact bp (todo':=hd Tryz.f78 0) (E':=[(0,.yl 7),(1,.pt 0 0),(3,.n (i+1+1))]) (M':=[.bx 9 [.d (.v (.string ⟨(bq 10 q).toArray⟩))],.gw 0 ai,.bx 25 [.z ((ct (au 10 q)).1.aD),.sl 8 ((ct (au 10 q)).1.ah.length),.sl 9 ((ct (au 10 q)).1.homes.length)],.bx 26 [.sl 10 (S.length)],.bx 23 [.sl 11 (B.length)],.bx 32 [.z 0],.bx 4 [.d (.v (.bool true))],.lp .ready 19 61 [(2,.pt 2 0),(3,.pt 3 0),(4,.pt 4 0),(5,.pt 5 0),(6,.pt 6 0)] (cV Tryz.f19 0),.rw 60 2 (ah (ct (au 10 q)).1.ah),.rw 3 1 (ints (ct (au 10 q)).1.homes),.rw 42 7 (bE S),.rw 3 1 (ints B)]) tk mo hK al [(1,[(1,.b true)]),(2,[(1,.z (((i+1+1:Nat):Int)))]),(3,[(1,.aG (.tu [.v (.string ⟨(au 10 q).toArray⟩),.v (.string ⟨(bq 10 q).toArray⟩),.v (.bool (decide (0<q.count 10)))]))]),(4,[(3,.bw 200 [(7,[(1,.b false),(4,.ix (0) [.v (.int .u8 (((e0.toNat:Nat):Int)))]),(5,.b false)]),(9,[(1,.mem [] (.tu [.ag [.z ((ct (au 10 q)).1.aD),.sl 0 ((ct (au 10 q)).1.ah.length),.sl 1 ((ct (au 10 q)).1.homes.length)],.d (.v (.bool ((ct (au 10 q)).2)))]) [.rw 60 2 (ah (ct (au 10 q)).1.ah),.rw 3 1 (ints (ct (au 10 q)).1.homes)])]),(10,[(1,.b false)])])])] 2000 [0,1,2,3,4,5,6,7,12,13,10,11] [0,1,3] r (by kernel_rfl) (U ((by simpa [bne] using h0):(q != ([]:List UInt8))=true) (U (ja q (by omega)) (U h1 (U (rfl:(0:Int)=((0:Nat):Int)) (U aI (U h2 (U (sH (au 10 q) (by have:=mZ 10 q;omega)) (U ((by rw [h3];rfl):(!((ct (au 10 q)).2))=false) (U ((wi (by omega)):IntKind.i64.wrap ((((i+1:Nat):Int):Int)+1)=((i+1+1:Nat):Int)) trivial))))))))) fun ac wd r=>bj (by omega) ac wd ⟨(bq 10 q),true,(ct (au 10 q)).1,S,B,⟨by omega,by omega,by omega,by rw [← ao.2.2.2.1,xB cN j5,h3];rfl,fun h=>by cases h⟩,r.cast rfl (by simp [ah,ints])⟩
    | true=>
     have cz:=eq_of_beq h2
     exact bp (todo':=hd Tryz.f78 0) (E':=[(0,.yl 7),(1,.pt 0 0),(3,.n (i+1+1))]) (M':=[.bx 9 [.d (.v (.string ⟨(bq 10 q).toArray⟩))],.gw 0 ai,.bx 25 [.z c.aD,.sl 8 (c.ah.length),.sl 9 (c.homes.length)],.bx 26 [.sl 10 (S.length)],.bx 23 [.sl 11 (B.length)],.bx 32 [.z 0],.bx 4 [.d (.v (.bool false))],.lp .ready 19 61 [(2,.pt 2 0),(3,.pt 3 0),(4,.pt 4 0),(5,.pt 5 0),(6,.pt 6 0)] (cV Tryz.f19 0),.rw 60 2 (ah c.ah),.rw 3 1 (ints c.homes),.rw 42 7 (bE S),.rw 3 1 (ints B)]) tk mo hK al [(1,[(1,.b true)]),(2,[(1,.z (((i+1+1:Nat):Int)))]),(3,[(1,.aG (.tu [.v (.string ⟨(au 10 q).toArray⟩),.v (.string ⟨(bq 10 q).toArray⟩),.v (.bool (decide (0<q.count 10)))]))]),(4,[(3,.bw 200 [(7,[(1,.b false),(4,.ix (0) [.v (.int .u8 (((e0.toNat:Nat):Int)))]),(5,.b true)])])])] 2000 [0,1,2,3,4,5,6,7,8,9,10,11] [0,1,3] r (by kernel_rfl) (U ((by simpa [bne] using h0):(q != ([]:List UInt8))=true) (U (ja q (by omega)) (U h1 (U (rfl:(0:Int)=((0:Nat):Int)) (U aI (U h2 (U ((wi (by omega)):IntKind.i64.wrap ((((i+1:Nat):Int):Int)+1)=((i+1+1:Nat):Int)) trivial))))))) fun ac wd r=>bj (by omega) ac wd ⟨(bq 10 q),false,c,S,B,⟨by omega,by omega,by omega,by rw [← ao.2.2.2.1,na cN (.inr ((gF g0).trans (congrArg some (nW (by assumption)))))],fun _=>by rw [← ao.2.2.2.2 rfl,BJ cN (.inr ((gF g0).trans (congrArg some (nW (by assumption)))))]⟩,r.cast rfl (by simp [ah,ints])⟩
   | true=>
    exact bp (todo':=hd Tryz.f78 0) (E':=[(0,.yl 7),(1,.pt 0 0),(3,.n (i+1+1))]) (M':=[.bx 9 [.d (.v (.string ⟨(bq 10 q).toArray⟩))],.gw 0 ai,.bx 25 [.z c.aD,.sl 8 (c.ah.length),.sl 9 (c.homes.length)],.bx 26 [.sl 10 (S.length)],.bx 23 [.sl 11 (B.length)],.bx 32 [.z 0],.bx 4 [.d (.v (.bool false))],.lp .ready 19 61 [(2,.pt 2 0),(3,.pt 3 0),(4,.pt 4 0),(5,.pt 5 0),(6,.pt 6 0)] (cV Tryz.f19 0),.rw 60 2 (ah c.ah),.rw 3 1 (ints c.homes),.rw 42 7 (bE S),.rw 3 1 (ints B)]) tk mo hK al [(1,[(1,.b true)]),(2,[(1,.z (((i+1+1:Nat):Int)))]),(3,[(1,.aG (.tu [.v (.string ⟨(au 10 q).toArray⟩),.v (.string ⟨(bq 10 q).toArray⟩),.v (.bool (decide (0<q.count 10)))]))]),(4,[(3,.bw 200 [(7,[(1,.b true)])])])] 2000 [0,1,2,3,4,5,6,7,8,9,10,11] [0,1,3] r (by kernel_rfl) (U ((by simpa [bne] using h0):(q != ([]:List UInt8))=true) (U (ja q (by omega)) (U h1 (U ((wi (by omega)):IntKind.i64.wrap ((((i+1:Nat):Int):Int)+1)=((i+1+1:Nat):Int)) trivial)))) fun ac wd r=>bj (by omega) ac wd ⟨(bq 10 q),false,c,S,B,⟨by omega,by omega,by omega,by rw [← ao.2.2.2.1,na cN (.inl (eq_of_beq (by assumption)))],fun _=>by rw [← ao.2.2.2.2 rfl,BJ cN (.inl (eq_of_beq (by assumption)))]⟩,r.cast rfl (by simp [ah,ints])⟩
  | true=>
   exact absurd ao.2.2.2.1 (by rw [show q=[] from eq_of_beq h0,ph,bT];simp)
 | true=>
  cases h4:(q==([]:List UInt8)) with
  | false=>
   have cN:=ne_nil (x:=q) (by assumption)
   have zU:=qQ cN
   cases h5:((au 10 q)==([]:List UInt8)) with
   | false=>
    obtain ⟨e0,g0⟩:=n8 (x:=(au 10 q)) (by assumption)
    have bd:=(⟨_,g0,rfl⟩:∃ u:UInt8,((au 10 q):List UInt8)[0]?=some u∧(.v (.int .u8 (((e0.toNat:Nat):Int))):DV)=.v (.int .u8 (u.toNat:Int)))
    cases h6:((((e0.toNat:Nat):Int):Int)==35) with
    | false=>
     have dx:=ne_of_beq_false h6
     have j5:=nY (x:=(au 10 q)) (by assumption) g0 (by assumption)
     cases h7:((aA (au 10 q)).2) with
     | false=>
      exact bp (todo':=hd Tryz.f78 0) (E':=[(0,.yl 7),(1,.pt 0 0),(3,.n (i+1+1))]) (M':=[.bx 9 [.d (.v (.string ⟨(bq 10 q).toArray⟩))],.gw 0 ai,.bx 25 [.z c.aD,.sl 8 (c.ah.length),.sl 9 (c.homes.length)],.bx 26 [.sl 10 (S.length+(1))],.bx 23 [.sl 11 (B.length+(1))],.bx 32 [.z 0],.bx 4 [.d (.v (.bool true))],.lp .ready 19 61 [(2,.pt 2 0),(3,.pt 3 0),(4,.pt 4 0),(5,.pt 5 0),(6,.pt 6 0)] (cV Tryz.f19 0),.rw 60 2 (ah c.ah),.rw 3 1 (ints c.homes),.rw 42 7 (bE S++[[.z 0,.z 0,.z 0,.z 0,.z 0,.v (.int .u64 0),.v (.slice none 0 0)]]),.rw 3 1 (ints B++[[.n (i+1)]])]) tk mo hK al [(1,[(1,.b true)]),(2,[(1,.z (((i+1+1:Nat):Int)))]),(3,[(1,.aG (.tu [.v (.string ⟨(au 10 q).toArray⟩),.v (.string ⟨(bq 10 q).toArray⟩),.v (.bool (decide (0<q.count 10)))]))]),(4,[(3,.bw 200 [(7,[(1,.b false),(4,.ix (0) [.v (.int .u8 (((e0.toNat:Nat):Int)))]),(5,.b false)]),(13,[(1,.mem [1] (.tu [.ag [.z ((aA (au 10 q)).1.kind),.z ((aA (au 10 q)).1.node),.z ((aA (au 10 q)).1.peer),.z ((aA (au 10 q)).1.n),.z ((aA (au 10 q)).1.bit),.u ((aA (au 10 q)).1.inc),.sl 1 ((af (aA (au 10 q)).1.body).length)],.d (.v (.bool ((aA (au 10 q)).2)))]) [.gw 0 ai,.rw 5 1 (af (aA (au 10 q)).1.body)])]),(14,[(1,.b true)])])])] 2000 [0,1,2,3,4,5,6,7,8,9,10,11] [0,1,3] r (by kernel_rfl) (U ((by simpa [bne] using h4):(q != ([]:List UInt8))=true) (U (ja q (by omega)) (U h5 (U (rfl:(0:Int)=((0:Nat):Int)) (U bd (U h6 (U (nX (au 10 q) (by have:=mZ 10 q;omega)) (U ((by rw [h7];rfl):(!((aA (au 10 q)).2))=true) (U ((by first | rfl | (simp [ah,ints,bE];done) | (simp [ah,ints,bE];omega)):(B.length)=(ints B).length) (U ((by first | rfl | (simp [ah,ints,bE];done) | (simp [ah,ints,bE];omega)):(1)=([[.n (i+1)]]:List (List DV)).length) (U ((by first | omega | (simp [ah,ints,bE];omega)):(2*((B.length)+(1))+192)*8≤281474976710656) (U ((by first | omega | (simp [ah,ints,bE];omega)):(B.length)+(1)<4611686018427387904) (U ((by simp [aW,AV.one,bQ,af,ah,ints,steps,strs]):aW ([[.n (i+1)]])) (U ((by first | rfl | (simp [ah,ints,bE];done) | (simp [ah,ints,bE];omega)):(S.length)=(bE S:List (List DV)).length) (U ((by first | rfl | (simp [ah,ints,bE];done) | (simp [ah,ints,bE];omega)):(1)=([[.z 0,.z 0,.z 0,.z 0,.z 0,.v (.int .u64 0),.v (.slice none 0 0)]]:List (List DV)).length) (U ((by first | omega | (simp [ah,ints,bE];omega)):(2*((S.length)+(1))+192)*72≤281474976710656) (U ((by first | omega | (simp [ah,ints,bE];omega)):(S.length)+(1)<4611686018427387904) (U ((by simp [aW,AV.one,bQ,af,ah,ints,steps,strs]):aW ([[.z 0,.z 0,.z 0,.z 0,.z 0,.v (.int .u64 0),.v (.slice none 0 0)]])) (U ((wi (by omega)):IntKind.i64.wrap ((((i+1:Nat):Int):Int)+1)=((i+1+1:Nat):Int)) trivial))))))))))))))))))) fun ac wd r=>bj (by omega) ac wd ⟨(bq 10 q),true,c,(S++[aA (au 10 q)]),(B++[((i+1:Nat):Int)]),⟨by omega,by simp;omega,by first | omega | (simp;omega),by rw [← ao.2.2.2.1,tH cN j5,h7];rfl,fun h=>by cases h⟩,r.cast rfl (by rw [BF h7];simp [ah,ints,aB.jw])⟩
     | true=>
      exact bp (todo':=hd Tryz.f78 0) (E':=[(0,.yl 7),(1,.pt 0 0),(3,.n (i+1+1))]) (M':=[.bx 9 [.d (.v (.string ⟨(bq 10 q).toArray⟩))],.gw 0 ai,.bx 25 [.z c.aD,.sl 8 (c.ah.length),.sl 9 (c.homes.length)],.bx 26 [.sl 10 (S.length+(1))],.bx 23 [.sl 11 (B.length)],.bx 32 [.z 0],.bx 4 [.d (.v (.bool true))],.lp .ready 19 61 [(2,.pt 2 0),(3,.pt 3 0),(4,.pt 4 0),(5,.pt 5 0),(6,.pt 6 0)] (cV Tryz.f19 0),.rw 60 2 (ah c.ah),.rw 3 1 (ints c.homes),.rw 42 7 (bE S++[[.z ((aA (au 10 q)).1.kind),.z ((aA (au 10 q)).1.node),.z ((aA (au 10 q)).1.peer),.z ((aA (au 10 q)).1.n),.z ((aA (au 10 q)).1.bit),.u ((aA (au 10 q)).1.inc),.em 5 1 (af (aA (au 10 q)).1.body)]]),.rw 3 1 (ints B)]) tk mo hK al [(1,[(1,.b true)]),(2,[(1,.z (((i+1+1:Nat):Int)))]),(3,[(1,.aG (.tu [.v (.string ⟨(au 10 q).toArray⟩),.v (.string ⟨(bq 10 q).toArray⟩),.v (.bool (decide (0<q.count 10)))]))]),(4,[(3,.bw 200 [(7,[(1,.b false),(4,.ix (0) [.v (.int .u8 (((e0.toNat:Nat):Int)))]),(5,.b false)]),(13,[(1,.mem [1] (.tu [.ag [.z ((aA (au 10 q)).1.kind),.z ((aA (au 10 q)).1.node),.z ((aA (au 10 q)).1.peer),.z ((aA (au 10 q)).1.n),.z ((aA (au 10 q)).1.bit),.u ((aA (au 10 q)).1.inc),.sl 1 ((af (aA (au 10 q)).1.body).length)],.d (.v (.bool ((aA (au 10 q)).2)))]) [.gw 0 ai,.rw 5 1 (af (aA (au 10 q)).1.body)])]),(14,[(1,.b false)])])])] 2000 [0,1,2,3,4,5,6,7,8,9,10,11] [0,1,3] r (by kernel_rfl) (U ((by simpa [bne] using h4):(q != ([]:List UInt8))=true) (U (ja q (by omega)) (U h5 (U (rfl:(0:Int)=((0:Nat):Int)) (U bd (U h6 (U (nX (au 10 q) (by have:=mZ 10 q;omega)) (U ((by rw [h7];rfl):(!((aA (au 10 q)).2))=false) (U (cK ((af (aA (au 10 q)).1.body).length)) (U ((by first | rfl | (simp [ah,ints,bE];done) | (simp [ah,ints,bE];omega)):(S.length)=(bE S:List (List DV)).length) (U ((by first | rfl | (simp [ah,ints,bE];done) | (simp [ah,ints,bE];omega)):(1)=([[.z ((aA (au 10 q)).1.kind),.z ((aA (au 10 q)).1.node),.z ((aA (au 10 q)).1.peer),.z ((aA (au 10 q)).1.n),.z ((aA (au 10 q)).1.bit),.u ((aA (au 10 q)).1.inc),.em 5 1 (af (aA (au 10 q)).1.body)]]:List (List DV)).length) (U ((by first | omega | (simp [ah,ints,bE];omega)):(2*((S.length)+(1))+192)*72≤281474976710656) (U ((by first | omega | (simp [ah,ints,bE];omega)):(S.length)+(1)<4611686018427387904) (U ((by simp [aW,AV.one,bQ,af,ah,ints,steps,strs]):aW ([[.z ((aA (au 10 q)).1.kind),.z ((aA (au 10 q)).1.node),.z ((aA (au 10 q)).1.peer),.z ((aA (au 10 q)).1.n),.z ((aA (au 10 q)).1.bit),.u ((aA (au 10 q)).1.inc),.em 5 1 (af (aA (au 10 q)).1.body)]])) (U ((wi (by omega)):IntKind.i64.wrap ((((i+1:Nat):Int):Int)+1)=((i+1+1:Nat):Int)) trivial))))))))))))))) fun ac wd r=>bj (by omega) ac wd ⟨(bq 10 q),true,c,(S++[aA (au 10 q)]),B,⟨by omega,by simp;omega,by first | omega | (simp;omega),by rw [← ao.2.2.2.1,tH cN j5,h7];rfl,fun h=>by cases h⟩,r.cast rfl (by rw [BE h7];simp [ah,ints,aB.jw])⟩
    | true=>
     have dx:=eq_of_beq h6
     exact bp (todo':=hd Tryz.f78 0) (E':=[(0,.yl 7),(1,.pt 0 0),(3,.n (i+1+1))]) (M':=[.bx 9 [.d (.v (.string ⟨(bq 10 q).toArray⟩))],.gw 0 ai,.bx 25 [.z c.aD,.sl 8 (c.ah.length),.sl 9 (c.homes.length)],.bx 26 [.sl 10 (S.length)],.bx 23 [.sl 11 (B.length)],.bx 32 [.z 0],.bx 4 [.d (.v (.bool true))],.lp .ready 19 61 [(2,.pt 2 0),(3,.pt 3 0),(4,.pt 4 0),(5,.pt 5 0),(6,.pt 6 0)] (cV Tryz.f19 0),.rw 60 2 (ah c.ah),.rw 3 1 (ints c.homes),.rw 42 7 (bE S),.rw 3 1 (ints B)]) tk mo hK al [(1,[(1,.b true)]),(2,[(1,.z (((i+1+1:Nat):Int)))]),(3,[(1,.aG (.tu [.v (.string ⟨(au 10 q).toArray⟩),.v (.string ⟨(bq 10 q).toArray⟩),.v (.bool (decide (0<q.count 10)))]))]),(4,[(3,.bw 200 [(7,[(1,.b false),(4,.ix (0) [.v (.int .u8 (((e0.toNat:Nat):Int)))]),(5,.b true)])])])] 2000 [0,1,2,3,4,5,6,7,8,9,10,11] [0,1,3] r (by kernel_rfl) (U ((by simpa [bne] using h4):(q != ([]:List UInt8))=true) (U (ja q (by omega)) (U h5 (U (rfl:(0:Int)=((0:Nat):Int)) (U bd (U h6 (U ((wi (by omega)):IntKind.i64.wrap ((((i+1:Nat):Int):Int)+1)=((i+1+1:Nat):Int)) trivial))))))) fun ac wd r=>bj (by omega) ac wd ⟨(bq 10 q),true,c,S,B,⟨by omega,by omega,by omega,by rw [← ao.2.2.2.1,na cN (.inr ((gF g0).trans (congrArg some (nW (by assumption)))))],fun h=>by cases h⟩,r.cast rfl (by simp [ah,ints])⟩
   | true=>
    exact bp (todo':=hd Tryz.f78 0) (E':=[(0,.yl 7),(1,.pt 0 0),(3,.n (i+1+1))]) (M':=[.bx 9 [.d (.v (.string ⟨(bq 10 q).toArray⟩))],.gw 0 ai,.bx 25 [.z c.aD,.sl 8 (c.ah.length),.sl 9 (c.homes.length)],.bx 26 [.sl 10 (S.length)],.bx 23 [.sl 11 (B.length)],.bx 32 [.z 0],.bx 4 [.d (.v (.bool true))],.lp .ready 19 61 [(2,.pt 2 0),(3,.pt 3 0),(4,.pt 4 0),(5,.pt 5 0),(6,.pt 6 0)] (cV Tryz.f19 0),.rw 60 2 (ah c.ah),.rw 3 1 (ints c.homes),.rw 42 7 (bE S),.rw 3 1 (ints B)]) tk mo hK al [(1,[(1,.b true)]),(2,[(1,.z (((i+1+1:Nat):Int)))]),(3,[(1,.aG (.tu [.v (.string ⟨(au 10 q).toArray⟩),.v (.string ⟨(bq 10 q).toArray⟩),.v (.bool (decide (0<q.count 10)))]))]),(4,[(3,.bw 200 [(7,[(1,.b true)])])])] 2000 [0,1,2,3,4,5,6,7,8,9,10,11] [0,1,3] r (by kernel_rfl) (U ((by simpa [bne] using h4):(q != ([]:List UInt8))=true) (U (ja q (by omega)) (U h5 (U ((wi (by omega)):IntKind.i64.wrap ((((i+1:Nat):Int):Int)+1)=((i+1+1:Nat):Int)) trivial)))) fun ac wd r=>bj (by omega) ac wd ⟨(bq 10 q),true,c,S,B,⟨by omega,by omega,by omega,by rw [← ao.2.2.2.1,na cN (.inl (eq_of_beq (by assumption)))],fun h=>by cases h⟩,r.cast rfl (by simp [ah,ints])⟩
  | true=>
   exact absurd ao.2.2.2.1 (by rw [show q=[] from eq_of_beq h4,ph,bT];simp)
end Go.Proofs.YtcnpikbbmbombaaGreatDoor
namespace Go.Proofs.YtcnpikbbmbombaaGreatDoor
open Go.RowKit
theorem Hm (T k:Nat) (l:List (aB×Bool)):gp (.rw T k (bE l)):=gp.u4 fun r hr c hc=>by
 obtain ⟨x,-,rfl⟩:=List.mem_map.1 hr
 unfold uI at hc
 cases h:x.2 with
 | true=>
  rw [h] at hc;simp only [cond_true,aB.jw,List.mem_cons,List.not_mem_nil,or_false] at hc
  rcases hc with rfl | rfl | rfl | rfl | rfl | rfl | rfl<;>first | exact ft _ | exact vv _ _
 | false=>
  rw [h] at hc;simp only [cond_false,List.mem_cons,List.not_mem_nil,or_false] at hc
  rcases hc with rfl | rfl | rfl | rfl | rfl | rfl | rfl<;>exact ft _
set_option maxRecDepth 100000 in
theorem I8 (s:List UInt8) (hl:s.length≤524288) (c1:bK) (S1:List (aB×Bool)) (B1:List Int) (hS:bT (fw s) 1 false ⟨0,[],[]⟩ [] []=some (true,c1,S1,B1)):aC Tryz.prog 19 [.d (.v (.string ⟨s.toArray⟩))] [.gw 0 ai] (mapA (·+1) (.tu [.ag [.z c1.aD,.sl 4 c1.ah.length,.sl 5 c1.homes.length],.sl 6 S1.length,.sl 7 B1.length,.z 0])) (.gw 0 ai::List.map (fb (·+1)) ([.bx 25 [.z c1.aD,.sl 4 c1.ah.length,.sl 5 c1.homes.length],.bx 26 [.sl 6 S1.length],.bx 23 [.sl 7 B1.length],.bx 32 [.z 0],.rw 60 2 (ah c1.ah),.rw 3 1 (ints c1.homes),.rw 42 7 (bE S1),.rw 3 1 (ints B1)])):=by
 refine aC.q8 (by kernel_rfl) rfl rfl 61 rfl rfl fun w0 K ac hK r=>?_
 have r:=r.mark
 cases h0:(decide ((524288:Int)<((s.length:Nat):Int))) with
 | false=>
  have aT:=of_decide_eq_false h0
  refine tj (todo':=uy Tryz.f19 0) (E2:=[(2,.pt 1 0),(3,.pt 2 0),(4,.pt 3 0),(5,.pt 4 0),(6,.pt 5 0)]) (M2:=[.gw 0 ai,.bx 25 [.z c1.aD,.sl 6 (c1.ah.length),.sl 7 (c1.homes.length)],.bx 26 [.sl 8 (S1.length)],.bx 23 [.sl 9 (B1.length)],.bx 32 [.z 0],.bx 4 [.d (.v (.bool true))],.rw 60 2 (ah c1.ah),.rw 3 1 (ints c1.homes),.rw 42 7 (bE S1),.rw 3 1 (ints B1)]) tk mo hK rfl [(1,[(2,.b false)]),(4,[(1,.bw 200 [])])] 15 [6,0,1,2,3,4,5] [2,3,4,5,6] (.tu []) [.bx 9 [.d (.v (.string ⟨([]).toArray⟩))],.gw 0 ai,.bx 25 [.z c1.aD,.sl 8 (c1.ah.length),.sl 9 (c1.homes.length)],.bx 26 [.sl 10 (S1.length)],.bx 23 [.sl 11 (B1.length)],.bx 32 [.z 0],.bx 4 [.d (.v (.bool true))],.lp .ready 19 61 [(2,.pt 2 0),(3,.pt 3 0),(4,.pt 4 0),(5,.pt 5 0),(6,.pt 6 0)] (cV Tryz.f19 0),.rw 60 2 (ah c1.ah),.rw 3 1 (ints c1.homes),.rw 42 7 (bE S1),.rw 3 1 (ints B1)] [0,1,2,3,4,5,8,9,10,11] [2,3,4,5,6] r (by kernel_rfl) (U (BH s hl true c1 S1 B1 hS) (U h0 trivial)) fun ac wd r=>?_
  refine pH (E':=[(2,.pt 0 0),(3,.pt 1 0),(4,.pt 2 0),(5,.pt 3 0)]) (M':=[.bx 25 [.z c1.aD,.sl 4 (c1.ah.length),.sl 5 (c1.homes.length)],.bx 26 [.sl 6 (S1.length)],.bx 23 [.sl 7 (B1.length)],.bx 32 [.z 0],.rw 60 2 (ah c1.ah),.rw 3 1 (ints c1.homes),.rw 42 7 (bE S1),.rw 3 1 (ints B1)]) tk mo hK rfl [] 2000 [1,2,3,4,6,7,8,9] [2,3,4,5] r (by kernel_rfl) (by kernel_rfl) trivial ?_ ?_
  ·intro x hx;simp only [List.mem_cons,List.not_mem_nil,or_false] at hx;rcases hx with rfl | rfl | rfl | rfl<;>exact ec.pt _ _
  ·intro x hx;simp only [List.mem_cons,List.not_mem_nil,or_false] at hx;rcases hx with rfl | rfl | rfl | rfl | rfl | rfl | rfl | rfl<;>first | exact BD _ _ _ | exact Ck _ _ _ | exact Hm _ _ _ | (refine gp.bx fun c hc=>?_;simp only [List.mem_cons,List.not_mem_nil,or_false] at hc;first | (subst hc;first | exact ec.v _ | exact ec.sl _ _) | (rcases hc with rfl | rfl | rfl<;>first | exact ec.v _ | exact ec.sl _ _))
 | true=>
  have aT:=of_decide_eq_true h0
  exact absurd aT (by omega)
end Go.Proofs.YtcnpikbbmbombaaGreatDoor
namespace Go.Proofs.YtcnpikbbmbombaaGreatDoor
open Go.RowKit
set_option maxRecDepth 100000 in
theorem Hn (s:List UInt8) (hl:524288<s.length):aC Tryz.prog 19 [.d (.v (.string ⟨s.toArray⟩))] [.gw 0 ai] (mapA (·+1) (.tu [.ag [.z 0,.d (.v (.slice none 0 0)),.d (.v (.slice none 0 0))],.d (.v (.slice none 0 0)),.d (.v (.slice none 0 0)),.z 2])) (.gw 0 ai::List.map (fb (·+1)) ([.bx 25 [.z 0,.d (.v (.slice none 0 0)),.d (.v (.slice none 0 0))],.bx 26 [.d (.v (.slice none 0 0))],.bx 23 [.d (.v (.slice none 0 0))],.bx 32 [.z 2]])):=by
 refine aC.q8 (by kernel_rfl) rfl rfl 61 rfl rfl fun w0 K ac hK r=>?_
 have r:=r.mark
 cases h0:(decide ((524288:Int)<((s.length:Nat):Int))) with
 | false=>
  have aT:=of_decide_eq_false h0
  exact absurd aT (by omega)
 | true=>
  have aT:=of_decide_eq_true h0
  refine pH (E':=[(2,.pt 0 0),(3,.pt 1 0),(4,.pt 2 0),(5,.pt 3 0)]) (M':=[.bx 25 [.z 0,.d (.v (.slice none 0 0)),.d (.v (.slice none 0 0))],.bx 26 [.d (.v (.slice none 0 0))],.bx 23 [.d (.v (.slice none 0 0))],.bx 32 [.z 2]]) tk mo hK rfl [(1,[(2,.b true)])] 2000 [1,2,3,4] [2,3,4,5] r (by kernel_rfl) (by kernel_rfl) (U h0 trivial) ?_ ?_
  ·intro x hx;simp only [List.mem_cons,List.not_mem_nil,or_false] at hx;rcases hx with rfl | rfl | rfl | rfl<;>exact ec.pt _ _
  ·intro x hx;simp only [List.mem_cons,List.not_mem_nil,or_false] at hx;rcases hx with rfl | rfl | rfl | rfl<;>(refine gp.bx fun c hc=>?_;simp only [List.mem_cons,List.not_mem_nil,or_false] at hc;first | (subst hc;exact ec.v _) | (rcases hc with rfl | rfl | rfl<;>exact ec.v _))
set_option maxRecDepth 100000 in
theorem Hq (s:List UInt8) (hl:s.length≤524288) (c1:bK) (S1:List (aB×Bool)) (B1:List Int) (hS:bT (fw s) 1 false ⟨0,[],[]⟩ [] []=some (false,c1,S1,B1)):aC Tryz.prog 19 [.d (.v (.string ⟨s.toArray⟩))] [.gw 0 ai] (mapA (·+1) (.tu [.ag [.z 0,.d (.v (.slice none 0 0)),.d (.v (.slice none 0 0))],.d (.v (.slice none 0 0)),.d (.v (.slice none 0 0)),.z 3])) (.gw 0 ai::List.map (fb (·+1)) ([.bx 25 [.z 0,.d (.v (.slice none 0 0)),.d (.v (.slice none 0 0))],.bx 26 [.d (.v (.slice none 0 0))],.bx 23 [.d (.v (.slice none 0 0))],.bx 32 [.z 3]])):=by
 refine aC.q8 (by kernel_rfl) rfl rfl 61 rfl rfl fun w0 K ac hK r=>?_
 have r:=r.mark
 cases h0:(decide ((524288:Int)<((s.length:Nat):Int))) with
 | false=>
  have aT:=of_decide_eq_false h0
  refine tj (todo':=uy Tryz.f19 0) (E2:=[(2,.pt 1 0),(3,.pt 2 0),(4,.pt 3 0),(5,.pt 4 0),(6,.pt 5 0)]) (M2:=[.gw 0 ai,.bx 25 [.z c1.aD,.sl 6 (c1.ah.length),.sl 7 (c1.homes.length)],.bx 26 [.sl 8 (S1.length)],.bx 23 [.sl 9 (B1.length)],.bx 32 [.z 0],.bx 4 [.d (.v (.bool false))],.rw 60 2 (ah c1.ah),.rw 3 1 (ints c1.homes),.rw 42 7 (bE S1),.rw 3 1 (ints B1)]) tk mo hK rfl [(1,[(2,.b false)]),(4,[(1,.bw 200 [])])] 15 [6,0,1,2,3,4,5] [2,3,4,5,6] (.tu []) [.bx 9 [.d (.v (.string ⟨([]).toArray⟩))],.gw 0 ai,.bx 25 [.z c1.aD,.sl 8 (c1.ah.length),.sl 9 (c1.homes.length)],.bx 26 [.sl 10 (S1.length)],.bx 23 [.sl 11 (B1.length)],.bx 32 [.z 0],.bx 4 [.d (.v (.bool false))],.lp .ready 19 61 [(2,.pt 2 0),(3,.pt 3 0),(4,.pt 4 0),(5,.pt 5 0),(6,.pt 6 0)] (cV Tryz.f19 0),.rw 60 2 (ah c1.ah),.rw 3 1 (ints c1.homes),.rw 42 7 (bE S1),.rw 3 1 (ints B1)] [0,1,2,3,4,5,8,9,10,11] [2,3,4,5,6] r (by kernel_rfl) (U (BH s hl false c1 S1 B1 hS) (U h0 trivial)) fun ac wd r=>?_
  refine pH (E':=[(2,.pt 0 0),(3,.pt 1 0),(4,.pt 2 0),(5,.pt 3 0)]) (M':=[.bx 25 [.z 0,.d (.v (.slice none 0 0)),.d (.v (.slice none 0 0))],.bx 26 [.d (.v (.slice none 0 0))],.bx 23 [.d (.v (.slice none 0 0))],.bx 32 [.z 3]]) tk mo hK rfl [] 2000 [1,2,3,4] [2,3,4,5] r (by kernel_rfl) (by kernel_rfl) trivial ?_ ?_
  ·intro x hx;simp only [List.mem_cons,List.not_mem_nil,or_false] at hx;rcases hx with rfl | rfl | rfl | rfl<;>exact ec.pt _ _
  ·intro x hx;simp only [List.mem_cons,List.not_mem_nil,or_false] at hx;rcases hx with rfl | rfl | rfl | rfl<;>(refine gp.bx fun c hc=>?_;simp only [List.mem_cons,List.not_mem_nil,or_false] at hc;first | (subst hc;exact ec.v _) | (rcases hc with rfl | rfl | rfl<;>exact ec.v _))
 | true=>
  have aT:=of_decide_eq_true h0
  exact absurd aT (by omega)
set_option maxRecDepth 100000 in
theorem Hr (s:List UInt8) (hl:s.length≤524288) (hS:bT (fw s) 1 false ⟨0,[],[]⟩ [] []=none):aC Tryz.prog 19 [.d (.v (.string ⟨s.toArray⟩))] [.gw 0 ai] (mapA (·+1) (.tu [.ag [.z 0,.d (.v (.slice none 0 0)),.d (.v (.slice none 0 0))],.d (.v (.slice none 0 0)),.d (.v (.slice none 0 0)),.z 3])) (.gw 0 ai::List.map (fb (·+1)) ([.bx 25 [.z 0,.d (.v (.slice none 0 0)),.d (.v (.slice none 0 0))],.bx 26 [.d (.v (.slice none 0 0))],.bx 23 [.d (.v (.slice none 0 0))],.bx 32 [.z 3]])):=by
 refine aC.q8 (by kernel_rfl) rfl rfl 61 rfl rfl fun w0 K ac hK r=>?_
 have r:=r.mark
 cases h0:(decide ((524288:Int)<((s.length:Nat):Int))) with
 | false=>
  have aT:=of_decide_eq_false h0
  refine tj (todo':=.code .ret::uy Tryz.f19 0) (E2:=[(2,.pt 1 0),(3,.pt 2 0),(4,.pt 3 0),(5,.pt 4 0),(6,.pt 5 0)]) (M2:=[.gw 0 ai,.bx 25 [.z 0,.d (.v (.slice none 0 0)),.d (.v (.slice none 0 0))],.bx 26 [.d (.v (.slice none 0 0))],.bx 23 [.d (.v (.slice none 0 0))],.bx 32 [.z 3],.bx 4 [.d (.v (.bool false))]]) tk mo hK rfl [(1,[(2,.b false)]),(4,[(1,.bw 200 [])])] 15 [6,0,1,2,3,4,5] [2,3,4,5,6] (.tu []) [.bx 9 [.d (.v (.string ⟨(lP s).toArray⟩))],.gw 0 ai,.bx 25 [.z 0,.d (.v (.slice none 0 0)),.d (.v (.slice none 0 0))],.bx 26 [.d (.v (.slice none 0 0))],.bx 23 [.d (.v (.slice none 0 0))],.bx 32 [.z 3],.bx 4 [.d (.v (.bool false))],.lp .left 19 61 [(2,.pt 2 0),(3,.pt 3 0),(4,.pt 4 0),(5,.pt 5 0),(6,.pt 6 0)] (cV Tryz.f19 0)] [0,1,2,3,4,5] [2,3,4,5,6] r (by kernel_rfl) (U (I7 s hl hS) (U h0 trivial)) fun ac wd r=>?_
  refine pH (E':=[(2,.pt 0 0),(3,.pt 1 0),(4,.pt 2 0),(5,.pt 3 0)]) (M':=[.bx 25 [.z 0,.d (.v (.slice none 0 0)),.d (.v (.slice none 0 0))],.bx 26 [.d (.v (.slice none 0 0))],.bx 23 [.d (.v (.slice none 0 0))],.bx 32 [.z 3]]) tk mo hK rfl [] 2000 [1,2,3,4] [2,3,4,5] r (by kernel_rfl) (by kernel_rfl) trivial ?_ ?_
  ·intro x hx;simp only [List.mem_cons,List.not_mem_nil,or_false] at hx;rcases hx with rfl | rfl | rfl | rfl<;>exact ec.pt _ _
  ·intro x hx;simp only [List.mem_cons,List.not_mem_nil,or_false] at hx;rcases hx with rfl | rfl | rfl | rfl<;>(refine gp.bx fun c hc=>?_;simp only [List.mem_cons,List.not_mem_nil,or_false] at hc;first | (subst hc;exact ec.v _) | (rcases hc with rfl | rfl | rfl<;>exact ec.v _))
 | true=>
  have aT:=of_decide_eq_true h0
  exact absurd aT (by omega)
end Go.Proofs.YtcnpikbbmbombaaGreatDoor
namespace Go.Proofs.YtcnpikbbmbombaaGreatDoor
open Go.RowKit
def kj:bK:=⟨1,[],[1]⟩
def dc:List aB:=[⟨1,0,0,0,0,0,[]⟩,⟨12,2,0,0,0,0,[]⟩,⟨10,2,0,0,0,0,[104,105]⟩]
theorem Dx:bY kj=true:=yj ⟨by decide,fun i x h=>by simp [kj] at h,fun i k x o h=>by simp [kj] at h,fun i x h=>by
  cases i with
  | zero=>simp [kj] at h;subst h;exact ⟨by decide,by decide⟩
  | succ i=>simp [kj] at h⟩
theorem Dy:fu kj dc=[1,0,1,1,1,0,12,2,10,2,2,104,105]:=by decide
theorem E7:fv kj dc=0:=lW Dx (by decide) (by rw [Dy];decide)
theorem D6:∀ s ∈ dc,s.Rd:=by
 intro s hs
 simp only [dc,List.mem_cons,List.not_mem_nil,or_false] at hs
 rcases hs with rfl | rfl | rfl<;>exact ⟨by decide,by decide⟩
theorem Nl:aC Tryz.prog 11 [.ag [.z 1,.d (.ro 2 (ah [])),.d (.ro 1 (ints [1]))],.d (.ro 7 (steps dc))] [.gw 0 ai] (.tu [.sl 1 13,.z 0]) [.gw 0 ai,.rw 5 1 (af [1,0,1,1,1,0,12,2,10,2,2,104,105])]:=by
 have h:=CH kj dc (by decide) (by decide) (by decide) D6 (by rw [E7];rfl)
 rw [Dy] at h;exact h
theorem Oc:tG kj dc=[119,111,114,108,100,32,49,32,58,32,49,10,116,105,99,107,32,48,10,106,111,105,110,32,50,10,115,101,110,100,32,50,32,54,56,54,57,10]:=by
 simp [tG,bF,cR,ch,dz,cM,qf,kj,dc,ae,lh,cn,Go.Lib.decDigits_one,jK,dC,ef]
theorem KG:aC Tryz.prog 17 [.ag [.z 1,.d (.ro 2 (ah [])),.d (.ro 1 (ints [1]))],.d (.ro 7 (steps dc))] [.gw 0 ai,.gw 1 aS] (.tu [.d (.v (.string ⟨([119,111,114,108,100,32,49,32,58,32,49,10,116,105,99,107,32,48,10,106,111,105,110,32,50,10,115,101,110,100,32,50,32,54,56,54,57,10]:List UInt8).toArray⟩)),.z 0]) [.gw 0 ai,.gw 1 aS]:=by
 have h:=IP kj dc (by decide) (by decide) (by decide) D6 (by rw [E7];rfl)
 rw [Oc] at h;exact h
theorem Od:kP (List.drop 4 [1,0,1,1,1,0,12,2,10,2,2,104,105])=dc:=by
 rw [sP (by decide),show bA ((List.drop 4 ([1,0,1,1,1,0,12,2,10,2,2,104,105]:List UInt8)).take 258)=(⟨1,0,0,0,0,0,[]⟩,2) from by kernel_rfl]
 rw [sP (by decide),show bA (((List.drop 4 ([1,0,1,1,1,0,12,2,10,2,2,104,105]:List UInt8)).drop 2).take 258)=(⟨12,2,0,0,0,0,[]⟩,2) from by kernel_rfl]
 rw [sP (by decide),show bA ((((List.drop 4 ([1,0,1,1,1,0,12,2,10,2,2,104,105]:List UInt8)).drop 2).drop 2).take 258)=(⟨10,2,0,0,0,0,[104,105]⟩,5) from by kernel_rfl]
 rw [show (((List.drop 4 ([1,0,1,1,1,0,12,2,10,2,2,104,105]:List UInt8)).drop 2).drop 2).drop 5=[] from by decide,vV];rfl
theorem Nn:aC Tryz.prog 15 [.d (.ro 1 (af [1,0,1,1,1,0,12,2,10,2,2,104,105]))] [.gw 0 ai] (.tu [.ag [.z 1,.sl 1 0,.sl 2 1],.sl 3 3,.z 0]) [.gw 0 ai,.rw 60 2 (ah []),.rw 3 1 (ints [1]),.rw 42 7 (bO dc)]:=by
 have e1:gC [1,0,1,1,1,0,12,2,10,2,2,104,105]=kj:=by decide
 have h:=Lx [1,0,1,1,1,0,12,2,10,2,2,104,105] (by decide) (by decide) (by rw [e1];exact Dx)
 rw [show gE [1,0,1,1,1,0,12,2,10,2,2,104,105]=4 from by decide,Od] at h;exact h
theorem KH:aC Tryz.prog 19 [.d (.v (.string ⟨([119,111,114,108,100,32,49,32,58,32,49,10,116,105,99,107,32,48,10,106,111,105,110,32,50,10,115,101,110,100,32,50,32,54,56,54,57,10]:List UInt8).toArray⟩))] [.gw 0 ai] (.tu [.ag [.z 1,.sl 5 0,.sl 6 1],.sl 7 3,.d (.v (.slice none 0 0)),.z 0]) [.gw 0 ai,.bx 25 [.z 1,.sl 5 0,.sl 6 1],.bx 26 [.sl 7 3],.bx 23 [.d (.v (.slice none 0 0))],.bx 32 [.z 0],.rw 60 2 (ah []),.rw 3 1 (ints [1]),.rw 42 7 (bO dc)]:=IZ
end Go.Proofs.YtcnpikbbmbombaaGreatDoor
namespace Go.Proofs.YtcnpikbbmbombaaGreatDoor
open Go.RowKit
set_option maxRecDepth 100000 in
theorem LK :aC Tryz.prog 8 [] [.gw 0 ai,.gw 1 aS] (mapA (·+([.gw 0 ai,.gw 1 aS]:List aj).length) (.d (.v (.bool true)))) ([.gw 0 ai,.gw 1 aS]++List.map (fb (·+([.gw 0 ai,.gw 1 aS]:List aj).length)) ([])):=by
 refine aC.JT (x:=.d (.v (.bool true))) (M':=[]) rfl (by kernel_rfl) rfl rfl 90 rfl rfl fun w0 K ac hK r=>?_
 have r:=r.mark
 refine DI (todo':=aft Tryz.f8 2) (E':=[(0,.d (.v (.bool false))),(1,.pt 3 0),(2,.sl 5 (3))]) (M':=[.gw 0 ai,.gw 1 aS,.rw 3 1 ([[.z 1]]),.bx 25 [.z 1,.d (.v (.slice none 0 0)),.sl 2 (1)],.dead,.rw 42 7 ([[.z 1,.z 0,.z 0,.z 0,.z 0,.v (.int .u64 0),.v (.slice none 0 0)],[.z 12,.z 2,.z 0,.z 0,.z 0,.v (.int .u64 0),.v (.slice none 0 0)],[.z 10,.z 2,.z 0,.z 0,.z 0,.v (.int .u64 0),.ro 1 ([[.v (.int .u8 104)],[.v (.int .u8 105)]])]])]) tk mo hK [] 6 [0,1,2,3,4,5] [0,1,2] r (by kernel_rfl) (U ((by simp):(2)=([[.v (.int .u8 104)],[.v (.int .u8 105)]]:List (List DV)).length) (U ((by simp):0<(2)) trivial)) fun ac wd r=>?_
 have r:=r.dA (E1:=[(0,.d (.v (.bool false))),(1,.pt 3 0),(2,.sl 5 (3))]) (M1:=[.gw 0 ai,.gw 1 aS,.rw 3 1 ([[.z 1]]),.bx 25 [.z 1,.d (.v (.slice none 0 0)),.sl 2 (1)],.dead,.rw 42 7 ([[.z 1,.z 0,.z 0,.z 0,.z 0,.v (.int .u64 0),.v (.slice none 0 0)],[.z 12,.z 2,.z 0,.z 0,.z 0,.v (.int .u64 0),.v (.slice none 0 0)],[.z 10,.z 2,.z 0,.z 0,.z 0,.v (.int .u64 0),.ro 1 ([[.v (.int .u8 104)],[.v (.int .u8 105)]])]])]) (M2:=[.gw 0 ai,.gw 1 aS,.rw 3 1 ([[.z 1]]),.bx 25 [.z 1,.sl 6 (0),.sl 2 (1)],.dead,.rw 42 7 ([[.z 1,.z 0,.z 0,.z 0,.z 0,.v (.int .u64 0),.v (.slice none 0 0)],[.z 12,.z 2,.z 0,.z 0,.z 0,.v (.int .u64 0),.v (.slice none 0 0)],[.z 10,.z 2,.z 0,.z 0,.z 0,.v (.int .u64 0),.ro 1 ([[.v (.int .u8 104)],[.v (.int .u8 105)]])]]),.rw 60 2 ([])]) [] [(3,1,60,2)] (by kernel_rfl) (by kernel_rfl)
 have r:=(r.less (rows':=steps dc) 5 rfl (iL.cons (cx.cons (Le.refl _) (cx.cons (Le.refl _) (cx.cons (Le.refl _) (cx.cons (Le.refl _) (cx.cons (Le.refl _) (cx.cons (Le.refl _) (cx.cons (Le.Dc _) cx.nil))))))) (iL.cons (cx.cons (Le.refl _) (cx.cons (Le.refl _) (cx.cons (Le.refl _) (cx.cons (Le.refl _) (cx.cons (Le.refl _) (cx.cons (Le.refl _) (cx.cons (Le.Dc _) cx.nil))))))) (iL.cons (cx.cons (Le.refl _) (cx.cons (Le.refl _) (cx.cons (Le.refl _) (cx.cons (Le.refl _) (cx.cons (Le.refl _) (cx.cons (Le.refl _) (cx.cons (Le.refl _) cx.nil))))))) iL.nil)))).cast (M':=[.gw 0 ai,.gw 1 aS,.rw 3 1 ([[.z 1]]),.bx 25 [.z 1,.sl 6 (0),.sl 2 (1)],.dead,.rw 42 7 (steps dc),.rw 60 2 ([])]) rfl rfl
 have r:=r.stay (p1:=[(3)=(steps dc:List (List DV)).length]) (p2:=[(0)=([]:List (List DV)).length,(1)=([[.z 1]]:List (List DV)).length]) (E1:=[(0,.d (.v (.bool false))),(1,.pt 3 0),(2,.d (.ro 7 (b5 (steps dc))))]) (M1:=[.gw 0 ai,.gw 1 aS,.rw 3 1 ([[.z 1]]),.bx 25 [.z 1,.sl 6 (0),.sl 2 (1)],.dead,.dead,.rw 60 2 ([])]) (M2:=[.gw 0 ai,.gw 1 aS,.dead,.bx 25 [.z 1,.d (.ro 2 (b5 ([]))),.d (.ro 1 (b5 ([[.z 1]])))],.dead,.dead,.dead]) (E2:=[(0,.d (.v (.bool false))),(1,.pt 3 0),(2,.d (.ro 7 (steps dc)))]) (M3:=[.gw 0 ai,.gw 1 aS,.dead,.bx 25 [.z 1,.d (.ro 2 (ah [])),.d (.ro 1 (ints [1]))],.dead,.dead,.dead]) [2] [(3,1),(3,2)] (by kernel_rfl) (by kernel_rfl) (U ((by first | rfl | decide):(3)=(steps dc:List (List DV)).length) trivial) (U ((by first | rfl | decide):(0)=([]:List (List DV)).length) (U ((by first | rfl | decide):(1)=([[.z 1]]:List (List DV)).length) trivial)) (by rfl) (by rfl)
 refine DI (todo':=aft Tryz.f8 3) (E':=[(0,.d (.v (.bool false))),(1,.pt 3 0),(2,.d (.ro 7 (steps dc))),(3,.sl 7 (13)),(4,.z 0)]) (M':=[.gw 0 ai,.gw 1 aS,.dead,.bx 25 [.z 1,.d (.ro 2 (ah [])),.d (.ro 1 (ints [1]))],.dead,.dead,.dead,.rw 5 1 (af [1,0,1,1,1,0,12,2,10,2,2,104,105])]) tk mo hK [(3,[(2,.mem [0] (.tu [.sl 1 (13),.z 0]) [.gw 0 ai,.rw 5 1 (af [1,0,1,1,1,0,12,2,10,2,2,104,105])])])] 2 [0,1,2,3,4,5,6,7] [0,1,2,3,4] r (by kernel_rfl) (U (Nl) trivial) fun ac wd r=>?_
 have r:=r.stay (p1:=[(13)=(af [1,0,1,1,1,0,12,2,10,2,2,104,105]).length]) (p2:=[]) (E1:=[(0,.d (.v (.bool false))),(1,.pt 3 0),(2,.d (.ro 7 (steps dc))),(3,.d (.ro 1 (b5 (af [1,0,1,1,1,0,12,2,10,2,2,104,105])))),(4,.z 0)]) (M1:=[.gw 0 ai,.gw 1 aS,.dead,.bx 25 [.z 1,.d (.ro 2 (ah [])),.d (.ro 1 (ints [1]))],.dead,.dead,.dead,.dead]) (M2:=[.gw 0 ai,.gw 1 aS,.dead,.bx 25 [.z 1,.d (.ro 2 (ah [])),.d (.ro 1 (ints [1]))],.dead,.dead,.dead,.dead]) (E2:=[(0,.d (.v (.bool false))),(1,.pt 3 0),(2,.d (.ro 7 (steps dc))),(3,.d (.ro 1 (af [1,0,1,1,1,0,12,2,10,2,2,104,105]))),(4,.z 0)]) (M3:=[.gw 0 ai,.gw 1 aS,.dead,.bx 25 [.z 1,.d (.ro 2 (ah [])),.d (.ro 1 (ints [1]))],.dead,.dead,.dead,.dead]) [3] [] (by kernel_rfl) (by kernel_rfl) (U ((by first | rfl | decide):(13)=(af [1,0,1,1,1,0,12,2,10,2,2,104,105]).length) trivial) trivial (by rfl) rfl
 refine pH (E':=[(0,.d (.v (.bool true)))]) (M':=[]) tk mo hK rfl [(4,[(2,.mem [0,1] (.tu [.d (.v (.string ⟨([119,111,114,108,100,32,49,32,58,32,49,10,116,105,99,107,32,48,10,106,111,105,110,32,50,10,115,101,110,100,32,50,32,54,56,54,57,10]).toArray⟩)),.z 0]) [.gw 0 ai,.gw 1 aS])]),(5,[(1,.mem [0] (.tu [.ag [.z 1,.sl 1 (0),.sl 2 (1)],.sl 3 (3),.z 0]) [.gw 0 ai,.rw 60 2 (ah []),.rw 3 1 (ints [1]),.rw 42 7 (bO dc)])]),(6,[(1,.mem [0] (.tu [.ag [.z 1,.sl 5 (0),.sl 6 (1)],.sl 7 (3),.d (.v (.slice none 0 0)),.z 0]) [.gw 0 ai,.bx 25 [.z 1,.sl 5 (0),.sl 6 (1)],.bx 26 [.sl 7 (3)],.bx 23 [.d (.v (.slice none 0 0))],.bx 32 [.z 0],.rw 60 2 (ah []),.rw 3 1 (ints [1]),.rw 42 7 (bO dc)])]),(7,[(4,.res (.v (.string ⟨([1,0,1,1,1,0,12,2,10,2,2,104,105]).toArray⟩))),(5,.b true),(13,.b true),(27,.call [.d (.ro 7 (steps dc)),.d (.ro 7 (steps dc))] (.v (.bool true))),(41,.call [.d (.ro 7 (steps dc)),.d (.ro 7 (steps dc))] (.v (.bool true)))])] 2000 [] [0] r (by kernel_rfl) (by kernel_rfl) (U (KG) (U (Nn) (U (KH) (U (rfl:af [1,0,1,1,1,0,12,2,10,2,2,104,105]=af ([1,0,1,1,1,0,12,2,10,2,2,104,105])) (U ((by first | decide | simp):(([1,0,1,1,1,0,12,2,10,2,2,104,105]:List UInt8)==[1,0,1,1,1,0,12,2,10,2,2,104,105])=true) (U ((by first | decide | simp):(([119,111,114,108,100,32,49,32,58,32,49,10,116,105,99,107,32,48,10,106,111,105,110,32,50,10,115,101,110,100,32,50,32,54,56,54,57,10]:List UInt8)==[119,111,114,108,100,32,49,32,58,32,49,10,116,105,99,107,32,48,10,106,111,105,110,32,50,10,115,101,110,100,32,50,32,54,56,54,57,10])=true) (U (qN dc (by decide)) (U ((ft _):fe (.v (.bool true))) (U (cK (7)) (U ((by first | rfl | decide):(3)=(bO dc:List (List DV)).length) (U ((by rfl):b5 (bO dc)=steps dc) (U (iK (.ro 7 (steps dc))) (U (qN dc (by decide)) (U ((ft _):fe (.v (.bool true))) (U (cK (7)) (U ((by first | rfl | decide):(3)=(bO dc:List (List DV)).length) (U ((by rfl):b5 (bO dc)=steps dc) (U (iK (.ro 7 (steps dc))) trivial)))))))))))))))))) ?_ ?_
 ·intro x hx;simp only [List.mem_cons,List.not_mem_nil,or_false] at hx;subst hx;exact ec.v _
 ·intro x hx;simp at hx
theorem tr:aC Tryz.prog 8 [] [.gw 0 ai,.gw 1 aS] (.d (.v (.bool true))) [.gw 0 ai,.gw 1 aS]:=LK
end Go.Proofs.YtcnpikbbmbombaaGreatDoor
namespace Go.Proofs.YtcnpikbbmbombaaGreatDoor
open Go.RowKit
theorem gA (l:List aB):b5 (bO l)=steps l:=by
 rw [kx];unfold bO steps;rw [List.map_map];apply List.map_congr_left;intro s _
 simp [aB.jw,aB.row,fa,vd]
theorem zV:∀ S:List (aB×Bool),iL (bE S) (bO (eh S))
 | []=>iL.nil
 | (s,true)::S=>iL.cons (cx.cons (Le.refl _) (cx.cons (Le.refl _) (cx.cons (Le.refl _) (cx.cons (Le.refl _) (cx.cons (Le.refl _) (cx.cons (Le.refl _) (cx.cons (Le.refl _) cx.nil))))))) (zV S)
 | (s,false)::S=>iL.cons (cx.cons (Le.refl _) (cx.cons (Le.refl _) (cx.cons (Le.refl _) (cx.cons (Le.refl _) (cx.cons (Le.refl _) (cx.cons (Le.refl _) (cx.cons (Le.tR _ _) cx.nil))))))) (zV S)
def u6 (c:bK):Prop:=c.ah.length≤255∧c.homes.length≤255
theorem D7:u6 ⟨0,[],[]⟩:=⟨Nat.zero_le _,Nat.zero_le _⟩
theorem KI (l:List UInt8):u6 (ct l).1:=by
 cases h:gT l with
 | false=>rw [nc h];exact D7
 | true=>
  rw [q5 h]
  have h2:bY (jS l)=true:=by
   unfold gT at h
   simp only [Bool.and_eq_true] at h
   exact h.2.2
  obtain ⟨-,a,b,-⟩:=(jJ h2).fits
  exact ⟨a,b⟩
theorem tt:∀ (r:List (List UInt8)) (n:Nat) (b:Bool) (c:bK) (S:List (aB×Bool)) (B:List Int) (b':Bool) (c':bK) (S':List (aB×Bool)) (B':List Int),bT r n b c S B=some (b',c',S',B')→u6 c→u6 c'∧S'.length≤S.length+r.length∧B'.length≤B.length+r.length
 | [],n,b,c,S,B,b',c',S',B',h,hf=>by
  rw [bT] at h
  simp only [Option.some.injEq,Prod.mk.injEq] at h
  obtain ⟨-,rfl,rfl,rfl⟩:=h
  exact ⟨hf,by simp,by simp⟩
 | x::r,n,b,c,S,B,b',c',S',B',h,hf=>by
  rw [bT] at h
  split at h
  ·obtain ⟨h1,h2,h3⟩:=tt r _ _ _ _ _ _ _ _ _ h hf
   exact ⟨h1,by simp;omega,by simp;omega⟩
  ·cases b with
   | true=>
    simp only [cond_true] at h
    obtain ⟨h1,h2,h3⟩:=tt r _ _ _ _ _ _ _ _ _ h hf
    rw [List.length_append,List.length_singleton] at h2
    refine ⟨h1,by simp;omega,?_⟩
    cases hb:(aA x).2<;>rw [hb] at h3<;>simp at h3 ⊢<;>omega
   | false=>
    simp only [cond_false] at h
    cases hp:(ct x).2 with
    | false=>rw [hp] at h;simp at h
    | true=>
     rw [hp] at h;simp only [cond_true] at h
     obtain ⟨h1,h2,h3⟩:=tt r _ _ _ _ _ _ _ _ _ h (KI x)
     exact ⟨h1,by simp;omega,by simp;omega⟩
set_option maxHeartbeats 2000000 in
set_option maxRecDepth 100000 in
theorem Hs (s:List UInt8) (h1:8000<s.length) (h2:s.length≤524288):aC Tryz.prog 6 [.d (.v (.string ⟨s.toArray⟩))] [.gw 0 ai,.gw 1 aS] (.d (.v (.bool true))) ([.gw 0 ai,.gw 1 aS]):=by
 refine aC.intro (by kernel_rfl) rfl rfl 73 rfl rfl fun D w0 K bs ac wd hK (al:bs.m=2) r=>?_
 cases h0:(decide ((8000:Int)<((s.length:Nat):Int))) with
 | false=>
  have aT:=of_decide_eq_false h0
  exact absurd aT (by omega)
 | true=>
  have aT:=of_decide_eq_true h0
  cases h1:(decide ((((s.length:Nat):Int):Int)≤524288)) with
  | false=>
   have bR:=of_decide_eq_false h1
   exact absurd bR (by omega)
  | true=>
   have bR:=of_decide_eq_true h1
   refine aY (y:=.d (.v (.bool true))) (N':=[.gw 0 ai,.gw 1 aS]) (rfl) (rfl) ?_
   exact aX tk mo hK rfl al [(1,[(2,.b true),(6,.b true)]),(2,[(0,.mem [0,1] (.d (.v (.bool true))) [.gw 0 ai,.gw 1 aS])])] 2000 [0,1] r (by kernel_rfl) (U h0 (U h1 (U (tr) trivial)))
set_option maxHeartbeats 2000000 in
set_option maxRecDepth 100000 in
theorem Ht (s:List UInt8) (hl:s.length≤8000) (c1:bK) (S1:List (aB×Bool)) (B1:List Int) (hS:bT (fw s) 1 false ⟨0,[],[]⟩ [] []=some (true,c1,S1,B1)):aC Tryz.prog 6 [.d (.v (.string ⟨s.toArray⟩))] [.gw 0 ai,.gw 1 aS] (.d (.v (.bool true))) ([.gw 0 ai,.gw 1 aS]):=by
 refine aC.intro (by kernel_rfl) rfl rfl 73 rfl rfl fun D w0 K bs ac wd hK (al:bs.m=2) r=>?_
 cases h0:(decide ((8000:Int)<((s.length:Nat):Int))) with
 | false=>
  have aT:=of_decide_eq_false h0
  obtain ⟨⟨QK,ED⟩,mG,gj⟩:=tt _ _ _ _ _ _ _ _ _ _ ((vB s.length s (Nat.le_refl _) _ _ _ _ _).trans hS) D7
  have QL:=vC 10 s
  have kQ:S1.length≤(ak 10 s).length:=by simpa using mG
  have je:B1.length≤(ak 10 s).length:=by simpa using gj
  refine bS (todo':=aft Tryz.f6 3) (E':=[(0,.d (.v (.string ⟨s.toArray⟩))),(2,.d (.v (.bool false))),(3,.pt 10 0),(4,.sl 8 (S1.length)),(5,.sl 9 (B1.length)),(6,.z 0)]) (M':=[.gw 0 ai,.gw 1 aS,.bx 25 [.z c1.aD,.sl 6 (c1.ah.length),.sl 7 (c1.homes.length)],.bx 26 [.sl 8 (S1.length)],.bx 23 [.sl 9 (B1.length)],.bx 32 [.z 0],.rw 60 2 (ah c1.ah),.rw 3 1 (ints c1.homes),.rw 42 7 (bE S1),.rw 3 1 (ints B1),.bx 25 [.z c1.aD,.sl 6 (c1.ah.length),.sl 7 (c1.homes.length)]]) tk mo hK al [(1,[(2,.b false)]),(3,[(1,.mem [0] (.tu [.ag [.z c1.aD,.sl 5 (c1.ah.length),.sl 6 (c1.homes.length)],.sl 7 (S1.length),.sl 8 (B1.length),.z 0]) [.gw 0 ai,.bx 25 [.z c1.aD,.sl 5 (c1.ah.length),.sl 6 (c1.homes.length)],.bx 26 [.sl 7 (S1.length)],.bx 23 [.sl 8 (B1.length)],.bx 32 [.z 0],.rw 60 2 (ah c1.ah),.rw 3 1 (ints c1.homes),.rw 42 7 (bE S1),.rw 3 1 (ints B1)])])] 9 [0,1,2,3,4,5,6,7,8,9,10] [0,2,3,4,5,6] r (by kernel_rfl) (U h0 (U (I8 s (by omega) c1 S1 B1 hS) trivial)) fun ac wd r=>?_
  have r:=(r.less (rows':=bO (eh S1)) 8 rfl (zV S1)).cast (M':=[.gw 0 ai,.gw 1 aS,.bx 25 [.z c1.aD,.sl 6 (c1.ah.length),.sl 7 (c1.homes.length)],.bx 26 [.sl 8 (S1.length)],.bx 23 [.sl 9 (B1.length)],.bx 32 [.z 0],.rw 60 2 (ah c1.ah),.rw 3 1 (ints c1.homes),.rw 42 7 (bO (eh S1)),.rw 3 1 (ints B1),.bx 25 [.z c1.aD,.sl 6 (c1.ah.length),.sl 7 (c1.homes.length)]]) rfl rfl
  refine bp (todo':=hd Tryz.f6 0) (E':=[(5,.sl 2 (B1.length)),(9,.sl 3 (B1.length)),(11,.z 0)]) (M':=[.gw 0 ai,.gw 1 aS,.rw 3 1 (ints B1),.rw 3 1 (ints B1)]) tk mo hK al [(4,[(1,.mem [] (.tu [.ag [.z c1.aD,.sl 0 (c1.ah.length),.sl 1 (c1.homes.length)],.sl 2 (S1.length),.sl 3 (B1.length),.z 0]) [.rw 60 2 (ah c1.ah),.rw 3 1 (ints c1.homes),.rw 42 7 (bO (eh S1)),.rw 3 1 (ints B1)])]),(5,[(6,.call [.ag [.z c1.aD,.d (.ro 2 (ah c1.ah)),.d (.ro 1 (ints c1.homes))],.ag [.z c1.aD,.d (.ro 2 (ah c1.ah)),.d (.ro 1 (ints c1.homes))]] (.v (.bool true))),(12,.call [.d (.ro 7 (steps (eh S1))),.d (.ro 7 (steps (eh S1)))] (.v (.bool true))),(20,.b false)])] 2000 [0,1,9,14] [5,9,11] r (by kernel_rfl) (U (Hl s (by omega) c1 S1 B1 ((vB s.length s (Nat.le_refl _) _ _ _ _ _).trans hS):aC Tryz.prog 20 [.d (.v (.string ⟨s.toArray⟩))] [] (.tu [.ag [.z c1.aD,.sl 0 (c1.ah.length),.sl 1 (c1.homes.length)],.sl 2 (S1.length),.sl 3 (B1.length),.z 0]) [.rw 60 2 (ah c1.ah),.rw 3 1 (ints c1.homes),.rw 42 7 (bO (eh S1)),.rw 3 1 (ints B1)]) (U (vz c1 (by omega) (by omega)) (U ((ft _):fe (.v (.bool true))) (U (iK (.z c1.aD)) (U (cK (2)) (U ((by first | rfl | (simp [ah,ints,bO,e5];done)):(c1.ah.length)=(ah c1.ah:List (List DV)).length) (U ((by first | rfl | exact ew _ | exact ey _ | exact gA _):b5 (ah c1.ah)=ah c1.ah) (U (cK (1)) (U ((by first | rfl | (simp [ah,ints,bO,e5];done)):(c1.homes.length)=(ints c1.homes).length) (U ((by first | rfl | exact ew _ | exact ey _ | exact gA _):b5 (ints c1.homes)=ints c1.homes) (U (iK (.z c1.aD)) (U (cK (2)) (U ((by first | rfl | (simp [ah,ints,bO,e5];done)):(c1.ah.length)=(ah c1.ah:List (List DV)).length) (U ((by first | rfl | exact ew _ | exact ey _ | exact gA _):b5 (ah c1.ah)=ah c1.ah) (U (cK (1)) (U ((by first | rfl | (simp [ah,ints,bO,e5];done)):(c1.homes.length)=(ints c1.homes).length) (U ((by first | rfl | exact ew _ | exact ey _ | exact gA _):b5 (ints c1.homes)=ints c1.homes) (U (qN (eh S1) (by rw [e5];omega)) (U ((ft _):fe (.v (.bool true))) (U (cK (7)) (U ((by first | rfl | (simp [ah,ints,bO,e5];done)):(S1.length)=(bO (eh S1):List (List DV)).length) (U ((by first | rfl | exact ew _ | exact ey _ | exact gA _):b5 (bO (eh S1))=steps (eh S1)) (U (cK (7)) (U ((by first | rfl | (simp [ah,ints,bO,e5];done)):(S1.length)=(bO (eh S1):List (List DV)).length) (U ((by first | rfl | exact ew _ | exact ey _ | exact gA _):b5 (bO (eh S1))=steps (eh S1)) (U ((by simp):((((B1.length:Nat):Int):Int) != ((B1.length:Nat):Int))=false) trivial)))))))))))))))))))))))))) fun ac wd r=>?_
  refine aF.rounds (Φ:=fun (i:Nat) ac wd=>(i≤B1.length)∧RB D w0 K 73 bs [(5,.sl 2 (B1.length)),(9,.sl 3 (B1.length)),(11,.n i)] [.gw 0 ai,.gw 1 aS,.rw 3 1 (ints B1),.rw 3 1 (ints B1)] ac wd) (B1.length) ?_ (Nat.zero_le _) ⟨(Nat.zero_le _),(r).cast rfl rfl⟩
  clear r
  rintro i dw bj ac wd ⟨ao,r⟩
  cases h1:(decide ((((i:Nat):Int):Int)<((B1.length:Nat):Int))) with
  | false=>
   have bR:=of_decide_eq_false h1
   refine aY (y:=.d (.v (.bool true))) (N':=[.gw 0 ai,.gw 1 aS]) (rfl) (rfl) ?_
   exact aX tk mo hK rfl al [(8,[(3,.b false)]),(12,[(0,.mem [0,1] (.d (.v (.bool true))) [.gw 0 ai,.gw 1 aS])])] 2000 [0,1] r (by kernel_rfl) (U h1 (U (tr) trivial))
  | true=>
   have bR:=of_decide_eq_true h1
   obtain ⟨tI,Cl⟩:∃ x_,B1[i]?=some x_:=⟨_,List.getElem?_eq_getElem (by omega)⟩
   exact bp (todo':=hd Tryz.f6 0) (E':=[(5,.sl 2 (B1.length)),(9,.sl 3 (B1.length)),(11,.n (i+1))]) (M':=[.gw 0 ai,.gw 1 aS,.rw 3 1 (ints B1),.rw 3 1 (ints B1)]) tk mo hK al [(8,[(3,.b true)]),(9,[(1,.z (((i+1:Nat):Int)))]),(10,[(2,.n (i)),(3,.ix 0 [.z tI]),(6,.n (i)),(7,.ix 0 [.z tI]),(8,.b false)])] 2000 [0,1,2,3] [5,9,11] r (by kernel_rfl) (U h1 (U (ax ((i:Nat):Int)) (U ((by first | omega | decide | (simp;done) | (simp;omega)):(i)<(B1.length)) (U ((by first | rfl | (simp [ah,ints,bO,e5];done)):(B1.length)≤(ints B1).length) (U (ints_at Cl) (U (ax ((i:Nat):Int)) (U ((by first | omega | decide | (simp;done) | (simp;omega)):(i)<(B1.length)) (U ((by first | rfl | (simp [ah,ints,bO,e5];done)):(B1.length)≤(ints B1).length) (U (ints_at Cl) (U ((by simp):((tI:Int) != tI)=false) (U ((wi (by omega)):IntKind.i64.wrap ((((i:Nat):Int):Int)+1)=((i+1:Nat):Int)) trivial))))))))))) fun ac wd r=>bj (by omega) ac wd ⟨(by omega),r.cast rfl rfl⟩
 | true=>
  have aT:=of_decide_eq_true h0
  exact absurd aT (by omega)
set_option maxHeartbeats 2000000 in
set_option maxRecDepth 100000 in
theorem vD (s:List UInt8) (h8:s.length≤8000∨524288<s.length) (z:Int) (hP:aC Tryz.prog 19 [.d (.v (.string ⟨s.toArray⟩))] [.gw 0 ai] (.tu [.ag [.z 0,.d (.v (.slice none 0 0)),.d (.v (.slice none 0 0))],.d (.v (.slice none 0 0)),.d (.v (.slice none 0 0)),.z z]) [.gw 0 ai,.bx 25 [.z 0,.d (.v (.slice none 0 0)),.d (.v (.slice none 0 0))],.bx 26 [.d (.v (.slice none 0 0))],.bx 23 [.d (.v (.slice none 0 0))],.bx 32 [.z z]]) (hD:aC Tryz.prog 20 [.d (.v (.string ⟨s.toArray⟩))] [] (.tu [.ag [.z 0,.d (.v (.slice none 0 0)),.d (.v (.slice none 0 0))],.d (.v (.slice none 0 0)),.d (.v (.slice none 0 0)),.z z]) []):aC Tryz.prog 6 [.d (.v (.string ⟨s.toArray⟩))] [.gw 0 ai,.gw 1 aS] (.d (.v (.bool true))) ([.gw 0 ai,.gw 1 aS]):=by
 refine aC.intro (by kernel_rfl) rfl rfl 73 rfl rfl fun D w0 K bs ac wd hK (al:bs.m=2) r=>?_
 cases h0:(decide ((8000:Int)<((s.length:Nat):Int))) with
 | false=>
  have aT:=of_decide_eq_false h0
  refine bS (todo':=aft Tryz.f6 4) (E':=[(2,.d (.v (.bool false))),(3,.pt 6 0),(4,.d (.v (.slice none 0 0))),(5,.d (.v (.slice none 0 0))),(6,.z z),(7,.pt 7 0),(8,.d (.v (.slice none 0 0))),(9,.d (.v (.slice none 0 0))),(10,.z z)]) (M':=[.gw 0 ai,.gw 1 aS,.bx 25 [.z 0,.d (.v (.slice none 0 0)),.d (.v (.slice none 0 0))],.bx 26 [.d (.v (.slice none 0 0))],.bx 23 [.d (.v (.slice none 0 0))],.bx 32 [.z z],.bx 25 [.z 0,.d (.v (.slice none 0 0)),.d (.v (.slice none 0 0))],.bx 25 [.z 0,.d (.v (.slice none 0 0)),.d (.v (.slice none 0 0))]]) tk mo hK al [(1,[(2,.b false)]),(3,[(1,.mem [0] (.tu [.ag [.z 0,.d (.v (.slice none 0 0)),.d (.v (.slice none 0 0))],.d (.v (.slice none 0 0)),.d (.v (.slice none 0 0)),.z z]) [.gw 0 ai,.bx 25 [.z 0,.d (.v (.slice none 0 0)),.d (.v (.slice none 0 0))],.bx 26 [.d (.v (.slice none 0 0))],.bx 23 [.d (.v (.slice none 0 0))],.bx 32 [.z z]])]),(4,[(1,.mem [] (.tu [.ag [.z 0,.d (.v (.slice none 0 0)),.d (.v (.slice none 0 0))],.d (.v (.slice none 0 0)),.d (.v (.slice none 0 0)),.z z]) [])])] 11 [0,1,2,3,4,5,6,7] [2,3,4,5,6,7,8,9,10] r (by kernel_rfl) (U h0 (U (hP) (U (hD) trivial))) fun ac wd r=>?_
  have r:=r.dA (E1:=[(2,.d (.v (.bool false))),(3,.pt 6 0),(4,.sl 8 (0)),(5,.sl 10 (0)),(6,.z z),(7,.pt 7 0),(8,.sl 9 (0)),(9,.sl 11 (0)),(10,.z z)]) (M1:=[.gw 0 ai,.gw 1 aS,.bx 25 [.z 0,.d (.v (.slice none 0 0)),.d (.v (.slice none 0 0))],.bx 26 [.d (.v (.slice none 0 0))],.bx 23 [.d (.v (.slice none 0 0))],.bx 32 [.z z],.bx 25 [.z 0,.d (.v (.slice none 0 0)),.d (.v (.slice none 0 0))],.bx 25 [.z 0,.d (.v (.slice none 0 0)),.d (.v (.slice none 0 0))],.rw 42 7 ([]),.rw 42 7 ([]),.rw 3 1 ([]),.rw 3 1 ([])]) (M2:=[.gw 0 ai,.gw 1 aS,.bx 25 [.z 0,.d (.v (.slice none 0 0)),.d (.v (.slice none 0 0))],.bx 26 [.d (.v (.slice none 0 0))],.bx 23 [.d (.v (.slice none 0 0))],.bx 32 [.z z],.bx 25 [.z 0,.sl 12 (0),.sl 13 (0)],.bx 25 [.z 0,.sl 14 (0),.sl 15 (0)],.rw 42 7 ([]),.rw 42 7 ([]),.rw 3 1 ([]),.rw 3 1 ([]),.rw 60 2 ([]),.rw 3 1 ([]),.rw 60 2 ([]),.rw 3 1 ([])]) [(4,42,7),(8,42,7),(5,3,1),(9,3,1)] [(6,1,60,2),(6,2,3,1),(7,1,60,2),(7,2,3,1)] (by kernel_rfl) (by kernel_rfl)
  refine bp (todo':=hd Tryz.f6 0) (E':=[(5,.sl 2 (0)),(9,.sl 3 (0)),(11,.z 0)]) (M':=[.gw 0 ai,.gw 1 aS,.rw 3 1 ([]),.rw 3 1 ([])]) tk mo hK al [(5,[(2,.b false),(6,.call [.ag [.z 0,.d (.ro 2 (ah [])),.d (.ro 1 (ints []))],.ag [.z 0,.d (.ro 2 (ah [])),.d (.ro 1 (ints []))]] (.v (.bool true))),(12,.call [.d (.ro 7 (steps [])),.d (.ro 7 (steps []))] (.v (.bool true)))])] 2000 [0,1,10,11] [5,9,11] r (by kernel_rfl) (U ((by simp):((z:Int) != z)=false) (U (vz ⟨0,[],[]⟩ (Nat.zero_le _) (Nat.zero_le _):ay Tryz.prog 13 [.ag [.z 0,.d (.ro 2 (ah [])),.d (.ro 1 (ints []))],.ag [.z 0,.d (.ro 2 (ah [])),.d (.ro 1 (ints []))]] (.v (.bool true))) (U ((ft _):fe (.v (.bool true))) (U (iK (.z 0)) (U (cK (2)) (U ((by first | rfl | (simp [ah,ints,bO,e5];done)):(0)=([]:List (List DV)).length) (U ((by first | rfl | exact ew _ | exact ey _ | exact gA _):b5 ([])=ah []) (U (cK (1)) (U ((by first | rfl | (simp [ah,ints,bO,e5];done)):(0)=([]:List (List DV)).length) (U ((by first | rfl | exact ew _ | exact ey _ | exact gA _):b5 ([])=ints []) (U (iK (.z 0)) (U (cK (2)) (U ((by first | rfl | (simp [ah,ints,bO,e5];done)):(0)=([]:List (List DV)).length) (U ((by first | rfl | exact ew _ | exact ey _ | exact gA _):b5 ([])=ah []) (U (cK (1)) (U ((by first | rfl | (simp [ah,ints,bO,e5];done)):(0)=([]:List (List DV)).length) (U ((by first | rfl | exact ew _ | exact ey _ | exact gA _):b5 ([])=ints []) (U (qN [] (Nat.zero_le _):ay Tryz.prog 14 [.d (.ro 7 (steps [])),.d (.ro 7 (steps []))] (.v (.bool true))) (U ((ft _):fe (.v (.bool true))) (U (cK (7)) (U ((by first | rfl | (simp [ah,ints,bO,e5];done)):(0)=([]:List (List DV)).length) (U ((by first | rfl | exact ew _ | exact ey _ | exact gA _):b5 ([])=steps []) (U (cK (7)) (U ((by first | rfl | (simp [ah,ints,bO,e5];done)):(0)=([]:List (List DV)).length) (U ((by first | rfl | exact ew _ | exact ey _ | exact gA _):b5 ([])=steps []) trivial))))))))))))))))))))))))) fun ac wd r=>?_
  refine aF.rounds (Φ:=fun (i:Nat) ac wd=>(i≤0)∧RB D w0 K 73 bs [(5,.sl 2 (0)),(9,.sl 3 (0)),(11,.n i)] [.gw 0 ai,.gw 1 aS,.rw 3 1 ([]),.rw 3 1 ([])] ac wd) (0) ?_ (Nat.zero_le _) ⟨(Nat.zero_le _),(r).cast rfl rfl⟩
  clear r
  rintro i dw bj ac wd ⟨ao,r⟩
  cases h1:(decide ((((i:Nat):Int):Int)<((0:Nat):Int))) with
  | false=>
   have bR:=of_decide_eq_false h1
   refine aY (y:=.d (.v (.bool true))) (N':=[.gw 0 ai,.gw 1 aS]) (rfl) (rfl) ?_
   exact aX tk mo hK rfl al [(8,[(3,.b false)]),(12,[(0,.mem [0,1] (.d (.v (.bool true))) [.gw 0 ai,.gw 1 aS])])] 2000 [0,1] r (by kernel_rfl) (U h1 (U (tr) trivial))
  | true=>
   have bR:=of_decide_eq_true h1
   exact absurd bR (by omega)
 | true=>
  have aT:=of_decide_eq_true h0
  cases h2:(decide ((((s.length:Nat):Int):Int)≤524288)) with
  | false=>
   have cz:=of_decide_eq_false h2
   refine bS (todo':=aft Tryz.f6 4) (E':=[(2,.d (.v (.bool false))),(3,.pt 6 0),(4,.d (.v (.slice none 0 0))),(5,.d (.v (.slice none 0 0))),(6,.z z),(7,.pt 7 0),(8,.d (.v (.slice none 0 0))),(9,.d (.v (.slice none 0 0))),(10,.z z)]) (M':=[.gw 0 ai,.gw 1 aS,.bx 25 [.z 0,.d (.v (.slice none 0 0)),.d (.v (.slice none 0 0))],.bx 26 [.d (.v (.slice none 0 0))],.bx 23 [.d (.v (.slice none 0 0))],.bx 32 [.z z],.bx 25 [.z 0,.d (.v (.slice none 0 0)),.d (.v (.slice none 0 0))],.bx 25 [.z 0,.d (.v (.slice none 0 0)),.d (.v (.slice none 0 0))]]) tk mo hK al [(1,[(2,.b true),(6,.b false)]),(3,[(1,.mem [0] (.tu [.ag [.z 0,.d (.v (.slice none 0 0)),.d (.v (.slice none 0 0))],.d (.v (.slice none 0 0)),.d (.v (.slice none 0 0)),.z z]) [.gw 0 ai,.bx 25 [.z 0,.d (.v (.slice none 0 0)),.d (.v (.slice none 0 0))],.bx 26 [.d (.v (.slice none 0 0))],.bx 23 [.d (.v (.slice none 0 0))],.bx 32 [.z z]])]),(4,[(1,.mem [] (.tu [.ag [.z 0,.d (.v (.slice none 0 0)),.d (.v (.slice none 0 0))],.d (.v (.slice none 0 0)),.d (.v (.slice none 0 0)),.z z]) [])])] 11 [0,1,2,3,4,5,6,7] [2,3,4,5,6,7,8,9,10] r (by kernel_rfl) (U h0 (U h2 (U (hP) (U (hD) trivial)))) fun ac wd r=>?_
   have r:=r.dA (E1:=[(2,.d (.v (.bool false))),(3,.pt 6 0),(4,.sl 8 (0)),(5,.sl 10 (0)),(6,.z z),(7,.pt 7 0),(8,.sl 9 (0)),(9,.sl 11 (0)),(10,.z z)]) (M1:=[.gw 0 ai,.gw 1 aS,.bx 25 [.z 0,.d (.v (.slice none 0 0)),.d (.v (.slice none 0 0))],.bx 26 [.d (.v (.slice none 0 0))],.bx 23 [.d (.v (.slice none 0 0))],.bx 32 [.z z],.bx 25 [.z 0,.d (.v (.slice none 0 0)),.d (.v (.slice none 0 0))],.bx 25 [.z 0,.d (.v (.slice none 0 0)),.d (.v (.slice none 0 0))],.rw 42 7 ([]),.rw 42 7 ([]),.rw 3 1 ([]),.rw 3 1 ([])]) (M2:=[.gw 0 ai,.gw 1 aS,.bx 25 [.z 0,.d (.v (.slice none 0 0)),.d (.v (.slice none 0 0))],.bx 26 [.d (.v (.slice none 0 0))],.bx 23 [.d (.v (.slice none 0 0))],.bx 32 [.z z],.bx 25 [.z 0,.sl 12 (0),.sl 13 (0)],.bx 25 [.z 0,.sl 14 (0),.sl 15 (0)],.rw 42 7 ([]),.rw 42 7 ([]),.rw 3 1 ([]),.rw 3 1 ([]),.rw 60 2 ([]),.rw 3 1 ([]),.rw 60 2 ([]),.rw 3 1 ([])]) [(4,42,7),(8,42,7),(5,3,1),(9,3,1)] [(6,1,60,2),(6,2,3,1),(7,1,60,2),(7,2,3,1)] (by kernel_rfl) (by kernel_rfl)
   refine bp (todo':=hd Tryz.f6 0) (E':=[(5,.sl 2 (0)),(9,.sl 3 (0)),(11,.z 0)]) (M':=[.gw 0 ai,.gw 1 aS,.rw 3 1 ([]),.rw 3 1 ([])]) tk mo hK al [(5,[(2,.b false),(6,.call [.ag [.z 0,.d (.ro 2 (ah [])),.d (.ro 1 (ints []))],.ag [.z 0,.d (.ro 2 (ah [])),.d (.ro 1 (ints []))]] (.v (.bool true))),(12,.call [.d (.ro 7 (steps [])),.d (.ro 7 (steps []))] (.v (.bool true)))])] 2000 [0,1,10,11] [5,9,11] r (by kernel_rfl) (U ((by simp):((z:Int) != z)=false) (U (vz ⟨0,[],[]⟩ (Nat.zero_le _) (Nat.zero_le _):ay Tryz.prog 13 [.ag [.z 0,.d (.ro 2 (ah [])),.d (.ro 1 (ints []))],.ag [.z 0,.d (.ro 2 (ah [])),.d (.ro 1 (ints []))]] (.v (.bool true))) (U ((ft _):fe (.v (.bool true))) (U (iK (.z 0)) (U (cK (2)) (U ((by first | rfl | (simp [ah,ints,bO,e5];done)):(0)=([]:List (List DV)).length) (U ((by first | rfl | exact ew _ | exact ey _ | exact gA _):b5 ([])=ah []) (U (cK (1)) (U ((by first | rfl | (simp [ah,ints,bO,e5];done)):(0)=([]:List (List DV)).length) (U ((by first | rfl | exact ew _ | exact ey _ | exact gA _):b5 ([])=ints []) (U (iK (.z 0)) (U (cK (2)) (U ((by first | rfl | (simp [ah,ints,bO,e5];done)):(0)=([]:List (List DV)).length) (U ((by first | rfl | exact ew _ | exact ey _ | exact gA _):b5 ([])=ah []) (U (cK (1)) (U ((by first | rfl | (simp [ah,ints,bO,e5];done)):(0)=([]:List (List DV)).length) (U ((by first | rfl | exact ew _ | exact ey _ | exact gA _):b5 ([])=ints []) (U (qN [] (Nat.zero_le _):ay Tryz.prog 14 [.d (.ro 7 (steps [])),.d (.ro 7 (steps []))] (.v (.bool true))) (U ((ft _):fe (.v (.bool true))) (U (cK (7)) (U ((by first | rfl | (simp [ah,ints,bO,e5];done)):(0)=([]:List (List DV)).length) (U ((by first | rfl | exact ew _ | exact ey _ | exact gA _):b5 ([])=steps []) (U (cK (7)) (U ((by first | rfl | (simp [ah,ints,bO,e5];done)):(0)=([]:List (List DV)).length) (U ((by first | rfl | exact ew _ | exact ey _ | exact gA _):b5 ([])=steps []) trivial))))))))))))))))))))))))) fun ac wd r=>?_
   refine aF.rounds (Φ:=fun (i:Nat) ac wd=>(i≤0)∧RB D w0 K 73 bs [(5,.sl 2 (0)),(9,.sl 3 (0)),(11,.n i)] [.gw 0 ai,.gw 1 aS,.rw 3 1 ([]),.rw 3 1 ([])] ac wd) (0) ?_ (Nat.zero_le _) ⟨(Nat.zero_le _),(r).cast rfl rfl⟩
   clear r
   rintro i dw bj ac wd ⟨ao,r⟩
   cases h3:(decide ((((i:Nat):Int):Int)<((0:Nat):Int))) with
   | false=>
    have cT:=of_decide_eq_false h3
    refine aY (y:=.d (.v (.bool true))) (N':=[.gw 0 ai,.gw 1 aS]) (rfl) (rfl) ?_
    exact aX tk mo hK rfl al [(8,[(3,.b false)]),(12,[(0,.mem [0,1] (.d (.v (.bool true))) [.gw 0 ai,.gw 1 aS])])] 2000 [0,1] r (by kernel_rfl) (U h3 (U (tr) trivial))
   | true=>
    have cT:=of_decide_eq_true h3
    exact absurd cT (by omega)
  | true=>
   have cz:=of_decide_eq_true h2
   exact absurd cz (by omega)
theorem I9 (s:List UInt8):aC Tryz.prog 6 [.d (.v (.string ⟨s.toArray⟩))] [.gw 0 ai,.gw 1 aS] (.d (.v (.bool true))) [.gw 0 ai,.gw 1 aS]:=by
 by_cases h1:s.length≤8000
 ·have e:=fun n b c S B=>vB s.length s (Nat.le_refl _) n b c S B
  cases hS:bT (fw s) 1 false ⟨0,[],[]⟩ [] [] with
  | none=>exact vD s (.inl h1) 3 (Hr s (by omega) hS) (BI s (by omega) fun c S B=>by rw [e,hS];simp)
  | some q=>
   obtain ⟨b,c1,S1,B1⟩:=q
   cases b with
   | false=>exact vD s (.inl h1) 3 (Hq s (by omega) c1 S1 B1 hS) (BI s (by omega) fun c S B=>by rw [e,hS];simp)
   | true=>exact Ht s h1 c1 S1 B1 hS
 ·by_cases h2:s.length≤524288
  ·exact Hs s (by omega) h2
  ·exact vD s (.inr (by omega)) 2 (Hn s (by omega)) (Gk s (by omega))
end Go.Proofs.YtcnpikbbmbombaaGreatDoor
namespace Go.Proofs.YtcnpikbbmbombaaGreatDoor
open Go.RowKit
open Go.Deep
variable {w:World}
theorem mapM_at {α β:Type} {f:α→Option β}:∀ {l:List α} {r:List β},l.mapM f=some r→∀ (j:Nat) x,l[j]?=some x→∃ y,r[j]?=some y∧f x=some y
 | [],_,_,j,x,hx=>by simp at hx
 | z::l,r,h,j,x,hx=>by
  rw [List.mapM_cons] at h
  obtain ⟨y,h1,h2⟩:=Option.bind_eq_some_iff.1 h
  obtain ⟨ys,h3,h4⟩:=Option.bind_eq_some_iff.1 h2
  obtain rfl:y::ys=r:=Option.some.inj h4
  cases j with
  | zero=>simp at hx;subst hx;exact ⟨y,rfl,h1⟩
  | succ j=>simp at hx;obtain ⟨y',h5,h6⟩:=mapM_at h3 j x hx;exact ⟨y',by simpa using h5,h6⟩
section
variable {P:Program} {t e:TypeId} {cs:List Value} {cap:Nat}
end
instance:Inhabited aB:=⟨⟨0,0,0,0,0,0,[]⟩⟩
end Go.Proofs.YtcnpikbbmbombaaGreatDoor
namespace Go.Proofs.YtcnpikbbmbombaaGreatDoor
open Go.RowKit
def nr (F:TypeId→DataW Unit→Option (List Value)) (P:Program) (sF:Nat):List (TypeId×Nat)→List (DataW Unit)→Nat→Option (List Value)
 | [],[],off=>if off=sF then some [] else none
 | q::L,d::ds,off=>if q.2=off then (F q.1 d).bind fun X=>(nr F P sF L ds (off+P.cellsOf q.1)).map fun Y=>X++Y else none
 | _,_,_=>none
def ns (P:Program):Nat→TypeId→DataW Unit→Option (List Value)
 | 0,_,_=>none
 | _+1,t,.lit l=>match P.underlying t,l with
  | some .bool,.bool b=>some [.bool b]
  | some (.int _),.int k m=>some [.int k m]
  | some .string,.string s=>some [.string ⟨s.toArray⟩]
  | _,_=>none
 | n+1,t,.agg ps=>match P.underlying t with
  | some (.struct fs)=>nr (ns P n) P (P.cellsOf t) (fs.toList.map fun f=>(f.type,f.offset)) ps 0
  | some (.array m e)=>nr (ns P n) P (P.cellsOf t) ((List.range m).map fun i=>(e,i*P.cellsOf e)) ps 0
  | _=>none
 | _+1,_,_=>none
theorem vY {F:TypeId→DataW Unit→Option (List Value)} {P:Program} {sF:Nat} {cs:List Value} (hl:cs.length=sF):∀ {L:List (TypeId×Nat)} {ds:List (DataW Unit)} {off:Nat} {X:List Value},(∀ (j:Nat) q d,L[j]?=some q→ds[j]?=some d→∀ X,F q.1 d=some X→(cs.drop q.2).take (P.cellsOf q.1)=X)→nr F P sF L ds off=some X→cs.drop off=X
 | [],[],off,X,_,h=>by
  unfold nr at h
  split at h
  ·simp at h;subst h;rename_i e;exact List.drop_of_length_le (by omega)
  ·simp at h
 | q::L,d::ds,off,X,hq,h=>by
  unfold nr at h
  split at h
  ·rename_i e
   obtain ⟨X0,h0,h1⟩:=Option.bind_eq_some_iff.1 h
   obtain ⟨Y,h2,rfl⟩:=Option.map_eq_some_iff.1 h1
   have a:=hq 0 q d rfl rfl X0 h0
   have b:=vY hl (fun j q' d' g1 g2=>hq (j+1) q' d' (by simpa using g1) (by simpa using g2)) h2
   rw [e] at a
   rw [← a,← b,← List.drop_drop,List.take_append_drop]
  ·simp at h
 | [],_::_,_,_,_,h=>by simp [nr] at h
 | _::_,[],_,_,_,h=>by simp [nr] at h
theorem Ja {P:Program} {w:World} {enc:TypeId×Value→Unit} {base:Nat} {sp:Nat→Bool} {held:Bool}:∀ {n fuel:Nat} {t:TypeId} {cs:List Value} {d:DataW Unit} {p:List MemPlace} {X:List Value},DataW.trod enc P w base sp held fuel t cs=some (d,p)→ns P n t d=some X→cs=X:=by
 intro n
 induction n with
 | zero=>intro fuel t cs d p X _ h;simp [ns] at h
 | succ n ih=>
  intro fuel t cs d p X h hf
  cases fuel with
  | zero=>simp [DataW.trod] at h
  | succ fuel=>
   cases d with
   | lit l=>
    unfold ns at hf
    split at hf
    ·rename_i ht
     rw [DataW.trod_step] at h;unfold DataW.trodStep at h;simp only [ht] at h
     split at h<;>simp_all
    ·rename_i ht
     rw [DataW.trod_step] at h;unfold DataW.trodStep at h;simp only [ht] at h
     split at h<;>simp_all
    ·rename_i ht
     rw [DataW.trod_step] at h;unfold DataW.trodStep at h;simp only [ht] at h
     split at h<;>try simp_all
     rename_i s _ _ _ _
     obtain ⟨-,rfl,-⟩:=h
     subst hf
     simp
    ·simp at hf
   | agg ps=>
    unfold ns at hf
    split at hf
    ·rename_i fs ht
     rw [DataW.trod_step] at h;unfold DataW.trodStep at h;simp only [ht] at h
     split at h
     ·rename_i hlen
      obtain ⟨xs,h1,h2⟩:=Option.map_eq_some_iff.1 h
      simp only [Prod.mk.injEq,DataW.agg.injEq] at h2
      obtain ⟨rfl,-⟩:=h2
      have:=vY hlen (fun j q d g1 g2 Y gY=>?_) hf
      ·simpa using this
      ·rw [List.getElem?_map] at g1 g2
       obtain ⟨f,g3,rfl⟩:=Option.map_eq_some_iff.1 g1
       obtain ⟨y,g4,rfl⟩:=Option.map_eq_some_iff.1 g2
       obtain ⟨y',g5,g6⟩:=mapM_at h1 j f g3
       obtain rfl:y'=y:=Option.some.inj (g5.symm.trans g4)
       exact ih (d:=y'.1) (p:=y'.2) g6 gY
     ·simp at h
    ·rename_i m e ht
     rw [DataW.trod_step] at h;unfold DataW.trodStep at h;simp only [ht] at h
     split at h
     ·rename_i hlen
      obtain ⟨xs,h1,h2⟩:=Option.map_eq_some_iff.1 h
      simp only [Prod.mk.injEq,DataW.agg.injEq] at h2
      obtain ⟨rfl,-⟩:=h2
      have:=vY hlen (fun j q d g1 g2 Y gY=>?_) hf
      ·simpa using this
      ·rw [List.getElem?_map] at g1 g2
       obtain ⟨f,g3,rfl⟩:=Option.map_eq_some_iff.1 g1
       obtain ⟨y,g4,rfl⟩:=Option.map_eq_some_iff.1 g2
       obtain ⟨y',g5,g6⟩:=mapM_at h1 j f g3
       obtain rfl:y'=y:=Option.some.inj (g5.symm.trans g4)
       exact ih (d:=y'.1) (p:=y'.2) g6 gY
     ·simp at h
    ·simp at hf
   | _=>simp [ns] at hf
theorem Aj {P:Program} {w:World}:∀ {l:List (String×DataW Unit)} {ps:List MemPlace},DataW.LaidVars P w l ps→∀ {n:String} {d:DataW Unit},(n,d) ∈ l→∃ g t cs fuel p,P.globalNamed n=some g∧(P.globals[g]?).map (·.type)=some t∧w.var? P n=some cs∧DataW.trod (fun _=>()) P w 0 (fun _=>true) false fuel t cs.toList=some (d,p)
 | [],_,_,_,_,hm=>by simp at hm
 | (n0,d0)::r,ps,h,n,d,hm=>by
  obtain ⟨g,t,cs,fuel,p,q,e1,e2,e3,e4,hr,rfl⟩:=h
  rcases List.mem_cons.1 hm with e | hm
  ·obtain ⟨rfl,rfl⟩:=Prod.mk.inj e;exact ⟨g,t,cs,fuel,p,e1,e2,e3,e4⟩
  ·exact Aj hr hm
def za:DV→Value
 | .v x=>x
 | _=>.bool false
def D8:DV→Bool
 | .v _=>true
 | _=>false
theorem Cm {P:Program} {w:World} {laid:List (String×DataW Unit)} (h:laidMet P laid w) {n:String} {d:DataW Unit} (hm:(n,d) ∈ laid) {g t:Nat} (k:Nat) {row:List DV} (hg:P.globalNamed n=some g) (ht:(P.globals[g]?).map (·.type)=some t) (hf:ns P k t d=some (row.map za)) (hv:row.all D8=true) {u:Nat}:bB (Gr w) [] u (.gw g row) []:=by
 obtain ⟨ps,hl,-⟩:=h
 obtain ⟨g',t',cs,fuel,p,e1,e2,e3,e4⟩:=Aj hl hm
 obtain rfl:g=g':=Option.some.inj (hg.symm.trans e1)
 obtain rfl:t=t':=Option.some.inj (ht.symm.trans e2)
 have hX:=Ja e4 hf
 refine .gw (row.map za) (by simp) (fun w' hw j x hx=>hw.tJ ?_) fun j c x hc hx=>?_
 ·unfold World.var? at e3
  rw [hg,Option.bind_some] at e3
  split at e3
  ·rename_i b8 t' fr hh
   obtain rfl:=Option.some.inj e3
   rw [← hX] at hx
   have h0:((⟨g,0,none⟩:Addr).add j)=⟨g,j,none⟩:=by simp [Addr.add];omega
   rw [h0]
   simp only [World.cell?,hh]
   simpa using hx
  ·simp at e3
 ·have hb:=List.all_eq_true.1 hv c (List.mem_of_getElem? hc)
  rw [List.getElem?_map,hc] at hx
  cases c<;>simp [D8] at hb
  simp [za] at hx
  subst hx
  exact .v _
section
variable {w:World} {laid:List (String×DataW Unit)}
theorem No:Tryz.prog.globalNamed "caucus/script.shapes"=some 0:=by kernel_rfl
theorem Np:Tryz.prog.globalNamed "internal/strconv.uint64pow10"=some 1:=by kernel_rfl
end
end Go.Proofs.YtcnpikbbmbombaaGreatDoor
namespace Go.Proofs.YtcnpikbbmbombaaGreatDoor
open Go.ChangeShapes Go.WideShapes Go.ChangeAt Go.RowKit
theorem Tryz.laidOut:laidOutB Tryz.prog=true:=by kernel_rfl
theorem Tryz.own:ownKnob Tryz.prog.godebug=none:=by kernel_rfl
theorem Nq {w:World} {laid:List (String×DataW Unit)} (h:laidMet Tryz.prog laid w) (h0:("caucus/script.shapes",Rows.laid_caucus_script_shapes) ∈ laid) (h1:("internal/strconv.uint64pow10",Rows.laid_internal_strconv_uint64pow10) ∈ laid):tS [.gw 0 ai,.gw 1 aS] (Gr w):=fun u blk hu=>by
 match u,hu with
 | 0,hu=>cases hu;exact Cm h h0 (t:=95) 5 No (by kernel_rfl) (by kernel_rfl) (by kernel_rfl)
 | 1,hu=>cases hu;exact Cm h h1 (t:=158) 5 Np (by kernel_rfl) (by kernel_rfl) (by kernel_rfl)
 | k+2,hu=>simp at hu
end Go.Proofs.YtcnpikbbmbombaaGreatDoor
namespace Go.Proofs.YtcnpikbbmbombaaGreatDoor
open Go.ChangeShapes Go.WideShapes Go.ChangeAt Go.RowKit
theorem Hu:Tryz.prog.funcs.any Func.goes=false:=by kernel_rfl
theorem KJ {P:Program} (h:P.funcs.any Func.goes=false) (f:FuncId):P.goes f=false:=by
 have h1:∀ (g:Nat) fn,P.funcs[g]?=some fn→fn.goes=false:=fun g fn hg=>by
  have:=Array.any_eq_false.1 h g (Array.getElem?_eq_some_iff.1 hg).1
  obtain ⟨aO,rfl⟩:=Array.getElem?_eq_some_iff.1 hg
  simpa using this
 unfold Program.goes
 rw [h,Bool.and_false,Bool.or_false,List.any_eq_false]
 intro g _
 cases hg:P.funcs[g]? with
 | none=>simp
 | some fn=>simp [h1 g fn hg]
theorem Hv {P:Program} {c:OpenClaim} (hs:c.start=.entering) (h:P.funcs.any Func.goes=false):false=c.goesBy P:=by
 unfold OpenClaim.goesBy Program.goesAt Program.goesFrom
 rw [hs]
 cases P.funcNamed c.func with
 | none=>rfl
 | some f=>simp [KJ h f]
end Go.Proofs.YtcnpikbbmbombaaGreatDoor
namespace Go.Proofs.YtcnpikbbmbombaaGreatDoor
open Go.ChangeShapes Go.WideShapes Go.ChangeAt Go.RowKit
theorem Hw {P:Program} {w:World} {r:Reach} {base:Nat} {t:TypeId} {v:Value} (ht:P.underlying t=some .string) (h:Value.okWide P w r base t v):∃ b,v=.string b:=by
 unfold Value.okWide Cell.okWide Cell.ok at h
 rw [ht] at h
 cases v<;>simp_all
theorem LL {w:World} {l:List UInt8} {v:Value} {b:ByteArray} (e:v=.string b) (h:v.cells.toList=[.string ⟨l.toArray⟩]):az (Gr w) [] (.d (.v (.string ⟨l.toArray⟩))) v:=by
 subst e
 have h':[Value.string b]=[Value.string ⟨l.toArray⟩]:=h
 obtain rfl:b=⟨l.toArray⟩:=by simpa using h'
 exact .d (.v _)
set_option maxRecDepth 100000 in
theorem E8 (os:Os) (started:os.Started) (H:Type) (enc:TypeId×Value→H):
  ReturnsInHanded {} Tryz.checked os 6 .any (fun w args=>(Rows.scriptParsesSpec.pre enc Tryz.prog Tryz.f6 [] false w args∧laidMetH Tryz.prog Rows.scriptParsesRow.laid w)∧sizedMet enc Tryz.prog Tryz.f6 (OpenSpec.ofChange Rows.scriptParsesSpec) false w args)
   (Rows.scriptParsesSpec.post enc Tryz.prog Tryz.f6 false true false false):=by
 refine returnsInHanded_of_change_and (C:=Tryz.checked) (X:=fun w _=>laidMetH Tryz.prog Rows.scriptParsesRow.laid w) (fun _ _ _ hh h=>h.of_heap hh) Tryz.own started (by kernel_rfl) Tryz.func6
  (ChangeSpec.witness_shaped (enc:=enc) (C:=Tryz.checked) (os:=os) (X:=fun w _=>laidMetH Tryz.prog Rows.scriptParsesRow.laid w) false (World.laidAll Tryz.prog os Rows.scriptParsesRow.laid) #[.string ⟨#[]⟩] 8 (World.laidAll_os _ _ _) (World.shaped_of_ZipB (by kernel_rfl) (by kernel_rfl)) (by kernel_rfl) (by kernel_rfl) (by kernel_rfl)
   (by rw [MakeChecks.laidMetH_plain _ _ _ (by kernel_rfl)];exact laidMet_laidAll _ (by kernel_rfl) (by kernel_rfl))) ?_
 intro W base args ds gs before Nr hW _ bJ hX _
 have zO:DataW.Whole enc Tryz.prog Tryz.f6.params.toList Rows.scriptParsesSpec.vars false W args.toList ds gs before:=hW
 obtain ⟨p,q,PF,hV,rfl,O0,iw⟩:=hW
 have hA:DataW.TrodAll enc Tryz.prog W 0 (fun _=>true) true Tryz.f6.params.toList args.toList ds p:=PF
 have nt:∀ (j:Nat) t v,Tryz.f6.params[j]?=some t→args[j]?=some v→Value.okWide Tryz.prog W .any base t v:=Nr
 rw [Tryz.params6] at hA nt
 obtain ⟨v0,QM,d0,QN,p0,q0,PI,rfl,rfl,h0,r0⟩:=trodAll_cons hA
 obtain ⟨rfl,rfl,rfl⟩:=trodAll_nil r0
 obtain rfl:args=#[v0]:=by cases args;simp_all
 obtain ⟨rfl,rfl⟩:=trodVars_none hV
 have QO:=reachBytes_lt
 obtain ⟨b0,ao⟩:∃ b,v0=.string b:=Hw Tryz.underlying9 (nt 0 9 v0 rfl rfl)
 obtain ⟨l,PG,-⟩:=TR.string (P:=Tryz.prog) Tryz.underlying9 (TR.of h0)
 refine (aC.La (I9 l) (Nq ((MakeChecks.laidMetH_plain _ _ _ (by kernel_rfl)).mp hX) (by simp [Rows.scriptParsesRow]) (by simp [Rows.scriptParsesRow])) (ys:=[_]) rfl fun j x y e1 e2=>?_).mono fun e W' ⟨he,hg⟩=>?_
 ·match j,e1,e2 with
  | 0,e1,e2=>cases e1;cases e2;exact LL ao PG
  | k+1,e1,e2=>simp at e1
 ·subst he
  exact ⟨_,rfl,Ip Tryz.laidOut (by kernel_rfl) (by kernel_rfl) Tryz.underlying4 rfl zO rfl hg⟩
theorem Fa:joinedFacts Tryz.pinned.checked.prog 6 Tryz.f6 Rows.scriptParsesSpec Rows.scriptParsesRow=true:=by kernel_rfl
theorem Fb:Rows.ScriptParsesSaid:=
 OpenClaim.holds_of_wide 6 Tryz.f6 rfl rfl rfl rfl rfl rfl rfl ⟨rfl,rfl,rfl,rfl,rfl⟩ rfl rfl rfl rfl rfl (by kernel_rfl) Tryz.func6 Fa
  (of_decide_eq_true (by kernel_rfl)) (by unfold Func.isWrapper;first | (rw [if_pos (by decide +kernel)];kernel_rfl) | (rw [if_neg (by decide +kernel)];exact ⟨rfl,rfl⟩))
  (fun os started H enc _=>E8 os started H enc)
theorem Fe:Tryz.pinned.checked.prog.wantsStandIn 9=false:=by kernel_rfl
theorem scriptParses_card:Rows.ScriptParsesCardSaid:=
 Claim7.holds_tied_plain_at .later [] [.data,.data,.data,.data,.data,.pinned] true (true, "87fd9ac5dc35926ba142226b58e4c3bd046d15fb1e4227dfba02688f131c99bf") false Fb (fun _ h=>by cases h) (by kernel_rfl) (fun _ h=>by cases h) scriptParses_row_tie rfl ⟨rfl,rfl⟩ (by kernel_rfl) rfl
  (fun f fn hf nR=>by
   obtain rfl:f=6:=Option.some.inj ((show Tryz.prog.funcNamed "caucus/caucuslaw27.ScriptParses"=some 6 by kernel_rfl).symm.trans hf) |>.symm
   obtain rfl:fn=Tryz.f6:=(Option.some.inj (Tryz.func6.symm.trans nR)).symm
   exact ⟨by kernel_rfl,fun j t ht=>by
    rw [Tryz.params6] at ht
    match j,ht with
    | 0,ht=>
     obtain rfl:t=9:=by simpa using ht.symm
     exact Fe
    | k+1,ht=>simp at ht⟩)
  (Hv rfl Hu)
end Go.Proofs.YtcnpikbbmbombaaGreatDoor
