/-
  nodeNobody_card, part 5 of 25: merged by program from the texts that it needs.
-/
import Derived.Test.YtkheephfkbpchaaGreatDoorNnA
import Derived.Test.YtkheephfkbpchaaGreatDoorNnB
import Derived.Test.YtkheephfkbpchaaGreatDoorNnC
import Derived.Test.YtkheephfkbpchaaGreatDoorNnD
set_option linter.unusedSimpArgs false
set_option linter.unusedVariables false
set_option linter.unnecessarySimpa false
namespace Go.Proofs.YtkheephfkbpchaaGreatDoor
open Go.RowKit
open Go.Maps
variable {mk:Bool} {P:Program} {T:aC} {cl:bG} {f:FuncId} {R:dA} {D:List Nat} {w0:World} {K0:World→Prop} {E:List (Nat×AV)} {M:List ae} {β:Beta} {F:Nat→ai} {I:ai} {w:World} {a:Act} {sz:Nat}
def uY (P:Program) (T:aC) (KL:List TypeId) (cl:bG) (fuel:Nat) (u:Nat) (args:List AV) (M:List ae):Option Out:=
 match M[u]? with
 | some (.lp .ready f sz E rf)=>bif args.length.beq rf.ps.toList.length&&rf.ps.toList.all (·.blt sz)&&nodupB rf.ps.toList then
  (match my (uC P T KL cl false f sz fuel M.length [.code rf.cf,.beginRound,.code rf.body] ⟨rf.ps.toList.zip args++E,M,[]⟩) with
  | some ([.beginRound,.code c2],s1)=>(match s1.M[u]? with
   | some (.lp .ready f2 kf E2 eU)=>bif f2.beq f then (match my (uC P T KL cl false f sz fuel M.length [.code c2] ⟨s1.E,s1.M.set u (.lp .busy f2 kf E2 eU),u::s1.tc⟩) with
    | some (k2,s2)=>(match sm k2,s2.M[u]? with
     | some ls,some (.lp .busy f3 m8 E3 jv)=>some ⟨[],.d (.v (.bool ls.on)),s2.M.set u (.lp ls f3 m8 E3 jv),u::s2.tc,[],none⟩
     | _,_=>none)
    | _=>none) else none
   | _=>none)
  | _=>none) else none
 | _=>none
theorem ZY (hT:aI P T=true) {KL:List TypeId} (hL:eO P KL) (hm:P.follows .mixedOrders=true) (bC:cN P cl) {n:Nat} {u:Nat} {args:List AV} {M:List ae} {out:Out} (h:uY P T KL cl n u args M=some out):out.rd=none∧Cc P u args M out:=by
 unfold uY at h
 split at h
 rotate_left
 ·simp at h
 rename_i f sz E rf hM
 cases hc:(args.length.beq rf.ps.toList.length&&rf.ps.toList.all (·.blt sz)&&nodupB rf.ps.toList) with
 | false=>simp only [hc,cond_false,reduceCtorEq] at h
 | true=>
  simp only [hc,cond_true] at h
  simp only [Bool.and_eq_true] at hc
  obtain ⟨⟨js,mX⟩,Gl⟩:=hc
  have js:=Nat.eq_of_beq_eq_true js
  split at h
  rotate_left
  ·simp at h
  rename_i c2 s1 qH
  have qH:=BJ qH
  split at h
  rotate_left
  ·simp at h
  rename_i f2 kf E2 eU vS
  cases hf:(f2.beq f) with
  | false=>simp only [hf,cond_false,reduceCtorEq] at h
  | true=>
   simp only [hf,cond_true] at h
   obtain rfl:=Nat.eq_of_beq_eq_true hf
   split at h
   rotate_left
   ·simp at h
   rename_i k2 s2 eS
   have eS:=BJ eS
   split at h
   rotate_left
   ·simp at h
   rename_i ls f3 m8 E3 jv dZ gK
   simp only [Option.some.injEq] at h;subst h
   refine ⟨rfl,?_⟩
   intro D w0 K0 β F I w ys l c Rm hK hv hl eH nh
   obtain ⟨H,hF,hB,hH⟩:=Rm.at hM
   cases hB with
   | @lp b0 cc f0 SD oN bz E0 SE tmps hb aP hr=>
    rw [nh] at hb;cases hb
    have DH:=hH.one
    have hlen:rf.ps.size=ys.toArray.size:=by
     have e:rf.ps.toList.length=rf.ps.size:=Array.length_toList
     have e2:ys.toArray.size=ys.length:=by simp
     omega
    have hy:(Instr.yield l ys.toArray).run P w=.ok (.round l f2 ((rf.ps.zip ys.toArray).foldl (fun tmps (x:Tmp×Value)=>tmps.setIfInBounds x.1 x.2) tmps) rf.cf rf.body) w:=by
     unfold Instr.yield Instr.getLoop
     simp only [Sem.run_bind,kx DH rfl,Result.andThen_ok,Sem.run_pure]
     rw [if_neg (by simp [hlen])]
     rfl
    refine ⟨f2,_,rf.cf,rf.body,hy,?_⟩
    have DI:(rf.ps.zip ys.toArray).foldl (fun tmps (x:Tmp×Value)=>tmps.setIfInBounds x.1 x.2) tmps=ij (rf.ps.toList.zip ys) tmps:=by
     rw [← AY,← Array.foldl_toList];simp
    rw [DI]
    have pS:(rf.ps.toList.zip ys).map (·.1)=rf.ps.toList:=List.map_fst_zip (by rw [hl,js];exact Nat.le_refl _)
    have r0:cL false D w0 K0 sz ⟨β,F,I,M.length⟩ ⟨rf.ps.toList.zip args++E,M,[]⟩ { tmps:=ij (rf.ps.toList.zip ys) tmps,defers:=[] } w:=by
     refine ⟨by rw [A5,aP],I,rfl,Nat.le_refl _,β,F,Rm,⟨fun _ _ _ h=>h,aV.refl _,fun _ _ _=>rfl⟩,?_⟩
     intro t v cR
     have dI:=ku cR
     show au _ β v ((ij (rf.ps.toList.zip ys) tmps).getD t undef)
     by_cases ht:t ∈ rf.ps.toList
     ·have hz:(t,v) ∈ rf.ps.toList.zip args:=by
       rcases List.mem_append.1 dI with h1 | h1
       ·exact h1
       ·exact wm cR (by
         rw [List.map_fst_zip (by omega)];exact ht)
      obtain ⟨y,Gm,Gn⟩:=HP hz hl eH
      rw [Bz _ _ t y (by rw [pS];exact jB Gl) (fun x hx=>by
       have:x.1 ∈ rf.ps.toList:=by rw [← pS];exact List.mem_map_of_mem hx
       have:=List.all_eq_true.1 mX _ this
       rw [aP];simpa [Nat.blt_eq] using this) Gm]
      exact Gn
     ·rcases List.mem_append.1 dI with h1 | h1
      ·exact absurd (by have:=List.mem_map_of_mem (f:=fun x:Nat×AV=>x.1) h1;rwa [List.map_fst_zip (by omega)] at this) ht
      ·rw [wv _ _ _ (by rw [pS];exact ht)]
       exact hr (t,v) h1
    refine Hl (c2:=c2) dZ (mG hT hL bC hm hK (by simp) n qH r0 fun o ho a1 w1 r1=>?_)
    rw [List.mem_singleton] at ho;subst ho
    refine aH.yz ?_
    obtain ⟨z1,I1,z2,z3,lu,F1,vT,g7,jw⟩:=r1
    obtain ⟨H1,jt,mY,vU⟩:=vT.at vS
    have vV:lu[u]?=some (some ⟨l,0,none⟩,c):=g7.1 u _ (by simp) nh
    cases mY with
    | @lp b1 cc1 f1 sz1 vb bz1 E1 rf1 uK fa EG EH=>
     rw [vV] at fa;cases fa
     refine ⟨_,Il vU.one rfl,?_⟩
     have EI:=vT.set vS jt (o':=.loop { state:=.busy,pending:=none,fn:=f2,tmps:=uK,params:=eU.ps,assign:=eU.cf,body:=eU.body,defers:=vb }) (blk':=.lp .busy f2 kf E2 eU) (.lp (bz:=.busy) (sz:=kf) vV EG EH)
     have Gp:cL false D w0 K0 sz ⟨β,F,I,M.length⟩ ⟨s1.E,s1.M.set u (.lp .busy f2 kf E2 eU),u::s1.tc⟩ a1 (bk w1 l (.loop { state:=.busy,pending:=none,fn:=f2,tmps:=uK,params:=eU.ps,assign:=eU.cf,body:=eU.body,defers:=vb })):=by
      refine ⟨z1,I1,z2,by rw [List.length_set];exact z3,lu,_,EI,⟨g7.1,g7.2.1,fun v cR hn=>?_⟩,jw⟩
      simp only [List.mem_cons,not_or] at hn
      simp only [aF];rw [if_neg hn.1];exact g7.2.2 v cR hn.2
     refine mG hT hL bC hm hK (by simp) n eS Gp fun o ho a2 w2 r2=>?_
     rw [List.mem_singleton] at ho;subst ho
     refine aH.yz ?_
     obtain ⟨y1,I2,y2,y3,cq,F2,vW,cZ,oO⟩:=r2
     obtain ⟨H2,gV,mZ,mT⟩:=vW.at gK
     have vX:cq[u]?=some (some ⟨l,0,none⟩,c):=cZ.1 u _ (by simp) nh
     cases mZ with
     | @lp b2 cc2 f2' adn EJ bz2 E2' ado DJ db sa EK=>
      rw [vX] at db;cases db
      have EL:=vW.set gK gV (o':=.loop { state:=ls.state,pending:=ls.jM,fn:=f3,tmps:=DJ,params:=jv.ps,assign:=jv.cf,body:=jv.body,defers:=EJ }) (blk':=.lp ls f3 m8 E3 jv) (.lp (bz:=ls) (sz:=m8) vX sa EK)
      refine ⟨_,_,IU dZ mT.one,cq,_,I2,EL,cZ.1,cZ.2.1,fun v cR hn=>?_,.d (.v _)⟩
      simp only [List.mem_cons,not_or] at hn
      simp only [aF];rw [if_neg hn.1];exact cZ.2.2 v cR hn.2
theorem aH.adH {Re:Ending→World→Prop} {fn:Func} (hf:P.funcs[f]?=some fn) {w':World} (hm:vd P a.defers w w') {v:Value} (hr:(results fn a.tmps).run P w'=.ok v w') (h:Re (.returned v) w'):aH P f [] (.ends Re) a w:=by
 intro b cs hb hk gp
 rw [Frame.atR_of_none gp]
 have s2:=A6 (P:=P) (cs:=cs) (fr:={ b.at a [] with mode:=.returning }) rfl rfl hm
 exact ⟨.returned v,w',{ b.at a [] with mode:=.returning,defers:=[] },h,.of_steps ((Steps.one step_end).trans s2) (Steps.refl P _),hb,rfl,rfl,hk,fn,by rw [← hb] at hf;exact hf,hr⟩
theorem Xz (Rm:RM D w0 K0 M β F I w) (hK:∀ w,Kp D w0 w→K0 w):RM (keys ((List.range M.length).flatMap F)) w (fun w=>K0 w∧aj w I) M β F [] w∧∀ w',Kp (keys ((List.range M.length).flatMap F)) w w'→K0 w'∧aj w' I:=by
 refine ⟨⟨Rm.len,fun u b hb=>(Rm.blk u b hb).mono (fun w hw=>hw.1) (Ext.refl _),?_⟩,fun w' k=>?_⟩
 ·rw [List.append_nil]
  exact St.start Rm.st.tN.nd Rm.st.tN.holds
 ·have t:St (keys ((List.range M.length).flatMap F)) w w' []:=⟨k,by simp [keys],by simp [keys],aj.nil _⟩
  have s':=St.call Rm.st rfl t
  rw [List.nil_append] at s'
  exact ⟨hK _ s'.kp,s'.holds⟩
theorem XA {M2:List ae} {cq:Beta} {F2:Nat→ai} {I2:ai} {w2:World} (Rm:RM D w0 K0 M β F I w) (R2:RM (keys ((List.range M.length).flatMap F)) w (fun w=>K0 w∧aj w I) M2 cq F2 I2 w2):RM D w0 K0 M2 cq F2 (I2++I) w2:=by
 have s2:=St.call Rm.st rfl R2.st
 refine ⟨R2.len,fun u b hb=>(R2.blk u b hb).mono (fun w hw=>⟨⟨hw.1,(aj.app.1 hw.2).2⟩,(aj.app.1 hw.2).1⟩) (Ext.refl _),?_⟩
 rw [List.append_assoc] at s2
 exact s2
theorem D8.post {m0:Nat} {o out:Out} (h:D8 m0 o out) (pc:out.mv=[]) {v:Value} (R:RM D w0 K0 o.M β F I w) (r:au (fun w=>K0 w∧aj w I) β o.av v) {F0:Nat→ai} (hF:∀ u,u<m0→u ∉ o.tc→F u=F0 u):
  ∃ F' I',RM D w0 K0 out.M β F' I' w∧aV I I'∧(∀ u,u<m0→u ∉ out.tc→F' u=F0 u)∧au (fun w=>K0 w∧aj w I') β out.av v:=by
 obtain ⟨h1,h2,b,h3,h4⟩:=h
 obtain ⟨F',I',g1,g2,-,g4⟩:=R.die (b:=b) (fun u hu=>(h3 u hu).2)
 refine ⟨F',I',by rw [h4];exact g1,g2,fun u hu hn=>?_,by rw [h1];exact r.mono (fun w hw=>⟨hw.1,g2.holds w hw.2⟩) (Ext.refl _)⟩
 rw [g4 u fun hm=>by have:=(h3 u hm).1;omega]
 exact hF u hu fun hm=>hn (h2 u hm)
theorem BL {fn:Func} {args:List AV} {ys:List Value} {K:World→Prop} (hle:args.length≤fn.ntmps) (hl:ys.length=args.length) (eH:∀ (j:Nat) c y,args[j]?=some c→ys[j]?=some y→au K β c y):
  ∀ t v,a8 (fv args 0) t=some v→au K β v (({ tmps:=ys.toArray++Array.replicate (fn.ntmps-ys.toArray.size) undef,defers:=[] }:Act).eval (.tmp t)):=by
 intro t v cR
 obtain ⟨-,h2⟩:=wF args 0 (t,v) (ku cR)
 simp only [Nat.sub_zero] at h2
 obtain ⟨aG,-⟩:=List.getElem?_eq_some_iff.1 h2
 have gJ:ys[t]?=some ys[t]:=List.getElem?_eq_getElem (by omega)
 have he:({ tmps:=ys.toArray++Array.replicate (fn.ntmps-ys.toArray.size) undef,defers:=[] }:Act).eval (.tmp t)=ys[t]:=by
  have:t<ys.length:=by omega
  simp [Act.eval,Array.getD_eq_getD_getElem?,Array.getElem?_append,this]
 rw [he]
 exact eH t v _ h2 gJ
theorem uc {todo:List Item} (h:mH todo=true):todo=[]∨∃ k,todo=.code .ret::k:=by
 unfold mH at h
 split at h
 ·exact Or.inl rfl
 ·exact Or.inr ⟨_,rfl⟩
 ·cases h
def GR (P:Program) (T:aC) (KL:List TypeId) (cl:bG) (fuel:Nat) (f:FuncId) (fn:Func) (c:Code) (mk:Bool) (args:List AV) (M:List ae):Option Out:=
 match uC P T KL cl mk f fn.ntmps fuel M.length [.code c] ⟨fv args 0,M,[]⟩ with
 | some l=>(match pX T mk M fn.results.toList l with
  | some os=>(match C9 M.length os with | some o=>some (fY M o) | none=>none)
  | none=>none)
 | none=>none
theorem YU (hT:aI P T=true) {KL:List TypeId} (hL:eO P KL) (hm:P.follows .mixedOrders=true) (bC:cN P cl) {fuel:Nat} {fn:Func} {c:Code} {args:List AV} {out:Out} (hc:eu P f=true) (hf:P.funcs[f]?=some fn) (jI:fn.body=some c) (hle:args.length≤fn.ntmps)
  (h:GR P T KL cl fuel f fn c mk args M=some out):out.rd=none∧yu P f args M out:=by
 unfold GR at h
 split at h
 rotate_left
 ·simp at h
 rename_i l hr
 split at h
 rotate_left
 ·simp at h
 rename_i os wg
 split at h
 rotate_left
 ·simp at h
 rename_i o1 gu
 simp only [Option.some.injEq] at h;subst h
 obtain ⟨bP,pc,cX,dj⟩:=Vb (wB wg) gu
 obtain ⟨tvc,SS,trd⟩:=Ug (M0:=M) ⟨bP,pc,cX⟩
 refine ⟨trd,hc,?_⟩
 intro D w0 K0 β F I w ys Rm hK hv hl eH
 refine tG hf jI ?_
 cases mk with
 | false=>
  have r0:cL false D w0 K0 fn.ntmps ⟨β,F,I,M.length⟩ ⟨fv args 0,M,[]⟩ { tmps:=ys.toArray++Array.replicate (fn.ntmps-ys.toArray.size) undef,defers:=[] } w:=
   ⟨by simp;omega,I,rfl,Nat.le_refl _,β,F,Rm,⟨fun _ _ _ h=>h,aV.refl _,fun _ _ _=>rfl⟩,BL hle hl eH⟩
  refine mG (b:=⟨β,F,I,M.length⟩) hT hL bC hm hK (by simp) fuel hr r0 fun x hx a' w' r'=>?_
  obtain ⟨ht,-,o,ho,dI⟩:=BK wg x hx
  obtain ⟨-,-,v,h3,β',F',I',h4,h5,h6,h7,h8⟩:=Cf hT ho r'
  obtain ⟨F2,I2,g1,g2,g3,g4⟩:=(dj o dI).post pc h4 h8 h7
  have GS:o.mv=[]:=(wB wg o dI).2.1
  obtain ⟨py,F3,t1,t2,t3,t4⟩:=Jc Rm g1 (by rw [GS] at h5;exact h5) (h6.trans g2) g3 g4
  have hP:∃ v',Ending.returned v=.returned v'∧∃ β' F' I',RM D w0 K0 (fY M o1).M β' F' I' w'∧dH (fY M o1).mv β β'∧aV I I'∧(∀ u,u<M.length→u ∉ (fY M o1).tc→F' u=F u)∧au (fun w=>K0 w∧aj w I') β' (fY M o1).av v':=
   ⟨v,rfl,py,F3,I2,t1,by rw [SS];exact t2,h6.trans g2,t3,t4⟩
  rcases uc ht with e | ⟨k,e⟩
  ·rw [e];exact aH.fin hf (dn.mr r') h3 hP
  ·rw [e];exact aH.ret hf (dn.mr r') h3 hP
 | true=>
  obtain ⟨Rl,hKl⟩:=Xz Rm hK
  have r0:cL true (keys ((List.range M.length).flatMap F)) w (fun w=>K0 w∧aj w I) fn.ntmps ⟨β,F,[],M.length⟩ ⟨fv args 0,M,[]⟩ { tmps:=ys.toArray++Array.replicate (fn.ntmps-ys.toArray.size) undef,defers:=[] } w:=
   ⟨by simp;omega,[],Mk.nil _,Nat.le_refl _,β,F,Rl,⟨fun _ _ _ h=>h,aV.refl _,fun _ _ _=>rfl⟩,BL hle hl fun j c y h1 h2=>(eH j c y h1 h2).mono (fun w hw=>hw.1) (Ext.refl _)⟩
  refine mG (b:=⟨β,F,[],M.length⟩) hT hL bC hm hKl (fun _=>rfl) fuel hr r0 fun x hx a' w' r'=>?_
  obtain ⟨ht,Em,o,ho,dI⟩:=BK wg x hx
  obtain ⟨q1,I1,q2,q3,lu,F1,R1,g7,q4⟩:=r'
  dsimp only at R1 g7 q3 q4
  obtain ⟨w2,I2,g1,g2⟩:=IW (P:=P) q2.1 q2.2 R1.st
  have ext1:Ext β lu:=fun u x hx=>g7.1 u x (by simp) hx
  have R2:RM (keys ((List.range M.length).flatMap F)) w (fun w=>K0 w∧aj w I) (mI true M x.2) lu F1 I2 w2:=by
   have mW:=Jb M x.2
   refine ⟨by rw [mW];exact R1.len,fun u b hb=>?_,by rw [mW];exact g2⟩
   rcases Kr _ _ _ _ _ _ hb with ⟨e1,e2,e3⟩ | ⟨e1,e2⟩
   ·rw [Nat.zero_add] at e2
    rw [g7.2.2 u e1 e2]
    exact (Rl.blk u b e3).mono (fun w hw=>⟨hw.1,aj.nil w⟩) ext1
   ·have:=Ks (Em rfl) u b hb (by
     rcases Nat.lt_or_ge u M.length with h | h
     ·exact Or.inr (e2 h)
     ·exact Or.inl (by omega))
    rw [List.getElem?_map] at e1
    cases dc:x.2.M[u]? with
    | none=>rw [dc] at e1;cases e1
    | some b0=>rw [dc] at e1;simp only [Option.map_some,Option.some.injEq] at e1;subst e1;exact this _ _ _ _ _ (Wr (R1.blk u b0 dc))
  have r2:cL false (keys ((List.range M.length).flatMap F)) w (fun w=>K0 w∧aj w I) fn.ntmps ⟨β,F,[],M.length⟩ ⟨Fj true x.2.E,mI true M x.2,x.2.tc⟩ { a' with defers:=[] } w2:=
   ⟨q1,I2,rfl,by rw [Jb];exact q3,lu,F1,R2,⟨g7.1,⟨I2,by simp⟩,g7.2.2⟩,fun t v cR=>by
    obtain ⟨e1,e2⟩:=Xy cR
    exact e2 _ _ _ _ (q4 t v e1)⟩
  obtain ⟨-,-,v,h3,β',F',I',h4,h5,h6,h7,h8⟩:=Cf hT ho r2
  obtain ⟨F3,I3,k1,k2,k3,k4⟩:=(dj o dI).post pc h4 h8 h7
  have GS:o.mv=[]:=(wB wg o dI).2.1
  obtain ⟨py,F4,t1,t2,t3,t4⟩:=Jc Rl k1 (by rw [GS] at h5;exact h5) ⟨I3,by simp⟩ k3 k4
  have hP:∃ v',Ending.returned v=.returned v'∧∃ β' F' I',RM D w0 K0 (fY M o1).M β' F' I' w2∧dH (fY M o1).mv β β'∧aV I I'∧(∀ u,u<M.length→u ∉ (fY M o1).tc→F' u=F u)∧au (fun w=>K0 w∧aj w I') β' (fY M o1).av v':=
   ⟨v,rfl,py,F4,I3++I,XA Rm t1,by rw [SS];exact t2,⟨I3,rfl⟩,t3,t4.mono (fun w hw=>⟨⟨hw.1,(aj.app.1 hw.2).2⟩,(aj.app.1 hw.2).1⟩) (Ext.refl _)⟩
  rcases uc ht with e | ⟨k,e⟩
  ·rw [e];exact aH.adH hf g1 h3 hP
  ·rw [e];exact aH.adq hf g1 h3 hP
def uW (P:Program) (T:aC) (KL:List TypeId) (X:bG) (fuel:Nat):Nat→bG
 | 0=>fun _ _ _ _=>none
 | d+1=>fun c args M o=>match X c args M o with
  | some out=>some out
  | none=>(match c with
   | .yl u=>uY P T KL (uW P T KL X fuel d) fuel u args M
   | .fn f=>(bif eu P f then (match P.funcs[f]? with
    | some fn=>(bif Nat.ble args.length fn.ntmps then (match fn.body with
     | some c=>GR P T KL (uW P T KL X fuel d) fuel f fn c (nL c) args M
     | none=>none) else none)
    | none=>none) else none))
theorem rX (hT:aI P T=true) {KL:List TypeId} (hL:eO P KL) (hm:P.follows .mixedOrders=true) {X:bG} (hX:cN P X) {fuel:Nat}:∀ d,cN P (uW P T KL X fuel d):=by
 intro d
 induction d with
 | zero=>intro f args M o out h;simp [uW] at h
 | succ d ih=>
  intro c args M o out h
  unfold uW at h
  split at h
  ·rename_i adI hx
   simp only [Option.some.injEq] at h;subst h
   exact hX _ _ _ _ _ hx
  cases c with
  | yl u=>exact ZY hT hL hm ih h
  | fn f=>
  simp only at h
  cases hc:eu P f with
  | false=>simp [hc] at h
  | true=>
   simp only [hc,cond_true] at h
   split at h
   ·rename_i fn hf
    cases hb:Nat.ble args.length fn.ntmps with
    | false=>simp [hb] at h
    | true=>
     simp only [hb,cond_true] at h
     split at h
     ·rename_i c jI
      exact YU hT hL hm ih hc hf jI (Nat.le_of_ble_eq_true hb) h
     ·simp at h
   ·simp at h
def AH:bG:=fun _ _ _ _=>none
theorem al:cN P AH:=by intro c args M o out h;cases h
def sB (T:aC) (rs:List ResultVar):List (List Item×US)→Option DV
 | []=>none
 | (todo,s)::r=>bif mH todo then (match gD T s.E s.M rs with
  | some [.d x]=>(match r with
   | []=>some x
   | _=>(match sB T rs r with | some y=>bif fT x y then some y else none | none=>none))
  | _=>none) else none
theorem xA {rs:List ResultVar}:∀ {l:List (List Item×US)} {x:DV},sB T rs l=some x→∀ o ∈ l,mH o.1=true∧gD T o.2.E o.2.M rs=some [.d x]
 | [],_,h,_,_=>by simp [sB] at h
 | (todo,s)::r,x,h,o,ho=>by
  unfold sB at h
  cases ht:mH todo with
  | false=>simp [ht] at h
  | true=>
   simp only [ht,cond_true] at h
   split at h
   ·rename_i y hy
    split at h
    ·simp only [Option.some.injEq] at h;subst h
     rw [List.mem_singleton] at ho;subst ho
     exact ⟨ht,hy⟩
    ·split at h
     ·rename_i z hz
      cases hq:fT y z with
      | false=>simp [hq] at h
      | true=>
       simp only [hq,cond_true,Option.some.injEq] at h;subst h
       obtain rfl:=yH hq
       rcases List.mem_cons.1 ho with rfl | ho
       ·exact ⟨ht,hy⟩
       ·exact xA hz o ho
     ·simp at h
   ·simp at h
end Go.Proofs.YtkheephfkbpchaaGreatDoor
namespace Go.Proofs.YtkheephfkbpchaaGreatDoor
open Go.RowKit
open Go.Maps
variable {P:Program} {T:aC} {cl:bG} {f:FuncId} {R:dA} {D:List Nat} {w0:World} {K0:World→Prop} {E:List (Nat×AV)} {M:List ae} {β:Beta} {F:Nat→ai} {I:ai} {w:World} {a:Act} {sz:Nat}
def GU:Option AV→Bool
 | some (.d (.v (.bool _)))=>true
 | _=>false
def sC (T:aC) (rs:List ResultVar):Option (List (List Item×US))→Option DV
 | some l=>sB T rs l
 | none=>none
end Go.Proofs.YtkheephfkbpchaaGreatDoor
namespace Go.Proofs.YtkheephfkbpchaaGreatDoor
open Go.RowKit Go.Deep
theorem HW {H:Type} {enc:TypeId×Value→H} {P:Program} (hl:laidOutB P=true) {W W':World} (g:Gr W W'):∀ {ts:List TypeId} {vs:List Value} {ds:List (DataW H)} {ps:List MemPlace},(∀ t ∈ ts,P.readableRec t=true∧t<P.types.size)→DataW.TrodAll enc P W 0 (fun _=>true) true ts vs ds ps→(∀ x ∈ ps,x.block<W.heap.size)→DataW.TrodAll enc P W' 0 (fun b=>decide (b<W.heap.size)) true ts vs ds ps
 | [],[],[],_,_,h,_=>h
 | [],_::_,_,_,_,h,_=>h.elim
 | [],[],_::_,_,_,h,_=>h.elim
 | _::_,[],_,_,_,h,_=>h.elim
 | _::_,_::_,[],_,_,h,_=>h.elim
 | t::ts,v::vs,d::ds,ps,ht,h,hp=>by
  obtain ⟨p,q,h1,h2,rfl⟩:=h
  refine ⟨p,q,Below.trod hl (ht t (by simp)).1 (ht t (by simp)).2 h1 g (fun x hx=>hp x (by simp [hx])),HW hl g (fun t' h'=>ht t' (by simp [h'])) h2 (fun x hx=>hp x (by simp [hx])),rfl⟩
theorem Wt {H:Type} {enc:TypeId×Value→H} {P:Program} {f:Func} {s:ChangeSpec} {W W':World} {args:Array Value} {ds gs:List (DataW H)} {before:List MemPlace} {tb:TypeId} (hl:laidOutB P=true)
  (hp:f.params.toList.all (fun t=>P.readableRec t&&decide (t<P.types.size))=true) (hr:f.resultTypes=#[tb]) (ht:P.underlying tb=some .bool) (hv:s.vars=[])
  (hW:DataW.Whole enc P f.params.toList s.vars false W args.toList ds gs before) (th:s.fn H (ds++gs)={ results:=[.lit (.bool true)],args:=ds }) (g:Gr W W'):s.post enc P f false true false false W args (.bool true) W':=by
 have GV:=hW
 have aG:=hW.lt
 obtain ⟨p,q,hA,hV,rfl,ej,dy⟩:=hW
 rw [hv] at hV
 match gs,hV with
 | [],hV=>
  cases hV
  refine ⟨ds,[],_,[],p,[],GV,?_,?_,?_,?_,fun h=>by cases h⟩
  ·rw [th,hr]
   exact ⟨[],[],⟨1,by simp [DataW.trod,ht,Value.cells]⟩,rfl,rfl⟩
  ·rw [th]
   refine HW hl g (fun t h=>?_) hA (fun x hx=>aG x (by simp [hx]))
   have:=List.all_eq_true.1 hp t h
   simpa using this
  ·rw [th,hv];rfl
  ·exact Below.frame g _
def TR (P:Program) (w:World) (t:TypeId) (cs:List Value):Prop:=∃ (H:Type) (enc:TypeId×Value→H) (base:Nat) (sp:Nat→Bool) (held:Bool) (fuel:Nat) (x:DataW H×List MemPlace),DataW.trod enc P w base sp held fuel t cs=some x
section
variable {P:Program} {w:World} {t e:TypeId} {cs:List Value}
theorem TR.int {k:IntKind} (ht:P.underlying t=some (.int k)) (h:TR P w t cs):∃ n,cs=[.int k n]∧(Lit.int k n).wf=true:=by
 obtain ⟨H,enc,base,sp,held,fuel,x,h⟩:=h
 cases fuel with
 | zero=>simp [DataW.trod] at h
 | succ fuel=>
  rw [DataW.trod_step] at h;unfold DataW.trodStep at h;simp only [ht] at h
  split at h<;>simp_all
theorem cells?_some {base:Nat} {a:Addr} {n:Nat} {X:List Value} (h:w.cells? base a n=some X):X.length=n∧∀ j (hj:j<X.length),w.cell? (a.add j)=some X[j]:=by
 obtain ⟨_,h1,h2⟩:=World.cells?_some h
 exact ⟨h1,fun j hj=>by rw [h2 j (by omega)];exact List.getElem?_eq_getElem hj⟩
theorem BM {X:Nat→List Value} {c:Nat}:∀ {n:Nat},(∀ i,i<n→(X i).length=c)→((List.range n).flatMap X).length=n*c
 | 0,_=>by simp
 | k+1,h=>by rw [List.range_succ,List.flatMap_append,List.length_append,BM (n:=k) (fun i hi=>h i (by omega))];simp [h k (by omega),Nat.succ_mul]
end
end Go.Proofs.YtkheephfkbpchaaGreatDoor
namespace Go.Proofs.YtkheephfkbpchaaGreatDoor
open Go.RowKit Go.Deep
def jy (w:World) (l:List DV) (cs:List Value):Prop:=cs.length=l.length∧∀ (j:Nat) c v,l[j]?=some c→cs[j]?=some v→bj (Gr w) c v []
theorem jy.one {w:World} {c:DV} {v:Value} (h:bj (Gr w) c v []):jy w [c] [v]:=⟨rfl,fun j c' v' h1 h2=>by
 cases j with
 | zero=>simp at h1 h2;subst h1 h2;exact h
 | succ j=>simp at h1⟩
theorem jy.app {w:World} {l l':List DV} {cs bD:List Value} (h:jy w l cs) (h':jy w l' bD):jy w (l++l') (cs++bD):=⟨by simp [h.1,h'.1],fun j c v h1 h2=>by
 have e:=h.1
 by_cases hj:j<l.length
 ·rw [List.getElem?_append_left hj] at h1;rw [List.getElem?_append_left (by omega)] at h2;exact h.2 j c v h1 h2
 ·rw [List.getElem?_append_right (by omega)] at h1;rw [List.getElem?_append_right (by omega),e] at h2;exact h'.2 _ c v h1 h2⟩
def Rd (P:Program) (w:World) (t:TypeId) {α:Type} (row:α→List DV) (ok:α→Prop):Prop:=∀ cs,TR P w t cs→∃ x,ok x∧jy w (row x) cs
variable {P:Program} {w:World} {t e:TypeId} {α β γ:Type}
theorem Rd.u64 (h:P.underlying t=some (.int .u64)):Rd P w t (fun n:Nat=>[.u n]) fun n=>n≤18446744073709551615:=fun cs hc=>by
 obtain ⟨n,rfl,hw⟩:=hc.int h
 have cQ:(0:Int)≤n∧n≤18446744073709551615:=by simpa [Lit.wf,IntKind.min,IntKind.max,IntKind.signed,IntKind.bits] using hw
 have e:n=((n.toNat:Nat):Int):=by omega
 refine ⟨n.toNat,by omega,.one ?_⟩
 show bj _ (.v (.int .u64 ((n.toNat:Nat):Int))) _ _
 rw [← e];exact .v _
theorem Rd.byte (h:P.underlying t=some (.int .u8)):Rd P w t (fun b:UInt8=>[.v (.int .u8 (b.toNat:Int))]) fun _=>True:=fun cs hc=>by
 obtain ⟨n,rfl,hw⟩:=hc.int h
 have cQ:(0:Int)≤n∧n≤255:=by simpa [Lit.wf,IntKind.min,IntKind.max,IntKind.signed,IntKind.bits] using hw
 have e:n=(((UInt8.ofNat n.toNat).toNat:Nat):Int):=by simp;omega
 refine ⟨UInt8.ofNat n.toNat,trivial,.one ?_⟩
 rw [← e];exact .v _
end Go.Proofs.YtkheephfkbpchaaGreatDoor
namespace Go.Proofs.YtkheephfkbpchaaGreatDoor
open Go.RowKit
def kM (G:List ae) (K:World→Prop):Prop:=∀ (u:Nat) blk,G[u]?=some blk→bf K [] u blk []
theorem kM.rm {G:List ae} {K:World→Prop} (h:kM G K) (w:World):RM [] w K G (List.replicate G.length (none,0)) (fun _=>[]) [] w:=by
 refine ⟨by simp,fun u blk hu=>(h u blk hu).mono (fun w hw=>hw.1) (fun _ _ he=>by simp at he),?_⟩
 have e:(List.range G.length).flatMap (fun _=>([]:ai))++[]=[]:=by simp
 rw [e];exact St.none w
end Go.Proofs.YtkheephfkbpchaaGreatDoor
namespace Go.Proofs.YtkheephfkbpchaaGreatDoor
open Go.RowKit
open Go.Maps
variable {P:Program} {T:aC} {cl:bG} {f:FuncId} {w:World}
def ei (P:Program) (f:FuncId) (G:List ae) (args:List AV) (x:DV):Prop:=
 eu P f=true∧∀ (w:World) (K:World→Prop) (ys:List Value),(∀ w',Gr w w'→K w')→kM G K→ys.length=args.length→(∀ (j:Nat) c y,args[j]?=some c→ys[j]?=some y→au K [] c y)→
  Calls P f ys.toArray w (Ef w fun r H=>∃ Ho Hi,H=Ho++Hi∧bj (fun w=>K w∧aj w Hi) x r Ho)
theorem ei.intro {G:List ae} {fn:Func} {c:Code} {args:List AV} {x:DV} (iZ:eu P f=true) (hf:P.funcs[f]?=some fn) (hb:fn.body=some c) (n:Nat) (hn:fn.ntmps=n) (hle:Nat.ble args.length n=true)
  (h:∀ (w0:World) (K:World→Prop) (a:Act) (β:Beta) (F:Nat→ai) (I:ai),(∀ w,Kp [] w0 w→K w)→cL false [] w0 K n ⟨β,F,I,G.length⟩ ⟨fv args 0,G,[]⟩ a w0→aH P f [.code c] (nX w0 K x) a w0):ei P f G args x:=by
 refine ⟨iZ,fun w K ys hK hG hl hr=>?_⟩
 have hle:=Nat.le_of_ble_eq_true hle
 refine tG hf hb (h w K _ (List.replicate G.length (none,0)) (fun _=>[]) [] (fun w' k=>hK w' k.Dd) ⟨by simp;omega,[],rfl,Nat.le_refl _,List.replicate G.length (none,0),fun _=>[],hG.rm w,⟨fun _ _ _ h=>h,aV.refl _,fun _ _ _=>rfl⟩,?_⟩)
 exact BL (by omega) hl fun j c y h1 h2=>(hr j c y h1 h2).mono (fun w hw=>hw.1) (fun _ _ he=>by simp at he)
def LY (P:Program) (T:aC) (KL:List TypeId) (X:bG) (fuel d:Nat) (f:FuncId) (G:List ae) (args:List AV):Option DV:=
 bif eu P f then (match P.funcs[f]? with
 | some fn=>(bif Nat.ble args.length fn.ntmps then (match fn.body with
  | some c=>(match uC P T KL (uW P T KL X fuel d) false f fn.ntmps fuel G.length [.code c] ⟨fv args 0,G,[]⟩ with
   | some l=>sB T fn.results.toList l
   | none=>none)
  | none=>none) else none)
 | none=>none) else none
theorem Wu (hT:aI P T=true) {KL:List TypeId} (hL:eO P KL) (hm:P.follows .mixedOrders=true) {X:bG} (hX:cN P X) {fuel d:Nat} {G:List ae} {args:List AV} {x:DV} (h:LY P T KL X fuel d f G args=some x):ei P f G args x:=by
 unfold LY at h
 cases hc:eu P f with
 | false=>simp [hc] at h
 | true=>
  simp only [hc,cond_true] at h
  split at h
  ·rename_i fn hf
   cases hle:Nat.ble args.length fn.ntmps with
   | false=>simp [hle] at h
   | true=>
   simp only [hle,cond_true] at h
   split at h
   ·rename_i c jI
    split at h
    rotate_left
    ·simp at h
    rename_i l hr
    refine ei.intro hc hf jI fn.ntmps rfl hle fun w0 K a β F I hK r0=>?_
    refine mG (b:=⟨β,F,I,G.length⟩) hT hL (rX hT hL hm hX d) hm hK (by simp) fuel hr r0 fun o ho a' w' r'=>?_
    obtain ⟨ht,lL⟩:=xA h o ho
    rcases uc ht with e | ⟨k,e⟩
    ·rw [e];exact fin hT hf r'.re (kL.one lL rfl)
    ·rw [e];exact ret hT hf r'.re (kL.one lL rfl)
   ·simp at h
  ·simp at h
def LZ (P:Program) (T:aC) (KL:List TypeId) (X:bG) (fuel d n1:Nat) (f:FuncId) (G:List ae) (args:List AV):Option DV:=
 bif eu P f then (match P.funcs[f]? with
 | some fn=>(bif Nat.ble args.length fn.ntmps then (match fn.body with
  | some c=>(match uC P T KL (uW P T KL X fuel d) false f fn.ntmps n1 G.length [.code c] ⟨fv args 0,G,[]⟩ with
   | some [(.code (.cond g x y)::k,s)]=>bif GU (aB s.E g) then (match sC T fn.results.toList (uC P T KL (uW P T KL X fuel d) false f fn.ntmps fuel G.length (.code x::k) s),sC T fn.results.toList (uC P T KL (uW P T KL X fuel d) false f fn.ntmps fuel G.length (.code y::k) s) with
    | some a,some b=>bif fT a b then some a else none
    | _,_=>none) else none
   | _=>none)
  | none=>none) else none)
 | none=>none) else none
theorem Wv (hT:aI P T=true) {KL:List TypeId} (hL:eO P KL) (hm:P.follows .mixedOrders=true) {X:bG} (hX:cN P X) {fuel d n1:Nat} {G:List ae} {args:List AV} {x:DV} (h:LZ P T KL X fuel d n1 f G args=some x):ei P f G args x:=by
 unfold LZ at h
 cases hc:eu P f with
 | false=>simp [hc] at h
 | true=>
  simp only [hc,cond_true] at h
  split at h
  rotate_left
  ·simp at h
  rename_i fn hf
  cases hle:Nat.ble args.length fn.ntmps with
  | false=>simp [hle] at h
  | true=>
  simp only [hle,cond_true] at h
  split at h
  rotate_left
  ·simp at h
  rename_i c jI
  split at h
  rotate_left
  ·simp at h
  rename_i g cx cy k s hr
  cases hb:GU (aB s.E g) with
  | false=>simp [hb] at h
  | true=>
  simp only [hb,cond_true] at h
  split at h
  rotate_left
  ·simp at h
  rename_i d1 d2 h1 h2
  cases hq:fT d1 d2 with
  | false=>simp [hq] at h
  | true=>
  simp only [hq,cond_true,Option.some.injEq] at h;subst h
  obtain rfl:=yH hq
  obtain ⟨bb,oS⟩:∃ bb,jG (aB s.E g)=some bb:=by
   unfold GU at hb
   split at hb
   ·rename_i b he;exact ⟨b,by rw [he];rfl⟩
   ·cases hb
  refine ei.intro hc hf jI fn.ntmps rfl hle fun w0 K a β F I hK r0=>?_
  refine mG (b:=⟨β,F,I,G.length⟩) hT hL (rX hT hL hm hX d) hm hK (by simp) n1 hr r0 fun o ho a' w' r'=>?_
  rw [List.mem_singleton] at ho;subst ho
  have fin:∀ {todo:List Item} {y:DV} {s:US} {a':Act} {w':World},sC T fn.results.toList (uC P T KL (uW P T KL X fuel d) false f fn.ntmps fuel G.length todo s)=some y→cL false [] w0 K fn.ntmps ⟨β,F,I,G.length⟩ s a' w'→aH P f todo (nX w0 K y) a' w':=by
   intro todo y s a' w' hh r'
   unfold sC at hh
   split at hh
   ·rename_i l hr
    refine mG (b:=⟨β,F,I,G.length⟩) hT hL (rX hT hL hm hX d) hm hK (by simp) fuel hr r' fun o ho a' w' r'=>?_
    obtain ⟨ht,lL⟩:=xA hh o ho
    rcases uc ht with e | ⟨k,e⟩
    ·rw [e];exact Go.Proofs.YtkheephfkbpchaaGreatDoor.fin hT hf r'.re (kL.one lL rfl)
    ·rw [e];exact ret hT hf r'.re (kL.one lL rfl)
   ·simp at hh
  cases bb with
  | true=>exact aH.step (fun _ _=>stepR_cond (r'.re.bool oS)) (fin h1 r')
  | false=>exact aH.step (fun _ _=>stepR_cond (r'.re.bool oS)) (fin h2 r')
theorem ei.holds {G:List ae} {args:List AV} (h:ei P f G args (.v (.bool true))) {ys:List Value} (hG:kM G (Gr w)) (hl:ys.length=args.length) (hr:∀ (j:Nat) c y,args[j]?=some c→ys[j]?=some y→au (Gr w) [] c y):Calls P f ys.toArray w fun e w'=>e=.returned (.bool true)∧Gr w w':=
 (h.2 w (Gr w) ys (fun _ g=>g) hG hl hr).mono fun e w' ⟨r,he,hg,H,⟨Ho,Hi,_,hd⟩,_⟩=>by
  cases hd with
  | v x=>exact ⟨he,hg⟩
def zd (f:Nat) (G:List ae) (y:Value) (X:bG):bG:=fun c args M o=>match c,args with
 | .fn g,[]=>bif Nat.beq g f&&ja (M.take G.length) G then some ⟨[],.d (.v y),M,[],[],none⟩ else X c args M o
 | _,_=>X c args M o
def SU:ae→Bool
 | .gw _ _=>true
 | _=>false
theorem ei.now {D:List Nat} {w0:World} {K0:World→Prop} {M:List ae} {β:Beta} {F:Nat→ai} {I:ai} {G:List ae} {args:List AV} {x:DV} (h:ei P f G args x) (R:RM D w0 K0 M β F I w) (hk:∀ w,Kp D w0 w→K0 w) (hG:kM G (fun w=>K0 w∧aj w I)) {ys:List Value} (hl:ys.length=args.length)
  (hr:∀ (j:Nat) c y,args[j]?=some c→ys[j]?=some y→au (fun w=>K0 w∧aj w I) [] c y):
  Calls P f ys.toArray w fun e w'=>∃ v,e=.returned v∧∃ I' X,bq D w0 K0 M β F I' X w'∧aV I I'∧bj (fun w=>K0 w∧aj w I') x v X:=by
 refine (h.2 w (fun w=>K0 w∧aj w I) ys (fun w' g=>⟨hk _ (R.st.kp.gr g),(aj.app.1 (R.st.gr g).holds).2⟩) hG hl hr).mono ?_
 rintro e w' ⟨v,rfl,g,H,⟨Ho,Hi,rfl,hd⟩,n⟩
 have aQ:=R.st.new g n
 refine ⟨v,rfl,Hi++I,Ho,⟨R.len,fun u bl hu=>(R.blk u bl hu).mono (fun w hw=>⟨hw.1,(aj.app.1 hw.2).2⟩) (Ext.refl _),?_⟩,⟨Hi,rfl⟩,?_⟩
 ·exact aQ.perm (by classical rw [List.perm_iff_count];intro z;simp only [List.count_append];omega)
 ·exact hd.mono fun w hw=>⟨⟨hw.1,(aj.app.1 hw.2).2⟩,(aj.app.1 hw.2).1⟩
theorem kM.of {D:List Nat} {w0:World} {K0:World→Prop} {M:List ae} {β:Beta} {F:Nat→ai} {I:ai} {G:List ae} (hg:G.all SU=true) (hM:M.take G.length=G) (R:RM D w0 K0 M β F I w):kM G (fun w=>K0 w∧aj w I):=by
 intro u blk hu
 have h1:M[u]?=some blk:=by
  rw [← hM,List.getElem?_take] at hu
  split at hu
  ·exact hu
  ·cases hu
 have h2:=R.blk u blk h1
 have h3:=List.all_eq_true.1 hg _ (List.mem_of_getElem? hu)
 generalize F u=H at h2
 cases h2 with
 | gw X hl hc hr=>exact .gw X hl hc hr
 | _=>cases h3
theorem Jd {G:List ae} {y:Value} {X:bG} (hg:G.all SU=true) (h:ei P f G [] (.v y)) (hX:cN P X):cN P (zd f G y X):=by
 intro c args M o out ho
 unfold zd at ho
 split at ho
 ·rename_i g
  cases hc:(Nat.beq g f&&ja (M.take G.length) G) with
  | false=>simp only [hc,cond_false] at ho;exact hX _ _ _ _ _ ho
  | true=>
   simp only [hc,cond_true,Option.some.injEq] at ho;subst ho
   obtain ⟨h1,h2⟩:=Bool.and_eq_true_iff.1 hc
   obtain rfl:=Nat.eq_of_beq_eq_true h1
   refine ⟨rfl,h.1,?_⟩
   intro D w0 K0 β F I w ys Rm hK hv hl eH
   obtain rfl:ys=[]:=List.eq_nil_of_length_eq_zero (by simpa using hl)
   refine (h.now Rm hK (kM.of hg (q6 h2) Rm) rfl (by simp)).mono ?_
   rintro e w' ⟨v,rfl,I',X',R,hI,hd⟩
   cases hd with
   | v=>exact ⟨_,rfl,β,F,I',R.nil rfl,fun _ _ _ h=>h,hI,fun _ _ _=>rfl,.d (.v _)⟩
 ·exact hX _ _ _ _ _ ho
end Go.Proofs.YtkheephfkbpchaaGreatDoor
namespace Go.Proofs.YtkheephfkbpchaaGreatDoor
open Go.RowKit
open Go.Maps
variable {P:Program} {T:aC} {cl:bG} {f:FuncId} {D:List Nat} {w0:World} {K0:World→Prop} {M:List ae} {β:Beta} {F:Nat→ai} {I:ai} {w:World}
structure Part where
 f:Nat
 args:List AV
 M:List ae
 x:AV
 M':List ae
def Part.Ok (P:Program) (e:Part):Prop:=bJ P e.f e.args e.M e.x e.M'
def Fk:Nat→List ae→List Nat
 | _,[]=>[]
 | i,.gw _ _::r=>i::Fk (i+1) r
 | i,_::r=>Fk (i+1) r
def tv:List Nat→Nat
 | []=>0
 | u::r=>tv r ||| 2 ^ u
def GW:Nat→List Nat→Nat
 | _,[]=>0
 | i,u::r=>GW (i+1) r+i*2 ^ (16*u)
def GX:List Nat→Nat
 | []=>0
 | u::r=>u+65536*GX r
def ln (T v:Nat):Nat:=(T >>> (16*v))%65536
def lO (T:Nat):Nat→List Nat→Bool
 | _,[]=>true
 | i,u::r=>Nat.beq (ln T u) i&&lO T (i+1) r
def qi (O:Nat):Nat→List Nat→Bool
 | _,[]=>true
 | i,u::r=>Nat.beq (ln O i) u&&qi O (i+1) r
def vp (O n k i:Nat):Nat:=bif i.blt k then ln O i else n+(i-k)
theorem Cq {v:Nat}:∀ {l:List Nat},Nat.testBit (tv l) v=true→v ∈ l
 | [],h=>by simp [tv] at h
 | u::r,h=>by
  unfold tv at h
  rw [Nat.testBit_or,Nat.testBit_two_pow] at h
  rcases Bool.or_eq_true_iff.1 h with h | h
  ·exact List.mem_cons_of_mem _ (Cq h)
  ·rw [of_decide_eq_true h];exact List.mem_cons_self
theorem xB {T:Nat}:∀ {l:List Nat} {i j u:Nat},lO T i l=true→l[j]?=some u→ln T u=i+j
 | v::r,i,0,u,h,hj=>by
  simp only [lO,Bool.and_eq_true] at h
  simp at hj;subst hj
  exact Nat.eq_of_beq_eq_true h.1
 | v::r,i,j+1,u,h,hj=>by
  simp only [lO,Bool.and_eq_true] at h
  rw [xB (j:=j) h.2 (by simpa using hj)];omega
theorem Kt {O:Nat}:∀ {l:List Nat} {i j u:Nat},qi O i l=true→l[j]?=some u→ln O (i+j)=u
 | v::r,i,0,u,h,hj=>by
  simp only [qi,Bool.and_eq_true] at h
  simp at hj;subst hj
  exact Nat.eq_of_beq_eq_true h.1
 | v::r,i,j+1,u,h,hj=>by
  simp only [qi,Bool.and_eq_true] at h
  rw [show i+(j+1)=i+1+j by omega]
  exact Kt (j:=j) h.2 (by simpa using hj)
theorem XB {l:List Nat} {O n:Nat} (h:qi O 0 l=true):vp O n l.length=outer l n:=by
 funext i
 unfold vp outer
 cases hi:i.blt l.length with
 | true=>
  have aG:i<l.length:=by simpa [Nat.blt_eq] using hi
  rw [List.getElem?_eq_getElem aG]
  have:=Kt h (List.getElem?_eq_getElem aG)
  rw [Nat.zero_add] at this
  simpa using this
 | false=>
  have SJ:¬ i<l.length:=by
   intro hh
   have h2:i.blt l.length=true:=by rw [Nat.blt_eq];exact hh
   rw [h2] at hi;cases hi
  rw [List.getElem?_eq_none (by omega)];rfl
theorem HX {T:Nat}:∀ {l:List Nat} {i:Nat},lO T i l=true→l.Nodup
 | [],_,_=>List.nodup_nil
 | u::r,i,h=>by
  have hh:=h
  simp only [lO,Bool.and_eq_true] at hh
  rw [List.nodup_cons]
  refine ⟨fun hu=>?_,HX hh.2⟩
  obtain ⟨j,hj,e⟩:=List.getElem_of_mem hu
  have h1:=xB (j:=j) hh.2 (List.getElem?_eq_getElem hj)
  rw [e,Nat.eq_of_beq_eq_true hh.1] at h1
  omega
def yK (M:List ae):Nat→List Nat→Nat→List Nat→List Nat
 | n+1,u::r,s,acc=>bif Nat.testBit s u then yK M n r s acc else (match M[u]? with | some b=>yK M n (fw b++r) (s ||| 2 ^ u) (u::acc) | none=>yK M n r s acc)
 | _,_,_,acc=>acc
def YV (M:List ae) (args:List AV):List Nat:=(yK M 100000 (Fk 0 M++fi args) 0 []).reverse
def uS (M:List ae) (S T:Nat):List Nat→Option (List ae)
 | []=>some []
 | u::r=>(match M[u]?,uS M S T r with
  | some b,some bs=>bif (fw b).all (fun v=>Nat.testBit S v) then some (ef (ln T) b::bs) else none
  | _,_=>none)
def Fm (f:Nat):List Part→Bool
 | []=>false
 | e::r=>Nat.beq e.f f||Fm f r
def uT (f:Nat) (args:List AV) (M:List ae):List Part→Option Part
 | []=>none
 | e::r=>bif Nat.beq e.f f&&(jl args e.args&&ja M e.M) then some e else uT f args M r
def L0 (l:List Nat) (O:Nat) (M:List ae) (e:Part):Option Out:=bif qi O 0 l&&Nat.ble l.length e.M'.length then some ⟨[],mapA (vp O M.length l.length) e.x,nU (jH M l++(e.M'.drop l.length).map (ef (vp O M.length l.length))) l ((e.M'.take l.length).map (ef (vp O M.length l.length))),l,[],none⟩ else none
def L2 (es:List Part) (f:Nat) (args:List AV) (M:List ae) (l:List Nat) (S T:Nat):Option Out:=
 bif (fi args).all (fun v=>Nat.testBit S v)&&lO T 0 l then (match uS M S T l with
  | some Ms=>(match uT f (ji (ln T) args) Ms es with
   | some e=>L0 l (GX l) M e
   | none=>none)
  | none=>none) else none
def Ea (es:List Part) (f:Nat) (args:List AV) (M:List ae) (l:List Nat):Option Out:=L2 es f args M l (tv l) (GW 0 l)
def Eb (es:List Part) (X:bG):bG:=fun c args M o=>match c with
 | .fn f=>bif Fm f es then (match Ea es f args M (YV M args) with | some out=>some out | none=>X c args M o) else X c args M o
 | .yl u=>X (.yl u) args M o
theorem Je {args:List AV} {M:List ae} {e:Part}:∀ {es:List Part},uT f args M es=some e→e ∈ es∧e.f=f∧args=e.args∧M=e.M
 | [],h=>by simp [uT] at h
 | a::r,h=>by
  unfold uT at h
  cases hc:(Nat.beq a.f f&&(jl args a.args&&ja M a.M)) with
  | false=>simp only [hc,cond_false] at h;obtain ⟨h1,h2⟩:=Je h;exact ⟨List.mem_cons_of_mem _ h1,h2⟩
  | true=>
   simp only [hc,cond_true,Option.some.injEq] at h;subst h
   obtain ⟨h1,h2⟩:=Bool.and_eq_true_iff.1 hc
   obtain ⟨h2,h3⟩:=Bool.and_eq_true_iff.1 h2
   exact ⟨List.mem_cons_self,Nat.eq_of_beq_eq_true h1,rA h2,q6 h3⟩
theorem A0 {l:List Nat} {T u:Nat} {q:Option Addr×Nat} (hT:lO T 0 l=true) (hu:u ∈ l) (h:β[u]?=some q):(ea β l)[ln T u]?=some q:=by
 obtain ⟨i,hi,rfl⟩:=List.getElem_of_mem hu
 have vG:l[i]?=some l[i]:=List.getElem?_eq_getElem hi
 rw [xB hT vG,Nat.zero_add]
 exact eN vG h
theorem Jf {S T:Nat}:∀ {r:List Nat} {Ms:List ae},uS M S T r=some Ms→Ms.length=r.length∧∀ (i:Nat) b,Ms[i]?=some b→∃ u b0,r[i]?=some u∧M[u]?=some b0∧(∀ v ∈ fw b0,Nat.testBit S v=true)∧b=ef (ln T) b0
 | [],Ms,h=>by simp only [uS,Option.some.injEq] at h;subst h;simp
 | u::r,Ms,h=>by
  unfold uS at h
  split at h
  ·rename_i b bs hb m3
   cases hc:(fw b).all (fun v=>Nat.testBit S v) with
   | false=>simp only [hc,cond_false,reduceCtorEq] at h
   | true=>
    simp only [hc,cond_true,Option.some.injEq] at h;subst h
    obtain ⟨h1,h2⟩:=Jf m3
    refine ⟨by simp [h1],fun i b' aD=>?_⟩
    cases i with
    | zero=>
     simp at aD;subst aD
     exact ⟨u,b,rfl,hb,fun v hv=>List.all_eq_true.1 hc v hv,rfl⟩
    | succ i=>simpa using h2 i b' (by simpa using aD)
  ·cases h
theorem Ww {K:World→Prop} {l:List Nat} {T:Nat} {args:List AV} {ys:List Value} (hT:lO T 0 l=true) (h:∀ v ∈ fi args,v ∈ l) (hr:∀ (j:Nat) c y,args[j]?=some c→ys[j]?=some y→au K β c y):∀ (j:Nat) c y,(ji (ln T) args)[j]?=some c→ys[j]?=some y→au K (ea β l) c y:=by
 intro j c y h1 h2
 rw [fe,List.getElem?_map,Option.map_eq_some_iff] at h1
 obtain ⟨c',h1,rfl⟩:=h1
 exact rB (hr j c' y h1 h2) fun u hu x hx=>A0 hT (h u (w8 (List.mem_of_getElem? h1) hu)) hx
theorem Wx {es:List Part} (GY:∀ e ∈ es,e.Ok P) {args:List AV} {l:List Nat} {out:Out} (h:Ea es f args M l=some out):out.rd=none∧yu P f args M out:=by
 unfold Ea at h
 generalize GW 0 l=T at h
 unfold L2 at h
 cases hc:((fi args).all (fun v=>Nat.testBit (tv l) v)&&lO T 0 l) with
 | false=>simp only [hc,cond_false,reduceCtorEq] at h
 | true=>
  simp only [hc,cond_true] at h
  obtain ⟨c1,c3⟩:=Bool.and_eq_true_iff.1 hc
  have dm:∀ v ∈ fi args,v ∈ l:=fun v hv=>Cq (List.all_eq_true.1 c1 v hv)
  have dy:=HX c3
  split at h
  rotate_left
  ·cases h
  rename_i Ms vH
  split at h
  rotate_left
  ·cases h
  rename_i e he
  obtain ⟨dI,rfl,ha,hM⟩:=Je he
  unfold L0 at h
  cases hle:(qi (GX l) 0 l&&Nat.ble l.length e.M'.length) with
  | false=>simp only [hle,cond_false,reduceCtorEq] at h
  | true=>
   simp only [hle,cond_true,Option.some.injEq] at h;subst h
   obtain ⟨c4,c5⟩:=Bool.and_eq_true_iff.1 hle
   have e6:bJ P e.f e.args e.M e.x e.M':=GY e dI
   rw [← ha,← hM] at e6
   obtain ⟨m1,m2⟩:=Jf vH
   rw [XB c4]
   refine ⟨rfl,e6.1,?_⟩
   intro D w0 K0 β F I w ys Rm hK hv hl eH
   refine AX (vs:=args) Rm hK hl (by rw [fe,List.length_map]) (Ww c3 dm eH) m1 (fun i b hb=>?_) dy (Nat.le_of_ble_eq_true c5) e6
   obtain ⟨u,b0,g1,g2,g3,rfl⟩:=m2 i b hb
   refine ⟨u,b0,g1,g2,?_⟩
   have hu:u ∈ l:=List.mem_of_getElem? g1
   have:=Cp (σ:=ln T) (β':=ea β l) (Rm.blk u b0 g2) (fun x hx=>A0 c3 hu hx) (fun v hv x hx=>A0 c3 (Cq (g3 v hv)) hx)
   rw [xB c3 g1,Nat.zero_add] at this
   exact this
theorem bd {es:List Part} {X:bG} (GY:∀ e ∈ es,e.Ok P) (hX:cN P X):cN P (Eb es X):=by
 intro c args M o out h
 unfold Eb at h
 split at h
 ·rename_i f
  cases hc:Fm f es with
  | false=>simp only [hc,cond_false] at h;exact hX _ _ _ _ _ h
  | true=>
   simp only [hc,cond_true] at h
   split at h
   ·rename_i adI hf
    simp only [Option.some.injEq] at h;subst h
    exact Wx GY hf
   ·exact hX _ _ _ _ _ h
 ·exact hX _ _ _ _ _ h
theorem Part.of (hT:aI P T=true) {KL:List TypeId} (hL:eO P KL) (hm:P.follows .mixedOrders=true) {X:bG} (hX:cN P X) {fuel d:Nat} {e:Part} {tc:List Nat} (h:uW P T KL X fuel d (.fn e.f) e.args e.M (.n 0)=some ⟨[],e.x,e.M',tc,[],none⟩):e.Ok P:=by
 obtain ⟨-,hc,hh⟩:=rX hT hL hm hX d _ _ _ _ _ h
 refine ⟨hc,fun ys R hK hl hr=>(hh ys R hK trivial hl hr).mono ?_⟩
 rintro ed w' ⟨v,rfl,β',F',I',R',e1,hI,-,gN⟩
 exact ⟨v,rfl,β',F',I',R',fun u x hx=>e1 u x (by simp) hx,hI,gN⟩
end Go.Proofs.YtkheephfkbpchaaGreatDoor
namespace Go.Proofs.YtkheephfkbpchaaGreatDoor
open Go.RowKit
def ph (i:Nat) (y x:Int):Int:=IntKind.u64.wrap ((BitVec.ofInt IntKind.u64.bits x ||| BitVec.ofInt IntKind.u64.bits (IntKind.u64.wrap (IntKind.u64.wrap y*2 ^ (min ((8*i:Nat):Int).toNat IntKind.u64.bits)))).toNat:Int)
def GZ (c:UInt8):Int:=IntKind.u8.wrap (ph 7 0 (ph 6 0 (ph 5 0 (ph 4 0 (ph 3 0 (ph 2 0 (ph 1 0 (ph 0 (c.toNat:Int) 0))))))))
theorem Da:eO Tryz.prog []:=fun _ h=>by cases h
theorem ZZ (c:UInt8) (r:List UInt8):bJ Tryz.prog 99 [.pt 0 0] (eX (c::r) false) (.d (.v (.int .u8 (GZ c)))) (eX r false):=
 Part.of (e:=⟨99,[.pt 0 0],eX (c::r) false,.d (.v (.int .u8 (GZ c))),eX r false⟩) (tc:=[0]) tk Da tq al (fuel:=100000) (d:=60) (by kernel_rfl)
theorem Z0:bJ Tryz.prog 99 [.pt 0 0] (eX [] false) (.d (.v (.int .u8 0))) (eX [] true):=
 Part.of (e:=⟨99,[.pt 0 0],eX [] false,.d (.v (.int .u8 0)),eX [] true⟩) (tc:=[0]) tk Da tq al (fuel:=100000) (d:=60) (by kernel_rfl)
theorem Z1 (l:List UInt8):bJ Tryz.prog 99 [.pt 0 0] (eX l true) (.d (.v (.int .u8 0))) (eX l true):=
 Part.of (e:=⟨99,[.pt 0 0],eX l true,.d (.v (.int .u8 0)),eX l true⟩) (tc:=[0]) tk Da tq al (fuel:=100000) (d:=60) (by kernel_rfl)
def G3 (l:List UInt8) (b:Bool):Int:=match b,l with
 | false,c::_=>GZ c
 | _,_=>0
def SV (l:List UInt8) (b:Bool):List UInt8:=match b,l with
 | false,_::r=>r
 | _,l=>l
def SW (l:List UInt8) (b:Bool):Bool:=match b,l with
 | false,_::_=>false
 | _,_=>true
theorem Ec (l:List UInt8) (b:Bool):bJ Tryz.prog 99 [.pt 0 0] (eX l b) (.d (.v (.int .u8 (G3 l b)))) (eX (SV l b) (SW l b)):=by
 cases b with
 | true=>exact Z1 l
 | false=>
  cases l with
  | nil=>exact Z0
  | cons c r=>exact ZZ c r
end Go.Proofs.YtkheephfkbpchaaGreatDoor
namespace Go.Proofs.YtkheephfkbpchaaGreatDoor
open Go.RowKit
set_option maxRecDepth 100000 in
theorem Ty (l:List UInt8) (h0:0<l.length) (hb:l.length<2147483648):cb Tryz.prog 59 [.d (.ro 1 (ah l))] (DV.em 5 1 (ah l)):=by
 refine cb.intro (by kernel_rfl) rfl rfl 8 rfl rfl fun w0 K ac hK r=>?_
 rw [show (DV.em 5 1 (ah l):DV)=.em 5 1 ([]++(ah l)) from rfl]
 exact bL tk tq hK rfl [] 2000 r (by kernel_rfl) (an ((by simpa [ah] using h0):0<(ah l).length) (an ((by simp):(0)=([]:List (List DV)).length) (an ((by simp [ah];omega):(2*((0)+(ah l).length)+192)*1≤281474976710656) (an ((by simp [ah];omega):(0)+(ah l).length<4611686018427387904) (an ((by simp [gC,AV.one,dU,ah]):gC (ah l)) (an ((by simp):(0+(ah l).length)=([]++(ah l):List (List DV)).length) trivial))))))
set_option maxRecDepth 100000 in
theorem Tz (c:Nat):cb Tryz.prog 59 [.d (.v (.slice none 0 c))] (DV.v (.slice none 0 0)):=by
 refine cb.intro (by kernel_rfl) rfl rfl 8 rfl rfl fun w0 K ac hK r=>?_
 exact bL tk tq hK rfl [] 2000 r (by kernel_rfl) trivial
set_option maxRecDepth 100000 in
theorem TC (a:Addr) (c:Nat):cb Tryz.prog 59 [.d (.v (.slice (some a) 0 c))] (DV.em 5 1 ([]++[])):=by
 refine cb.intro (by kernel_rfl) rfl rfl 8 rfl rfl fun w0 K ac hK r=>?_
 exact bL tk tq hK rfl [] 2000 r (by kernel_rfl) (an ((by simp):(0)=([]:List (List DV)).length) (an ((by simp):(2*((0)+0)+192)*1≤281474976710656) (an ((by simp):(0)+0<4611686018427387904) (an ((by simp [gC]):gC (([]:List (List DV)))) (an ((by simp):(0+0)=([]++([]:List (List DV)):List (List DV)).length) trivial)))))
theorem Uh (l:List UInt8) (hb:l.length<2147483648):cb Tryz.prog 59 [.d (.ro 1 (ah l))] (.em 5 1 (ah l)):=by
 cases l with
 | nil=>
  refine cb.empty (pre:=[]) (post:=[]) fun a c=>?_
  cases a with
  | none=>exact cb.nil 5 1 (Tz c)
  | some a=>exact TC a c
 | cons b l=>exact Ty (b::l) (by simp) hb
theorem cb.stays {P:Program} {f:FuncId} {args:List AV} {x:DV} (h:cb P f args x):cb P f args (gb x):=by
 refine ⟨h.1,fun w K ys hK hl hr=>(h.2 w K ys hK hl hr).mono ?_⟩
 rintro ed w' ⟨v,rfl,g,H,⟨Ho,Hi,rfl,hd⟩,n⟩
 exact ⟨_,rfl,g,_,⟨[],Ho++Hi,rfl,xi hd fun w hw=>⟨⟨hw.1,(aj.app.1 hw.2).2⟩,(aj.app.1 hw.2).1⟩⟩,n⟩
theorem Hz (l:List UInt8):mn (ah l)=ah l:=by
 rw [Ib];unfold ah;rw [List.map_map];apply List.map_congr_left;intro b _;rfl
theorem Vc (l:List UInt8) (hb:l.length<2147483648):cb Tryz.prog 59 [.d (.ro 1 (ah l))] (.ro 1 (ah l)):=by
 have h:=(Uh l hb).stays
 simp only [gb,Hz] at h
 exact h
set_option maxRecDepth 100000 in
theorem Vd (l:List UInt8) (hb:l.length<2147483648):bJ Tryz.prog 98 [.d (.ro 1 (ah l))] [] (.pt 0 0) (eX l false):=by
 refine bJ.intro (by kernel_rfl) rfl rfl 8 rfl rfl fun D w0 K bs ac wd hK (a6:bs.m=0) r=>?_
 refine cF (y:=.pt 0 0) (N':=[.bx 376 [.d (.ro 1 (ah l)),.d (.v (.bool false))]]) (rfl) (rfl) ?_
 exact cE tk tq hK rfl a6 [(1,[(1,.dX (.ro 1 (ah l)))])] 2000 [0] r (by kernel_rfl) (an (Vc l hb) trivial)
end Go.Proofs.YtkheephfkbpchaaGreatDoor
namespace Go.Proofs.YtkheephfkbpchaaGreatDoor
open Go.RowKit
def jb (n:Int):Bool:=bif decide ((1:Int)≤n) then decide (n≤(10:Int)) else false
def bU (k s:Int) (len:Nat) (kn:Bool):Bool:=bif (k:Int)==1 then (bif (s:Int)==0 then ((len:Nat):Int)==0 else false) else bif (k:Int)==2 then (bif decide ((0:Int)<s) then (bif kn then (bif decide ((1:Int)≤((len:Nat):Int)) then decide (((len:Nat):Int)≤(448:Int)) else false) else false) else false) else false
def bW (k c d e s:Int) (len:Nat):Bool:=bif decide ((0:Int)<c) then (bif decide ((0:Int)<d) then bU k s len true else false) else (bif decide ((0:Int)<d) then false else bif decide ((0:Int)<e) then false else bU k s len false)
def aO (k fr to a b c d e s:Int) (len:Nat):Bool:=bif jb fr then (bif jb to then (bif (fr:Int)==to then false else
 bif decide ((34359738367:Int)<a) then false else bif decide ((34359738367:Int)<b) then false else bif decide ((34359738367:Int)<c) then false else bif decide ((34359738367:Int)<d) then false else bif decide ((34359738367:Int)<e) then false else bif decide ((34359738367:Int)<s) then false else
 bif (a:Int)==0 then false else bif (b:Int)==0 then false else bW k c d e s len) else false) else false
set_option maxRecDepth 100000 in
theorem nB (n:Int):cb Tryz.prog 217 [.z n] (.v (.bool (jb n))):=by
 refine cb.intro (by kernel_rfl) rfl rfl 9 rfl rfl fun w0 K ac hK r=>?_
 cases h0:(decide ((1:Int)≤n)) with
 | false=>
  have eD:=of_decide_eq_false h0
  rw [show (.v (.bool (jb n)):DV)=.v (.bool false) from (by simp only [jb,cond_true,cond_false,h0])]
  exact bL tk tq hK rfl [(1,[(1,.b false)])] 2000 r (by kernel_rfl) (an h0 trivial)
 | true=>
  have eD:=of_decide_eq_true h0
  cases h1:(decide ((n:Int)≤10)) with
  | false=>
   have fb:=of_decide_eq_false h1
   rw [show (.v (.bool (jb n)):DV)=.v (.bool false) from (by simp only [jb,cond_true,cond_false,h0,h1])]
   exact bL tk tq hK rfl [(1,[(1,.b true),(4,.b false)])] 2000 r (by kernel_rfl) (an h0 (an h1 trivial))
  | true=>
   have fb:=of_decide_eq_true h1
   rw [show (.v (.bool (jb n)):DV)=.v (.bool true) from (by simp only [jb,cond_true,cond_false,h0,h1])]
   exact bL tk tq hK rfl [(1,[(1,.b true),(4,.b true)])] 2000 r (by kernel_rfl) (an h0 (an h1 trivial))
set_option maxRecDepth 100000 in
theorem L3 (k fr to a b c d e s:Int) (l:List UInt8):cb Tryz.prog 103 [.ag [.z k,.z fr,.z to,.d (.v (.int .u64 (a))),.d (.v (.int .u64 (b))),.d (.v (.int .u64 (c))),.d (.v (.int .u64 (d))),.d (.v (.int .u64 (e))),.d (.v (.int .u64 (s))),.d (.ro 1 (ah l))]] (.v (.bool (aO k fr to a b c d e s l.length))):=by
 refine cb.intro (by kernel_rfl) rfl rfl 108 rfl rfl fun w0 K ac hK r=>?_
 cases h0:(jb fr) with
 | false=>
  rw [show (.v (.bool (aO k fr to a b c d e s l.length)):DV)=.v (.bool false) from (by simp only [aO,bW,bU,cond_true,cond_false,h0]<;>rfl)]
  exact bL tk tq hK rfl [(1,[(2,.dX (.v (.bool false)))])] 2000 r (by kernel_rfl) (an ((by have k:=nB fr;rw [h0] at k;exact k):cb Tryz.prog 217 [.z fr] (.v (.bool false))) trivial)
 | true=>
  have eL:=((by have k:=nB fr;rw [h0] at k;exact k):cb Tryz.prog 217 [.z fr] (.v (.bool true)))
  cases h1:(jb to) with
  | false=>
   rw [show (.v (.bool (aO k fr to a b c d e s l.length)):DV)=.v (.bool false) from (by simp only [aO,bW,bU,cond_true,cond_false,h0,h1]<;>rfl)]
   exact bL tk tq hK rfl [(1,[(2,.dX (.v (.bool true))),(7,.dX (.v (.bool false)))])] 2000 r (by kernel_rfl) (an eL (an ((by have k:=nB to;rw [h1] at k;exact k):cb Tryz.prog 217 [.z to] (.v (.bool false))) trivial))
  | true=>
   have gq:=((by have k:=nB to;rw [h1] at k;exact k):cb Tryz.prog 217 [.z to] (.v (.bool true)))
   cases h2:((fr:Int)==to) with
   | false=>
    have iH:=ne_of_beq_false h2
    refine ie (todo':=hd Tryz.f103 0) (E':=[(0,.ag [.z k,.z fr,.z to,.d (.v (.int .u64 (a))),.d (.v (.int .u64 (b))),.d (.v (.int .u64 (c))),.d (.v (.int .u64 (d))),.d (.v (.int .u64 (e))),.d (.v (.int .u64 (s))),.d (.ro 1 (ah l))]),(1,.pt 0 0),(2,.d (.v (.bool false))),(6,.pt 0 1),(7,.z fr),(8,.d (.v (.bool true))),(9,.d (.v (.bool false))),(10,.d (.v (.bool false))),(11,.pt 0 2),(12,.z to),(13,.d (.v (.bool true))),(14,.d (.v (.bool false))),(15,.d (.v (.bool false))),(16,.d (.v (.bool false))),(17,.pt 0 1),(18,.z fr),(19,.pt 0 2),(20,.z to),(21,.d (.v (.bool false))),(22,.d (.v (.bool false))),(23,.pt 0 3),(24,.d (.v (.int .u64 (a)))),(25,.pt 0 4),(26,.d (.v (.int .u64 (b)))),(27,.pt 0 5),(28,.d (.v (.int .u64 (c)))),(29,.pt 0 6),(30,.d (.v (.int .u64 (d)))),(31,.pt 0 7),(32,.d (.v (.int .u64 (e)))),(33,.pt 0 8),(34,.d (.v (.int .u64 (s)))),(35,.ag [.d (.v (.int .u64 (a))),.d (.v (.int .u64 (b))),.d (.v (.int .u64 (c))),.d (.v (.int .u64 (d))),.d (.v (.int .u64 (e))),.d (.v (.int .u64 (s)))]),(36,.z 0)]) (M':=[.bx 127 [.z k,.z fr,.z to,.d (.v (.int .u64 (a))),.d (.v (.int .u64 (b))),.d (.v (.int .u64 (c))),.d (.v (.int .u64 (d))),.d (.v (.int .u64 (e))),.d (.v (.int .u64 (s))),.d (.ro 1 (ah l))]]) tk tq hK [(1,[(2,.dX (.v (.bool true))),(7,.dX (.v (.bool true))),(15,.b false)])] 2000 [0] [0,1,2,6,7,8,9,10,11,12,13,14,15,16,17,18,19,20,21,22,23,24,25,26,27,28,29,30,31,32,33,34,35,36] r (by kernel_rfl) (an eL (an gq (an h2 trivial))) fun ac wd r=>?_
    cases h3:(decide ((34359738367:Int)<a)) with
    | false=>
     have qI:=of_decide_eq_false h3
     refine ie (todo':=hd Tryz.f103 0) (E':=[(0,.ag [.z k,.z fr,.z to,.d (.v (.int .u64 (a))),.d (.v (.int .u64 (b))),.d (.v (.int .u64 (c))),.d (.v (.int .u64 (d))),.d (.v (.int .u64 (e))),.d (.v (.int .u64 (s))),.d (.ro 1 (ah l))]),(1,.pt 0 0),(2,.d (.v (.bool false))),(6,.pt 0 1),(7,.z fr),(8,.d (.v (.bool true))),(9,.d (.v (.bool false))),(10,.d (.v (.bool false))),(11,.pt 0 2),(12,.z to),(13,.d (.v (.bool true))),(14,.d (.v (.bool false))),(15,.d (.v (.bool false))),(16,.d (.v (.bool false))),(17,.pt 0 1),(18,.z fr),(19,.pt 0 2),(20,.z to),(21,.d (.v (.bool false))),(22,.d (.v (.bool false))),(23,.pt 0 3),(24,.d (.v (.int .u64 (a)))),(25,.pt 0 4),(26,.d (.v (.int .u64 (b)))),(27,.pt 0 5),(28,.d (.v (.int .u64 (c)))),(29,.pt 0 6),(30,.d (.v (.int .u64 (d)))),(31,.pt 0 7),(32,.d (.v (.int .u64 (e)))),(33,.pt 0 8),(34,.d (.v (.int .u64 (s)))),(35,.ag [.d (.v (.int .u64 (a))),.d (.v (.int .u64 (b))),.d (.v (.int .u64 (c))),.d (.v (.int .u64 (d))),.d (.v (.int .u64 (e))),.d (.v (.int .u64 (s)))]),(36,.z 1),(37,.d (.v (.bool true))),(38,.d (.v (.int .u64 (a)))),(4,.d (.v (.int .u64 (a)))),(39,.d (.v (.int .u64 (a)))),(40,.d (.v (.bool false))),(41,.z 1)]) (M':=[.bx 127 [.z k,.z fr,.z to,.d (.v (.int .u64 (a))),.d (.v (.int .u64 (b))),.d (.v (.int .u64 (c))),.d (.v (.int .u64 (d))),.d (.v (.int .u64 (e))),.d (.v (.int .u64 (s))),.d (.ro 1 (ah l))]]) tk tq hK [(5,[(0,.n 0)]),(6,[(1,.b false)]),(8,[(0,.z (1))])] 2000 [0] [0,1,2,6,7,8,9,10,11,12,13,14,15,16,17,18,19,20,21,22,23,24,25,26,27,28,29,30,31,32,33,34,35,36,37,38,4,39,40,41] r (by kernel_rfl) (an (rfl:(0:Int)=((0:Nat):Int)) (an ((by omega):(0)<6) (an h3 (an ((wi (by omega)):IntKind.i64.wrap ((0:Int)+1)=1) trivial)))) fun ac wd r=>?_
     cases h4:(decide ((34359738367:Int)<b)) with
     | false=>
      have qJ:=of_decide_eq_false h4
      refine ie (todo':=hd Tryz.f103 0) (E':=[(0,.ag [.z k,.z fr,.z to,.d (.v (.int .u64 (a))),.d (.v (.int .u64 (b))),.d (.v (.int .u64 (c))),.d (.v (.int .u64 (d))),.d (.v (.int .u64 (e))),.d (.v (.int .u64 (s))),.d (.ro 1 (ah l))]),(1,.pt 0 0),(2,.d (.v (.bool false))),(6,.pt 0 1),(7,.z fr),(8,.d (.v (.bool true))),(9,.d (.v (.bool false))),(10,.d (.v (.bool false))),(11,.pt 0 2),(12,.z to),(13,.d (.v (.bool true))),(14,.d (.v (.bool false))),(15,.d (.v (.bool false))),(16,.d (.v (.bool false))),(17,.pt 0 1),(18,.z fr),(19,.pt 0 2),(20,.z to),(21,.d (.v (.bool false))),(22,.d (.v (.bool false))),(23,.pt 0 3),(24,.d (.v (.int .u64 (a)))),(25,.pt 0 4),(26,.d (.v (.int .u64 (b)))),(27,.pt 0 5),(28,.d (.v (.int .u64 (c)))),(29,.pt 0 6),(30,.d (.v (.int .u64 (d)))),(31,.pt 0 7),(32,.d (.v (.int .u64 (e)))),(33,.pt 0 8),(34,.d (.v (.int .u64 (s)))),(35,.ag [.d (.v (.int .u64 (a))),.d (.v (.int .u64 (b))),.d (.v (.int .u64 (c))),.d (.v (.int .u64 (d))),.d (.v (.int .u64 (e))),.d (.v (.int .u64 (s)))]),(36,.z 2),(37,.d (.v (.bool true))),(38,.d (.v (.int .u64 (b)))),(4,.d (.v (.int .u64 (b)))),(39,.d (.v (.int .u64 (b)))),(40,.d (.v (.bool false))),(41,.z 2)]) (M':=[.bx 127 [.z k,.z fr,.z to,.d (.v (.int .u64 (a))),.d (.v (.int .u64 (b))),.d (.v (.int .u64 (c))),.d (.v (.int .u64 (d))),.d (.v (.int .u64 (e))),.d (.v (.int .u64 (s))),.d (.ro 1 (ah l))]]) tk tq hK [(5,[(0,.n 1)]),(6,[(1,.b false)]),(8,[(0,.z (2))])] 2000 [0] [0,1,2,6,7,8,9,10,11,12,13,14,15,16,17,18,19,20,21,22,23,24,25,26,27,28,29,30,31,32,33,34,35,36,37,38,4,39,40,41] r (by kernel_rfl) (an (rfl:(1:Int)=((1:Nat):Int)) (an ((by omega):(1)<6) (an h4 (an ((wi (by omega)):IntKind.i64.wrap ((1:Int)+1)=2) trivial)))) fun ac wd r=>?_
      cases h5:(decide ((34359738367:Int)<c)) with
      | false=>
       have vY:=of_decide_eq_false h5
       refine ie (todo':=hd Tryz.f103 0) (E':=[(0,.ag [.z k,.z fr,.z to,.d (.v (.int .u64 (a))),.d (.v (.int .u64 (b))),.d (.v (.int .u64 (c))),.d (.v (.int .u64 (d))),.d (.v (.int .u64 (e))),.d (.v (.int .u64 (s))),.d (.ro 1 (ah l))]),(1,.pt 0 0),(2,.d (.v (.bool false))),(6,.pt 0 1),(7,.z fr),(8,.d (.v (.bool true))),(9,.d (.v (.bool false))),(10,.d (.v (.bool false))),(11,.pt 0 2),(12,.z to),(13,.d (.v (.bool true))),(14,.d (.v (.bool false))),(15,.d (.v (.bool false))),(16,.d (.v (.bool false))),(17,.pt 0 1),(18,.z fr),(19,.pt 0 2),(20,.z to),(21,.d (.v (.bool false))),(22,.d (.v (.bool false))),(23,.pt 0 3),(24,.d (.v (.int .u64 (a)))),(25,.pt 0 4),(26,.d (.v (.int .u64 (b)))),(27,.pt 0 5),(28,.d (.v (.int .u64 (c)))),(29,.pt 0 6),(30,.d (.v (.int .u64 (d)))),(31,.pt 0 7),(32,.d (.v (.int .u64 (e)))),(33,.pt 0 8),(34,.d (.v (.int .u64 (s)))),(35,.ag [.d (.v (.int .u64 (a))),.d (.v (.int .u64 (b))),.d (.v (.int .u64 (c))),.d (.v (.int .u64 (d))),.d (.v (.int .u64 (e))),.d (.v (.int .u64 (s)))]),(36,.z 3),(37,.d (.v (.bool true))),(38,.d (.v (.int .u64 (c)))),(4,.d (.v (.int .u64 (c)))),(39,.d (.v (.int .u64 (c)))),(40,.d (.v (.bool false))),(41,.z 3)]) (M':=[.bx 127 [.z k,.z fr,.z to,.d (.v (.int .u64 (a))),.d (.v (.int .u64 (b))),.d (.v (.int .u64 (c))),.d (.v (.int .u64 (d))),.d (.v (.int .u64 (e))),.d (.v (.int .u64 (s))),.d (.ro 1 (ah l))]]) tk tq hK [(5,[(0,.n 2)]),(6,[(1,.b false)]),(8,[(0,.z (3))])] 2000 [0] [0,1,2,6,7,8,9,10,11,12,13,14,15,16,17,18,19,20,21,22,23,24,25,26,27,28,29,30,31,32,33,34,35,36,37,38,4,39,40,41] r (by kernel_rfl) (an (rfl:(2:Int)=((2:Nat):Int)) (an ((by omega):(2)<6) (an h5 (an ((wi (by omega)):IntKind.i64.wrap ((2:Int)+1)=3) trivial)))) fun ac wd r=>?_
       cases h6:(decide ((34359738367:Int)<d)) with
       | false=>
        have vZ:=of_decide_eq_false h6
        refine ie (todo':=hd Tryz.f103 0) (E':=[(0,.ag [.z k,.z fr,.z to,.d (.v (.int .u64 (a))),.d (.v (.int .u64 (b))),.d (.v (.int .u64 (c))),.d (.v (.int .u64 (d))),.d (.v (.int .u64 (e))),.d (.v (.int .u64 (s))),.d (.ro 1 (ah l))]),(1,.pt 0 0),(2,.d (.v (.bool false))),(6,.pt 0 1),(7,.z fr),(8,.d (.v (.bool true))),(9,.d (.v (.bool false))),(10,.d (.v (.bool false))),(11,.pt 0 2),(12,.z to),(13,.d (.v (.bool true))),(14,.d (.v (.bool false))),(15,.d (.v (.bool false))),(16,.d (.v (.bool false))),(17,.pt 0 1),(18,.z fr),(19,.pt 0 2),(20,.z to),(21,.d (.v (.bool false))),(22,.d (.v (.bool false))),(23,.pt 0 3),(24,.d (.v (.int .u64 (a)))),(25,.pt 0 4),(26,.d (.v (.int .u64 (b)))),(27,.pt 0 5),(28,.d (.v (.int .u64 (c)))),(29,.pt 0 6),(30,.d (.v (.int .u64 (d)))),(31,.pt 0 7),(32,.d (.v (.int .u64 (e)))),(33,.pt 0 8),(34,.d (.v (.int .u64 (s)))),(35,.ag [.d (.v (.int .u64 (a))),.d (.v (.int .u64 (b))),.d (.v (.int .u64 (c))),.d (.v (.int .u64 (d))),.d (.v (.int .u64 (e))),.d (.v (.int .u64 (s)))]),(36,.z 4),(37,.d (.v (.bool true))),(38,.d (.v (.int .u64 (d)))),(4,.d (.v (.int .u64 (d)))),(39,.d (.v (.int .u64 (d)))),(40,.d (.v (.bool false))),(41,.z 4)]) (M':=[.bx 127 [.z k,.z fr,.z to,.d (.v (.int .u64 (a))),.d (.v (.int .u64 (b))),.d (.v (.int .u64 (c))),.d (.v (.int .u64 (d))),.d (.v (.int .u64 (e))),.d (.v (.int .u64 (s))),.d (.ro 1 (ah l))]]) tk tq hK [(5,[(0,.n 3)]),(6,[(1,.b false)]),(8,[(0,.z (4))])] 2000 [0] [0,1,2,6,7,8,9,10,11,12,13,14,15,16,17,18,19,20,21,22,23,24,25,26,27,28,29,30,31,32,33,34,35,36,37,38,4,39,40,41] r (by kernel_rfl) (an (rfl:(3:Int)=((3:Nat):Int)) (an ((by omega):(3)<6) (an h6 (an ((wi (by omega)):IntKind.i64.wrap ((3:Int)+1)=4) trivial)))) fun ac wd r=>?_
        cases h7:(decide ((34359738367:Int)<e)) with
        | false=>
         have v3:=of_decide_eq_false h7
         refine ie (todo':=hd Tryz.f103 0) (E':=[(0,.ag [.z k,.z fr,.z to,.d (.v (.int .u64 (a))),.d (.v (.int .u64 (b))),.d (.v (.int .u64 (c))),.d (.v (.int .u64 (d))),.d (.v (.int .u64 (e))),.d (.v (.int .u64 (s))),.d (.ro 1 (ah l))]),(1,.pt 0 0),(2,.d (.v (.bool false))),(6,.pt 0 1),(7,.z fr),(8,.d (.v (.bool true))),(9,.d (.v (.bool false))),(10,.d (.v (.bool false))),(11,.pt 0 2),(12,.z to),(13,.d (.v (.bool true))),(14,.d (.v (.bool false))),(15,.d (.v (.bool false))),(16,.d (.v (.bool false))),(17,.pt 0 1),(18,.z fr),(19,.pt 0 2),(20,.z to),(21,.d (.v (.bool false))),(22,.d (.v (.bool false))),(23,.pt 0 3),(24,.d (.v (.int .u64 (a)))),(25,.pt 0 4),(26,.d (.v (.int .u64 (b)))),(27,.pt 0 5),(28,.d (.v (.int .u64 (c)))),(29,.pt 0 6),(30,.d (.v (.int .u64 (d)))),(31,.pt 0 7),(32,.d (.v (.int .u64 (e)))),(33,.pt 0 8),(34,.d (.v (.int .u64 (s)))),(35,.ag [.d (.v (.int .u64 (a))),.d (.v (.int .u64 (b))),.d (.v (.int .u64 (c))),.d (.v (.int .u64 (d))),.d (.v (.int .u64 (e))),.d (.v (.int .u64 (s)))]),(36,.z 5),(37,.d (.v (.bool true))),(38,.d (.v (.int .u64 (e)))),(4,.d (.v (.int .u64 (e)))),(39,.d (.v (.int .u64 (e)))),(40,.d (.v (.bool false))),(41,.z 5)]) (M':=[.bx 127 [.z k,.z fr,.z to,.d (.v (.int .u64 (a))),.d (.v (.int .u64 (b))),.d (.v (.int .u64 (c))),.d (.v (.int .u64 (d))),.d (.v (.int .u64 (e))),.d (.v (.int .u64 (s))),.d (.ro 1 (ah l))]]) tk tq hK [(5,[(0,.n 4)]),(6,[(1,.b false)]),(8,[(0,.z (5))])] 2000 [0] [0,1,2,6,7,8,9,10,11,12,13,14,15,16,17,18,19,20,21,22,23,24,25,26,27,28,29,30,31,32,33,34,35,36,37,38,4,39,40,41] r (by kernel_rfl) (an (rfl:(4:Int)=((4:Nat):Int)) (an ((by omega):(4)<6) (an h7 (an ((wi (by omega)):IntKind.i64.wrap ((4:Int)+1)=5) trivial)))) fun ac wd r=>?_
         cases h8:(decide ((34359738367:Int)<s)) with
         | false=>
          have v5:=of_decide_eq_false h8
          refine ie (todo':=hd Tryz.f103 0) (E':=[(0,.ag [.z k,.z fr,.z to,.d (.v (.int .u64 (a))),.d (.v (.int .u64 (b))),.d (.v (.int .u64 (c))),.d (.v (.int .u64 (d))),.d (.v (.int .u64 (e))),.d (.v (.int .u64 (s))),.d (.ro 1 (ah l))]),(1,.pt 0 0),(2,.d (.v (.bool false))),(6,.pt 0 1),(7,.z fr),(8,.d (.v (.bool true))),(9,.d (.v (.bool false))),(10,.d (.v (.bool false))),(11,.pt 0 2),(12,.z to),(13,.d (.v (.bool true))),(14,.d (.v (.bool false))),(15,.d (.v (.bool false))),(16,.d (.v (.bool false))),(17,.pt 0 1),(18,.z fr),(19,.pt 0 2),(20,.z to),(21,.d (.v (.bool false))),(22,.d (.v (.bool false))),(23,.pt 0 3),(24,.d (.v (.int .u64 (a)))),(25,.pt 0 4),(26,.d (.v (.int .u64 (b)))),(27,.pt 0 5),(28,.d (.v (.int .u64 (c)))),(29,.pt 0 6),(30,.d (.v (.int .u64 (d)))),(31,.pt 0 7),(32,.d (.v (.int .u64 (e)))),(33,.pt 0 8),(34,.d (.v (.int .u64 (s)))),(35,.ag [.d (.v (.int .u64 (a))),.d (.v (.int .u64 (b))),.d (.v (.int .u64 (c))),.d (.v (.int .u64 (d))),.d (.v (.int .u64 (e))),.d (.v (.int .u64 (s)))]),(36,.z 6),(37,.d (.v (.bool true))),(38,.d (.v (.int .u64 (s)))),(4,.d (.v (.int .u64 (s)))),(39,.d (.v (.int .u64 (s)))),(40,.d (.v (.bool false))),(41,.z 6)]) (M':=[.bx 127 [.z k,.z fr,.z to,.d (.v (.int .u64 (a))),.d (.v (.int .u64 (b))),.d (.v (.int .u64 (c))),.d (.v (.int .u64 (d))),.d (.v (.int .u64 (e))),.d (.v (.int .u64 (s))),.d (.ro 1 (ah l))]]) tk tq hK [(5,[(0,.n 5)]),(6,[(1,.b false)]),(8,[(0,.z (6))])] 2000 [0] [0,1,2,6,7,8,9,10,11,12,13,14,15,16,17,18,19,20,21,22,23,24,25,26,27,28,29,30,31,32,33,34,35,36,37,38,4,39,40,41] r (by kernel_rfl) (an (rfl:(5:Int)=((5:Nat):Int)) (an ((by omega):(5)<6) (an h8 (an ((wi (by omega)):IntKind.i64.wrap ((5:Int)+1)=6) trivial)))) fun ac wd r=>?_
          cases h9:((a:Int)==0) with
          | false=>
           have G4:=ne_of_beq_false h9
           cases bw:((b:Int)==0) with
           | false=>
            have Fo:=ne_of_beq_false bw
            cases bc:(decide ((0:Int)<c)) with
            | false=>
             have Fp:=of_decide_eq_false bc
             cases cU:(decide ((0:Int)<d)) with
             | false=>
              have Fq:=of_decide_eq_false cU
              cases dr:(decide ((0:Int)<e)) with
              | false=>
               have Fs:=of_decide_eq_false dr
               cases dP:((k:Int)==1) with
               | false=>
                have Ft:=ne_of_beq_false dP
                cases gv:((k:Int)==2) with
                | false=>
                 have Fv:=ne_of_beq_false gv
                 rw [show (.v (.bool (aO k fr to a b c d e s l.length)):DV)=.v (.bool false) from (by simp only [aO,bW,bU,cond_true,cond_false,h0,h1,h2,h3,h4,h5,h6,h7,h8,h9,bw,bc,cU,dr,dP,gv]<;>rfl)]
                 exact bL tk tq hK rfl [(9,[(2,.b false),(6,.b false)]),(11,[(2,.b false)]),(12,[(5,.b false),(9,.b false),(14,.b false)]),(15,[(0,.b false)]),(17,[(0,.b false)])] 2000 r (by kernel_rfl) (an h9 (an bw (an bc (an bc (an cU (an dr (an dP (an gv trivial))))))))
                | true=>
                 have Fv:=eq_of_beq gv
                 cases jz:(decide ((0:Int)<s)) with
                 | false=>
                  have Fw:=of_decide_eq_false jz
                  rw [show (.v (.bool (aO k fr to a b c d e s l.length)):DV)=.v (.bool false) from (by simp only [aO,bW,bU,cond_true,cond_false,h0,h1,h2,h3,h4,h5,h6,h7,h8,h9,bw,bc,cU,dr,dP,gv,jz]<;>rfl)]
                  exact bL tk tq hK rfl [(9,[(2,.b false),(6,.b false)]),(11,[(2,.b false)]),(12,[(5,.b false),(9,.b false),(14,.b false)]),(15,[(0,.b false)]),(17,[(0,.b true)]),(18,[(2,.b false)])] 2000 r (by kernel_rfl) (an h9 (an bw (an bc (an bc (an cU (an dr (an dP (an gv (an jz trivial)))))))))
                 | true=>
                  have Fw:=of_decide_eq_true jz
                  rw [show (.v (.bool (aO k fr to a b c d e s l.length)):DV)=.v (.bool false) from (by simp only [aO,bW,bU,cond_true,cond_false,h0,h1,h2,h3,h4,h5,h6,h7,h8,h9,bw,bc,cU,dr,dP,gv,jz]<;>rfl)]
                  exact bL tk tq hK rfl [(9,[(2,.b false),(6,.b false)]),(11,[(2,.b false)]),(12,[(5,.b false),(9,.b false),(14,.b false)]),(15,[(0,.b false)]),(17,[(0,.b true)]),(18,[(2,.b true)])] 2000 r (by kernel_rfl) (an h9 (an bw (an bc (an bc (an cU (an dr (an dP (an gv (an jz trivial)))))))))
               | true=>
                have Ft:=eq_of_beq dP
                cases g9:((s:Int)==0) with
                | false=>
                 have Fx:=ne_of_beq_false g9
                 rw [show (.v (.bool (aO k fr to a b c d e s l.length)):DV)=.v (.bool false) from (by simp only [aO,bW,bU,cond_true,cond_false,h0,h1,h2,h3,h4,h5,h6,h7,h8,h9,bw,bc,cU,dr,dP,g9]<;>rfl)]
                 exact bL tk tq hK rfl [(9,[(2,.b false),(6,.b false)]),(11,[(2,.b false)]),(12,[(5,.b false),(9,.b false),(14,.b false)]),(15,[(0,.b true)]),(16,[(2,.b false)])] 2000 r (by kernel_rfl) (an h9 (an bw (an bc (an bc (an cU (an dr (an dP (an g9 trivial))))))))
                | true=>
                 have Fx:=eq_of_beq g9
                 have iF:=((by first | rfl | simp [ah]):(((ah l).length:Nat):Int)=((l.length:Nat):Int))
                 cases fc:((((l.length:Nat):Int):Int)==0) with
                 | false=>
                  have Fy:=ne_of_beq_false fc
                  rw [show (.v (.bool (aO k fr to a b c d e s l.length)):DV)=.v (.bool false) from (by simp only [aO,bW,bU,cond_true,cond_false,h0,h1,h2,h3,h4,h5,h6,h7,h8,h9,bw,bc,cU,dr,dP,g9,fc]<;>rfl)]
                  exact bL tk tq hK rfl [(9,[(2,.b false),(6,.b false)]),(11,[(2,.b false)]),(12,[(5,.b false),(9,.b false),(14,.b false)]),(15,[(0,.b true)]),(16,[(2,.b true),(6,.z (((l.length:Nat):Int))),(7,.b false)])] 2000 r (by kernel_rfl) (an h9 (an bw (an bc (an bc (an cU (an dr (an dP (an g9 (an iF (an fc trivial))))))))))
                 | true=>
                  have Fy:=eq_of_beq fc
                  rw [show (.v (.bool (aO k fr to a b c d e s l.length)):DV)=.v (.bool true) from (by simp only [aO,bW,bU,cond_true,cond_false,h0,h1,h2,h3,h4,h5,h6,h7,h8,h9,bw,bc,cU,dr,dP,g9,fc]<;>rfl)]
                  exact bL tk tq hK rfl [(9,[(2,.b false),(6,.b false)]),(11,[(2,.b false)]),(12,[(5,.b false),(9,.b false),(14,.b false)]),(15,[(0,.b true)]),(16,[(2,.b true),(6,.z (((l.length:Nat):Int))),(7,.b true)])] 2000 r (by kernel_rfl) (an h9 (an bw (an bc (an bc (an cU (an dr (an dP (an g9 (an iF (an fc trivial))))))))))
              | true=>
               have Fs:=of_decide_eq_true dr
               rw [show (.v (.bool (aO k fr to a b c d e s l.length)):DV)=.v (.bool false) from (by simp only [aO,bW,bU,cond_true,cond_false,h0,h1,h2,h3,h4,h5,h6,h7,h8,h9,bw,bc,cU,dr]<;>rfl)]
               exact bL tk tq hK rfl [(9,[(2,.b false),(6,.b false)]),(11,[(2,.b false)]),(12,[(5,.b false),(9,.b false),(14,.b true)])] 2000 r (by kernel_rfl) (an h9 (an bw (an bc (an bc (an cU (an dr trivial))))))
             | true=>
              have Fq:=of_decide_eq_true cU
              rw [show (.v (.bool (aO k fr to a b c d e s l.length)):DV)=.v (.bool false) from (by simp only [aO,bW,bU,cond_true,cond_false,h0,h1,h2,h3,h4,h5,h6,h7,h8,h9,bw,bc,cU]<;>rfl)]
              exact bL tk tq hK rfl [(9,[(2,.b false),(6,.b false)]),(11,[(2,.b false)]),(12,[(5,.b false),(9,.b true)])] 2000 r (by kernel_rfl) (an h9 (an bw (an bc (an bc (an cU trivial)))))
            | true=>
             have Fp:=of_decide_eq_true bc
             cases c8:(decide ((0:Int)<d)) with
             | false=>
              have FA:=of_decide_eq_false c8
              rw [show (.v (.bool (aO k fr to a b c d e s l.length)):DV)=.v (.bool false) from (by simp only [aO,bW,bU,cond_true,cond_false,h0,h1,h2,h3,h4,h5,h6,h7,h8,h9,bw,bc,c8]<;>rfl)]
              exact bL tk tq hK rfl [(9,[(2,.b false),(6,.b false)]),(11,[(2,.b true),(6,.b false)]),(12,[(5,.b true)])] 2000 r (by kernel_rfl) (an h9 (an bw (an bc (an c8 (an bc trivial)))))
             | true=>
              have FA:=of_decide_eq_true c8
              cases dQ:((k:Int)==1) with
              | false=>
               have FB:=ne_of_beq_false dQ
               cases fD:((k:Int)==2) with
               | false=>
                have FC:=ne_of_beq_false fD
                rw [show (.v (.bool (aO k fr to a b c d e s l.length)):DV)=.v (.bool false) from (by simp only [aO,bW,bU,cond_true,cond_false,h0,h1,h2,h3,h4,h5,h6,h7,h8,h9,bw,bc,c8,dQ,fD]<;>rfl)]
                exact bL tk tq hK rfl [(9,[(2,.b false),(6,.b false)]),(11,[(2,.b true),(6,.b true)]),(15,[(0,.b false)]),(17,[(0,.b false)])] 2000 r (by kernel_rfl) (an h9 (an bw (an bc (an c8 (an dQ (an fD trivial))))))
               | true=>
                have FC:=eq_of_beq fD
                cases gy:(decide ((0:Int)<s)) with
                | false=>
                 have FD:=of_decide_eq_false gy
                 rw [show (.v (.bool (aO k fr to a b c d e s l.length)):DV)=.v (.bool false) from (by simp only [aO,bW,bU,cond_true,cond_false,h0,h1,h2,h3,h4,h5,h6,h7,h8,h9,bw,bc,c8,dQ,fD,gy]<;>rfl)]
                 exact bL tk tq hK rfl [(9,[(2,.b false),(6,.b false)]),(11,[(2,.b true),(6,.b true)]),(15,[(0,.b false)]),(17,[(0,.b true)]),(18,[(2,.b false)])] 2000 r (by kernel_rfl) (an h9 (an bw (an bc (an c8 (an dQ (an fD (an gy trivial)))))))
                | true=>
                 have FD:=of_decide_eq_true gy
                 have iG:=((by first | rfl | simp [ah]):(((ah l).length:Nat):Int)=((l.length:Nat):Int))
                 cases pj:(decide ((1:Int)≤((l.length:Nat):Int))) with
                 | false=>
                  have adJ:=of_decide_eq_false pj
                  rw [show (.v (.bool (aO k fr to a b c d e s l.length)):DV)=.v (.bool false) from (by simp only [aO,bW,bU,cond_true,cond_false,h0,h1,h2,h3,h4,h5,h6,h7,h8,h9,bw,bc,c8,dQ,fD,gy,pj]<;>rfl)]
                  exact bL tk tq hK rfl [(9,[(2,.b false),(6,.b false)]),(11,[(2,.b true),(6,.b true)]),(15,[(0,.b false)]),(17,[(0,.b true)]),(18,[(2,.b true),(9,.z (((l.length:Nat):Int))),(10,.b false)])] 2000 r (by kernel_rfl) (an h9 (an bw (an bc (an c8 (an dQ (an fD (an gy (an iG (an pj trivial)))))))))
                 | true=>
                  have adJ:=of_decide_eq_true pj
                  cases tx:(decide ((((l.length:Nat):Int):Int)≤448)) with
                  | false=>
                   have adK:=of_decide_eq_false tx
                   rw [show (.v (.bool (aO k fr to a b c d e s l.length)):DV)=.v (.bool false) from (by simp only [aO,bW,bU,cond_true,cond_false,h0,h1,h2,h3,h4,h5,h6,h7,h8,h9,bw,bc,c8,dQ,fD,gy,pj,tx]<;>rfl)]
                   exact bL tk tq hK rfl [(9,[(2,.b false),(6,.b false)]),(11,[(2,.b true),(6,.b true)]),(15,[(0,.b false)]),(17,[(0,.b true)]),(18,[(2,.b true),(9,.z (((l.length:Nat):Int))),(10,.b true),(15,.z (((l.length:Nat):Int))),(16,.b false)])] 2000 r (by kernel_rfl) (an h9 (an bw (an bc (an c8 (an dQ (an fD (an gy (an iG (an pj (an iG (an tx trivial)))))))))))
                  | true=>
                   have adK:=of_decide_eq_true tx
                   rw [show (.v (.bool (aO k fr to a b c d e s l.length)):DV)=.v (.bool true) from (by simp only [aO,bW,bU,cond_true,cond_false,h0,h1,h2,h3,h4,h5,h6,h7,h8,h9,bw,bc,c8,dQ,fD,gy,pj,tx]<;>rfl)]
                   exact bL tk tq hK rfl [(9,[(2,.b false),(6,.b false)]),(11,[(2,.b true),(6,.b true)]),(15,[(0,.b false)]),(17,[(0,.b true)]),(18,[(2,.b true),(9,.z (((l.length:Nat):Int))),(10,.b true),(15,.z (((l.length:Nat):Int))),(16,.b true)])] 2000 r (by kernel_rfl) (an h9 (an bw (an bc (an c8 (an dQ (an fD (an gy (an iG (an pj (an iG (an tx trivial)))))))))))
              | true=>
               have FB:=eq_of_beq dQ
               cases pk:((s:Int)==0) with
               | false=>
                have adL:=ne_of_beq_false pk
                rw [show (.v (.bool (aO k fr to a b c d e s l.length)):DV)=.v (.bool false) from (by simp only [aO,bW,bU,cond_true,cond_false,h0,h1,h2,h3,h4,h5,h6,h7,h8,h9,bw,bc,c8,dQ,pk]<;>rfl)]
                exact bL tk tq hK rfl [(9,[(2,.b false),(6,.b false)]),(11,[(2,.b true),(6,.b true)]),(15,[(0,.b true)]),(16,[(2,.b false)])] 2000 r (by kernel_rfl) (an h9 (an bw (an bc (an c8 (an dQ (an pk trivial))))))
               | true=>
                have adL:=eq_of_beq pk
                have lf:=((by first | rfl | simp [ah]):(((ah l).length:Nat):Int)=((l.length:Nat):Int))
                cases tz:((((l.length:Nat):Int):Int)==0) with
                | false=>
                 have adM:=ne_of_beq_false tz
                 rw [show (.v (.bool (aO k fr to a b c d e s l.length)):DV)=.v (.bool false) from (by simp only [aO,bW,bU,cond_true,cond_false,h0,h1,h2,h3,h4,h5,h6,h7,h8,h9,bw,bc,c8,dQ,pk,tz]<;>rfl)]
                 exact bL tk tq hK rfl [(9,[(2,.b false),(6,.b false)]),(11,[(2,.b true),(6,.b true)]),(15,[(0,.b true)]),(16,[(2,.b true),(6,.z (((l.length:Nat):Int))),(7,.b false)])] 2000 r (by kernel_rfl) (an h9 (an bw (an bc (an c8 (an dQ (an pk (an lf (an tz trivial))))))))
                | true=>
                 have adM:=eq_of_beq tz
                 rw [show (.v (.bool (aO k fr to a b c d e s l.length)):DV)=.v (.bool true) from (by simp only [aO,bW,bU,cond_true,cond_false,h0,h1,h2,h3,h4,h5,h6,h7,h8,h9,bw,bc,c8,dQ,pk,tz]<;>rfl)]
                 exact bL tk tq hK rfl [(9,[(2,.b false),(6,.b false)]),(11,[(2,.b true),(6,.b true)]),(15,[(0,.b true)]),(16,[(2,.b true),(6,.z (((l.length:Nat):Int))),(7,.b true)])] 2000 r (by kernel_rfl) (an h9 (an bw (an bc (an c8 (an dQ (an pk (an lf (an tz trivial))))))))
           | true=>
            have Fo:=eq_of_beq bw
            rw [show (.v (.bool (aO k fr to a b c d e s l.length)):DV)=.v (.bool false) from (by simp only [aO,bW,bU,cond_true,cond_false,h0,h1,h2,h3,h4,h5,h6,h7,h8,h9,bw]<;>rfl)]
            exact bL tk tq hK rfl [(9,[(2,.b false),(6,.b true)])] 2000 r (by kernel_rfl) (an h9 (an bw trivial))
          | true=>
           have G4:=eq_of_beq h9
           rw [show (.v (.bool (aO k fr to a b c d e s l.length)):DV)=.v (.bool false) from (by simp only [aO,bW,bU,cond_true,cond_false,h0,h1,h2,h3,h4,h5,h6,h7,h8,h9]<;>rfl)]
           exact bL tk tq hK rfl [(9,[(2,.b true)])] 2000 r (by kernel_rfl) (an h9 trivial)
         | true=>
          have v5:=of_decide_eq_true h8
          rw [show (.v (.bool (aO k fr to a b c d e s l.length)):DV)=.v (.bool false) from (by simp only [aO,bW,bU,cond_true,cond_false,h0,h1,h2,h3,h4,h5,h6,h7,h8]<;>rfl)]
          exact bL tk tq hK rfl [(5,[(0,.n 5)]),(6,[(1,.b true)])] 2000 r (by kernel_rfl) (an (rfl:(5:Int)=((5:Nat):Int)) (an ((by omega):(5)<6) (an h8 trivial)))
        | true=>
         have v3:=of_decide_eq_true h7
         rw [show (.v (.bool (aO k fr to a b c d e s l.length)):DV)=.v (.bool false) from (by simp only [aO,bW,bU,cond_true,cond_false,h0,h1,h2,h3,h4,h5,h6,h7]<;>rfl)]
         exact bL tk tq hK rfl [(5,[(0,.n 4)]),(6,[(1,.b true)])] 2000 r (by kernel_rfl) (an (rfl:(4:Int)=((4:Nat):Int)) (an ((by omega):(4)<6) (an h7 trivial)))
       | true=>
        have vZ:=of_decide_eq_true h6
        rw [show (.v (.bool (aO k fr to a b c d e s l.length)):DV)=.v (.bool false) from (by simp only [aO,bW,bU,cond_true,cond_false,h0,h1,h2,h3,h4,h5,h6]<;>rfl)]
        exact bL tk tq hK rfl [(5,[(0,.n 3)]),(6,[(1,.b true)])] 2000 r (by kernel_rfl) (an (rfl:(3:Int)=((3:Nat):Int)) (an ((by omega):(3)<6) (an h6 trivial)))
      | true=>
       have vY:=of_decide_eq_true h5
       rw [show (.v (.bool (aO k fr to a b c d e s l.length)):DV)=.v (.bool false) from (by simp only [aO,bW,bU,cond_true,cond_false,h0,h1,h2,h3,h4,h5]<;>rfl)]
       exact bL tk tq hK rfl [(5,[(0,.n 2)]),(6,[(1,.b true)])] 2000 r (by kernel_rfl) (an (rfl:(2:Int)=((2:Nat):Int)) (an ((by omega):(2)<6) (an h5 trivial)))
     | true=>
      have qJ:=of_decide_eq_true h4
      rw [show (.v (.bool (aO k fr to a b c d e s l.length)):DV)=.v (.bool false) from (by simp only [aO,bW,bU,cond_true,cond_false,h0,h1,h2,h3,h4]<;>rfl)]
      exact bL tk tq hK rfl [(5,[(0,.n 1)]),(6,[(1,.b true)])] 2000 r (by kernel_rfl) (an (rfl:(1:Int)=((1:Nat):Int)) (an ((by omega):(1)<6) (an h4 trivial)))
    | true=>
     have qI:=of_decide_eq_true h3
     rw [show (.v (.bool (aO k fr to a b c d e s l.length)):DV)=.v (.bool false) from (by simp only [aO,bW,bU,cond_true,cond_false,h0,h1,h2,h3]<;>rfl)]
     exact bL tk tq hK rfl [(5,[(0,.n 0)]),(6,[(1,.b true)])] 2000 r (by kernel_rfl) (an (rfl:(0:Int)=((0:Nat):Int)) (an ((by omega):(0)<6) (an h3 trivial)))
   | true=>
    have iH:=eq_of_beq h2
    rw [show (.v (.bool (aO k fr to a b c d e s l.length)):DV)=.v (.bool false) from (by simp only [aO,bW,bU,cond_true,cond_false,h0,h1,h2]<;>rfl)]
    exact bL tk tq hK rfl [(1,[(2,.dX (.v (.bool true))),(7,.dX (.v (.bool true))),(15,.b true)])] 2000 r (by kernel_rfl) (an eL (an gq (an h2 trivial)))
set_option maxRecDepth 100000 in
theorem Lx (k fr to a b c d e s:Int):cb Tryz.prog 103 [.ag [.z k,.z fr,.z to,.d (.v (.int .u64 (a))),.d (.v (.int .u64 (b))),.d (.v (.int .u64 (c))),.d (.v (.int .u64 (d))),.d (.v (.int .u64 (e))),.d (.v (.int .u64 (s))),.d (.v (.slice none 0 0))]] (.v (.bool (aO k fr to a b c d e s 0))):=by
 refine cb.intro (by kernel_rfl) rfl rfl 108 rfl rfl fun w0 K ac hK r=>?_
 cases h0:(jb fr) with
 | false=>
  rw [show (.v (.bool (aO k fr to a b c d e s 0)):DV)=.v (.bool false) from (by simp only [aO,bW,bU,cond_true,cond_false,h0]<;>rfl)]
  exact bL tk tq hK rfl [(1,[(2,.dX (.v (.bool false)))])] 2000 r (by kernel_rfl) (an ((by have k:=nB fr;rw [h0] at k;exact k):cb Tryz.prog 217 [.z fr] (.v (.bool false))) trivial)
 | true=>
  have eL:=((by have k:=nB fr;rw [h0] at k;exact k):cb Tryz.prog 217 [.z fr] (.v (.bool true)))
  cases h1:(jb to) with
  | false=>
   rw [show (.v (.bool (aO k fr to a b c d e s 0)):DV)=.v (.bool false) from (by simp only [aO,bW,bU,cond_true,cond_false,h0,h1]<;>rfl)]
   exact bL tk tq hK rfl [(1,[(2,.dX (.v (.bool true))),(7,.dX (.v (.bool false)))])] 2000 r (by kernel_rfl) (an eL (an ((by have k:=nB to;rw [h1] at k;exact k):cb Tryz.prog 217 [.z to] (.v (.bool false))) trivial))
  | true=>
   have gq:=((by have k:=nB to;rw [h1] at k;exact k):cb Tryz.prog 217 [.z to] (.v (.bool true)))
   cases h2:((fr:Int)==to) with
   | false=>
    have iH:=ne_of_beq_false h2
    refine ie (todo':=hd Tryz.f103 0) (E':=[(0,.ag [.z k,.z fr,.z to,.d (.v (.int .u64 (a))),.d (.v (.int .u64 (b))),.d (.v (.int .u64 (c))),.d (.v (.int .u64 (d))),.d (.v (.int .u64 (e))),.d (.v (.int .u64 (s))),.d (.v (.slice none 0 0))]),(1,.pt 0 0),(2,.d (.v (.bool false))),(6,.pt 0 1),(7,.z fr),(8,.d (.v (.bool true))),(9,.d (.v (.bool false))),(10,.d (.v (.bool false))),(11,.pt 0 2),(12,.z to),(13,.d (.v (.bool true))),(14,.d (.v (.bool false))),(15,.d (.v (.bool false))),(16,.d (.v (.bool false))),(17,.pt 0 1),(18,.z fr),(19,.pt 0 2),(20,.z to),(21,.d (.v (.bool false))),(22,.d (.v (.bool false))),(23,.pt 0 3),(24,.d (.v (.int .u64 (a)))),(25,.pt 0 4),(26,.d (.v (.int .u64 (b)))),(27,.pt 0 5),(28,.d (.v (.int .u64 (c)))),(29,.pt 0 6),(30,.d (.v (.int .u64 (d)))),(31,.pt 0 7),(32,.d (.v (.int .u64 (e)))),(33,.pt 0 8),(34,.d (.v (.int .u64 (s)))),(35,.ag [.d (.v (.int .u64 (a))),.d (.v (.int .u64 (b))),.d (.v (.int .u64 (c))),.d (.v (.int .u64 (d))),.d (.v (.int .u64 (e))),.d (.v (.int .u64 (s)))]),(36,.z 0)]) (M':=[.bx 127 [.z k,.z fr,.z to,.d (.v (.int .u64 (a))),.d (.v (.int .u64 (b))),.d (.v (.int .u64 (c))),.d (.v (.int .u64 (d))),.d (.v (.int .u64 (e))),.d (.v (.int .u64 (s))),.d (.v (.slice none 0 0))]]) tk tq hK [(1,[(2,.dX (.v (.bool true))),(7,.dX (.v (.bool true))),(15,.b false)])] 2000 [0] [0,1,2,6,7,8,9,10,11,12,13,14,15,16,17,18,19,20,21,22,23,24,25,26,27,28,29,30,31,32,33,34,35,36] r (by kernel_rfl) (an eL (an gq (an h2 trivial))) fun ac wd r=>?_
    cases h3:(decide ((34359738367:Int)<a)) with
    | false=>
     have qI:=of_decide_eq_false h3
     refine ie (todo':=hd Tryz.f103 0) (E':=[(0,.ag [.z k,.z fr,.z to,.d (.v (.int .u64 (a))),.d (.v (.int .u64 (b))),.d (.v (.int .u64 (c))),.d (.v (.int .u64 (d))),.d (.v (.int .u64 (e))),.d (.v (.int .u64 (s))),.d (.v (.slice none 0 0))]),(1,.pt 0 0),(2,.d (.v (.bool false))),(6,.pt 0 1),(7,.z fr),(8,.d (.v (.bool true))),(9,.d (.v (.bool false))),(10,.d (.v (.bool false))),(11,.pt 0 2),(12,.z to),(13,.d (.v (.bool true))),(14,.d (.v (.bool false))),(15,.d (.v (.bool false))),(16,.d (.v (.bool false))),(17,.pt 0 1),(18,.z fr),(19,.pt 0 2),(20,.z to),(21,.d (.v (.bool false))),(22,.d (.v (.bool false))),(23,.pt 0 3),(24,.d (.v (.int .u64 (a)))),(25,.pt 0 4),(26,.d (.v (.int .u64 (b)))),(27,.pt 0 5),(28,.d (.v (.int .u64 (c)))),(29,.pt 0 6),(30,.d (.v (.int .u64 (d)))),(31,.pt 0 7),(32,.d (.v (.int .u64 (e)))),(33,.pt 0 8),(34,.d (.v (.int .u64 (s)))),(35,.ag [.d (.v (.int .u64 (a))),.d (.v (.int .u64 (b))),.d (.v (.int .u64 (c))),.d (.v (.int .u64 (d))),.d (.v (.int .u64 (e))),.d (.v (.int .u64 (s)))]),(36,.z 1),(37,.d (.v (.bool true))),(38,.d (.v (.int .u64 (a)))),(4,.d (.v (.int .u64 (a)))),(39,.d (.v (.int .u64 (a)))),(40,.d (.v (.bool false))),(41,.z 1)]) (M':=[.bx 127 [.z k,.z fr,.z to,.d (.v (.int .u64 (a))),.d (.v (.int .u64 (b))),.d (.v (.int .u64 (c))),.d (.v (.int .u64 (d))),.d (.v (.int .u64 (e))),.d (.v (.int .u64 (s))),.d (.v (.slice none 0 0))]]) tk tq hK [(5,[(0,.n 0)]),(6,[(1,.b false)]),(8,[(0,.z (1))])] 2000 [0] [0,1,2,6,7,8,9,10,11,12,13,14,15,16,17,18,19,20,21,22,23,24,25,26,27,28,29,30,31,32,33,34,35,36,37,38,4,39,40,41] r (by kernel_rfl) (an (rfl:(0:Int)=((0:Nat):Int)) (an ((by omega):(0)<6) (an h3 (an ((wi (by omega)):IntKind.i64.wrap ((0:Int)+1)=1) trivial)))) fun ac wd r=>?_
     cases h4:(decide ((34359738367:Int)<b)) with
     | false=>
      have qJ:=of_decide_eq_false h4
      refine ie (todo':=hd Tryz.f103 0) (E':=[(0,.ag [.z k,.z fr,.z to,.d (.v (.int .u64 (a))),.d (.v (.int .u64 (b))),.d (.v (.int .u64 (c))),.d (.v (.int .u64 (d))),.d (.v (.int .u64 (e))),.d (.v (.int .u64 (s))),.d (.v (.slice none 0 0))]),(1,.pt 0 0),(2,.d (.v (.bool false))),(6,.pt 0 1),(7,.z fr),(8,.d (.v (.bool true))),(9,.d (.v (.bool false))),(10,.d (.v (.bool false))),(11,.pt 0 2),(12,.z to),(13,.d (.v (.bool true))),(14,.d (.v (.bool false))),(15,.d (.v (.bool false))),(16,.d (.v (.bool false))),(17,.pt 0 1),(18,.z fr),(19,.pt 0 2),(20,.z to),(21,.d (.v (.bool false))),(22,.d (.v (.bool false))),(23,.pt 0 3),(24,.d (.v (.int .u64 (a)))),(25,.pt 0 4),(26,.d (.v (.int .u64 (b)))),(27,.pt 0 5),(28,.d (.v (.int .u64 (c)))),(29,.pt 0 6),(30,.d (.v (.int .u64 (d)))),(31,.pt 0 7),(32,.d (.v (.int .u64 (e)))),(33,.pt 0 8),(34,.d (.v (.int .u64 (s)))),(35,.ag [.d (.v (.int .u64 (a))),.d (.v (.int .u64 (b))),.d (.v (.int .u64 (c))),.d (.v (.int .u64 (d))),.d (.v (.int .u64 (e))),.d (.v (.int .u64 (s)))]),(36,.z 2),(37,.d (.v (.bool true))),(38,.d (.v (.int .u64 (b)))),(4,.d (.v (.int .u64 (b)))),(39,.d (.v (.int .u64 (b)))),(40,.d (.v (.bool false))),(41,.z 2)]) (M':=[.bx 127 [.z k,.z fr,.z to,.d (.v (.int .u64 (a))),.d (.v (.int .u64 (b))),.d (.v (.int .u64 (c))),.d (.v (.int .u64 (d))),.d (.v (.int .u64 (e))),.d (.v (.int .u64 (s))),.d (.v (.slice none 0 0))]]) tk tq hK [(5,[(0,.n 1)]),(6,[(1,.b false)]),(8,[(0,.z (2))])] 2000 [0] [0,1,2,6,7,8,9,10,11,12,13,14,15,16,17,18,19,20,21,22,23,24,25,26,27,28,29,30,31,32,33,34,35,36,37,38,4,39,40,41] r (by kernel_rfl) (an (rfl:(1:Int)=((1:Nat):Int)) (an ((by omega):(1)<6) (an h4 (an ((wi (by omega)):IntKind.i64.wrap ((1:Int)+1)=2) trivial)))) fun ac wd r=>?_
      cases h5:(decide ((34359738367:Int)<c)) with
      | false=>
       have vY:=of_decide_eq_false h5
       refine ie (todo':=hd Tryz.f103 0) (E':=[(0,.ag [.z k,.z fr,.z to,.d (.v (.int .u64 (a))),.d (.v (.int .u64 (b))),.d (.v (.int .u64 (c))),.d (.v (.int .u64 (d))),.d (.v (.int .u64 (e))),.d (.v (.int .u64 (s))),.d (.v (.slice none 0 0))]),(1,.pt 0 0),(2,.d (.v (.bool false))),(6,.pt 0 1),(7,.z fr),(8,.d (.v (.bool true))),(9,.d (.v (.bool false))),(10,.d (.v (.bool false))),(11,.pt 0 2),(12,.z to),(13,.d (.v (.bool true))),(14,.d (.v (.bool false))),(15,.d (.v (.bool false))),(16,.d (.v (.bool false))),(17,.pt 0 1),(18,.z fr),(19,.pt 0 2),(20,.z to),(21,.d (.v (.bool false))),(22,.d (.v (.bool false))),(23,.pt 0 3),(24,.d (.v (.int .u64 (a)))),(25,.pt 0 4),(26,.d (.v (.int .u64 (b)))),(27,.pt 0 5),(28,.d (.v (.int .u64 (c)))),(29,.pt 0 6),(30,.d (.v (.int .u64 (d)))),(31,.pt 0 7),(32,.d (.v (.int .u64 (e)))),(33,.pt 0 8),(34,.d (.v (.int .u64 (s)))),(35,.ag [.d (.v (.int .u64 (a))),.d (.v (.int .u64 (b))),.d (.v (.int .u64 (c))),.d (.v (.int .u64 (d))),.d (.v (.int .u64 (e))),.d (.v (.int .u64 (s)))]),(36,.z 3),(37,.d (.v (.bool true))),(38,.d (.v (.int .u64 (c)))),(4,.d (.v (.int .u64 (c)))),(39,.d (.v (.int .u64 (c)))),(40,.d (.v (.bool false))),(41,.z 3)]) (M':=[.bx 127 [.z k,.z fr,.z to,.d (.v (.int .u64 (a))),.d (.v (.int .u64 (b))),.d (.v (.int .u64 (c))),.d (.v (.int .u64 (d))),.d (.v (.int .u64 (e))),.d (.v (.int .u64 (s))),.d (.v (.slice none 0 0))]]) tk tq hK [(5,[(0,.n 2)]),(6,[(1,.b false)]),(8,[(0,.z (3))])] 2000 [0] [0,1,2,6,7,8,9,10,11,12,13,14,15,16,17,18,19,20,21,22,23,24,25,26,27,28,29,30,31,32,33,34,35,36,37,38,4,39,40,41] r (by kernel_rfl) (an (rfl:(2:Int)=((2:Nat):Int)) (an ((by omega):(2)<6) (an h5 (an ((wi (by omega)):IntKind.i64.wrap ((2:Int)+1)=3) trivial)))) fun ac wd r=>?_
       cases h6:(decide ((34359738367:Int)<d)) with
       | false=>
        have vZ:=of_decide_eq_false h6
        refine ie (todo':=hd Tryz.f103 0) (E':=[(0,.ag [.z k,.z fr,.z to,.d (.v (.int .u64 (a))),.d (.v (.int .u64 (b))),.d (.v (.int .u64 (c))),.d (.v (.int .u64 (d))),.d (.v (.int .u64 (e))),.d (.v (.int .u64 (s))),.d (.v (.slice none 0 0))]),(1,.pt 0 0),(2,.d (.v (.bool false))),(6,.pt 0 1),(7,.z fr),(8,.d (.v (.bool true))),(9,.d (.v (.bool false))),(10,.d (.v (.bool false))),(11,.pt 0 2),(12,.z to),(13,.d (.v (.bool true))),(14,.d (.v (.bool false))),(15,.d (.v (.bool false))),(16,.d (.v (.bool false))),(17,.pt 0 1),(18,.z fr),(19,.pt 0 2),(20,.z to),(21,.d (.v (.bool false))),(22,.d (.v (.bool false))),(23,.pt 0 3),(24,.d (.v (.int .u64 (a)))),(25,.pt 0 4),(26,.d (.v (.int .u64 (b)))),(27,.pt 0 5),(28,.d (.v (.int .u64 (c)))),(29,.pt 0 6),(30,.d (.v (.int .u64 (d)))),(31,.pt 0 7),(32,.d (.v (.int .u64 (e)))),(33,.pt 0 8),(34,.d (.v (.int .u64 (s)))),(35,.ag [.d (.v (.int .u64 (a))),.d (.v (.int .u64 (b))),.d (.v (.int .u64 (c))),.d (.v (.int .u64 (d))),.d (.v (.int .u64 (e))),.d (.v (.int .u64 (s)))]),(36,.z 4),(37,.d (.v (.bool true))),(38,.d (.v (.int .u64 (d)))),(4,.d (.v (.int .u64 (d)))),(39,.d (.v (.int .u64 (d)))),(40,.d (.v (.bool false))),(41,.z 4)]) (M':=[.bx 127 [.z k,.z fr,.z to,.d (.v (.int .u64 (a))),.d (.v (.int .u64 (b))),.d (.v (.int .u64 (c))),.d (.v (.int .u64 (d))),.d (.v (.int .u64 (e))),.d (.v (.int .u64 (s))),.d (.v (.slice none 0 0))]]) tk tq hK [(5,[(0,.n 3)]),(6,[(1,.b false)]),(8,[(0,.z (4))])] 2000 [0] [0,1,2,6,7,8,9,10,11,12,13,14,15,16,17,18,19,20,21,22,23,24,25,26,27,28,29,30,31,32,33,34,35,36,37,38,4,39,40,41] r (by kernel_rfl) (an (rfl:(3:Int)=((3:Nat):Int)) (an ((by omega):(3)<6) (an h6 (an ((wi (by omega)):IntKind.i64.wrap ((3:Int)+1)=4) trivial)))) fun ac wd r=>?_
        cases h7:(decide ((34359738367:Int)<e)) with
        | false=>
         have v3:=of_decide_eq_false h7
         refine ie (todo':=hd Tryz.f103 0) (E':=[(0,.ag [.z k,.z fr,.z to,.d (.v (.int .u64 (a))),.d (.v (.int .u64 (b))),.d (.v (.int .u64 (c))),.d (.v (.int .u64 (d))),.d (.v (.int .u64 (e))),.d (.v (.int .u64 (s))),.d (.v (.slice none 0 0))]),(1,.pt 0 0),(2,.d (.v (.bool false))),(6,.pt 0 1),(7,.z fr),(8,.d (.v (.bool true))),(9,.d (.v (.bool false))),(10,.d (.v (.bool false))),(11,.pt 0 2),(12,.z to),(13,.d (.v (.bool true))),(14,.d (.v (.bool false))),(15,.d (.v (.bool false))),(16,.d (.v (.bool false))),(17,.pt 0 1),(18,.z fr),(19,.pt 0 2),(20,.z to),(21,.d (.v (.bool false))),(22,.d (.v (.bool false))),(23,.pt 0 3),(24,.d (.v (.int .u64 (a)))),(25,.pt 0 4),(26,.d (.v (.int .u64 (b)))),(27,.pt 0 5),(28,.d (.v (.int .u64 (c)))),(29,.pt 0 6),(30,.d (.v (.int .u64 (d)))),(31,.pt 0 7),(32,.d (.v (.int .u64 (e)))),(33,.pt 0 8),(34,.d (.v (.int .u64 (s)))),(35,.ag [.d (.v (.int .u64 (a))),.d (.v (.int .u64 (b))),.d (.v (.int .u64 (c))),.d (.v (.int .u64 (d))),.d (.v (.int .u64 (e))),.d (.v (.int .u64 (s)))]),(36,.z 5),(37,.d (.v (.bool true))),(38,.d (.v (.int .u64 (e)))),(4,.d (.v (.int .u64 (e)))),(39,.d (.v (.int .u64 (e)))),(40,.d (.v (.bool false))),(41,.z 5)]) (M':=[.bx 127 [.z k,.z fr,.z to,.d (.v (.int .u64 (a))),.d (.v (.int .u64 (b))),.d (.v (.int .u64 (c))),.d (.v (.int .u64 (d))),.d (.v (.int .u64 (e))),.d (.v (.int .u64 (s))),.d (.v (.slice none 0 0))]]) tk tq hK [(5,[(0,.n 4)]),(6,[(1,.b false)]),(8,[(0,.z (5))])] 2000 [0] [0,1,2,6,7,8,9,10,11,12,13,14,15,16,17,18,19,20,21,22,23,24,25,26,27,28,29,30,31,32,33,34,35,36,37,38,4,39,40,41] r (by kernel_rfl) (an (rfl:(4:Int)=((4:Nat):Int)) (an ((by omega):(4)<6) (an h7 (an ((wi (by omega)):IntKind.i64.wrap ((4:Int)+1)=5) trivial)))) fun ac wd r=>?_
         cases h8:(decide ((34359738367:Int)<s)) with
         | false=>
          have v5:=of_decide_eq_false h8
          refine ie (todo':=hd Tryz.f103 0) (E':=[(0,.ag [.z k,.z fr,.z to,.d (.v (.int .u64 (a))),.d (.v (.int .u64 (b))),.d (.v (.int .u64 (c))),.d (.v (.int .u64 (d))),.d (.v (.int .u64 (e))),.d (.v (.int .u64 (s))),.d (.v (.slice none 0 0))]),(1,.pt 0 0),(2,.d (.v (.bool false))),(6,.pt 0 1),(7,.z fr),(8,.d (.v (.bool true))),(9,.d (.v (.bool false))),(10,.d (.v (.bool false))),(11,.pt 0 2),(12,.z to),(13,.d (.v (.bool true))),(14,.d (.v (.bool false))),(15,.d (.v (.bool false))),(16,.d (.v (.bool false))),(17,.pt 0 1),(18,.z fr),(19,.pt 0 2),(20,.z to),(21,.d (.v (.bool false))),(22,.d (.v (.bool false))),(23,.pt 0 3),(24,.d (.v (.int .u64 (a)))),(25,.pt 0 4),(26,.d (.v (.int .u64 (b)))),(27,.pt 0 5),(28,.d (.v (.int .u64 (c)))),(29,.pt 0 6),(30,.d (.v (.int .u64 (d)))),(31,.pt 0 7),(32,.d (.v (.int .u64 (e)))),(33,.pt 0 8),(34,.d (.v (.int .u64 (s)))),(35,.ag [.d (.v (.int .u64 (a))),.d (.v (.int .u64 (b))),.d (.v (.int .u64 (c))),.d (.v (.int .u64 (d))),.d (.v (.int .u64 (e))),.d (.v (.int .u64 (s)))]),(36,.z 6),(37,.d (.v (.bool true))),(38,.d (.v (.int .u64 (s)))),(4,.d (.v (.int .u64 (s)))),(39,.d (.v (.int .u64 (s)))),(40,.d (.v (.bool false))),(41,.z 6)]) (M':=[.bx 127 [.z k,.z fr,.z to,.d (.v (.int .u64 (a))),.d (.v (.int .u64 (b))),.d (.v (.int .u64 (c))),.d (.v (.int .u64 (d))),.d (.v (.int .u64 (e))),.d (.v (.int .u64 (s))),.d (.v (.slice none 0 0))]]) tk tq hK [(5,[(0,.n 5)]),(6,[(1,.b false)]),(8,[(0,.z (6))])] 2000 [0] [0,1,2,6,7,8,9,10,11,12,13,14,15,16,17,18,19,20,21,22,23,24,25,26,27,28,29,30,31,32,33,34,35,36,37,38,4,39,40,41] r (by kernel_rfl) (an (rfl:(5:Int)=((5:Nat):Int)) (an ((by omega):(5)<6) (an h8 (an ((wi (by omega)):IntKind.i64.wrap ((5:Int)+1)=6) trivial)))) fun ac wd r=>?_
          cases h9:((a:Int)==0) with
          | false=>
           have G4:=ne_of_beq_false h9
           cases bw:((b:Int)==0) with
           | false=>
            have Fo:=ne_of_beq_false bw
            cases bc:(decide ((0:Int)<c)) with
            | false=>
             have Fp:=of_decide_eq_false bc
             cases cU:(decide ((0:Int)<d)) with
             | false=>
              have Fq:=of_decide_eq_false cU
              cases dr:(decide ((0:Int)<e)) with
              | false=>
               have Fs:=of_decide_eq_false dr
               cases dP:((k:Int)==1) with
               | false=>
                have Ft:=ne_of_beq_false dP
                cases gv:((k:Int)==2) with
                | false=>
                 have Fv:=ne_of_beq_false gv
                 rw [show (.v (.bool (aO k fr to a b c d e s 0)):DV)=.v (.bool false) from (by simp only [aO,bW,bU,cond_true,cond_false,h0,h1,h2,h3,h4,h5,h6,h7,h8,h9,bw,bc,cU,dr,dP,gv]<;>rfl)]
                 exact bL tk tq hK rfl [(9,[(2,.b false),(6,.b false)]),(11,[(2,.b false)]),(12,[(5,.b false),(9,.b false),(14,.b false)]),(15,[(0,.b false)]),(17,[(0,.b false)])] 2000 r (by kernel_rfl) (an h9 (an bw (an bc (an bc (an cU (an dr (an dP (an gv trivial))))))))
                | true=>
                 have Fv:=eq_of_beq gv
                 cases jz:(decide ((0:Int)<s)) with
                 | false=>
                  have Fw:=of_decide_eq_false jz
                  rw [show (.v (.bool (aO k fr to a b c d e s 0)):DV)=.v (.bool false) from (by simp only [aO,bW,bU,cond_true,cond_false,h0,h1,h2,h3,h4,h5,h6,h7,h8,h9,bw,bc,cU,dr,dP,gv,jz]<;>rfl)]
                  exact bL tk tq hK rfl [(9,[(2,.b false),(6,.b false)]),(11,[(2,.b false)]),(12,[(5,.b false),(9,.b false),(14,.b false)]),(15,[(0,.b false)]),(17,[(0,.b true)]),(18,[(2,.b false)])] 2000 r (by kernel_rfl) (an h9 (an bw (an bc (an bc (an cU (an dr (an dP (an gv (an jz trivial)))))))))
                 | true=>
                  have Fw:=of_decide_eq_true jz
                  rw [show (.v (.bool (aO k fr to a b c d e s 0)):DV)=.v (.bool false) from (by simp only [aO,bW,bU,cond_true,cond_false,h0,h1,h2,h3,h4,h5,h6,h7,h8,h9,bw,bc,cU,dr,dP,gv,jz]<;>rfl)]
                  exact bL tk tq hK rfl [(9,[(2,.b false),(6,.b false)]),(11,[(2,.b false)]),(12,[(5,.b false),(9,.b false),(14,.b false)]),(15,[(0,.b false)]),(17,[(0,.b true)]),(18,[(2,.b true)])] 2000 r (by kernel_rfl) (an h9 (an bw (an bc (an bc (an cU (an dr (an dP (an gv (an jz trivial)))))))))
               | true=>
                have Ft:=eq_of_beq dP
                cases g9:((s:Int)==0) with
                | false=>
                 have Fx:=ne_of_beq_false g9
                 rw [show (.v (.bool (aO k fr to a b c d e s 0)):DV)=.v (.bool false) from (by simp only [aO,bW,bU,cond_true,cond_false,h0,h1,h2,h3,h4,h5,h6,h7,h8,h9,bw,bc,cU,dr,dP,g9]<;>rfl)]
                 exact bL tk tq hK rfl [(9,[(2,.b false),(6,.b false)]),(11,[(2,.b false)]),(12,[(5,.b false),(9,.b false),(14,.b false)]),(15,[(0,.b true)]),(16,[(2,.b false)])] 2000 r (by kernel_rfl) (an h9 (an bw (an bc (an bc (an cU (an dr (an dP (an g9 trivial))))))))
                | true=>
                 have Fx:=eq_of_beq g9
                 rw [show (.v (.bool (aO k fr to a b c d e s 0)):DV)=.v (.bool true) from (by simp only [aO,bW,bU,cond_true,cond_false,h0,h1,h2,h3,h4,h5,h6,h7,h8,h9,bw,bc,cU,dr,dP,g9]<;>rfl)]
                 exact bL tk tq hK rfl [(9,[(2,.b false),(6,.b false)]),(11,[(2,.b false)]),(12,[(5,.b false),(9,.b false),(14,.b false)]),(15,[(0,.b true)]),(16,[(2,.b true)])] 2000 r (by kernel_rfl) (an h9 (an bw (an bc (an bc (an cU (an dr (an dP (an g9 trivial))))))))
              | true=>
               have Fs:=of_decide_eq_true dr
               rw [show (.v (.bool (aO k fr to a b c d e s 0)):DV)=.v (.bool false) from (by simp only [aO,bW,bU,cond_true,cond_false,h0,h1,h2,h3,h4,h5,h6,h7,h8,h9,bw,bc,cU,dr]<;>rfl)]
               exact bL tk tq hK rfl [(9,[(2,.b false),(6,.b false)]),(11,[(2,.b false)]),(12,[(5,.b false),(9,.b false),(14,.b true)])] 2000 r (by kernel_rfl) (an h9 (an bw (an bc (an bc (an cU (an dr trivial))))))
             | true=>
              have Fq:=of_decide_eq_true cU
              rw [show (.v (.bool (aO k fr to a b c d e s 0)):DV)=.v (.bool false) from (by simp only [aO,bW,bU,cond_true,cond_false,h0,h1,h2,h3,h4,h5,h6,h7,h8,h9,bw,bc,cU]<;>rfl)]
              exact bL tk tq hK rfl [(9,[(2,.b false),(6,.b false)]),(11,[(2,.b false)]),(12,[(5,.b false),(9,.b true)])] 2000 r (by kernel_rfl) (an h9 (an bw (an bc (an bc (an cU trivial)))))
            | true=>
             have Fp:=of_decide_eq_true bc
             cases fc:(decide ((0:Int)<d)) with
             | false=>
              have Fy:=of_decide_eq_false fc
              rw [show (.v (.bool (aO k fr to a b c d e s 0)):DV)=.v (.bool false) from (by simp only [aO,bW,bU,cond_true,cond_false,h0,h1,h2,h3,h4,h5,h6,h7,h8,h9,bw,bc,fc]<;>rfl)]
              exact bL tk tq hK rfl [(9,[(2,.b false),(6,.b false)]),(11,[(2,.b true),(6,.b false)]),(12,[(5,.b true)])] 2000 r (by kernel_rfl) (an h9 (an bw (an bc (an fc (an bc trivial)))))
             | true=>
              have Fy:=of_decide_eq_true fc
              cases c8:((k:Int)==1) with
              | false=>
               have FA:=ne_of_beq_false c8
               cases dQ:((k:Int)==2) with
               | false=>
                have FB:=ne_of_beq_false dQ
                rw [show (.v (.bool (aO k fr to a b c d e s 0)):DV)=.v (.bool false) from (by simp only [aO,bW,bU,cond_true,cond_false,h0,h1,h2,h3,h4,h5,h6,h7,h8,h9,bw,bc,fc,c8,dQ]<;>rfl)]
                exact bL tk tq hK rfl [(9,[(2,.b false),(6,.b false)]),(11,[(2,.b true),(6,.b true)]),(15,[(0,.b false)]),(17,[(0,.b false)])] 2000 r (by kernel_rfl) (an h9 (an bw (an bc (an fc (an c8 (an dQ trivial))))))
               | true=>
                have FB:=eq_of_beq dQ
                cases fD:(decide ((0:Int)<s)) with
                | false=>
                 have FC:=of_decide_eq_false fD
                 rw [show (.v (.bool (aO k fr to a b c d e s 0)):DV)=.v (.bool false) from (by simp only [aO,bW,bU,cond_true,cond_false,h0,h1,h2,h3,h4,h5,h6,h7,h8,h9,bw,bc,fc,c8,dQ,fD]<;>rfl)]
                 exact bL tk tq hK rfl [(9,[(2,.b false),(6,.b false)]),(11,[(2,.b true),(6,.b true)]),(15,[(0,.b false)]),(17,[(0,.b true)]),(18,[(2,.b false)])] 2000 r (by kernel_rfl) (an h9 (an bw (an bc (an fc (an c8 (an dQ (an fD trivial)))))))
                | true=>
                 have FC:=of_decide_eq_true fD
                 rw [show (.v (.bool (aO k fr to a b c d e s 0)):DV)=.v (.bool false) from (by simp only [aO,bW,bU,cond_true,cond_false,h0,h1,h2,h3,h4,h5,h6,h7,h8,h9,bw,bc,fc,c8,dQ,fD]<;>rfl)]
                 exact bL tk tq hK rfl [(9,[(2,.b false),(6,.b false)]),(11,[(2,.b true),(6,.b true)]),(15,[(0,.b false)]),(17,[(0,.b true)]),(18,[(2,.b true)])] 2000 r (by kernel_rfl) (an h9 (an bw (an bc (an fc (an c8 (an dQ (an fD trivial)))))))
              | true=>
               have FA:=eq_of_beq c8
               cases gy:((s:Int)==0) with
               | false=>
                have FD:=ne_of_beq_false gy
                rw [show (.v (.bool (aO k fr to a b c d e s 0)):DV)=.v (.bool false) from (by simp only [aO,bW,bU,cond_true,cond_false,h0,h1,h2,h3,h4,h5,h6,h7,h8,h9,bw,bc,fc,c8,gy]<;>rfl)]
                exact bL tk tq hK rfl [(9,[(2,.b false),(6,.b false)]),(11,[(2,.b true),(6,.b true)]),(15,[(0,.b true)]),(16,[(2,.b false)])] 2000 r (by kernel_rfl) (an h9 (an bw (an bc (an fc (an c8 (an gy trivial))))))
               | true=>
                have FD:=eq_of_beq gy
                rw [show (.v (.bool (aO k fr to a b c d e s 0)):DV)=.v (.bool true) from (by simp only [aO,bW,bU,cond_true,cond_false,h0,h1,h2,h3,h4,h5,h6,h7,h8,h9,bw,bc,fc,c8,gy]<;>rfl)]
                exact bL tk tq hK rfl [(9,[(2,.b false),(6,.b false)]),(11,[(2,.b true),(6,.b true)]),(15,[(0,.b true)]),(16,[(2,.b true)])] 2000 r (by kernel_rfl) (an h9 (an bw (an bc (an fc (an c8 (an gy trivial))))))
           | true=>
            have Fo:=eq_of_beq bw
            rw [show (.v (.bool (aO k fr to a b c d e s 0)):DV)=.v (.bool false) from (by simp only [aO,bW,bU,cond_true,cond_false,h0,h1,h2,h3,h4,h5,h6,h7,h8,h9,bw]<;>rfl)]
            exact bL tk tq hK rfl [(9,[(2,.b false),(6,.b true)])] 2000 r (by kernel_rfl) (an h9 (an bw trivial))
          | true=>
           have G4:=eq_of_beq h9
           rw [show (.v (.bool (aO k fr to a b c d e s 0)):DV)=.v (.bool false) from (by simp only [aO,bW,bU,cond_true,cond_false,h0,h1,h2,h3,h4,h5,h6,h7,h8,h9]<;>rfl)]
           exact bL tk tq hK rfl [(9,[(2,.b true)])] 2000 r (by kernel_rfl) (an h9 trivial)
         | true=>
          have v5:=of_decide_eq_true h8
          rw [show (.v (.bool (aO k fr to a b c d e s 0)):DV)=.v (.bool false) from (by simp only [aO,bW,bU,cond_true,cond_false,h0,h1,h2,h3,h4,h5,h6,h7,h8]<;>rfl)]
          exact bL tk tq hK rfl [(5,[(0,.n 5)]),(6,[(1,.b true)])] 2000 r (by kernel_rfl) (an (rfl:(5:Int)=((5:Nat):Int)) (an ((by omega):(5)<6) (an h8 trivial)))
        | true=>
         have v3:=of_decide_eq_true h7
         rw [show (.v (.bool (aO k fr to a b c d e s 0)):DV)=.v (.bool false) from (by simp only [aO,bW,bU,cond_true,cond_false,h0,h1,h2,h3,h4,h5,h6,h7]<;>rfl)]
         exact bL tk tq hK rfl [(5,[(0,.n 4)]),(6,[(1,.b true)])] 2000 r (by kernel_rfl) (an (rfl:(4:Int)=((4:Nat):Int)) (an ((by omega):(4)<6) (an h7 trivial)))
       | true=>
        have vZ:=of_decide_eq_true h6
        rw [show (.v (.bool (aO k fr to a b c d e s 0)):DV)=.v (.bool false) from (by simp only [aO,bW,bU,cond_true,cond_false,h0,h1,h2,h3,h4,h5,h6]<;>rfl)]
        exact bL tk tq hK rfl [(5,[(0,.n 3)]),(6,[(1,.b true)])] 2000 r (by kernel_rfl) (an (rfl:(3:Int)=((3:Nat):Int)) (an ((by omega):(3)<6) (an h6 trivial)))
      | true=>
       have vY:=of_decide_eq_true h5
       rw [show (.v (.bool (aO k fr to a b c d e s 0)):DV)=.v (.bool false) from (by simp only [aO,bW,bU,cond_true,cond_false,h0,h1,h2,h3,h4,h5]<;>rfl)]
       exact bL tk tq hK rfl [(5,[(0,.n 2)]),(6,[(1,.b true)])] 2000 r (by kernel_rfl) (an (rfl:(2:Int)=((2:Nat):Int)) (an ((by omega):(2)<6) (an h5 trivial)))
     | true=>
      have qJ:=of_decide_eq_true h4
      rw [show (.v (.bool (aO k fr to a b c d e s 0)):DV)=.v (.bool false) from (by simp only [aO,bW,bU,cond_true,cond_false,h0,h1,h2,h3,h4]<;>rfl)]
      exact bL tk tq hK rfl [(5,[(0,.n 1)]),(6,[(1,.b true)])] 2000 r (by kernel_rfl) (an (rfl:(1:Int)=((1:Nat):Int)) (an ((by omega):(1)<6) (an h4 trivial)))
    | true=>
     have qI:=of_decide_eq_true h3
     rw [show (.v (.bool (aO k fr to a b c d e s 0)):DV)=.v (.bool false) from (by simp only [aO,bW,bU,cond_true,cond_false,h0,h1,h2,h3]<;>rfl)]
     exact bL tk tq hK rfl [(5,[(0,.n 0)]),(6,[(1,.b true)])] 2000 r (by kernel_rfl) (an (rfl:(0:Int)=((0:Nat):Int)) (an ((by omega):(0)<6) (an h3 trivial)))
   | true=>
    have iH:=eq_of_beq h2
    rw [show (.v (.bool (aO k fr to a b c d e s 0)):DV)=.v (.bool false) from (by simp only [aO,bW,bU,cond_true,cond_false,h0,h1,h2]<;>rfl)]
    exact bL tk tq hK rfl [(1,[(2,.dX (.v (.bool true))),(7,.dX (.v (.bool true))),(15,.b true)])] 2000 r (by kernel_rfl) (an eL (an gq (an h2 trivial)))
end Go.Proofs.YtkheephfkbpchaaGreatDoor
namespace Go.Proofs.YtkheephfkbpchaaGreatDoor
open Go.RowKit
theorem RM.stays {D:List Nat} {w0:World} {K0:World→Prop} {M:List ae} {β:Beta} {F:Nat→ai} {I:ai} {w:World} {u T k:Nat} {rows:List (List DV)} (R:RM D w0 K0 M β F I w) (hM:M[u]?=some (.rw T k rows)):
  RM D w0 K0 (M.set u .dead) β (aF F u []) (F u++I) w∧∀ {v:Value},au (fun w=>K0 w∧aj w I) β (.sl u rows.length) v→au (fun w=>K0 w∧aj w (F u++I)) β (.d (.ro k (mn rows))) v:=by
 have R1:=R.x.ec hM
 refine ⟨⟨R1.len,fun v bl hv=>(R1.blk v bl hv).mono (fun w hw=>⟨hw.1,(aj.app.1 hw.2).2⟩) (Ext.refl _),R1.st.perm (by classical rw [List.perm_iff_count];intro z;simp only [List.count_append,List.count_nil];omega)⟩,fun {v} hv=>?_⟩
 have hB:=R.blk u _ hM
 cases hv with
 | sl hb=>
  generalize F u=H at hB ⊢
  cases hB with
  | rw aD X G hl hs hr=>
   rw [hb] at aD;cases aD
   exact .d (xi (bj.em X G hl hs hr) fun w hw=>⟨⟨hw.1,(aj.app.1 hw.2).2⟩,(aj.app.1 hw.2).1⟩)
theorem bJ.YW {P:Program} {f:FuncId} {args:List AV} {M M':List ae} {u T k:Nat} {rows:List (List DV)} {x:DV} (h:bJ P f args M (.tu [.sl u rows.length,.d x]) M') (hu:M'[u]?=some (.rw T k rows)):bJ P f args M (.tu [.d (.ro k (mn rows)),.d x]) (M'.set u .dead):=by
 refine ⟨h.1,fun ys R hK hl hr=>(h.2 ys R hK hl hr).mono ?_⟩
 rintro e w' ⟨v,rfl,β',F',I',R',e1,hI,ha⟩
 obtain ⟨R2,hc⟩:=R'.stays hu
 refine ⟨v,rfl,β',_,_,R2,e1,hI.trans ⟨F' u,rfl⟩,?_⟩
 cases ha with
 | tu vs pf wh=>
  refine .tu vs pf fun j c y h1 h2=>?_
  cases j with
  | zero=>
   simp at h1;subst h1
   exact hc (wh 0 _ y rfl h2)
  | succ j=>
   cases j with
   | zero=>
    simp at h1;subst h1
    exact (wh 1 _ y rfl h2).mono (fun w hw=>⟨hw.1,(aj.app.1 hw.2).2⟩) (Ext.refl _)
   | succ j=>simp at h1
theorem Wy (l:List UInt8) (hl:l.length≤1048576) (hB:kg l=true):bJ Tryz.prog 97 [.d (.ro 1 (ah l))] [.gw 0 bp] (.tu [.d (.ro 1 (ah (bE l))),.d (.v (.bool true))]) [.gw 0 bp,.dead]:=by
 have h:=(Xa l hl hB).YW (u:=1) (T:=5) rfl
 rw [Hz] at h
 exact h
abbrev et:=List UInt8×Bool
def G5 (r:et):et:=(SV r.1 r.2,SW r.1 r.2)
def aR (r:et):Int:=G3 r.1 r.2
def tA (r:et):et:=(Aw r.1 r.2,Ax r.1 r.2)
def aL (r:et):Int:=Ay r.1 r.2
def txP (r:et):et:=(tf r.1 r.2,tg r.1 r.2)
def kh (r:et):List UInt8:=ta r.1 r.2
def ki (r:et):et:=(r.1,qL r.1 r.2)
def kj (r:et):Int:=Az r.1 r.2
theorem wrap_u8 (z:Int):0≤IntKind.u8.wrap z∧IntKind.u8.wrap z<256:=by simp [IntKind.wrap,IntKind.signed,IntKind.bits];omega
theorem YX (r:et):0≤aR r∧aR r<256:=by
 unfold aR G3
 split
 ·exact wrap_u8 _
 ·omega
theorem BN (r:et):IntKind.i64.wrap (aR r)=aR r:=wi (by have:=YX r;omega)
def r0 (l:List UInt8):et:=(bE l,false)
def r1 (l:List UInt8):et:=G5 (r0 l)
def r2 (l:List UInt8):et:=G5 (r1 l)
def r3 (l:List UInt8):et:=G5 (r2 l)
def r4 (l:List UInt8):et:=tA (r3 l)
def r5 (l:List UInt8):et:=tA (r4 l)
def r6 (l:List UInt8):et:=tA (r5 l)
def r7 (l:List UInt8):et:=tA (r6 l)
def r8 (l:List UInt8):et:=tA (r7 l)
def r9 (l:List UInt8):et:=tA (r8 l)
def eE (l:List UInt8):et:=txP (r9 l)
theorem YY (l:List UInt8):(bE l).length≤l.length:=by unfold bE;simp
def iW:AV:=.tu [.ag [.z 0,.z 0,.z 0,.d (.v (.int .u64 0)),.d (.v (.int .u64 0)),.d (.v (.int .u64 0)),.d (.v (.int .u64 0)),.d (.v (.int .u64 0)),.d (.v (.int .u64 0)),.d (.v (.slice none 0 0))],.z 3]
def lE (l:List UInt8) (b:DV):AV:=.tu [.ag [.z (aR (r0 l)),.z (aR (r1 l)),.z (aR (r2 l)),.d (.v (.int .u64 (aL (r3 l)))),.d (.v (.int .u64 (aL (r4 l)))),.d (.v (.int .u64 (aL (r5 l)))),.d (.v (.int .u64 (aL (r6 l)))),.d (.v (.int .u64 (aL (r7 l)))),.d (.v (.int .u64 (aL (r8 l)))),.d b],.z 0]
def kE (l:List UInt8) (n:Nat):Bool:=aO (aR (r0 l)) (aR (r1 l)) (aR (r2 l)) (aL (r3 l)) (aL (r4 l)) (aL (r5 l)) (aL (r6 l)) (aL (r7 l)) (aL (r8 l)) n
def lP (l:List UInt8):AV:=bif kg l then (bif (aR (r0 l):Int)==2 then (bif (kj (eE l):Int) != 0 then iW else bif kE l (kh (r9 l)).length then lE l (.ro 1 (ah (kh (r9 l)))) else iW) else (bif (kj (r9 l):Int) != 0 then iW else bif kE l 0 then lE l (.v (.slice none 0 0)) else iW)) else iW
set_option maxRecDepth 100000 in
theorem Ve (l:List UInt8) (hl:l.length≤1048576):bJ Tryz.prog 43 [.d (.ro 1 (ah l))] [.gw 0 bp] (lP l) ([.gw 0 bp]):=by
 refine bJ.intro (by kernel_rfl) rfl rfl 67 rfl rfl fun D w0 K bs ac wd hK (a6:bs.m=1) r=>?_
 cases h0:(kg l) with
 | false=>
  refine cF (y:=.tu [.ag [.z 0,.z 0,.z 0,.d (.v (.int .u64 0)),.d (.v (.int .u64 0)),.d (.v (.int .u64 0)),.d (.v (.int .u64 0)),.d (.v (.int .u64 0)),.d (.v (.int .u64 0)),.d (.v (.slice none 0 0))],.z 3]) (N':=[.gw 0 bp]) ((by simp only [lP,kE,lE,iW,cond_true,cond_false,h0])) (rfl) ?_
  exact cE tk tq hK rfl a6 [(1,[(1,.mem [0] (.tu [.d (.v (.slice none 0 0)),.d (.v (.bool false))]) [.gw 0 bp])])] 2000 [0] r (by kernel_rfl) (an (YM l hl (by assumption)) trivial)
 | true=>
  refine fI (todo':=hd Tryz.f43 0) (E':=[(0,.d (.ro 1 (ah l))),(2,.pt 1 0),(3,.z 0),(13,.d (.ro 1 (ah l))),(14,.tu [.d (.ro 1 (ah (bE l))),.d (.v (.bool true))]),(12,.tu [.d (.ro 1 (ah (bE l))),.d (.v (.bool true))]),(15,.d (.ro 1 (ah (bE l)))),(16,.d (.v (.bool true))),(4,.d (.ro 1 (ah (bE l)))),(5,.d (.v (.bool true))),(17,.d (.v (.bool true))),(18,.d (.v (.bool false))),(20,.d (.ro 1 (ah (bE l)))),(21,.pt 3 0),(6,.pt 3 0),(7,.pt 4 0),(22,.pt 4 0),(23,.pt 4 1),(24,.pt 4 2),(25,.ag [.pt 4 0,.pt 4 1,.pt 4 2]),(26,.z 0)]) (M':=[.gw 0 bp,.bx 127 [.z 0,.z 0,.z 0,.d (.v (.int .u64 0)),.d (.v (.int .u64 0)),.d (.v (.int .u64 0)),.d (.v (.int .u64 0)),.d (.v (.int .u64 0)),.d (.v (.int .u64 0)),.d (.v (.slice none 0 0))],.dead,.bx 376 [.d (.ro 1 (ah (r0 l).1)),.d (.v (.bool ((r0 l).2)))],.bx 127 [.z 0,.z 0,.z 0,.d (.v (.int .u64 0)),.d (.v (.int .u64 0)),.d (.v (.int .u64 0)),.d (.v (.int .u64 0)),.d (.v (.int .u64 0)),.d (.v (.int .u64 0)),.d (.v (.slice none 0 0))]]) tk tq hK a6 [(1,[(1,.mem [0] (.tu [.d (.ro 1 (ah (bE l))),.d (.v (.bool true))]) [.gw 0 bp,.dead])]),(4,[(1,.mem [] (.pt 0 0) [.bx 376 [.d (.ro 1 (ah (r0 l).1)),.d (.v (.bool ((r0 l).2)))]])])] 2000 [0,1,2,3,4] [0,2,3,13,14,12,15,16,4,5,17,18,20,21,6,7,22,23,24,25,26] r (by kernel_rfl) (an (Wy l hl (by assumption)) (an (Vd (bE l) (by have:=YY l;omega)) trivial)) fun ac wd r=>?_
  refine fI (todo':=hd Tryz.f43 0) (E':=[(0,.d (.ro 1 (ah l))),(2,.pt 1 0),(3,.z 0),(13,.d (.ro 1 (ah l))),(14,.tu [.d (.ro 1 (ah (bE l))),.d (.v (.bool true))]),(12,.tu [.d (.ro 1 (ah (bE l))),.d (.v (.bool true))]),(15,.d (.ro 1 (ah (bE l)))),(16,.d (.v (.bool true))),(4,.d (.ro 1 (ah (bE l)))),(5,.d (.v (.bool true))),(17,.d (.v (.bool true))),(18,.d (.v (.bool false))),(20,.d (.ro 1 (ah (bE l)))),(21,.pt 3 0),(6,.pt 3 0),(7,.pt 4 0),(22,.pt 4 0),(23,.pt 4 1),(24,.pt 4 2),(25,.ag [.pt 4 0,.pt 4 1,.pt 4 2]),(26,.z 1),(27,.d (.v (.bool true))),(28,.pt 4 0),(9,.pt 4 0),(29,.pt 4 0),(30,.pt 3 0),(31,.d (.v (.int .u8 (aR (r0 l))))),(32,.z (aR (r0 l))),(33,.pt 4 0),(34,.z 1)]) (M':=[.gw 0 bp,.bx 127 [.z 0,.z 0,.z 0,.d (.v (.int .u64 0)),.d (.v (.int .u64 0)),.d (.v (.int .u64 0)),.d (.v (.int .u64 0)),.d (.v (.int .u64 0)),.d (.v (.int .u64 0)),.d (.v (.slice none 0 0))],.dead,.bx 376 [.d (.ro 1 (ah (r1 l).1)),.d (.v (.bool ((r1 l).2)))],.bx 127 [.z (aR (r0 l)),.z 0,.z 0,.d (.v (.int .u64 0)),.d (.v (.int .u64 0)),.d (.v (.int .u64 0)),.d (.v (.int .u64 0)),.d (.v (.int .u64 0)),.d (.v (.int .u64 0)),.d (.v (.slice none 0 0))]]) tk tq hK a6 [(8,[(0,.n 0)]),(9,[(2,.mem [3] (.d (.v (.int .u8 (aR (r0 l))))) [.bx 376 [.d (.ro 1 (ah (r1 l).1)),.d (.v (.bool ((r1 l).2)))]]),(3,.z (aR (r0 l)))]),(10,[(0,.z (1))])] 2000 [0,1,2,3,4] [0,2,3,13,14,12,15,16,4,5,17,18,20,21,6,7,22,23,24,25,26,27,28,9,29,30,31,32,33,34] r (by kernel_rfl) (an (rfl:(0:Int)=((0:Nat):Int)) (an ((by omega):(0)<3) (an (Ec (r0 l).1 (r0 l).2) (an ((BN _):IntKind.i64.wrap (aR (r0 l))=aR (r0 l)) (an ((wi (by omega)):IntKind.i64.wrap ((0:Int)+1)=1) trivial))))) fun ac wd r=>?_
  refine fI (todo':=hd Tryz.f43 0) (E':=[(0,.d (.ro 1 (ah l))),(2,.pt 1 0),(3,.z 0),(13,.d (.ro 1 (ah l))),(14,.tu [.d (.ro 1 (ah (bE l))),.d (.v (.bool true))]),(12,.tu [.d (.ro 1 (ah (bE l))),.d (.v (.bool true))]),(15,.d (.ro 1 (ah (bE l)))),(16,.d (.v (.bool true))),(4,.d (.ro 1 (ah (bE l)))),(5,.d (.v (.bool true))),(17,.d (.v (.bool true))),(18,.d (.v (.bool false))),(20,.d (.ro 1 (ah (bE l)))),(21,.pt 3 0),(6,.pt 3 0),(7,.pt 4 0),(22,.pt 4 0),(23,.pt 4 1),(24,.pt 4 2),(25,.ag [.pt 4 0,.pt 4 1,.pt 4 2]),(26,.z 2),(27,.d (.v (.bool true))),(28,.pt 4 1),(9,.pt 4 1),(29,.pt 4 1),(30,.pt 3 0),(31,.d (.v (.int .u8 (aR (r1 l))))),(32,.z (aR (r1 l))),(33,.pt 4 1),(34,.z 2)]) (M':=[.gw 0 bp,.bx 127 [.z 0,.z 0,.z 0,.d (.v (.int .u64 0)),.d (.v (.int .u64 0)),.d (.v (.int .u64 0)),.d (.v (.int .u64 0)),.d (.v (.int .u64 0)),.d (.v (.int .u64 0)),.d (.v (.slice none 0 0))],.dead,.bx 376 [.d (.ro 1 (ah (r2 l).1)),.d (.v (.bool ((r2 l).2)))],.bx 127 [.z (aR (r0 l)),.z (aR (r1 l)),.z 0,.d (.v (.int .u64 0)),.d (.v (.int .u64 0)),.d (.v (.int .u64 0)),.d (.v (.int .u64 0)),.d (.v (.int .u64 0)),.d (.v (.int .u64 0)),.d (.v (.slice none 0 0))]]) tk tq hK a6 [(8,[(0,.n 1)]),(9,[(2,.mem [3] (.d (.v (.int .u8 (aR (r1 l))))) [.bx 376 [.d (.ro 1 (ah (r2 l).1)),.d (.v (.bool ((r2 l).2)))]]),(3,.z (aR (r1 l)))]),(10,[(0,.z (2))])] 2000 [0,1,2,3,4] [0,2,3,13,14,12,15,16,4,5,17,18,20,21,6,7,22,23,24,25,26,27,28,9,29,30,31,32,33,34] r (by kernel_rfl) (an (rfl:(1:Int)=((1:Nat):Int)) (an ((by omega):(1)<3) (an (Ec (r1 l).1 (r1 l).2) (an ((BN _):IntKind.i64.wrap (aR (r1 l))=aR (r1 l)) (an ((wi (by omega)):IntKind.i64.wrap ((1:Int)+1)=2) trivial))))) fun ac wd r=>?_
  refine fI (todo':=hd Tryz.f43 0) (E':=[(0,.d (.ro 1 (ah l))),(2,.pt 1 0),(3,.z 0),(13,.d (.ro 1 (ah l))),(14,.tu [.d (.ro 1 (ah (bE l))),.d (.v (.bool true))]),(12,.tu [.d (.ro 1 (ah (bE l))),.d (.v (.bool true))]),(15,.d (.ro 1 (ah (bE l)))),(16,.d (.v (.bool true))),(4,.d (.ro 1 (ah (bE l)))),(5,.d (.v (.bool true))),(17,.d (.v (.bool true))),(18,.d (.v (.bool false))),(20,.d (.ro 1 (ah (bE l)))),(21,.pt 3 0),(6,.pt 3 0),(7,.pt 4 0),(22,.pt 4 0),(23,.pt 4 1),(24,.pt 4 2),(25,.ag [.pt 4 0,.pt 4 1,.pt 4 2]),(26,.z 3),(27,.d (.v (.bool true))),(28,.pt 4 2),(9,.pt 4 2),(29,.pt 4 2),(30,.pt 3 0),(31,.d (.v (.int .u8 (aR (r2 l))))),(32,.z (aR (r2 l))),(33,.pt 4 2),(34,.z 3)]) (M':=[.gw 0 bp,.bx 127 [.z 0,.z 0,.z 0,.d (.v (.int .u64 0)),.d (.v (.int .u64 0)),.d (.v (.int .u64 0)),.d (.v (.int .u64 0)),.d (.v (.int .u64 0)),.d (.v (.int .u64 0)),.d (.v (.slice none 0 0))],.dead,.bx 376 [.d (.ro 1 (ah (r3 l).1)),.d (.v (.bool ((r3 l).2)))],.bx 127 [.z (aR (r0 l)),.z (aR (r1 l)),.z (aR (r2 l)),.d (.v (.int .u64 0)),.d (.v (.int .u64 0)),.d (.v (.int .u64 0)),.d (.v (.int .u64 0)),.d (.v (.int .u64 0)),.d (.v (.int .u64 0)),.d (.v (.slice none 0 0))]]) tk tq hK a6 [(8,[(0,.n 2)]),(9,[(2,.mem [3] (.d (.v (.int .u8 (aR (r2 l))))) [.bx 376 [.d (.ro 1 (ah (r3 l).1)),.d (.v (.bool ((r3 l).2)))]]),(3,.z (aR (r2 l)))]),(10,[(0,.z (3))])] 2000 [0,1,2,3,4] [0,2,3,13,14,12,15,16,4,5,17,18,20,21,6,7,22,23,24,25,26,27,28,9,29,30,31,32,33,34] r (by kernel_rfl) (an (rfl:(2:Int)=((2:Nat):Int)) (an ((by omega):(2)<3) (an (Ec (r2 l).1 (r2 l).2) (an ((BN _):IntKind.i64.wrap (aR (r2 l))=aR (r2 l)) (an ((wi (by omega)):IntKind.i64.wrap ((2:Int)+1)=3) trivial))))) fun ac wd r=>?_
  refine fI (todo':=hd Tryz.f43 1) (E':=[(0,.d (.ro 1 (ah l))),(2,.pt 1 0),(3,.z 0),(13,.d (.ro 1 (ah l))),(14,.tu [.d (.ro 1 (ah (bE l))),.d (.v (.bool true))]),(12,.tu [.d (.ro 1 (ah (bE l))),.d (.v (.bool true))]),(15,.d (.ro 1 (ah (bE l)))),(16,.d (.v (.bool true))),(4,.d (.ro 1 (ah (bE l)))),(5,.d (.v (.bool true))),(17,.d (.v (.bool true))),(18,.d (.v (.bool false))),(20,.d (.ro 1 (ah (bE l)))),(21,.pt 3 0),(6,.pt 3 0),(7,.pt 4 0),(22,.pt 4 0),(23,.pt 4 1),(24,.pt 4 2),(25,.ag [.pt 4 0,.pt 4 1,.pt 4 2]),(26,.z 3),(27,.d (.v (.bool false))),(28,.pt 4 2),(9,.pt 4 2),(29,.pt 4 2),(30,.pt 3 0),(31,.d (.v (.int .u8 (aR (r2 l))))),(32,.z (aR (r2 l))),(33,.pt 4 2),(34,.z 3),(35,.pt 4 3),(36,.pt 4 4),(37,.pt 4 5),(38,.pt 4 6),(39,.pt 4 7),(40,.pt 4 8),(41,.ag [.pt 4 3,.pt 4 4,.pt 4 5,.pt 4 6,.pt 4 7,.pt 4 8]),(42,.z 0)]) (M':=[.gw 0 bp,.bx 127 [.z 0,.z 0,.z 0,.d (.v (.int .u64 0)),.d (.v (.int .u64 0)),.d (.v (.int .u64 0)),.d (.v (.int .u64 0)),.d (.v (.int .u64 0)),.d (.v (.int .u64 0)),.d (.v (.slice none 0 0))],.dead,.bx 376 [.d (.ro 1 (ah (r3 l).1)),.d (.v (.bool ((r3 l).2)))],.bx 127 [.z (aR (r0 l)),.z (aR (r1 l)),.z (aR (r2 l)),.d (.v (.int .u64 0)),.d (.v (.int .u64 0)),.d (.v (.int .u64 0)),.d (.v (.int .u64 0)),.d (.v (.int .u64 0)),.d (.v (.int .u64 0)),.d (.v (.slice none 0 0))]]) tk tq hK a6 [] 2000 [0,1,2,3,4] [0,2,3,13,14,12,15,16,4,5,17,18,20,21,6,7,22,23,24,25,26,27,28,9,29,30,31,32,33,34,35,36,37,38,39,40,41,42] r (by kernel_rfl) trivial fun ac wd r=>?_
  refine fI (todo':=hd Tryz.f43 1) (E':=[(0,.d (.ro 1 (ah l))),(2,.pt 1 0),(3,.z 0),(13,.d (.ro 1 (ah l))),(14,.tu [.d (.ro 1 (ah (bE l))),.d (.v (.bool true))]),(12,.tu [.d (.ro 1 (ah (bE l))),.d (.v (.bool true))]),(15,.d (.ro 1 (ah (bE l)))),(16,.d (.v (.bool true))),(4,.d (.ro 1 (ah (bE l)))),(5,.d (.v (.bool true))),(17,.d (.v (.bool true))),(18,.d (.v (.bool false))),(20,.d (.ro 1 (ah (bE l)))),(21,.pt 3 0),(6,.pt 3 0),(7,.pt 4 0),(22,.pt 4 0),(23,.pt 4 1),(24,.pt 4 2),(25,.ag [.pt 4 0,.pt 4 1,.pt 4 2]),(26,.z 3),(27,.d (.v (.bool false))),(28,.pt 4 2),(9,.pt 4 2),(29,.pt 4 2),(30,.pt 3 0),(31,.d (.v (.int .u8 (aR (r2 l))))),(32,.z (aR (r2 l))),(33,.pt 4 2),(34,.z 3),(35,.pt 4 3),(36,.pt 4 4),(37,.pt 4 5),(38,.pt 4 6),(39,.pt 4 7),(40,.pt 4 8),(41,.ag [.pt 4 3,.pt 4 4,.pt 4 5,.pt 4 6,.pt 4 7,.pt 4 8]),(42,.z 1),(43,.d (.v (.bool true))),(44,.pt 4 3),(11,.pt 4 3),(45,.pt 4 3),(46,.pt 3 0),(47,.d (.v (.int .u64 (aL (r3 l))))),(48,.pt 4 3),(49,.z 1)]) (M':=[.gw 0 bp,.bx 127 [.z 0,.z 0,.z 0,.d (.v (.int .u64 0)),.d (.v (.int .u64 0)),.d (.v (.int .u64 0)),.d (.v (.int .u64 0)),.d (.v (.int .u64 0)),.d (.v (.int .u64 0)),.d (.v (.slice none 0 0))],.dead,.bx 376 [.d (.ro 1 (ah (r4 l).1)),.d (.v (.bool ((r4 l).2)))],.bx 127 [.z (aR (r0 l)),.z (aR (r1 l)),.z (aR (r2 l)),.d (.v (.int .u64 (aL (r3 l)))),.d (.v (.int .u64 0)),.d (.v (.int .u64 0)),.d (.v (.int .u64 0)),.d (.v (.int .u64 0)),.d (.v (.int .u64 0)),.d (.v (.slice none 0 0))]]) tk tq hK a6 [(13,[(0,.n 0)]),(14,[(2,.mem [3] (.d (.v (.int .u64 (aL (r3 l))))) [.bx 376 [.d (.ro 1 (ah (r4 l).1)),.d (.v (.bool ((r4 l).2)))]])]),(15,[(0,.z (1))])] 2000 [0,1,2,3,4] [0,2,3,13,14,12,15,16,4,5,17,18,20,21,6,7,22,23,24,25,26,27,28,9,29,30,31,32,33,34,35,36,37,38,39,40,41,42,43,44,11,45,46,47,48,49] r (by kernel_rfl) (an (rfl:(0:Int)=((0:Nat):Int)) (an ((by omega):(0)<6) (an (ru (r3 l).1 (r3 l).2) (an ((wi (by omega)):IntKind.i64.wrap ((0:Int)+1)=1) trivial)))) fun ac wd r=>?_
  refine fI (todo':=hd Tryz.f43 1) (E':=[(0,.d (.ro 1 (ah l))),(2,.pt 1 0),(3,.z 0),(13,.d (.ro 1 (ah l))),(14,.tu [.d (.ro 1 (ah (bE l))),.d (.v (.bool true))]),(12,.tu [.d (.ro 1 (ah (bE l))),.d (.v (.bool true))]),(15,.d (.ro 1 (ah (bE l)))),(16,.d (.v (.bool true))),(4,.d (.ro 1 (ah (bE l)))),(5,.d (.v (.bool true))),(17,.d (.v (.bool true))),(18,.d (.v (.bool false))),(20,.d (.ro 1 (ah (bE l)))),(21,.pt 3 0),(6,.pt 3 0),(7,.pt 4 0),(22,.pt 4 0),(23,.pt 4 1),(24,.pt 4 2),(25,.ag [.pt 4 0,.pt 4 1,.pt 4 2]),(26,.z 3),(27,.d (.v (.bool false))),(28,.pt 4 2),(9,.pt 4 2),(29,.pt 4 2),(30,.pt 3 0),(31,.d (.v (.int .u8 (aR (r2 l))))),(32,.z (aR (r2 l))),(33,.pt 4 2),(34,.z 3),(35,.pt 4 3),(36,.pt 4 4),(37,.pt 4 5),(38,.pt 4 6),(39,.pt 4 7),(40,.pt 4 8),(41,.ag [.pt 4 3,.pt 4 4,.pt 4 5,.pt 4 6,.pt 4 7,.pt 4 8]),(42,.z 2),(43,.d (.v (.bool true))),(44,.pt 4 4),(11,.pt 4 4),(45,.pt 4 4),(46,.pt 3 0),(47,.d (.v (.int .u64 (aL (r4 l))))),(48,.pt 4 4),(49,.z 2)]) (M':=[.gw 0 bp,.bx 127 [.z 0,.z 0,.z 0,.d (.v (.int .u64 0)),.d (.v (.int .u64 0)),.d (.v (.int .u64 0)),.d (.v (.int .u64 0)),.d (.v (.int .u64 0)),.d (.v (.int .u64 0)),.d (.v (.slice none 0 0))],.dead,.bx 376 [.d (.ro 1 (ah (r5 l).1)),.d (.v (.bool ((r5 l).2)))],.bx 127 [.z (aR (r0 l)),.z (aR (r1 l)),.z (aR (r2 l)),.d (.v (.int .u64 (aL (r3 l)))),.d (.v (.int .u64 (aL (r4 l)))),.d (.v (.int .u64 0)),.d (.v (.int .u64 0)),.d (.v (.int .u64 0)),.d (.v (.int .u64 0)),.d (.v (.slice none 0 0))]]) tk tq hK a6 [(13,[(0,.n 1)]),(14,[(2,.mem [3] (.d (.v (.int .u64 (aL (r4 l))))) [.bx 376 [.d (.ro 1 (ah (r5 l).1)),.d (.v (.bool ((r5 l).2)))]])]),(15,[(0,.z (2))])] 2000 [0,1,2,3,4] [0,2,3,13,14,12,15,16,4,5,17,18,20,21,6,7,22,23,24,25,26,27,28,9,29,30,31,32,33,34,35,36,37,38,39,40,41,42,43,44,11,45,46,47,48,49] r (by kernel_rfl) (an (rfl:(1:Int)=((1:Nat):Int)) (an ((by omega):(1)<6) (an (ru (r4 l).1 (r4 l).2) (an ((wi (by omega)):IntKind.i64.wrap ((1:Int)+1)=2) trivial)))) fun ac wd r=>?_
  refine fI (todo':=hd Tryz.f43 1) (E':=[(0,.d (.ro 1 (ah l))),(2,.pt 1 0),(3,.z 0),(13,.d (.ro 1 (ah l))),(14,.tu [.d (.ro 1 (ah (bE l))),.d (.v (.bool true))]),(12,.tu [.d (.ro 1 (ah (bE l))),.d (.v (.bool true))]),(15,.d (.ro 1 (ah (bE l)))),(16,.d (.v (.bool true))),(4,.d (.ro 1 (ah (bE l)))),(5,.d (.v (.bool true))),(17,.d (.v (.bool true))),(18,.d (.v (.bool false))),(20,.d (.ro 1 (ah (bE l)))),(21,.pt 3 0),(6,.pt 3 0),(7,.pt 4 0),(22,.pt 4 0),(23,.pt 4 1),(24,.pt 4 2),(25,.ag [.pt 4 0,.pt 4 1,.pt 4 2]),(26,.z 3),(27,.d (.v (.bool false))),(28,.pt 4 2),(9,.pt 4 2),(29,.pt 4 2),(30,.pt 3 0),(31,.d (.v (.int .u8 (aR (r2 l))))),(32,.z (aR (r2 l))),(33,.pt 4 2),(34,.z 3),(35,.pt 4 3),(36,.pt 4 4),(37,.pt 4 5),(38,.pt 4 6),(39,.pt 4 7),(40,.pt 4 8),(41,.ag [.pt 4 3,.pt 4 4,.pt 4 5,.pt 4 6,.pt 4 7,.pt 4 8]),(42,.z 3),(43,.d (.v (.bool true))),(44,.pt 4 5),(11,.pt 4 5),(45,.pt 4 5),(46,.pt 3 0),(47,.d (.v (.int .u64 (aL (r5 l))))),(48,.pt 4 5),(49,.z 3)]) (M':=[.gw 0 bp,.bx 127 [.z 0,.z 0,.z 0,.d (.v (.int .u64 0)),.d (.v (.int .u64 0)),.d (.v (.int .u64 0)),.d (.v (.int .u64 0)),.d (.v (.int .u64 0)),.d (.v (.int .u64 0)),.d (.v (.slice none 0 0))],.dead,.bx 376 [.d (.ro 1 (ah (r6 l).1)),.d (.v (.bool ((r6 l).2)))],.bx 127 [.z (aR (r0 l)),.z (aR (r1 l)),.z (aR (r2 l)),.d (.v (.int .u64 (aL (r3 l)))),.d (.v (.int .u64 (aL (r4 l)))),.d (.v (.int .u64 (aL (r5 l)))),.d (.v (.int .u64 0)),.d (.v (.int .u64 0)),.d (.v (.int .u64 0)),.d (.v (.slice none 0 0))]]) tk tq hK a6 [(13,[(0,.n 2)]),(14,[(2,.mem [3] (.d (.v (.int .u64 (aL (r5 l))))) [.bx 376 [.d (.ro 1 (ah (r6 l).1)),.d (.v (.bool ((r6 l).2)))]])]),(15,[(0,.z (3))])] 2000 [0,1,2,3,4] [0,2,3,13,14,12,15,16,4,5,17,18,20,21,6,7,22,23,24,25,26,27,28,9,29,30,31,32,33,34,35,36,37,38,39,40,41,42,43,44,11,45,46,47,48,49] r (by kernel_rfl) (an (rfl:(2:Int)=((2:Nat):Int)) (an ((by omega):(2)<6) (an (ru (r5 l).1 (r5 l).2) (an ((wi (by omega)):IntKind.i64.wrap ((2:Int)+1)=3) trivial)))) fun ac wd r=>?_
  refine fI (todo':=hd Tryz.f43 1) (E':=[(0,.d (.ro 1 (ah l))),(2,.pt 1 0),(3,.z 0),(13,.d (.ro 1 (ah l))),(14,.tu [.d (.ro 1 (ah (bE l))),.d (.v (.bool true))]),(12,.tu [.d (.ro 1 (ah (bE l))),.d (.v (.bool true))]),(15,.d (.ro 1 (ah (bE l)))),(16,.d (.v (.bool true))),(4,.d (.ro 1 (ah (bE l)))),(5,.d (.v (.bool true))),(17,.d (.v (.bool true))),(18,.d (.v (.bool false))),(20,.d (.ro 1 (ah (bE l)))),(21,.pt 3 0),(6,.pt 3 0),(7,.pt 4 0),(22,.pt 4 0),(23,.pt 4 1),(24,.pt 4 2),(25,.ag [.pt 4 0,.pt 4 1,.pt 4 2]),(26,.z 3),(27,.d (.v (.bool false))),(28,.pt 4 2),(9,.pt 4 2),(29,.pt 4 2),(30,.pt 3 0),(31,.d (.v (.int .u8 (aR (r2 l))))),(32,.z (aR (r2 l))),(33,.pt 4 2),(34,.z 3),(35,.pt 4 3),(36,.pt 4 4),(37,.pt 4 5),(38,.pt 4 6),(39,.pt 4 7),(40,.pt 4 8),(41,.ag [.pt 4 3,.pt 4 4,.pt 4 5,.pt 4 6,.pt 4 7,.pt 4 8]),(42,.z 4),(43,.d (.v (.bool true))),(44,.pt 4 6),(11,.pt 4 6),(45,.pt 4 6),(46,.pt 3 0),(47,.d (.v (.int .u64 (aL (r6 l))))),(48,.pt 4 6),(49,.z 4)]) (M':=[.gw 0 bp,.bx 127 [.z 0,.z 0,.z 0,.d (.v (.int .u64 0)),.d (.v (.int .u64 0)),.d (.v (.int .u64 0)),.d (.v (.int .u64 0)),.d (.v (.int .u64 0)),.d (.v (.int .u64 0)),.d (.v (.slice none 0 0))],.dead,.bx 376 [.d (.ro 1 (ah (r7 l).1)),.d (.v (.bool ((r7 l).2)))],.bx 127 [.z (aR (r0 l)),.z (aR (r1 l)),.z (aR (r2 l)),.d (.v (.int .u64 (aL (r3 l)))),.d (.v (.int .u64 (aL (r4 l)))),.d (.v (.int .u64 (aL (r5 l)))),.d (.v (.int .u64 (aL (r6 l)))),.d (.v (.int .u64 0)),.d (.v (.int .u64 0)),.d (.v (.slice none 0 0))]]) tk tq hK a6 [(13,[(0,.n 3)]),(14,[(2,.mem [3] (.d (.v (.int .u64 (aL (r6 l))))) [.bx 376 [.d (.ro 1 (ah (r7 l).1)),.d (.v (.bool ((r7 l).2)))]])]),(15,[(0,.z (4))])] 2000 [0,1,2,3,4] [0,2,3,13,14,12,15,16,4,5,17,18,20,21,6,7,22,23,24,25,26,27,28,9,29,30,31,32,33,34,35,36,37,38,39,40,41,42,43,44,11,45,46,47,48,49] r (by kernel_rfl) (an (rfl:(3:Int)=((3:Nat):Int)) (an ((by omega):(3)<6) (an (ru (r6 l).1 (r6 l).2) (an ((wi (by omega)):IntKind.i64.wrap ((3:Int)+1)=4) trivial)))) fun ac wd r=>?_
  refine fI (todo':=hd Tryz.f43 1) (E':=[(0,.d (.ro 1 (ah l))),(2,.pt 1 0),(3,.z 0),(13,.d (.ro 1 (ah l))),(14,.tu [.d (.ro 1 (ah (bE l))),.d (.v (.bool true))]),(12,.tu [.d (.ro 1 (ah (bE l))),.d (.v (.bool true))]),(15,.d (.ro 1 (ah (bE l)))),(16,.d (.v (.bool true))),(4,.d (.ro 1 (ah (bE l)))),(5,.d (.v (.bool true))),(17,.d (.v (.bool true))),(18,.d (.v (.bool false))),(20,.d (.ro 1 (ah (bE l)))),(21,.pt 3 0),(6,.pt 3 0),(7,.pt 4 0),(22,.pt 4 0),(23,.pt 4 1),(24,.pt 4 2),(25,.ag [.pt 4 0,.pt 4 1,.pt 4 2]),(26,.z 3),(27,.d (.v (.bool false))),(28,.pt 4 2),(9,.pt 4 2),(29,.pt 4 2),(30,.pt 3 0),(31,.d (.v (.int .u8 (aR (r2 l))))),(32,.z (aR (r2 l))),(33,.pt 4 2),(34,.z 3),(35,.pt 4 3),(36,.pt 4 4),(37,.pt 4 5),(38,.pt 4 6),(39,.pt 4 7),(40,.pt 4 8),(41,.ag [.pt 4 3,.pt 4 4,.pt 4 5,.pt 4 6,.pt 4 7,.pt 4 8]),(42,.z 5),(43,.d (.v (.bool true))),(44,.pt 4 7),(11,.pt 4 7),(45,.pt 4 7),(46,.pt 3 0),(47,.d (.v (.int .u64 (aL (r7 l))))),(48,.pt 4 7),(49,.z 5)]) (M':=[.gw 0 bp,.bx 127 [.z 0,.z 0,.z 0,.d (.v (.int .u64 0)),.d (.v (.int .u64 0)),.d (.v (.int .u64 0)),.d (.v (.int .u64 0)),.d (.v (.int .u64 0)),.d (.v (.int .u64 0)),.d (.v (.slice none 0 0))],.dead,.bx 376 [.d (.ro 1 (ah (r8 l).1)),.d (.v (.bool ((r8 l).2)))],.bx 127 [.z (aR (r0 l)),.z (aR (r1 l)),.z (aR (r2 l)),.d (.v (.int .u64 (aL (r3 l)))),.d (.v (.int .u64 (aL (r4 l)))),.d (.v (.int .u64 (aL (r5 l)))),.d (.v (.int .u64 (aL (r6 l)))),.d (.v (.int .u64 (aL (r7 l)))),.d (.v (.int .u64 0)),.d (.v (.slice none 0 0))]]) tk tq hK a6 [(13,[(0,.n 4)]),(14,[(2,.mem [3] (.d (.v (.int .u64 (aL (r7 l))))) [.bx 376 [.d (.ro 1 (ah (r8 l).1)),.d (.v (.bool ((r8 l).2)))]])]),(15,[(0,.z (5))])] 2000 [0,1,2,3,4] [0,2,3,13,14,12,15,16,4,5,17,18,20,21,6,7,22,23,24,25,26,27,28,9,29,30,31,32,33,34,35,36,37,38,39,40,41,42,43,44,11,45,46,47,48,49] r (by kernel_rfl) (an (rfl:(4:Int)=((4:Nat):Int)) (an ((by omega):(4)<6) (an (ru (r7 l).1 (r7 l).2) (an ((wi (by omega)):IntKind.i64.wrap ((4:Int)+1)=5) trivial)))) fun ac wd r=>?_
  refine fI (todo':=hd Tryz.f43 1) (E':=[(0,.d (.ro 1 (ah l))),(2,.pt 1 0),(3,.z 0),(13,.d (.ro 1 (ah l))),(14,.tu [.d (.ro 1 (ah (bE l))),.d (.v (.bool true))]),(12,.tu [.d (.ro 1 (ah (bE l))),.d (.v (.bool true))]),(15,.d (.ro 1 (ah (bE l)))),(16,.d (.v (.bool true))),(4,.d (.ro 1 (ah (bE l)))),(5,.d (.v (.bool true))),(17,.d (.v (.bool true))),(18,.d (.v (.bool false))),(20,.d (.ro 1 (ah (bE l)))),(21,.pt 3 0),(6,.pt 3 0),(7,.pt 4 0),(22,.pt 4 0),(23,.pt 4 1),(24,.pt 4 2),(25,.ag [.pt 4 0,.pt 4 1,.pt 4 2]),(26,.z 3),(27,.d (.v (.bool false))),(28,.pt 4 2),(9,.pt 4 2),(29,.pt 4 2),(30,.pt 3 0),(31,.d (.v (.int .u8 (aR (r2 l))))),(32,.z (aR (r2 l))),(33,.pt 4 2),(34,.z 3),(35,.pt 4 3),(36,.pt 4 4),(37,.pt 4 5),(38,.pt 4 6),(39,.pt 4 7),(40,.pt 4 8),(41,.ag [.pt 4 3,.pt 4 4,.pt 4 5,.pt 4 6,.pt 4 7,.pt 4 8]),(42,.z 6),(43,.d (.v (.bool true))),(44,.pt 4 8),(11,.pt 4 8),(45,.pt 4 8),(46,.pt 3 0),(47,.d (.v (.int .u64 (aL (r8 l))))),(48,.pt 4 8),(49,.z 6)]) (M':=[.gw 0 bp,.bx 127 [.z 0,.z 0,.z 0,.d (.v (.int .u64 0)),.d (.v (.int .u64 0)),.d (.v (.int .u64 0)),.d (.v (.int .u64 0)),.d (.v (.int .u64 0)),.d (.v (.int .u64 0)),.d (.v (.slice none 0 0))],.dead,.bx 376 [.d (.ro 1 (ah (r9 l).1)),.d (.v (.bool ((r9 l).2)))],.bx 127 [.z (aR (r0 l)),.z (aR (r1 l)),.z (aR (r2 l)),.d (.v (.int .u64 (aL (r3 l)))),.d (.v (.int .u64 (aL (r4 l)))),.d (.v (.int .u64 (aL (r5 l)))),.d (.v (.int .u64 (aL (r6 l)))),.d (.v (.int .u64 (aL (r7 l)))),.d (.v (.int .u64 (aL (r8 l)))),.d (.v (.slice none 0 0))]]) tk tq hK a6 [(13,[(0,.n 5)]),(14,[(2,.mem [3] (.d (.v (.int .u64 (aL (r8 l))))) [.bx 376 [.d (.ro 1 (ah (r9 l).1)),.d (.v (.bool ((r9 l).2)))]])]),(15,[(0,.z (6))])] 2000 [0,1,2,3,4] [0,2,3,13,14,12,15,16,4,5,17,18,20,21,6,7,22,23,24,25,26,27,28,9,29,30,31,32,33,34,35,36,37,38,39,40,41,42,43,44,11,45,46,47,48,49] r (by kernel_rfl) (an (rfl:(5:Int)=((5:Nat):Int)) (an ((by omega):(5)<6) (an (ru (r8 l).1 (r8 l).2) (an ((wi (by omega)):IntKind.i64.wrap ((5:Int)+1)=6) trivial)))) fun ac wd r=>?_
  cases h1:((aR (r0 l):Int)==2) with
  | false=>
   have fb:=ne_of_beq_false h1
   cases h2:((kj (r9 l):Int) != 0) with
   | false=>
    have iH:=wG h2
    cases h3:(aO (aR (r0 l)) (aR (r1 l)) (aR (r2 l)) (aL (r3 l)) (aL (r4 l)) (aL (r5 l)) (aL (r6 l)) (aL (r7 l)) (aL (r8 l)) 0) with
    | false=>
     refine cF (y:=.tu [.ag [.z 0,.z 0,.z 0,.d (.v (.int .u64 0)),.d (.v (.int .u64 0)),.d (.v (.int .u64 0)),.d (.v (.int .u64 0)),.d (.v (.int .u64 0)),.d (.v (.int .u64 0)),.d (.v (.slice none 0 0))],.z 3]) (N':=[.gw 0 bp]) ((by simp only [lP,kE,lE,iW,cond_true,cond_false,h0,h1,h2,h3])) (rfl) ?_
     exact cE tk tq hK rfl a6 [(16,[(2,.b false)]),(18,[(1,.mem [3] (.z (kj (r9 l))) [.bx 376 [.d (.ro 1 (ah (ki (r9 l)).1)),.d (.v (.bool ((ki (r9 l)).2)))]]),(2,.b false),(5,.dX (.v (.bool false)))])] 2000 [0] r (by kernel_rfl) (an h1 (an (rH (r9 l).1 (r9 l).2) (an h2 (an ((by have k:=Lx (aR (r0 l)) (aR (r1 l)) (aR (r2 l)) (aL (r3 l)) (aL (r4 l)) (aL (r5 l)) (aL (r6 l)) (aL (r7 l)) (aL (r8 l));rw [h3] at k;exact k):cb Tryz.prog 103 [.ag [.z (aR (r0 l)),.z (aR (r1 l)),.z (aR (r2 l)),.d (.v (.int .u64 (aL (r3 l)))),.d (.v (.int .u64 (aL (r4 l)))),.d (.v (.int .u64 (aL (r5 l)))),.d (.v (.int .u64 (aL (r6 l)))),.d (.v (.int .u64 (aL (r7 l)))),.d (.v (.int .u64 (aL (r8 l)))),.d (.v (.slice none 0 0))]] (.v (.bool false))) trivial))))
    | true=>
     refine cF (y:=.tu [.ag [.z (aR (r0 l)),.z (aR (r1 l)),.z (aR (r2 l)),.d (.v (.int .u64 (aL (r3 l)))),.d (.v (.int .u64 (aL (r4 l)))),.d (.v (.int .u64 (aL (r5 l)))),.d (.v (.int .u64 (aL (r6 l)))),.d (.v (.int .u64 (aL (r7 l)))),.d (.v (.int .u64 (aL (r8 l)))),.d (.v (.slice none 0 0))],.z 0]) (N':=[.gw 0 bp]) ((by simp only [lP,kE,lE,iW,cond_true,cond_false,h0,h1,h2,h3])) (rfl) ?_
     exact cE tk tq hK rfl a6 [(16,[(2,.b false)]),(18,[(1,.mem [3] (.z (kj (r9 l))) [.bx 376 [.d (.ro 1 (ah (ki (r9 l)).1)),.d (.v (.bool ((ki (r9 l)).2)))]]),(2,.b false),(5,.dX (.v (.bool true)))])] 2000 [0] r (by kernel_rfl) (an h1 (an (rH (r9 l).1 (r9 l).2) (an h2 (an ((by have k:=Lx (aR (r0 l)) (aR (r1 l)) (aR (r2 l)) (aL (r3 l)) (aL (r4 l)) (aL (r5 l)) (aL (r6 l)) (aL (r7 l)) (aL (r8 l));rw [h3] at k;exact k):cb Tryz.prog 103 [.ag [.z (aR (r0 l)),.z (aR (r1 l)),.z (aR (r2 l)),.d (.v (.int .u64 (aL (r3 l)))),.d (.v (.int .u64 (aL (r4 l)))),.d (.v (.int .u64 (aL (r5 l)))),.d (.v (.int .u64 (aL (r6 l)))),.d (.v (.int .u64 (aL (r7 l)))),.d (.v (.int .u64 (aL (r8 l)))),.d (.v (.slice none 0 0))]] (.v (.bool true))) trivial))))
   | true=>
    have iH:¬ _=_:=bne_iff_ne.1 h2
    refine cF (y:=.tu [.ag [.z 0,.z 0,.z 0,.d (.v (.int .u64 0)),.d (.v (.int .u64 0)),.d (.v (.int .u64 0)),.d (.v (.int .u64 0)),.d (.v (.int .u64 0)),.d (.v (.int .u64 0)),.d (.v (.slice none 0 0))],.z 3]) (N':=[.gw 0 bp]) ((by simp only [lP,kE,lE,iW,cond_true,cond_false,h0,h1,h2])) (rfl) ?_
    exact cE tk tq hK rfl a6 [(16,[(2,.b false)]),(18,[(1,.mem [3] (.z (kj (r9 l))) [.bx 376 [.d (.ro 1 (ah (ki (r9 l)).1)),.d (.v (.bool ((ki (r9 l)).2)))]]),(2,.b true)])] 2000 [0] r (by kernel_rfl) (an h1 (an (rH (r9 l).1 (r9 l).2) (an h2 trivial)))
  | true=>
   have fb:=eq_of_beq h1
   cases h4:((kj (eE l):Int) != 0) with
   | false=>
    have qJ:=wG h4
    cases h5:(aO (aR (r0 l)) (aR (r1 l)) (aR (r2 l)) (aL (r3 l)) (aL (r4 l)) (aL (r5 l)) (aL (r6 l)) (aL (r7 l)) (aL (r8 l)) ((kh (r9 l))).length) with
    | false=>
     refine cF (y:=.tu [.ag [.z 0,.z 0,.z 0,.d (.v (.int .u64 0)),.d (.v (.int .u64 0)),.d (.v (.int .u64 0)),.d (.v (.int .u64 0)),.d (.v (.int .u64 0)),.d (.v (.int .u64 0)),.d (.v (.slice none 0 0))],.z 3]) (N':=[.gw 0 bp]) ((by simp only [lP,kE,lE,iW,cond_true,cond_false,h0,h1,h4,h5])) (rfl) ?_
     exact cE tk tq hK rfl a6 [(16,[(2,.b true)]),(17,[(1,.mem [3] (.d (.v (.string ⟨(kh (r9 l)).toArray⟩))) [.bx 376 [.d (.ro 1 (ah (eE l).1)),.d (.v (.bool ((eE l).2)))]])]),(18,[(1,.mem [3] (.z (kj (eE l))) [.bx 376 [.d (.ro 1 (ah (ki (eE l)).1)),.d (.v (.bool ((ki (eE l)).2)))]]),(2,.b false),(5,.dX (.v (.bool false)))])] 2000 [0] r (by kernel_rfl) (an h1 (an (Ch (r9 l).1 (r9 l).2) (an (rH (eE l).1 (eE l).2) (an h4 (an ((by have k:=L3 (aR (r0 l)) (aR (r1 l)) (aR (r2 l)) (aL (r3 l)) (aL (r4 l)) (aL (r5 l)) (aL (r6 l)) (aL (r7 l)) (aL (r8 l)) (kh (r9 l));rw [h5] at k;exact k):cb Tryz.prog 103 [.ag [.z (aR (r0 l)),.z (aR (r1 l)),.z (aR (r2 l)),.d (.v (.int .u64 (aL (r3 l)))),.d (.v (.int .u64 (aL (r4 l)))),.d (.v (.int .u64 (aL (r5 l)))),.d (.v (.int .u64 (aL (r6 l)))),.d (.v (.int .u64 (aL (r7 l)))),.d (.v (.int .u64 (aL (r8 l)))),.d (.ro 1 (ah (kh (r9 l))))]] (.v (.bool false))) trivial)))))
    | true=>
     refine cF (y:=.tu [.ag [.z (aR (r0 l)),.z (aR (r1 l)),.z (aR (r2 l)),.d (.v (.int .u64 (aL (r3 l)))),.d (.v (.int .u64 (aL (r4 l)))),.d (.v (.int .u64 (aL (r5 l)))),.d (.v (.int .u64 (aL (r6 l)))),.d (.v (.int .u64 (aL (r7 l)))),.d (.v (.int .u64 (aL (r8 l)))),.d (.ro 1 (ah (kh (r9 l))))],.z 0]) (N':=[.gw 0 bp]) ((by simp only [lP,kE,lE,iW,cond_true,cond_false,h0,h1,h4,h5])) (rfl) ?_
     exact cE tk tq hK rfl a6 [(16,[(2,.b true)]),(17,[(1,.mem [3] (.d (.v (.string ⟨(kh (r9 l)).toArray⟩))) [.bx 376 [.d (.ro 1 (ah (eE l).1)),.d (.v (.bool ((eE l).2)))]])]),(18,[(1,.mem [3] (.z (kj (eE l))) [.bx 376 [.d (.ro 1 (ah (ki (eE l)).1)),.d (.v (.bool ((ki (eE l)).2)))]]),(2,.b false),(5,.dX (.v (.bool true)))])] 2000 [0] r (by kernel_rfl) (an h1 (an (Ch (r9 l).1 (r9 l).2) (an (rH (eE l).1 (eE l).2) (an h4 (an ((by have k:=L3 (aR (r0 l)) (aR (r1 l)) (aR (r2 l)) (aL (r3 l)) (aL (r4 l)) (aL (r5 l)) (aL (r6 l)) (aL (r7 l)) (aL (r8 l)) (kh (r9 l));rw [h5] at k;exact k):cb Tryz.prog 103 [.ag [.z (aR (r0 l)),.z (aR (r1 l)),.z (aR (r2 l)),.d (.v (.int .u64 (aL (r3 l)))),.d (.v (.int .u64 (aL (r4 l)))),.d (.v (.int .u64 (aL (r5 l)))),.d (.v (.int .u64 (aL (r6 l)))),.d (.v (.int .u64 (aL (r7 l)))),.d (.v (.int .u64 (aL (r8 l)))),.d (.ro 1 (ah (kh (r9 l))))]] (.v (.bool true))) trivial)))))
   | true=>
    have qJ:¬ _=_:=bne_iff_ne.1 h4
    refine cF (y:=.tu [.ag [.z 0,.z 0,.z 0,.d (.v (.int .u64 0)),.d (.v (.int .u64 0)),.d (.v (.int .u64 0)),.d (.v (.int .u64 0)),.d (.v (.int .u64 0)),.d (.v (.int .u64 0)),.d (.v (.slice none 0 0))],.z 3]) (N':=[.gw 0 bp]) ((by simp only [lP,kE,lE,iW,cond_true,cond_false,h0,h1,h4])) (rfl) ?_
    exact cE tk tq hK rfl a6 [(16,[(2,.b true)]),(17,[(1,.mem [3] (.d (.v (.string ⟨(kh (r9 l)).toArray⟩))) [.bx 376 [.d (.ro 1 (ah (eE l).1)),.d (.v (.bool ((eE l).2)))]])]),(18,[(1,.mem [3] (.z (kj (eE l))) [.bx 376 [.d (.ro 1 (ah (ki (eE l)).1)),.d (.v (.bool ((ki (eE l)).2)))]]),(2,.b true)])] 2000 [0] r (by kernel_rfl) (an h1 (an (Ch (r9 l).1 (r9 l).2) (an (rH (eE l).1 (eE l).2) (an h4 trivial))))
end Go.Proofs.YtkheephfkbpchaaGreatDoor
namespace Go.Proofs.YtkheephfkbpchaaGreatDoor
open Go.RowKit
theorem ey {K:World→Prop} {β:Beta} {c:AV} {y:Value} (h:AV.one c=true) (r:au K β c y):au K β .uk y:=.uk (AV.yo r h)
theorem YZ {K:World→Prop} {β:Beta} {l:List AV} {y:Value} (h:l.all AV.one=true) {n:Nat} (hn:l.length=n) (r:au K β (.ag l) y):au K β (.ag (List.replicate n .uk)) y:=by
 cases r with
 | ag ys hl hr=>
  subst hn
  refine .ag ys (by simpa using hl) fun j c y h1 h2=>?_
  rw [List.getElem?_replicate] at h1
  split at h1
  ·rename_i hj
   simp only [Option.some.injEq] at h1;subst h1
   exact ey (List.all_eq_true.1 h _ (List.getElem_mem hj)) (hr j _ y (List.getElem?_eq_getElem hj) h2)
  ·cases h1
def SX:AV:=.ag [.uk,.uk,.uk,.uk,.uk,.uk,.uk,.uk,.uk,.uk]
theorem Wz (l:List UInt8):∃ a b,lP l=.tu [.ag a,b]∧a.all AV.one=true∧a.length=10∧AV.one b=true:=by
 unfold lP iW lE
 cases kg l<;>cases ((aR (r0 l):Int)==2)<;>cases ((kj (eE l):Int) != 0)<;>cases ((kj (r9 l):Int) != 0)<;>cases (kE l (kh (r9 l)).length)<;>cases (kE l 0)<;>exact ⟨_,_,rfl,rfl,rfl,rfl⟩
theorem Ui (l:List UInt8) (hl:l.length≤1048576):bJ Tryz.prog 43 [.d (.ro 1 (ah l))] [.gw 0 bp] (.tu [SX,.uk]) [.gw 0 bp]:=by
 have h:=Ve l hl
 obtain ⟨a,b,he,ha1,ha2,fa⟩:=Wz l
 rw [he] at h
 refine ⟨h.1,fun ys R hK cn hr=>(h.2 ys R hK cn hr).mono ?_⟩
 rintro e w' ⟨v,rfl,β',F',I',R',e1,hI,ha⟩
 refine ⟨v,rfl,β',F',I',R',e1,hI,?_⟩
 cases ha with
 | tu vs pf wh=>
  refine .tu vs (by simpa using pf) fun j c y h1 h2=>?_
  cases j with
  | zero=>simp at h1;subst h1;exact YZ ha1 ha2 (wh 0 _ y rfl h2)
  | succ j=>
   cases j with
   | zero=>simp at h1;subst h1;exact ey fa (wh 1 _ y rfl h2)
   | succ j=>simp at h1
def ze (f:Nat) (row:List DV) (X:bG):bG:=fun c args M o=>match c,args,M with
 | .fn g,[.bt _],.gw g0 p9::_=>bif Nat.beq g f&&(Nat.beq g0 0&&kQ p9 row) then some ⟨[],.tu [SX,.uk],nU (jH M [0]++[]) [0] [.gw 0 row],[0],[],none⟩ else X c args M o
 | _,_,_=>X c args M o
theorem Jg {X:bG} (hX:cN Tryz.prog X):cN Tryz.prog (ze 43 bp X):=by
 intro c args M o out h
 unfold ze at h
 split at h
 ·rename_i g bs g0 p9 r
  cases hc:(Nat.beq g 43&&(Nat.beq g0 0&&kQ p9 bp)) with
  | false=>simp only [hc,cond_false] at h;exact hX _ _ _ _ _ h
  | true=>
   simp only [hc,cond_true,Option.some.injEq] at h;subst h
   obtain ⟨h1,h2⟩:=Bool.and_eq_true_iff.1 hc
   obtain ⟨h2,h3⟩:=Bool.and_eq_true_iff.1 h2
   obtain rfl:=Nat.eq_of_beq_eq_true h1
   obtain rfl:=Nat.eq_of_beq_eq_true h2
   obtain rfl:=rv h3
   refine ⟨rfl,by kernel_rfl,?_⟩
   intro D w0 K0 β F I w ys Rm hK hv hl eH
   obtain ⟨y,rfl⟩:∃ y,ys=[y]:=by
    cases ys with
    | nil=>simp at hl
    | cons y t=>cases t with | nil=>exact ⟨y,rfl⟩ | cons _ _=>simp at hl
   have hb:=eH 0 _ _ rfl rfl
   cases hb with
   | bt hd hn=>
    have e6:=Ui bs hn
    refine (AX (l:=[0]) (vs:=[.bt bs]) Rm hK rfl (told:=[.d (.ro 1 (ah bs))]) rfl (fun j c y h1 h2=>?_) (Ms:=[.gw 0 bp]) rfl (fun i b hb=>?_) (by simp) (by simp) e6)
    ·cases j with
     | zero=>simp at h1 h2;subst h1;subst h2;exact .d hd
     | succ j=>simp at h1
    ·cases i with
     | zero=>
      simp at hb;subst hb
      refine ⟨0,.gw 0 bp,rfl,rfl,?_⟩
      have:=Rm.blk 0 (.gw 0 bp) rfl
      generalize F 0=H at this ⊢
      cases this with
      | gw Y oP hyc hyr=>exact .gw Y oP hyc hyr
     | succ i=>simp at hb
 ·exact hX _ _ _ _ _ h
end Go.Proofs.YtkheephfkbpchaaGreatDoor
namespace Go.Proofs.YtkheephfkbpchaaGreatDoor
open Go.RowKit
open Go.Maps Go.WideMaps
theorem Tryz.laidOut:laidOutB Tryz.prog=true:=by kernel_rfl
theorem XC:(309:TypeId)<Tryz.prog.types.size:=of_decide_eq_true (by kernel_rfl)
theorem WA:(match Tryz.prog.underlying 309 with | some (.array _ _) | some (.struct _)=>true | _=>false)=true:=by kernel_rfl
set_option maxRecDepth 100000 in
theorem adN:Keyed Tryz.prog 309:=Keyed.of_law (deep_law_laid Tryz.laidOut (m:=2) (by omega) XC (by kernel_rfl) WA)
theorem XD:(25:TypeId)<Tryz.prog.types.size:=of_decide_eq_true (by kernel_rfl)
theorem WB:(match Tryz.prog.underlying 25 with | some (.array _ _) | some (.struct _)=>true | _=>false)=true:=by kernel_rfl
set_option maxRecDepth 100000 in
theorem adO:Keyed Tryz.prog 25:=Keyed.of_law (deep_law_laid Tryz.laidOut (m:=2) (by omega) XD (by kernel_rfl) WB)
theorem ao:eO Tryz.prog [3,309,25]:=by
 intro K hK
 rcases List.mem_cons.1 hK with rfl | hK
 ·exact int_keyed (q:=.i64) (by kernel_rfl)
 rcases List.mem_cons.1 hK with rfl | hK
 ·exact adN
 rcases List.mem_cons.1 hK with rfl | hK
 ·exact adO
 cases hK
end Go.Proofs.YtkheephfkbpchaaGreatDoor
namespace Go.Proofs.YtkheephfkbpchaaGreatDoor
open Go.RowKit
def L4 (b0 b1 b2:List UInt8) (h p:List (List DV)):List AV:=[.ag [.uk,.uk,.bt b0,.bt b1,.uk,.uk,.uk,.uk,.d (.ro 4 h),.bt b2,.uk,.uk,.uk,.d (.ro 2 p),.uk,.uk]]
theorem TO (hA:ei Tryz.prog 7 [.gw 0 bp] [] (.v (.bool true))) (b0 b1 b2:List UInt8) (h p:List (List DV)):ei Tryz.prog 3 [.gw 0 bp] (L4 b0 b1 b2 h p) (.v (.bool true)):=
 Wv (T:=tb) (KL:=[3,309,25]) (X:=ze 43 bp (zd 7 [.gw 0 bp] (.bool true) AH)) (fuel:=100000) (d:=60) (n1:=5) tk ao tq (Jg (Jd rfl hA al)) (by kernel_rfl)
end Go.Proofs.YtkheephfkbpchaaGreatDoor
namespace Go.Proofs.YtkheephfkbpchaaGreatDoor
open Go.RowKit
section
variable {P:Program} {T:aC} {f:FuncId}
noncomputable def zR (P:Program) (T:aC) (KL:List TypeId) (X:bG) (fuel d n1:Nat) (f:FuncId) (G:List ae) (args:List AV):Option (Func×Operand×Code×Code×List Item×US):=bif eu P f then (match P.funcs[f]? with
 | some fn=>(bif Nat.ble args.length fn.ntmps then (match fn.body with
  | some c=>(match uC P T KL (uW P T KL X fuel d) false f fn.ntmps n1 G.length [.code c] ⟨fv args 0,G,[]⟩ with
   | some [(.code (.cond g x y)::k,s)]=>some (fn,g,x,y,k,s)
   | _=>none)
  | none=>none) else none)
 | none=>none) else none
noncomputable def nM:Option (Func×Operand×Code×Code×List Item×US)→Option Bool
 | some (_,g,_,_,_,s)=>jG (aB s.E g)
 | none=>none
noncomputable def FE (P:Program) (T:aC) (KL:List TypeId) (X:bG) (fuel d:Nat) (f:FuncId) (G:List ae):Option (Func×Operand×Code×Code×List Item×US)→Option DV
 | some (fn,_,x,_,k,s)=>sC T fn.results.toList (uC P T KL (uW P T KL X fuel d) false f fn.ntmps fuel G.length (.code x::k) s)
 | none=>none
theorem WC (hT:aI P T=true) {KL:List TypeId} (hL:eO P KL) (hm:P.follows .mixedOrders=true) {X:bG} (hX:cN P X) {fuel d n1:Nat} {G:List ae} {args:List AV} {x:DV} (hg:nM (zR P T KL X fuel d n1 f G args)=some true) (h:FE P T KL X fuel d f G (zR P T KL X fuel d n1 f G args)=some x):ei P f G args x:=by
 unfold zR at hg h
 cases hc:eu P f with
 | false=>simp [hc,nM] at hg
 | true=>
  simp only [hc,cond_true] at hg h
  split at hg
  rotate_left
  ·simp [nM] at hg
  rename_i fn hf
  simp only [hf] at h
  cases hle:Nat.ble args.length fn.ntmps with
  | false=>simp [hle,nM] at hg
  | true=>
  simp only [hle,cond_true] at hg h
  split at hg
  rotate_left
  ·simp [nM] at hg
  rename_i c jI
  simp only [jI] at h
  split at hg
  rotate_left
  ·simp [nM] at hg
  rename_i g cx cy k s hr
  simp only [hr] at h
  simp only [nM] at hg
  simp only [FE] at h
  refine ei.intro hc hf jI fn.ntmps rfl hle fun w0 K a β F I hK r0=>?_
  refine mG (b:=⟨β,F,I,G.length⟩) hT hL (rX hT hL hm hX d) hm hK (by simp) n1 hr r0 fun o ho a' w' r'=>?_
  rw [List.mem_singleton] at ho;subst ho
  refine aH.step (fun _ _=>stepR_cond (r'.re.bool hg)) ?_
  unfold sC at h
  split at h
  ·rename_i l hr
   refine mG (b:=⟨β,F,I,G.length⟩) hT hL (rX hT hL hm hX d) hm hK (by simp) fuel hr r' fun o ho a' w' r'=>?_
   obtain ⟨ht,lL⟩:=xA h o ho
   rcases uc ht with e | ⟨k,e⟩
   ·rw [e];exact fin hT hf r'.re (kL.one lL rfl)
   ·rw [e];exact ret hT hf r'.re (kL.one lL rfl)
  ·simp at h
end
def Ed (r0 r1 r2 h p:List (List DV)):List AV:=[.ag [.uk,.uk,.d (.ro 1 r0),.d (.ro 1 r1),.uk,.uk,.uk,.uk,.d (.ro 4 h),.d (.ro 1 r2),.uk,.uk,.uk,.d (.ro 2 p),.uk,.uk]]
abbrev wI (z:Int):Int:=IntKind.i64.wrap z
def Ee (a b c h p:Nat):Int:=wI (0+wI (wI (wI ((wI (wI ((a:Int)+(b:Int))+(c:Int))).tdiv 256)+(h:Int))+(p:Int)))
noncomputable abbrev FF:bG:=ze 43 bp (zd 7 [.gw 0 bp] (.bool true) AH)
noncomputable abbrev L5 (r0 r1 r2 h p:List (List DV)):=zR Tryz.prog tb [3,309,25] FF 100000 60 5 3 [.gw 0 bp] (Ed r0 r1 r2 h p)
theorem XE (r0 r1 r2 h p:List (List DV)):nM (L5 r0 r1 r2 h p)=some (!wa (Ee r0.length r1.length r2.length h.length p.length) 2000):=by kernel_rfl
theorem Y0 (r0 r1 r2 h p:List (List DV)):FE Tryz.prog tb [3,309,25] FF 100000 60 3 [.gw 0 bp] (L5 r0 r1 r2 h p)=some (.v (.bool true)):=by kernel_rfl
theorem rY {z:Int} (h : -9223372036854775808≤z∧z≤9223372036854775807):wI z=z:=by
 simp [wI,IntKind.wrap,IntKind.signed,IntKind.bits]
 omega
theorem Vf {a b c h p:Nat} (hr:1048576<a∨1048576<b∨1048576<c) (ha:a≤140737488355328) (hb:b≤140737488355328) (hc:c≤140737488355328) (hh:h≤140737488355328) (hp:p≤140737488355328):¬ Ee a b c h p≤2000:=by
 unfold Ee
 rw [rY (z:=(a:Int)+b) (by omega),rY (z:=(a:Int)+b+c) (by omega)]
 have hd:((a:Int)+b+c).tdiv 256=((a:Int)+b+c) / 256:=Int.tdiv_eq_ediv_of_nonneg (by omega)
 rw [hd,rY (z:=((a:Int)+b+c) / 256) (by omega),rY (z:=((a:Int)+b+c) / 256+h) (by omega),rY (z:=((a:Int)+b+c) / 256+h+p) (by omega),rY (by omega)]
 omega
theorem Vg (hA:ei Tryz.prog 7 [.gw 0 bp] [] (.v (.bool true))) {r0 r1 r2 h p:List (List DV)} (hr:1048576<r0.length∨1048576<r1.length∨1048576<r2.length) (ha:r0.length≤140737488355328) (hb:r1.length≤140737488355328) (hc:r2.length≤140737488355328) (hh:h.length≤140737488355328) (hp:p.length≤140737488355328):ei Tryz.prog 3 [.gw 0 bp] (Ed r0 r1 r2 h p) (.v (.bool true)):=
 WC (T:=tb) (KL:=[3,309,25]) (X:=FF) (fuel:=100000) (d:=60) (n1:=5) tk ao tq (Jg (Jd rfl hA al)) ((XE r0 r1 r2 h p).trans (by rw [Lv,decide_eq_false (Vf hr ha hb hc hh hp)];rfl)) (Y0 r0 r1 r2 h p)
end Go.Proofs.YtkheephfkbpchaaGreatDoor
namespace Go.Proofs.YtkheephfkbpchaaGreatDoor
open Go.RowKit Go.Deep
def TZ (P:Program) (w:World) (B:Nat) (t:TypeId) (cs:List Value):Prop:=∃ (H:Type) (enc:TypeId×Value→H) (base:Nat) (sp:Nat→Bool) (held:Bool) (fuel:Nat) (x:DataW H×List MemPlace),DataW.trod enc P w base sp held fuel t cs=some x∧∀ n ∈ x.1.weights P t,n≤B
variable {P:Program} {w:World} {t e:TypeId} {cs:List Value} {B:Nat} {α β γ:Type}
theorem TZ.of {H:Type} {enc:TypeId×Value→H} {base:Nat} {sp:Nat→Bool} {held:Bool} {v:Value} {d:DataW H} {ps:List MemPlace} (h:DataW.Trod enc P w base sp held t v d ps) (hb:∀ n ∈ d.weights P t,n≤B):TZ P w B t v.cells.toList:=by
 obtain ⟨n,h⟩:=h;exact ⟨H,enc,base,sp,held,n,_,h,hb⟩
theorem TZ.tr (h:TZ P w B t cs):TR P w t cs:=let ⟨H,enc,base,sp,held,fuel,x,h,_⟩:=h;⟨H,enc,base,sp,held,fuel,x,h⟩
theorem HA {H:Type} {d:DataW H}:∀ {l:List (DataW H)},d ∈ l→∀ n ∈ d.weights P e,n ∈ DataW.weightsAll P e l
 | d'::r,h,n,hn=>by
  rw [DataW.weightsAll,List.mem_append]
  rcases List.mem_cons.1 h with rfl | h
  ·exact Or.inl hn
  ·exact Or.inr (HA h n hn)
theorem TZ.slice (ht:P.underlying t=some (.slice e)) (hb:1≤P.bytesOf e) (h:TZ P w B t cs):∃ (v:Value) (n:Nat) (X:Nat→List Value),cs=[v]∧n*P.bytesOf e≤B∧(∀ i,i<n→(X i).length=P.cellsOf e∧TZ P w B e (X i))∧Src w (P.cellsOf e) v n ((List.range n).flatMap X)∧∃ a c,v=.slice a n c∧n≤c:=by
 obtain ⟨H,enc,base,sp,held,fuel,x,h,hB⟩:=h
 rcases open_slice ht h with ⟨rfl,_⟩ | ⟨a,len,cap,m,n,D,Pl,rfl,_,hlc,afU,hm,hxe,hx⟩
 ·exact ⟨_,0,fun _=>[],rfl,by omega,fun i hi=>by omega,by simp [Src],_,_,rfl,Nat.zero_le _⟩
 ·have hle:len≤m:=by rw [hm];split<;>omega
  obtain ⟨X,hX⟩:=choose_lt (n:=len) (α:=List Value) (p:=fun i c=>w.cells? base (a.add (i*P.cellsOf e)) (P.cellsOf e)=some c∧DataW.trod enc P w base sp held n e c=some (D i,Pl i)) (fun i hi=>hx i (by omega))
  have hlen:∀ i,i<len→(X i).length=P.cellsOf e:=fun i hi=>(cells?_some (hX i hi).1).1
  rw [hxe] at hB
  simp only [DataW.weights,ht] at hB
  have h1:=hB _ List.mem_cons_self
  refine ⟨_,len,X,rfl,?_,fun i hi=>⟨hlen i hi,H,enc,base,sp,held,n,_,(hX i hi).2,fun k hk=>hB k ?_⟩,⟨?_,?_⟩,⟨a,cap,rfl,hlc⟩⟩
  ·rw [List.length_map,List.length_range,Nat.add_mul] at h1;omega
  ·exact List.mem_cons_of_mem _ (List.mem_append_left _ (HA (List.mem_map.2 ⟨i,by simpa using hi,rfl⟩) k hk))
  ·exact BM hlen
  ·refine Or.inr ⟨a,cap,rfl,?_⟩
   have key:∀ k,k≤len→∀ j (hj:j<((List.range k).flatMap X).length),w.cell? (a.add j)=some ((List.range k).flatMap X)[j]:=by
    intro k
    induction k with
    | zero=>intro _ j hj;simp at hj
    | succ k ih=>
     intro hk j hj
     have Z2:(List.range (k+1)).flatMap X=(List.range k).flatMap X++X k:=by rw [List.range_succ,List.flatMap_append];simp
     have eQ:((List.range k).flatMap X).length=k*P.cellsOf e:=BM (fun i hi=>hlen i (by omega))
     simp only [Z2] at hj ⊢
     rcases Nat.lt_or_ge j ((List.range k).flatMap X).length with h | h
     ·rw [List.getElem_append_left h];exact ih (by omega) j h
     ·rw [List.getElem_append_right h]
      have dN:j-((List.range k).flatMap X).length<(X k).length:=by rw [List.length_append] at hj;omega
      have:=(cells?_some (hX k (by omega)).1).2 _ dN
      rw [← this,Addr.pC]
      congr 2
      omega
   exact key len (Nat.le_refl _)
theorem TZ.struct {fs:Array Field} (ht:P.underlying t=some (.struct fs)) (h:TZ P w B t cs):cs.length=P.cellsOf t∧∀ f ∈ fs.toList,TZ P w B f.type ((cs.drop f.offset).take (P.cellsOf f.type)):=by
 obtain ⟨H,enc,base,sp,held,fuel,x,h,hB⟩:=h
 obtain ⟨xs,n,-,hx,hl,FZ,hf⟩:=DataW.trod_struct ht h
 refine ⟨hl,fun f dI=>?_⟩
 obtain ⟨i,hi,rfl⟩:=List.getElem_of_mem dI
 have iz:i<fs.size:=by simpa using hi
 have h1:=hf i fs[i] (Array.getElem?_eq_getElem iz)
 rw [List.getElem?_eq_getElem (by omega)] at h1
 refine ⟨H,enc,base,sp,held,n,xs[i],by simpa using h1,fun k hk=>hB k ?_⟩
 rw [hx]
 simp only [DataW.weights,ht]
 exact DataW.weights_mem_each (j:=i) (by rw [List.getElem?_map,List.getElem?_eq_getElem hi];rfl) (by rw [List.getElem?_map,List.getElem?_eq_getElem (by omega)];rfl) k (by simpa using hk)
def dC (P:Program) (w:World) (B:Nat) (t:TypeId) {α:Type} (row:α→List DV) (ok:α→Prop):Prop:=∀ cs,TZ P w B t cs→∃ x,ok x∧jy w (row x) cs
theorem Rd.sz {row:α→List DV} {ok:α→Prop} (h:Rd P w t row ok):dC P w B t row ok:=fun cs hc=>h cs hc.tr
theorem dC.slice [Inhabited α] {k b:Nat} {row:α→List DV} {ok:α→Prop} (h:P.underlying t=some (.slice e)) (hk:P.cellsOf e=k) (hb:P.bytesOf e=b) (fa:1≤b) (hr:dC P w B e row ok):dC P w B t (fun l:List α=>[.ro k (l.map row)]) fun l=>l.length*b≤B∧∀ x ∈ l,ok x:=fun cs hc=>by
 subst hk hb
 obtain ⟨v,n,X,rfl,hn,hX,hs,cd⟩:=TZ.slice h fa hc
 obtain ⟨Y,hY⟩:=choose_lt (n:=n) (α:=α) (p:=fun i x=>ok x∧jy w (row x) (X i)) fun i hi=>hr _ (hX i hi).2
 have hg:∀ (i:Nat) r,(((List.range n).map Y).map row)[i]?=some r→i<n∧r=row (Y i):=fun i r hi=>by
  have aG:=(List.getElem?_eq_some_iff.1 hi).1
  simp at aG
  simp [aG] at hi
  exact ⟨aG,hi.symm⟩
 have hl:(((List.range n).map Y).map row).length=n:=by simp
 refine ⟨(List.range n).map Y,⟨by simpa using hn,?_⟩,.one (.ro X (fun i r hi=>?_) ?_ (fun w' g=>?_) fun i r j c x h1 h2 h3=>?_)⟩
 ·intro x hx
  obtain ⟨i,hi,rfl⟩:=List.mem_map.1 hx
  exact (hY i (by simpa using hi)).1
 ·obtain ⟨iz,rfl⟩:=hg i r hi
  refine ⟨?_,(hX i iz).1⟩
  rw [← (hX i iz).1];exact (hY i iz).2.1.symm
 ·rw [hl];exact cd
 ·rw [hl];exact hs.gr g
 ·obtain ⟨iz,rfl⟩:=hg i r h1
  exact (hY i iz).2.2 j c x h2 h3
theorem dC.map {row:α→List DV} {ok:α→Prop} (hr:dC P w B t row ok) (g:α→β) {p9:β→List DV} {SY:β→Prop} (h1:∀ x,row x=p9 (g x)) (h2:∀ x,ok x→SY (g x)):dC P w B t p9 SY:=fun cs hc=>by
 obtain ⟨x,h3,h4⟩:=hr cs hc
 exact ⟨g x,h2 x h3,h1 x▸h4⟩
end Go.Proofs.YtkheephfkbpchaaGreatDoor
namespace Go.Proofs.YtkheephfkbpchaaGreatDoor
open Go.RowKit
open Go.Deep
section
variable {w:World}
theorem rZ {P:Program} {t:TypeId} (h:P.underlying t=some (.int .i64)):Rd P w t (fun n:Int=>[.z n]) fun n => -9223372036854775808≤n∧n≤9223372036854775807:=fun cs hc=>by
 obtain ⟨n,rfl,hw⟩:=hc.int h
 have cQ : -9223372036854775808≤n∧n≤9223372036854775807:=by simpa [Lit.wf,IntKind.min,IntKind.max,IntKind.signed,IntKind.bits] using hw
 exact ⟨n,cQ,.one (.v _)⟩
end
section
variable {w:World} {B:Nat}
def df (P:Program) (w:World) (B:Nat) (fs:List Field) (off tot:Nat) {α:Type} (row:α→List DV) (ok:α→Prop):Prop:=∀ cs:List Value,cs.length=tot→(∀ f ∈ fs,TZ P w B f.type ((cs.drop f.offset).take (P.cellsOf f.type)))→∃ x,ok x∧jy w (row x) (cs.drop off)
theorem df.nil {P:Program} {tot:Nat}:df P w B [] tot tot (fun _:Unit=>[]) fun _=>True:=fun cs hl _=>⟨(),trivial,by rw [List.drop_of_length_le (by omega)];exact ⟨rfl,by simp⟩⟩
theorem df.cons {P:Program} {f:Field} {fs:List Field} {off k tot:Nat} {α β:Type} {u7:α→List DV} {PD:β→List DV} {SZ:α→Prop} {S0:β→Prop} (h0:f.offset=off) (hk:P.cellsOf f.type=k) (r:dC P w B f.type u7 SZ) (rs:df P w B fs (off+k) tot PD S0):df P w B (f::fs) off tot (fun x:α×β=>u7 x.1++PD x.2) fun x=>SZ x.1∧S0 x.2:=fun cs hl hf=>by
 have a0:=hf f List.mem_cons_self
 rw [h0,hk] at a0
 obtain ⟨x,b0,c0⟩:=r _ a0
 obtain ⟨y,b1,c1⟩:=rs cs hl fun g hg=>hf g (List.mem_cons_of_mem _ hg)
 refine ⟨(x,y),⟨b0,b1⟩,?_⟩
 have:=c0.app c1
 rwa [← List.drop_drop,List.take_append_drop] at this
theorem dC.struct {P:Program} {t tot:Nat} {fs:List Field} {α:Type} {row:α→List DV} {ok:α→Prop} (h:P.underlying t=some (.struct fs.toArray)) (ht:P.cellsOf t=tot) (rs:df P w B fs 0 tot row ok):dC P w B t row ok:=fun cs hc=>by
 obtain ⟨hl,hf⟩:=hc.struct h
 obtain ⟨x,h1,h2⟩:=rs cs (by omega) (by simpa using hf)
 exact ⟨x,h1,by simpa using h2⟩
theorem dC.uv {P:Program} {t e:TypeId} {α:Type} [Inhabited α] {k:Nat} {row:α→List DV} {ok:α→Prop} (h:P.underlying t=some (.slice e)) (hk:P.cellsOf e=k) (fa:1≤P.bytesOf e) (hr:dC P w B e row ok):dC P w B t (fun l:List α=>[.ro k (l.map row)]) fun l=>l.length≤B∧∀ x ∈ l,ok x:=
 (dC.slice h hk rfl fa hr).map id (fun _=>rfl) fun l h=>⟨Nat.le_trans (Nat.le_mul_of_pos_right _ fa) h.1,h.2⟩
end
abbrev n6:=Int×Nat×Unit
abbrev pY:n6→List DV:=(fun x=>(fun n:Int=>[DV.z n]) x.1++(fun x=>(fun n:Nat=>[DV.u n]) x.1++(fun _:Unit=>([]:List DV)) x.2) x.2)
abbrev uU:n6→Prop:=(fun x=>(fun n:Int => -9223372036854775808≤n∧n≤9223372036854775807) x.1∧(fun x=>(fun n:Nat=>n≤18446744073709551615) x.1∧(fun _:Unit=>True) x.2) x.2)
theorem zf {w:World}:dC Tryz.prog w reachBytes 25 pY uU:=dC.struct (fs:=[⟨"Node",3,0,false, "", "",0⟩,⟨"Inc",23,1,false, "", "",8⟩]) (tot:=2) (by kernel_rfl) (by kernel_rfl) (df.cons rfl (k:=1) (by kernel_rfl) (Rd.sz (rZ (by kernel_rfl))) (df.cons rfl (k:=1) (by kernel_rfl) (Rd.sz (Rd.u64 (by kernel_rfl))) df.nil))
abbrev uV:=Int×Nat×Nat×Nat×Unit
abbrev yL:uV→List DV:=(fun x=>(fun n:Int=>[DV.z n]) x.1++(fun x=>(fun n:Nat=>[DV.u n]) x.1++(fun x=>(fun n:Nat=>[DV.u n]) x.1++(fun x=>(fun n:Nat=>[DV.u n]) x.1++(fun _:Unit=>([]:List DV)) x.2) x.2) x.2) x.2)
abbrev Ly:uV→Prop:=(fun x=>(fun n:Int => -9223372036854775808≤n∧n≤9223372036854775807) x.1∧(fun x=>(fun n:Nat=>n≤18446744073709551615) x.1∧(fun x=>(fun n:Nat=>n≤18446744073709551615) x.1∧(fun x=>(fun n:Nat=>n≤18446744073709551615) x.1∧(fun _:Unit=>True) x.2) x.2) x.2) x.2)
theorem Y1 {w:World}:dC Tryz.prog w reachBytes 410 yL Ly:=dC.struct (fs:=[⟨"Dst",3,0,false, "", "",0⟩,⟨"Conn",23,1,false, "", "",8⟩,⟨"Seq",23,2,false, "", "",16⟩,⟨"Inc",23,3,false, "", "",24⟩]) (tot:=4) (by kernel_rfl) (by kernel_rfl) (df.cons rfl (k:=1) (by kernel_rfl) (Rd.sz (rZ (by kernel_rfl))) (df.cons rfl (k:=1) (by kernel_rfl) (Rd.sz (Rd.u64 (by kernel_rfl))) (df.cons rfl (k:=1) (by kernel_rfl) (Rd.sz (Rd.u64 (by kernel_rfl))) (df.cons rfl (k:=1) (by kernel_rfl) (Rd.sz (Rd.u64 (by kernel_rfl))) df.nil))))
abbrev FG:=n6×Nat×(List n6)×Unit
abbrev L6:FG→List DV:=(fun x=>pY x.1++(fun x=>(fun n:Nat=>[DV.u n]) x.1++(fun x=>(fun l:List n6=>[DV.ro 2 (l.map pY)]) x.1++(fun _:Unit=>([]:List DV)) x.2) x.2) x.2)
abbrev L7:FG→Prop:=(fun x=>uU x.1∧(fun x=>(fun n:Nat=>n≤18446744073709551615) x.1∧(fun x=>(fun l:List n6=>l.length≤reachBytes∧∀ x ∈ l,uU x) x.1∧(fun _:Unit=>True) x.2) x.2) x.2)
theorem Z3 {w:World}:dC Tryz.prog w reachBytes 29 L6 L7:=dC.struct (fs:=[⟨"Server",25,0,false, "", "",0⟩,⟨"Seq",23,2,false, "", "",16⟩,⟨"Peers",27,3,false, "", "",24⟩]) (tot:=4) (by kernel_rfl) (by kernel_rfl) (df.cons rfl (k:=2) (by kernel_rfl) zf (df.cons rfl (k:=1) (by kernel_rfl) (Rd.sz (Rd.u64 (by kernel_rfl))) (df.cons rfl (k:=1) (by kernel_rfl) (dC.uv (e:=25) (by kernel_rfl) (by kernel_rfl) (of_decide_eq_true (by kernel_rfl)) zf) df.nil)))
abbrev FH:=Int×n6×Int×(List uV)×(List UInt8)×FG×Unit
abbrev L8:FH→List DV:=(fun x=>(fun n:Int=>[DV.z n]) x.1++(fun x=>pY x.1++(fun x=>(fun n:Int=>[DV.z n]) x.1++(fun x=>(fun l:List uV=>[DV.ro 4 (l.map yL)]) x.1++(fun x=>(fun l:List UInt8=>[DV.ro 1 (l.map (fun b:UInt8=>[DV.v (.int .u8 (b.toNat:Int))]))]) x.1++(fun x=>L6 x.1++(fun _:Unit=>([]:List DV)) x.2) x.2) x.2) x.2) x.2) x.2)
abbrev L9:FH→Prop:=(fun x=>(fun n:Int => -9223372036854775808≤n∧n≤9223372036854775807) x.1∧(fun x=>uU x.1∧(fun x=>(fun n:Int => -9223372036854775808≤n∧n≤9223372036854775807) x.1∧(fun x=>(fun l:List uV=>l.length≤reachBytes∧∀ x ∈ l,Ly x) x.1∧(fun x=>(fun l:List UInt8=>l.length≤reachBytes∧∀ x ∈ l,(fun _:UInt8=>True) x) x.1∧(fun x=>L7 x.1∧(fun _:Unit=>True) x.2) x.2) x.2) x.2) x.2) x.2)
theorem Z4 {w:World}:dC Tryz.prog w reachBytes 31 L8 L9:=dC.struct (fs:=[⟨"Kind",3,0,false, "", "",0⟩,⟨"Src",25,1,false, "", "",8⟩,⟨"Hops",3,3,false, "", "",24⟩,⟨"Heads",26,4,false, "", "",32⟩,⟨"Body",22,5,false, "", "",56⟩,⟨"Advert",29,6,false, "", "",80⟩]) (tot:=10) (by kernel_rfl) (by kernel_rfl) (df.cons rfl (k:=1) (by kernel_rfl) (Rd.sz (rZ (by kernel_rfl))) (df.cons rfl (k:=2) (by kernel_rfl) zf (df.cons rfl (k:=1) (by kernel_rfl) (Rd.sz (rZ (by kernel_rfl))) (df.cons rfl (k:=1) (by kernel_rfl) (dC.uv (e:=410) (by kernel_rfl) (by kernel_rfl) (of_decide_eq_true (by kernel_rfl)) Y1) (df.cons rfl (k:=1) (by kernel_rfl) (dC.uv (e:=5) (by kernel_rfl) (by kernel_rfl) (of_decide_eq_true (by kernel_rfl)) (Rd.sz (Rd.byte (by kernel_rfl)))) (df.cons rfl (k:=4) (by kernel_rfl) Z3 df.nil))))))
abbrev vq:=Int×Int×(List UInt8)×(List UInt8)×FH×n6×Unit
abbrev zg:vq→List DV:=(fun x=>(fun n:Int=>[DV.z n]) x.1++(fun x=>(fun n:Int=>[DV.z n]) x.1++(fun x=>(fun l:List UInt8=>[DV.ro 1 (l.map (fun b:UInt8=>[DV.v (.int .u8 (b.toNat:Int))]))]) x.1++(fun x=>(fun l:List UInt8=>[DV.ro 1 (l.map (fun b:UInt8=>[DV.v (.int .u8 (b.toNat:Int))]))]) x.1++(fun x=>L8 x.1++(fun x=>pY x.1++(fun _:Unit=>([]:List DV)) x.2) x.2) x.2) x.2) x.2) x.2)
abbrev Ma:vq→Prop:=(fun x=>(fun n:Int => -9223372036854775808≤n∧n≤9223372036854775807) x.1∧(fun x=>(fun n:Int => -9223372036854775808≤n∧n≤9223372036854775807) x.1∧(fun x=>(fun l:List UInt8=>l.length≤reachBytes∧∀ x ∈ l,(fun _:UInt8=>True) x) x.1∧(fun x=>(fun l:List UInt8=>l.length≤reachBytes∧∀ x ∈ l,(fun _:UInt8=>True) x) x.1∧(fun x=>L9 x.1∧(fun x=>uU x.1∧(fun _:Unit=>True) x.2) x.2) x.2) x.2) x.2) x.2)
theorem Z5 {w:World}:dC Tryz.prog w reachBytes 33 zg Ma:=dC.struct (fs:=[⟨"Do",3,0,false, "", "",0⟩,⟨"From",3,1,false, "", "",8⟩,⟨"Bytes",22,2,false, "", "",16⟩,⟨"Body",22,3,false, "", "",40⟩,⟨"P",31,4,false, "", "",64⟩,⟨"Src",25,14,false, "", "",192⟩]) (tot:=16) (by kernel_rfl) (by kernel_rfl) (df.cons rfl (k:=1) (by kernel_rfl) (Rd.sz (rZ (by kernel_rfl))) (df.cons rfl (k:=1) (by kernel_rfl) (Rd.sz (rZ (by kernel_rfl))) (df.cons rfl (k:=1) (by kernel_rfl) (dC.uv (e:=5) (by kernel_rfl) (by kernel_rfl) (of_decide_eq_true (by kernel_rfl)) (Rd.sz (Rd.byte (by kernel_rfl)))) (df.cons rfl (k:=1) (by kernel_rfl) (dC.uv (e:=5) (by kernel_rfl) (by kernel_rfl) (of_decide_eq_true (by kernel_rfl)) (Rd.sz (Rd.byte (by kernel_rfl)))) (df.cons rfl (k:=10) (by kernel_rfl) Z4 (df.cons rfl (k:=2) (by kernel_rfl) zf df.nil))))))
theorem adP {w:World} {x:vq} {cs:Array Value} (h:jy w (zg x) cs.toList) (ha:x.2.2.1.length≤1048576) (hb:x.2.2.2.1.length≤1048576) (hc:x.2.2.2.2.1.2.2.2.2.1.length≤1048576):au (Gr w) [] ((L4 x.2.2.1 x.2.2.2.1 x.2.2.2.2.1.2.2.2.2.1 (x.2.2.2.2.1.2.2.2.1.map yL) (x.2.2.2.2.1.2.2.2.2.2.1.2.2.1.map pY)).headD .uk) (.agg cs):=by
 obtain ⟨l⟩:=cs
 refine .ag l h.1 fun j c y h1 h2=>?_
 match j,h1,h2 with
 | 0,h1,h2=>cases h1;exact ey rfl (.d (h.2 0 _ y rfl h2):au (Gr w) [] _ y)
 | 1,h1,h2=>cases h1;exact ey rfl (.d (h.2 1 _ y rfl h2):au (Gr w) [] _ y)
 | 2,h1,h2=>cases h1;exact .bt (h.2 2 _ y rfl h2) ha
 | 3,h1,h2=>cases h1;exact .bt (h.2 3 _ y rfl h2) hb
 | 4,h1,h2=>cases h1;exact ey rfl (.d (h.2 4 _ y rfl h2):au (Gr w) [] _ y)
 | 5,h1,h2=>cases h1;exact ey rfl (.d (h.2 5 _ y rfl h2):au (Gr w) [] _ y)
 | 6,h1,h2=>cases h1;exact ey rfl (.d (h.2 6 _ y rfl h2):au (Gr w) [] _ y)
 | 7,h1,h2=>cases h1;exact ey rfl (.d (h.2 7 _ y rfl h2):au (Gr w) [] _ y)
 | 8,h1,h2=>cases h1;exact .d (h.2 8 _ y rfl h2)
 | 9,h1,h2=>cases h1;exact .bt (h.2 9 _ y rfl h2) hc
 | 10,h1,h2=>cases h1;exact ey rfl (.d (h.2 10 _ y rfl h2):au (Gr w) [] _ y)
 | 11,h1,h2=>cases h1;exact ey rfl (.d (h.2 11 _ y rfl h2):au (Gr w) [] _ y)
 | 12,h1,h2=>cases h1;exact ey rfl (.d (h.2 12 _ y rfl h2):au (Gr w) [] _ y)
 | 13,h1,h2=>cases h1;exact .d (h.2 13 _ y rfl h2)
 | 14,h1,h2=>cases h1;exact ey rfl (.d (h.2 14 _ y rfl h2):au (Gr w) [] _ y)
 | 15,h1,h2=>cases h1;exact ey rfl (.d (h.2 15 _ y rfl h2):au (Gr w) [] _ y)
 | k+16,h1,h2=>simp at h1
theorem adQ {w:World} {x:vq} {cs:Array Value} (h:jy w (zg x) cs.toList):au (Gr w) [] ((Ed (x.2.2.1.map fun b:UInt8=>[DV.v (.int .u8 (b.toNat:Int))]) (x.2.2.2.1.map fun b:UInt8=>[DV.v (.int .u8 (b.toNat:Int))]) (x.2.2.2.2.1.2.2.2.2.1.map fun b:UInt8=>[DV.v (.int .u8 (b.toNat:Int))]) (x.2.2.2.2.1.2.2.2.1.map yL) (x.2.2.2.2.1.2.2.2.2.2.1.2.2.1.map pY)).headD .uk) (.agg cs):=by
 obtain ⟨l⟩:=cs
 refine .ag l h.1 fun j c y h1 h2=>?_
 match j,h1,h2 with
 | 0,h1,h2=>cases h1;exact ey rfl (.d (h.2 0 _ y rfl h2):au (Gr w) [] _ y)
 | 1,h1,h2=>cases h1;exact ey rfl (.d (h.2 1 _ y rfl h2):au (Gr w) [] _ y)
 | 2,h1,h2=>cases h1;exact .d (h.2 2 _ y rfl h2)
 | 3,h1,h2=>cases h1;exact .d (h.2 3 _ y rfl h2)
 | 4,h1,h2=>cases h1;exact ey rfl (.d (h.2 4 _ y rfl h2):au (Gr w) [] _ y)
 | 5,h1,h2=>cases h1;exact ey rfl (.d (h.2 5 _ y rfl h2):au (Gr w) [] _ y)
 | 6,h1,h2=>cases h1;exact ey rfl (.d (h.2 6 _ y rfl h2):au (Gr w) [] _ y)
 | 7,h1,h2=>cases h1;exact ey rfl (.d (h.2 7 _ y rfl h2):au (Gr w) [] _ y)
 | 8,h1,h2=>cases h1;exact .d (h.2 8 _ y rfl h2)
 | 9,h1,h2=>cases h1;exact .d (h.2 9 _ y rfl h2)
 | 10,h1,h2=>cases h1;exact ey rfl (.d (h.2 10 _ y rfl h2):au (Gr w) [] _ y)
 | 11,h1,h2=>cases h1;exact ey rfl (.d (h.2 11 _ y rfl h2):au (Gr w) [] _ y)
 | 12,h1,h2=>cases h1;exact ey rfl (.d (h.2 12 _ y rfl h2):au (Gr w) [] _ y)
 | 13,h1,h2=>cases h1;exact .d (h.2 13 _ y rfl h2)
 | 14,h1,h2=>cases h1;exact ey rfl (.d (h.2 14 _ y rfl h2):au (Gr w) [] _ y)
 | 15,h1,h2=>cases h1;exact ey rfl (.d (h.2 15 _ y rfl h2):au (Gr w) [] _ y)
 | k+16,h1,h2=>simp at h1
end Go.Proofs.YtkheephfkbpchaaGreatDoor
namespace Go.Proofs.YtkheephfkbpchaaGreatDoor
open Go.RowKit
open Go.Deep
theorem Cr {α β:Type} {f:α→Option β}:∀ {l:List α} {r:List β},l.mapM f=some r→∀ (j:Nat) x,l[j]?=some x→∃ y,r[j]?=some y∧f x=some y
 | [],_,_,j,x,hx=>by simp at hx
 | z::l,r,h,j,x,hx=>by
  rw [List.mapM_cons] at h
  obtain ⟨y,h1,h2⟩:=Option.bind_eq_some_iff.1 h
  obtain ⟨ys,h3,h4⟩:=Option.bind_eq_some_iff.1 h2
  obtain rfl:y::ys=r:=Option.some.inj h4
  cases j with
  | zero=>simp at hx;subst hx;exact ⟨y,rfl,h1⟩
  | succ j=>simp at hx;obtain ⟨y',h5,h6⟩:=Cr h3 j x hx;exact ⟨y',by simpa using h5,h6⟩
def nN (F:TypeId→DataW Unit→Option (List Value)) (P:Program) (tot:Nat):List (TypeId×Nat)→List (DataW Unit)→Nat→Option (List Value)
 | [],[],off=>if off=tot then some [] else none
 | q::L,d::ds,off=>if q.2=off then (F q.1 d).bind fun X=>(nN F P tot L ds (off+P.cellsOf q.1)).map fun Y=>X++Y else none
 | _,_,_=>none
def nO (P:Program):Nat→TypeId→DataW Unit→Option (List Value)
 | 0,_,_=>none
 | _+1,t,.lit l=>match P.underlying t,l with
  | some .bool,.bool b=>some [.bool b]
  | some (.int _),.int k m=>some [.int k m]
  | some .string,.string s=>some [.string ⟨s.toArray⟩]
  | _,_=>none
 | n+1,t,.agg ps=>match P.underlying t with
  | some (.struct fs)=>nN (nO P n) P (P.cellsOf t) (fs.toList.map fun f=>(f.type,f.offset)) ps 0
  | some (.array m e)=>nN (nO P n) P (P.cellsOf t) ((List.range m).map fun i=>(e,i*P.cellsOf e)) ps 0
  | _=>none
 | _+1,_,_=>none
theorem BO {F:TypeId→DataW Unit→Option (List Value)} {P:Program} {tot:Nat} {cs:List Value} (hl:cs.length=tot):∀ {L:List (TypeId×Nat)} {ds:List (DataW Unit)} {off:Nat} {X:List Value},(∀ (j:Nat) q d,L[j]?=some q→ds[j]?=some d→∀ X,F q.1 d=some X→(cs.drop q.2).take (P.cellsOf q.1)=X)→nN F P tot L ds off=some X→cs.drop off=X
 | [],[],off,X,_,h=>by
  unfold nN at h
  split at h
  ·simp at h;subst h;rename_i e;exact List.drop_of_length_le (by omega)
  ·simp at h
 | q::L,d::ds,off,X,hq,h=>by
  unfold nN at h
  split at h
  ·rename_i e
   obtain ⟨X0,h0,h1⟩:=Option.bind_eq_some_iff.1 h
   obtain ⟨Y,h2,rfl⟩:=Option.map_eq_some_iff.1 h1
   have a:=hq 0 q d rfl rfl X0 h0
   have b:=BO hl (fun j q' d' g1 g2=>hq (j+1) q' d' (by simpa using g1) (by simpa using g2)) h2
   rw [e] at a
   rw [← a,← b,← List.drop_drop,List.take_append_drop]
  ·simp at h
 | [],_::_,_,_,_,h=>by simp [nN] at h
 | _::_,[],_,_,_,h=>by simp [nN] at h
theorem WD {P:Program} {w:World} {enc:TypeId×Value→Unit} {base:Nat} {sp:Nat→Bool} {held:Bool}:∀ {n fuel:Nat} {t:TypeId} {cs:List Value} {d:DataW Unit} {p:List MemPlace} {X:List Value},DataW.trod enc P w base sp held fuel t cs=some (d,p)→nO P n t d=some X→cs=X:=by
 intro n
 induction n with
 | zero=>intro fuel t cs d p X _ h;simp [nO] at h
 | succ n ih=>
  intro fuel t cs d p X h hf
  cases fuel with
  | zero=>simp [DataW.trod] at h
  | succ fuel=>
   cases d with
   | lit l=>
    unfold nO at hf
    split at hf
    ·rename_i ht
     rw [DataW.trod_step] at h;unfold DataW.trodStep at h;simp only [ht] at h
     split at h<;>simp_all
    ·rename_i ht
     rw [DataW.trod_step] at h;unfold DataW.trodStep at h;simp only [ht] at h
     split at h<;>simp_all
    ·rename_i ht
     rw [DataW.trod_step] at h;unfold DataW.trodStep at h;simp only [ht] at h
     split at h<;>try simp_all
     rename_i s _ _ _ _
     obtain ⟨-,rfl,-⟩:=h
     subst hf
     simp
    ·simp at hf
   | agg ps=>
    unfold nO at hf
    split at hf
    ·rename_i fs ht
     rw [DataW.trod_step] at h;unfold DataW.trodStep at h;simp only [ht] at h
     split at h
     ·rename_i hlen
      obtain ⟨xs,h1,h2⟩:=Option.map_eq_some_iff.1 h
      simp only [Prod.mk.injEq,DataW.agg.injEq] at h2
      obtain ⟨rfl,-⟩:=h2
      have:=BO hlen (fun j q d g1 g2 Y gY=>?_) hf
      ·simpa using this
      ·rw [List.getElem?_map] at g1 g2
       obtain ⟨f,g3,rfl⟩:=Option.map_eq_some_iff.1 g1
       obtain ⟨y,g4,rfl⟩:=Option.map_eq_some_iff.1 g2
       obtain ⟨y',g5,g6⟩:=Cr h1 j f g3
       obtain rfl:y'=y:=Option.some.inj (g5.symm.trans g4)
       exact ih (d:=y'.1) (p:=y'.2) g6 gY
     ·simp at h
    ·rename_i m e ht
     rw [DataW.trod_step] at h;unfold DataW.trodStep at h;simp only [ht] at h
     split at h
     ·rename_i hlen
      obtain ⟨xs,h1,h2⟩:=Option.map_eq_some_iff.1 h
      simp only [Prod.mk.injEq,DataW.agg.injEq] at h2
      obtain ⟨rfl,-⟩:=h2
      have:=BO hlen (fun j q d g1 g2 Y gY=>?_) hf
      ·simpa using this
      ·rw [List.getElem?_map] at g1 g2
       obtain ⟨f,g3,rfl⟩:=Option.map_eq_some_iff.1 g1
       obtain ⟨y,g4,rfl⟩:=Option.map_eq_some_iff.1 g2
       obtain ⟨y',g5,g6⟩:=Cr h1 j f g3
       obtain rfl:y'=y:=Option.some.inj (g5.symm.trans g4)
       exact ih (d:=y'.1) (p:=y'.2) g6 gY
     ·simp at h
    ·simp at hf
   | _=>simp [nO] at hf
theorem HB {P:Program} {w:World}:∀ {l:List (String×DataW Unit)} {ps:List MemPlace},DataW.LaidVars P w l ps→∀ {n:String} {d:DataW Unit},(n,d) ∈ l→∃ g t cs fuel p,P.globalNamed n=some g∧(P.globals[g]?).map (·.type)=some t∧w.var? P n=some cs∧DataW.trod (fun _=>()) P w 0 (fun _=>true) false fuel t cs.toList=some (d,p)
 | [],_,_,_,_,hm=>by simp at hm
 | (n0,d0)::r,ps,h,n,d,hm=>by
  obtain ⟨g,t,cs,fuel,p,q,e1,e2,e3,e4,hr,rfl⟩:=h
  rcases List.mem_cons.1 hm with e | hm
  ·obtain ⟨rfl,rfl⟩:=Prod.mk.inj e;exact ⟨g,t,cs,fuel,p,e1,e2,e3,e4⟩
  ·exact HB hr hm
def FI:DV→Value
 | .v x=>x
 | _=>.bool false
def PE:DV→Bool
 | .v _=>true
 | _=>false
theorem XF {P:Program} {w:World} {laid:List (String×DataW Unit)} (h:laidMet P laid w) {n:String} {d:DataW Unit} (hm:(n,d) ∈ laid) {g t:Nat} (k:Nat) {row:List DV} (hg:P.globalNamed n=some g) (ht:(P.globals[g]?).map (·.type)=some t) (hf:nO P k t d=some (row.map FI)) (hv:row.all PE=true) {u:Nat}:bf (Gr w) [] u (.gw g row) []:=by
 obtain ⟨ps,hl,-⟩:=h
 obtain ⟨g',t',cs,fuel,p,e1,e2,e3,e4⟩:=HB hl hm
 obtain rfl:g=g':=Option.some.inj (hg.symm.trans e1)
 obtain rfl:t=t':=Option.some.inj (ht.symm.trans e2)
 have hX:=WD e4 hf
 refine .gw (row.map FI) (by simp) (fun w' hw j x hx=>hw.LJ ?_) fun j c x hc hx=>?_
 ·unfold World.var? at e3
  rw [hg,Option.bind_some] at e3
  split at e3
  ·rename_i bD t' fr hh
   obtain rfl:=Option.some.inj e3
   rw [← hX] at hx
   have h0:((⟨g,0,none⟩:Addr).add j)=⟨g,j,none⟩:=by simp [Addr.add];omega
   rw [h0]
   simp only [World.cell?,hh]
   simpa using hx
  ·simp at e3
 ·have hb:=List.all_eq_true.1 hv c (List.mem_of_getElem? hc)
  rw [List.getElem?_map,hc] at hx
  cases c<;>simp [PE] at hb
  simp [FI] at hx
  subst hx
  exact .v _
theorem Z6:Tryz.prog.globalNamed "caucus/sum.half"=some 0:=by kernel_rfl
theorem Z7 {w:World} {laid:List (String×DataW Unit)} (h:laidMet Tryz.prog laid w) (h0:("caucus/sum.half",Rows.laid_caucus_sum_half) ∈ laid):kM [.gw 0 bp] (Gr w):=fun u blk hu=>by
 match u,hu with
 | 0,hu=>cases hu;exact XF h h0 (t:=516) 5 Z6 (by kernel_rfl) (by kernel_rfl) (by kernel_rfl)
 | k+1,hu=>simp at hu
end Go.Proofs.YtkheephfkbpchaaGreatDoor
namespace Go.Proofs.YtkheephfkbpchaaGreatDoor
open Go.RowKit
def qR (L:Nat→List Nat):Nat→List Nat→Nat→List Nat
 | 0,_,_=>[]
 | _+1,[],_=>[]
 | n+1,f::todo,s=>bif Nat.testBit s f then qR L n todo s else f::qR L n (L f++todo) (s ||| 2 ^ f)
theorem AT {P:Program} {L:Nat→List Nat} (hL:∀ f,(P.funcs[f]?).elim [] P.leadsTo=L f):∀ (n:Nat) (todo seen:List Nat) (s:Nat),(∀ g,seen.contains g=Nat.testBit s g)→P.closureVia n todo seen=seen.reverse++qR L n todo s
 | 0,todo,seen,s,_=>by simp [Program.closureVia,qR]
 | n+1,[],seen,s,_=>by simp [Program.closureVia,qR]
 | n+1,f::todo,seen,s,h=>by
  unfold Program.closureVia qR
  rw [h f]
  cases hc:Nat.testBit s f with
  | true=>simp only [if_true,cond_true];exact AT hL n todo seen s h
  | false=>
   simp only [Bool.false_eq_true,if_false,cond_false]
   rw [hL f,AT hL n (L f++todo) (f::seen) (s ||| 2 ^ f) (fun g=>by
    rw [List.contains_cons,h g,Nat.testBit_or,Nat.testBit_two_pow]
    cases hg:(g==f) with
    | true=>have:=beq_iff_eq.1 hg;subst this;simp
    | false=>
     have:f≠g:=fun e=>by subst e;simp at hg
     simp [this])]
   simp
theorem Uj {P:Program} {L:Nat→List Nat} (hL:∀ f,(P.funcs[f]?).elim [] P.leadsTo=L f) (f:Nat):P.closure f=qR L (1+((List.range P.funcs.size).map fun i=>(L i).length+1).sum) [f] 0:=by
 have e:(P.funcs.toList.map fun g=>(P.leadsTo g).length+1)=(List.range P.funcs.size).map fun i=>(L i).length+1:=by
  apply List.ext_getElem?
  intro i
  rw [List.getElem?_map,List.getElem?_map,Array.getElem?_toList]
  rcases Nat.lt_or_ge i P.funcs.size with hi | hi
  ·have:=hL i
   rw [Array.getElem?_eq_getElem hi] at this ⊢
   rw [List.getElem?_range hi]
   simp only [Option.elim_some] at this
   simp [this]
  ·rw [Array.getElem?_eq_none hi,List.getElem?_eq_none (by simp;omega)];rfl
 unfold Program.closure
 rw [e,AT hL _ _ _ 0 (fun g=>by simp)]
 simp
def lq:List Nat→List Nat→Bool
 | [],[]=>true
 | a::r,b::s=>a.beq b&&lq r s
 | _,_=>false
theorem Mb:∀ {a b:List Nat},lq a b=true→a=b
 | [],[],_=>rfl
 | a::r,b::s,h=>by simp only [lq,Bool.and_eq_true] at h;rw [Nat.eq_of_beq_eq_true h.1,Mb h.2]
 | [],_::_,h=>by simp [lq] at h
 | _::_,[],h=>by simp [lq] at h
def zh (t:List (List (List Nat))) (f:Nat):List Nat:=(t.getD (f / 32) []).getD (f%32) []
def fM (P:Program) (t:List (List (List Nat))) (c:Nat):Bool:=(List.range 32).all fun i=>lq ((P.funcs[32*c+i]?).elim [] P.leadsTo) (zh t (32*c+i))
theorem WE {P:Program} {t:List (List (List Nat))} {C:Nat} (hs:Nat.ble P.funcs.size (32*C)=true) (hc:t.length.beq C=true) (h:∀ c,c<C→fM P t c=true):∀ f,(P.funcs[f]?).elim [] P.leadsTo=zh t f:=by
 intro f
 rcases Nat.lt_or_ge (f / 32) C with hf | hf
 ·have h1:=List.all_eq_true.1 (h _ hf) (f%32) (by simp;omega)
  have e:32*(f / 32)+f%32=f:=by omega
  rw [e] at h1
  exact Mb h1
 ·have h1:=Nat.le_of_ble_eq_true hs
  have h2:=Nat.eq_of_beq_eq_true hc
  rw [Array.getElem?_eq_none (by omega)]
  unfold zh
  rw [List.getD_eq_getElem?_getD,List.getD_eq_getElem?_getD,List.getElem?_eq_none (by omega:t.length≤f / 32)]
  rfl
end Go.Proofs.YtkheephfkbpchaaGreatDoor
namespace Go.Proofs.YtkheephfkbpchaaGreatDoor
open Go.RowKit
def Y2:List (List Nat):=[[],[],[1],[6,7,8,9,10,11,12,13,14,15,16,17,7],[18,19,20,21,22,23,24,25],[26,27,28,29],[],[31,30,31,32,31,30,10,10,16,16,15,15],[33,34,35],[33,36,35],[33,37,39,38],[33,37,38],[40,41],[],[],[37,42,43,45,44],[37,46,44,48,47,50,49,52,51,39,38,54,53],[55],[56,57,9,10,11],[58,59,60,61,60],[62],[62],[20],[],[63],[65,64,18,19,20,21],[23,66,67,23,68,22,14,66],[23,26],[23,24,69,73,74,73,74],[64,18,18,27,28,22,14],[75,76,76,77,79,78,81,80],[]]
def Y3:List (List Nat):=[[75,76,82,83,80],[],[84,59,85,86,87,89,88,90],[37,53],[84,85,91,92],[],[93,94,83,95],[],[96],[],[],[97,98,99,100,101,102,103],[104,105,106,49,107,49,108,109,49],[96,103,110,111,112,113,114,115,59,116,117,112],[96,118,110,111,112,118,116,117],[119,49,120,121],[122,123],[42,124,125,44,126,47,78,51,127,51],[128,129,130,131],[133,132,95],[134,135,136,137,138,139,140,142,141,143],[93,144,145,146,147,95],[84,87,148,149,88],[150,151],[152,153,154,155,156,157,158,159,160,161],[8],[],[],[],[],[],[162,163]]
def Y4:List (List Nat):=[[164,63,162,165,166],[],[18],[23,167,23,168,66],[],[20,71,70,71,71,23,72,20,23,72,71],[169],[21],[170],[172,171],[173,174,175],[177,178,163],[120],[42],[134,179,136,143],[163,180],[181,182],[183],[185,184],[],[186,60,89,187,188,187,186,89],[],[189],[60,191,190],[],[192,61],[193,85],[148,89,88,194,90],[195,196,197,148,90,188,85,184,198,199,86,90],[83,200,132],[201,202,203,204,205,206,205,205,206,207,208],[122,77,209,47]]
def Y5:List (List Nat):=[[],[210],[59],[211],[212,213],[212,213,213],[214,215,216],[217,217],[103,202,203,203,203,206,218,208,219],[],[128,220,221,222,129,223,224,225],[128,221,222,225],[98,99,226,100,227,226,99,228,101,102,229],[128,229,230,129,223,221,231,130,232,225],[233],[],[],[],[235,236,237,237],[],[235,236,237,238],[112],[],[128,229,230],[],[76,239,169,240,51,241,242,53,243,83,244,53,245,53],[181],[116,246],[229,202,203,247,208],[96,248,113,59,117],[229,249,250],[134,251,136,143]]
def Y6:List (List Nat):=[[],[223],[239,223],[232],[77,252],[255,139,254,253],[163,256],[258,257],[260,259],[261],[255,262,263],[266,265,267,264],[266,268],[94,263],[140,137,269,270,271],[],[],[272,203,205,273,203,218,274,275,203,208],[145,276],[],[277,278],[279,280],[151],[],[62,20,20,22,16,281],[282,20,22,15,281],[282],[284,283],[285,283],[170,286],[170,286],[62,287]]
def Y7:List (List Nat):=[[62,20,166],[287,20,22,281],[],[],[288],[286],[287,32,289,30],[162],[],[269],[286],[290,291,292,293,294,295,296,297,171,171],[298,299],[],[300,300],[176],[301,301],[302,303,163,223],[303],[],[],[172,304],[303],[],[60,61],[],[188,61,305,306,192],[307,89],[60,61],[277,308,310,309,59,311],[312],[]]
def Y8:List (List Nat):=[[59],[277,278,313],[],[314,315],[316,314],[196,315],[317,318,319,320,322,323],[176,74],[324],[325,303,326,303,326,327,253,328],[],[329],[203,205],[203,274],[274],[273,203,205,206],[59],[330,77,248,246],[],[213],[],[],[],[],[],[],[274],[210],[129,223],[128,129,331],[129,223,224],[]]
def Y9:List (List Nat):=[[130,333,332,131,232],[221,179],[99,100,216,303,215],[99,226],[99,99,100,100,100],[334,335,336],[337,339,338,337],[340,341,342,340],[60],[234],[96],[],[],[59],[59],[128,343],[134,243,77,344,143,345,346,259,143],[98,99,226,347,99,101,100,99,99,99,215,102,272],[84,272,348,198,92,349],[98,99,350,351,352,353,355,357,102,201],[84,358,60,85,91],[84,279,328,199,188,92],[359,59],[360,361,362,363],[235,237,59],[115,59],[330,252,114,123],[364,257],[],[181,366,365],[200,343],[367]]
def Za:List (List Nat):=[[60,368,60,369,60,60,61,60,61],[266,267,264],[],[141,138],[370,371,70,372,373,60,374,375,70,376,377,373],[60,60,61],[378,202,203,205,274,203,205,206,208],[],[],[],[372,368],[],[],[],[60],[379],[303,380,381,381],[274,205],[329,329],[203,203],[],[382,184,59],[383,309],[308],[323],[385],[386,283],[170],[59],[],[],[62]]
def Zb:List (List Nat):=[[],[181],[],[388,388],[389,390],[391,391,391,392],[],[],[],[],[],[],[],[],[],[],[393,394,395,396,397,398,399,400,401,304,304],[],[],[],[269],[402],[],[403,404],[],[59],[405],[279,280],[406],[272,70],[],[172,407]]
def XG:List (List Nat):=[[74,176,174,321],[],[],[59,61],[],[408,409,410],[303],[303,74],[380,185,325,327,253,412],[],[],[303,340,413,343],[],[],[414,415,327,414,253],[416,415],[416,415,415],[59],[359,418,417],[129,223,223,419],[341,342,60],[229],[],[60,73,74,421,420],[422,136,423,136],[98,99,226,100,354,354,100,102,378],[370,378,373,373,424,70,376,377,373],[100,226,216,380,215],[199,86,194,90,92,425,426,89],[70,427,70,427,89,88],[226],[100]]
def XH:List (List Nat):=[[100],[354],[99,216,215,226,216,327,215],[356],[347,354,100,216,328,215],[],[327,70,253],[],[],[205,274,429,428],[430,432,431,218],[430,433,431],[],[],[],[434],[],[],[60,374,60,369,261,379],[327,253],[303],[],[368],[266,265,267],[435,436,424,270,437,261],[438,367,376,439,379,139,271,437],[440,70,440,412],[60,61],[303],[441],[328,278],[384]]
def XI:List (List Nat):=[[],[170,59],[387],[],[],[172],[],[392],[442,442,442],[399],[443,443],[389,390],[444,444,444,445],[],[399,399,399],[300,300],[399,399],[399,399,399,399],[],[],[446],[434],[315],[447,448,449,450,451,452,453,454,407,407],[],[179],[411],[],[455],[456],[457],[]]
def XJ:List (List Nat):=[[457,415],[458,181],[459],[340,413,456],[],[],[460,257],[266,303,268,461,265,462,463],[465,464,261,466,467],[],[468],[469,88],[203],[205],[205,203],[203],[203,206],[203,206],[343,343,470,74],[266,265,471],[139,70,254],[],[473,472,474],[474,475,253,343],[327,253],[],[],[399,399],[445],[476,476,476],[477,477,477],[]]
def XK:List (List Nat):=[[478,478],[389,390],[479,479,479,480],[],[],[],[],[],[481],[303,415],[483],[],[],[],[484,485,486],[],[472],[],[487],[74],[],[277,278,313],[],[],[],[],[378,179,343,179],[],[399],[],[],[480]]
def XL:List (List Nat):=[[488,488,488],[482,482,70],[],[],[489],[172,490],[74],[491,491,492,492],[],[],[493,494,495,496,497,498,499,500,490,490],[],[501,492,492],[],[502,502],[389,390],[503,503,503,504],[],[],[],[],[505,505,505],[],[504],[506,506,506],[],[],[],[],[],[],[]]
def XM:List (List Nat):=[[],[],[],[],[],[],[],[],[],[],[],[],[],[],[],[],[],[],[],[],[],[],[],[],[],[],[],[],[],[],[],[]]
def fN:List (List (List Nat)):=[Y2,Y3,Y4,Y5,Y6,Y7,Y8,Y9,Za,Zb,XG,XH,XI,XJ,XK,XL,XM]
theorem qs:fM Tryz.prog fN 0=true:=by kernel_rfl
theorem ck1:fM Tryz.prog fN 1=true:=by kernel_rfl
theorem ck2:fM Tryz.prog fN 2=true:=by kernel_rfl
theorem ck3:fM Tryz.prog fN 3=true:=by kernel_rfl
theorem ck4:fM Tryz.prog fN 4=true:=by kernel_rfl
theorem ck5:fM Tryz.prog fN 5=true:=by kernel_rfl
theorem ck6:fM Tryz.prog fN 6=true:=by kernel_rfl
theorem ck7:fM Tryz.prog fN 7=true:=by kernel_rfl
theorem ck8:fM Tryz.prog fN 8=true:=by kernel_rfl
theorem ck9:fM Tryz.prog fN 9=true:=by kernel_rfl
theorem adR:fM Tryz.prog fN 10=true:=by kernel_rfl
theorem adS:fM Tryz.prog fN 11=true:=by kernel_rfl
theorem adT:fM Tryz.prog fN 12=true:=by kernel_rfl
theorem adU:fM Tryz.prog fN 13=true:=by kernel_rfl
theorem adV:fM Tryz.prog fN 14=true:=by kernel_rfl
theorem adW:fM Tryz.prog fN 15=true:=by kernel_rfl
theorem adX:fM Tryz.prog fN 16=true:=by kernel_rfl
theorem Zc:∀ f,(Tryz.prog.funcs[f]?).elim [] Tryz.prog.leadsTo=zh fN f:=WE (C:=17) (by kernel_rfl) (by kernel_rfl) fun c hc=>match c,hc with
 | 0,_=>qs
 | 1,_=>ck1
 | 2,_=>ck2
 | 3,_=>ck3
 | 4,_=>ck4
 | 5,_=>ck5
 | 6,_=>ck6
 | 7,_=>ck7
 | 8,_=>ck8
 | 9,_=>ck9
 | 10,_=>adR
 | 11,_=>adS
 | 12,_=>adT
 | 13,_=>adU
 | 14,_=>adV
 | 15,_=>adW
 | 16,_=>adX
 | n+17,h=>absurd h (by omega)
def Zd:List Nat:=[3,6,7,31,30,75,177,302,303,163,223,178,76,120,77,42,79,180,78,134,256,60,368,369,61,179,136,260,370,374,261,379,371,327,74,173,174,300,175,176,301,253,181,172,298,299,304,393,399,394,443,395,389,390,396,444,445,476,397,398,400,401,366,365,70,169,269,372,373,375,266,265,267,376,435,471,436,139,264,254,200,324,343,73,171,290,291,388,292,293,391,392,442,294,295,296,297,421,420,424,465,464,472,466,487,491,492,501,505,467,270,437,377,438,473,474,378,440,412,455,367,434,470,439,475,271,259,141,94,201,325,408,409,410,411,326,328,380,185,202,203,329,204,205,274,206,207,273,208,59,263,138,255,262,143,81,183,80,182,32,82,184,83,10,33,37,39,38,93,132,252,95,122,209,330,248,235,237,246,359,47,119,128,229,334,414,457,415,335,416,336,230,337,339,129,419,340,341,342,413,456,481,482,338,418,459,417,458,483,49,124,247,360,361,429,428,362,430,432,431,218,363,433,125,96,113,117,112,44,104,103,217,219,210,105,106,220,221,331,222,224,130,239,333,332,131,232,225,107,108,98,99,211,213,226,100,212,216,215,227,228,101,102,214,109,231,126,249,115,250,114,236,123,116,238,51,133,127,251,364,257,121,240,243,350,351,352,353,354,355,356,347,357,344,422,460,423,268,461,462,484,489,485,490,493,494,502,495,496,503,504,506,497,498,499,500,486,463,345,346,241,272,381,441,242,84,186,188,305,306,192,89,187,307,348,199,86,189,277,382,278,383,384,309,402,308,310,311,403,404,446,477,194,90,193,313,85,92,195,314,405,315,279,280,323,196,316,406,197,148,198,317,318,319,407,447,448,478,449,450,479,480,488,451,452,453,454,320,321,322,425,426,468,349,427,469,88,53,144,145,275,146,276,147,244,358,91,245,16,46,118,110,233,234,111,48,50,52,135,258,137,140,142,54,87,191,190,312,149,15,43,97,45,8,34,35,9,36,11,12,40,41,13,14,17,55,150,151]
theorem BP:Tryz.prog.closure 3=Zd:=by
 rw [Uj Zc]
 kernel_rfl
end Go.Proofs.YtkheephfkbpchaaGreatDoor
