/-
  overlayTwice_holds, part 4 of 7: merged by program from the texts that it needs.
-/
import Derived.Test.YtlinpknagdgphaaGreatOtA
import Derived.Test.YtlinpknagdgphaaGreatOtB
import Derived.Test.YtlinpknagdgphaaGreatOtC
set_option linter.unusedSimpArgs false
set_option linter.unusedVariables false
set_option linter.unnecessarySimpa false
namespace Go.Proofs.YtlinpknagdgphaaGreat
open Go.RowKit
variable {mk:Bool} {P:Program} {T:aW} {f:FuncId} {R:eT} {a:Act} {w:World} {D:List Nat} {w0:World} {K0:World→Prop} {E:List (Nat×AV)} {M:List au} {β:Beta} {F:Nat→aA} {I:aA} {sz:Nat} {todo todo':List Item} {b:dH}
def jm (P:Program) (f:FuncId) (args:List AV) (M:List au) {ι:Type} (Q:ι→Prop) (x:ι→AV) (M':ι→List au):Prop:=
 fR P f=true∧∀ {D:List Nat} {w0:World} {K0:World→Prop} {β:Beta} {F:Nat→aA} {I:aA} {w:World} (ys:List Value),RM D w0 K0 M β F I w→(∀ w,Kp D w0 w→K0 w)→ys.length=args.length→(∀ (j:Nat) c y,args[j]?=some c→ys[j]?=some y→aE (fun w=>K0 w∧az w I) β c y)→
  Calls P f ys.toArray w fun e w'=>∃ i0,Q i0∧∃ v,e=.returned v∧∃ aF F' I',RM D w0 K0 (M' i0) aF F' I' w'∧Ext β aF∧bL I I'∧aE (fun w=>K0 w∧az w I') aF (x i0) v
abbrev BS (D:List Nat) (w0:World) (K0:World→Prop) (b:dH) {ι:Type} (Q:ι→Prop) (x:ι→AV) (M':ι→List au):eT:=.ends fun e w'=>∃ i0,Q i0∧Bd D w0 K0 b (x i0) (M' i0) e w'
theorem aN.ends {A B:Ending→World→Prop} (h:∀ e w,A e w→B e w) (g:aN P f todo (.ends A) a w):aN P f todo (.ends B) a w:=fun b cs hb hk hr=>
 let ⟨e,w',fr,h1,h2⟩:=g b cs hb hk hr;⟨e,w',fr,h e w' h1,h2⟩
theorem aN.one {ι:Type} {Q:ι→Prop} {x:ι→AV} {M':ι→List au} (i:ι) (hi:Q i) (g:aN P f todo (qY D w0 K0 b (x i) (M' i)) a w):aN P f todo (BS D w0 K0 b Q x M') a w:=g.ends fun _ _ h=>⟨i,hi,h⟩
theorem Jy {ι:Type} {Q:ι→Prop} (R:RM D w0 K0 M β F I w) (hK:∀ w,Kp D w0 w→K0 w) {f:FuncId} {vs:List AV} {ys:List Value} {l:List Nat} {told:List AV} {Ms:List au} {M':ι→List au} {x:ι→AV} (du:ys.length=vs.length)
  (e1:told.length=vs.length) (e2:∀ (j:Nat) c y,told[j]?=some c→ys[j]?=some y→aE (fun w=>K0 w∧az w I) (eM β l) c y) (m1:Ms.length=l.length) (m2:∀ (i:Nat) b,Ms[i]?=some b→∃ u b0,l[i]?=some u∧M[u]?=some b0∧bK (fun w=>K0 w∧az w I) (eM β l) i b (F u)) (de:l.Nodup) (hle:∀ i,Q i→l.length≤(M' i).length) (dZ:jm P f told Ms Q x M'):
  Calls P f ys.toArray w fun e w'=>∃ i0,Q i0∧∃ v,e=.returned v∧∃ aF F' I',RM D w0 K0 (eE (ei M l++((M' i0).drop l.length).map (cM (outer l M.length))) l (((M' i0).take l.length).map (cM (outer l M.length)))) aF F' I' w'∧fq [] β aF∧bL I I'∧(∀ u,u<M.length→u ∉ l→F' u=F u)∧aE (fun w=>K0 w∧az w I') aF (mapA (outer l M.length) (x i0)) v:=by
 have aK:∀ u ∈ l,u<M.length:=by
  intro u hu
  obtain ⟨i,hi,rfl⟩:=List.getElem_of_mem hu
  obtain ⟨u',b0,g1,g2,-⟩:=m2 i Ms[i] (List.getElem?_eq_getElem (by omega))
  rw [List.getElem?_eq_getElem hi,Option.some.injEq] at g1
  rw [g1];exact eB g2
 obtain ⟨F0,R0,Co,iV⟩:=xV de aK R.x
 rw [List.nil_append] at R0
 have px:=uQ l M
 have Cp:=r9 F l
 have jv:St D w0 w (l.flatMap F++((List.range (ei M l).length).flatMap F0++I)):=R0.st.perm (by classical rw [List.perm_iff_count];intro z;simp only [List.count_append];omega)
 have py:∀ w',Kp (keys (l.flatMap F)) w w'→K0 w'∧az w' I:=fun w' k=>by
  have t:St (keys (l.flatMap F)) w w' []:=⟨k,by simp [keys],by simp [keys],az.nil _⟩
  have s':=St.call jv rfl t
  rw [List.nil_append] at s'
  exact ⟨hK _ s'.kp,(az.app.1 s'.holds).2⟩
 have tG:RM (keys (l.flatMap F)) w (fun w=>K0 w∧az w I) Ms (eM β l) (mA F l) [] w:=by
  refine ⟨by rw [uC,m1],fun i b hb=>?_,?_⟩
  ·obtain ⟨u,b0,g1,g2,g3⟩:=m2 i b hb
   rw [vg g1]
   exact g3.mono (fun w hw=>hw.1) (Ext.refl _)
  ·rw [m1,Cp,List.append_nil]
   exact St.start jv.oA.nd jv.oA.holds
 refine (dZ.2 _ tG py (by omega) (fun j c y h1 h2=>(e2 j c y h1 h2).mono (fun w hw=>hw.1) (Ext.refl _))).mono ?_
 rintro e w' ⟨i0,cI,v,rfl,aF,F',I',R',hE,-,hr⟩
 refine ⟨i0,cI,v,rfl,?_⟩
 have hle:=hle i0 cI
 have s2:=St.call jv rfl R'.st
 have Sy:l.length≤aF.length:=by rw [R'.len];exact hle
 have pK:∀ (i:Nat) q,aF[i]?=some q→(β++aF.drop l.length)[outer l M.length i]?=some q:=by
  intro i q hq
  unfold outer
  rcases Nat.lt_or_ge i l.length with hi | hi
  ·have tH:l[i]?=some l[i]:=List.getElem?_eq_getElem hi
   rw [tH]
   have hu:=aK l[i] (List.getElem_mem hi)
   have tF:l[i]<β.length:=by rw [R.len];exact hu
   obtain ⟨q',tI⟩:∃ q',β[l[i]]?=some q':=⟨_,List.getElem?_eq_getElem tF⟩
   have:=hE i _ (fy tH tI)
   rw [hq,Option.some.injEq] at this
   rw [List.getElem?_append_left (by rw [R.len];exact hu),tI,this]
  ·rw [List.getElem?_eq_none hi]
   dsimp only
   rw [List.getElem?_append_right (by rw [R.len];omega),R.len,Nat.add_sub_cancel_left,List.getElem?_drop,show l.length+(i-l.length)=i by omega];exact hq
 have b9:∀ w,K0 w∧az w (I'++I)→(K0 w∧az w I)∧az w I':=fun w hw=>⟨⟨hw.1,(az.app.1 hw.2).2⟩,(az.app.1 hw.2).1⟩
 have zS:(List.range (M' i0).length).flatMap F'=(List.range l.length).flatMap F'++(List.range (((M' i0).drop l.length).map (cM (outer l M.length))).length).flatMap fun i=>F' (l.length+i):=by
  rw [List.length_map,List.length_drop]
  conv=>lhs;rw [show (M' i0).length=l.length+((M' i0).length-l.length) by omega,List.range_add,List.flatMap_append,List.flatMap_map]
 have R2:bR D w0 K0 (ei M l) β F0 (I'++I) ((List.range (((M' i0).drop l.length).map (cM (outer l M.length))).length).flatMap (fun i=>F' (l.length+i))++(List.range l.length).flatMap F') w':=by
  refine ⟨R0.len,fun u b hb=>(R0.blk u b hb).mono (fun w hw=>(b9 w hw).1) (Ext.refl _),?_⟩
  rw [zS] at s2
  exact s2.perm (by classical rw [List.perm_iff_count];intro z;simp only [List.count_append];omega)
 obtain ⟨F2,R3,fP⟩:=yu (γ:=aF.drop l.length) (by rw [List.length_drop,R'.len,List.length_map,List.length_drop]) R2 (fun i b hb=>by
  rw [List.getElem?_map,Option.map_eq_some_iff] at hb
  obtain ⟨b0,hb,rfl⟩:=hb
  rw [List.getElem?_drop] at hb
  have:=(vu pK (R'.blk _ b0 hb)).mono b9 (Ext.refl _)
  have ho:outer l M.length (l.length+i)=M.length+i:=by unfold outer;rw [List.getElem?_eq_none (by omega)];dsimp only;omega
  rw [ho] at this
  rw [px];exact this)
 have Cq:=R3.perm (Y:=(List.range l.length).flatMap F'++[]) (by rw [List.append_nil])
 obtain ⟨F3,R4,Cr⟩:=yt (bs:=((M' i0).take l.length).map (cM (outer l M.length))) de (by simp;omega) (fun u hu=>by have:=aK u hu;rw [List.length_append];omega) (fun u hu=>by rw [fP u (by rw [px];exact aK u hu)];exact Co u hu) Cq (fun i u b h1 h2=>by
  rw [List.getElem?_map,Option.map_eq_some_iff] at h2
  obtain ⟨b0,h2,rfl⟩:=h2
  rw [List.getElem?_take] at h2
  split at h2
  ·have:=(vu pK (R'.blk i b0 h2)).mono b9 (Ext.refl _)
   have ho:outer l M.length i=u:=by unfold outer;rw [h1]
   rw [ho] at this;exact this
  ·simp at h2)
 refine ⟨_,F3,I'++I,R4.nil rfl,(Ext.app _ _).b _,⟨I',rfl⟩,fun u hu tJ=>?_,(qg pK hr).mono b9 (Ext.refl _)⟩
 rw [Cr u tJ,fP u (by rw [px];exact hu),iV u tJ]
theorem Dz {ι:Type} {Q:ι→Prop} (R:RM D w0 K0 M β F I w) (hK:∀ w,Kp D w0 w→K0 w) {f:FuncId} {vs:List AV} {ys:List Value} {l:List Nat} {told:List AV} {Ms:List au} {M':ι→List au} {x:ι→AV} (du:ys.length=vs.length) (kU:∀ (j:Nat) c y,vs[j]?=some c→ys[j]?=some y→aE (fun w=>K0 w∧az w I) β c y)
  (gU:iP l vs=some told) (gD:eP l M l=some Ms) (de:l.Nodup) (hle:∀ i,Q i→l.length≤(M' i).length) (dZ:jm P f told Ms Q x M'):
  Calls P f ys.toArray w fun e w'=>∃ i0,Q i0∧∃ v,e=.returned v∧∃ aF F' I',RM D w0 K0 (eE (ei M l++((M' i0).drop l.length).map (cM (outer l M.length))) l (((M' i0).take l.length).map (cM (outer l M.length)))) aF F' I' w'∧fq [] β aF∧bL I I'∧(∀ u,u<M.length→u ∉ l→F' u=F u)∧aE (fun w=>K0 w∧az w I') aF (mapA (outer l M.length) (x i0)) v:=by
 obtain ⟨e1,e2⟩:=oD (β:=β) (K:=fun w=>K0 w∧az w I) gU
 obtain ⟨m1,m2⟩:=qf gD
 refine Jy R hK du e1 (e2 kU) m1 (fun i b hb=>?_) de hle dZ
 obtain ⟨u,b0,g1,g2,g3⟩:=m2 i b hb
 exact ⟨u,b0,g1,g2,vt g1 g3 (R.blk u b0 g2)⟩
theorem jm.intro {ι:Type} {Q:ι→Prop} {fn:Func} {c:Code} {args:List AV} {x:ι→AV} {M':ι→List au} (iQ:fR P f=true) (hf:P.funcs[f]?=some fn) (hb:fn.body=some c) (n:Nat) (hn:fn.ntmps=n) (hle:Nat.ble args.length n=true)
  (h:∀ (D:List Nat) (w0:World) (K0:World→Prop) (b:dH) (a:Act) (w:World),(∀ w,Kp D w0 w→K0 w)→b.m=M.length→RB D w0 K0 n b (gV args 0) M a w→aN P f [.code c] (BS D w0 K0 b Q x M') a w):jm P f args M Q x M':=by
 refine ⟨iQ,?_⟩
 intro D w0 K0 β F I w ys Rm hK hl hr
 have hle:=Nat.le_of_ble_eq_true hle
 refine pO hf hb (h D w0 K0 ⟨β,F,I,M.length⟩ _ w hK rfl ⟨Rm.len,[],by simp;omega,I,rfl,Nat.le_refl _,β,F,Rm,⟨fun _ _ _ h=>h,bL.refl _,fun _ _ _=>rfl⟩,?_⟩)
 intro t v hv
 obtain ⟨y,rfl,rfl,hy⟩:∃ y:Nat×AV,y.1=t∧y.2=v∧y ∈ gV args 0:=⟨(t,v),rfl,rfl,lx hv⟩
 obtain ⟨-,h2⟩:=pV args 0 y hy
 simp only [Nat.sub_zero] at h2
 obtain ⟨aK,-⟩:=List.getElem?_eq_some_iff.1 h2
 have iF:ys[y.1]?=some ys[y.1]:=List.getElem?_eq_getElem (by omega)
 have he:({ tmps:=ys.toArray++Array.replicate (fn.ntmps-ys.toArray.size) undef,defers:=[] }:Act).eval (.tmp y.1)=ys[y.1]:=by
  have:y.1<ys.length:=by omega
  simp [Act.eval,Array.getD_eq_getD_getElem?,Array.getElem?_append,this]
 rw [he]
 exact hr y.1 y.2 _ h2 iF
theorem jm.Px {ι:Type} {Q:ι→Prop} {fn:Func} {c:Code} {args:List AV} {x:ι→AV} {M':ι→List au} (iQ:fR P f=true) (hf:P.funcs[f]?=some fn) (hb:fn.body=some c) (n:Nat) (hn:fn.ntmps=n) (hle:Nat.ble args.length n=true)
  (h:∀ (D:List Nat) (w0:World) (K0:World→Prop) (b:dH) (a:Act) (w:World),(∀ w,Kp D w0 w→K0 w)→b.m=M.length→b.I=[]→bX true D w0 K0 n b (gV args 0) M a w→aN P f [.code c] (BS D w0 K0 b Q x M') a w):jm P f args M Q x M':=by
 refine ⟨iQ,?_⟩
 intro D w0 K0 β F I w ys Rm hK hl hr
 have hle:=Nat.le_of_ble_eq_true hle
 have jv:St D w0 w ((List.range M.length).flatMap F++I):=Rm.st
 have py:∀ w',Kp (keys ((List.range M.length).flatMap F)) w w'→K0 w'∧az w' I:=fun w' k=>by
  have t:St (keys ((List.range M.length).flatMap F)) w w' []:=⟨k,by simp [keys],by simp [keys],az.nil _⟩
  have s':=St.call jv rfl t
  rw [List.nil_append] at s'
  exact ⟨hK _ s'.kp,s'.holds⟩
 have tG:RM (keys ((List.range M.length).flatMap F)) w (fun w=>K0 w∧az w I) M β F [] w:=by
  refine ⟨Rm.len,fun i bl lb=>?_,?_⟩
  ·exact (Rm.blk i bl lb).mono (fun w hw=>hw.1) (Ext.refl _)
  ·rw [List.append_nil];exact St.start jv.oA.nd jv.oA.holds
 have hg:=h (keys ((List.range M.length).flatMap F)) w (fun w=>K0 w∧az w I) ⟨β,F,[],M.length⟩ { tmps:=ys.toArray++Array.replicate (fn.ntmps-ys.toArray.size) undef,defers:=[] } w py rfl rfl ⟨Rm.len,[],by simp;omega,[],Mk.nil _,Nat.le_refl _,β,F,tG,⟨fun _ _ _ h=>h,bL.refl _,fun _ _ _=>rfl⟩,by
  intro t v hv
  obtain ⟨y,rfl,rfl,hy⟩:∃ y:Nat×AV,y.1=t∧y.2=v∧y ∈ gV args 0:=⟨(t,v),rfl,rfl,lx hv⟩
  obtain ⟨-,h2⟩:=pV args 0 y hy
  simp only [Nat.sub_zero] at h2
  obtain ⟨aK,-⟩:=List.getElem?_eq_some_iff.1 h2
  have iF:ys[y.1]?=some ys[y.1]:=List.getElem?_eq_getElem (by omega)
  have he:({ tmps:=ys.toArray++Array.replicate (fn.ntmps-ys.toArray.size) undef,defers:=[] }:Act).eval (.tmp y.1)=ys[y.1]:=by
   have:y.1<ys.length:=by omega
   simp [Act.eval,Array.getD_eq_getD_getElem?,Array.getElem?_append,this]
  rw [he]
  exact (hr y.1 y.2 _ h2 iF).mono (fun w hw=>hw.1) (Ext.refl _)⟩
 refine (pO hf hb hg).mono ?_
 rintro e w' ⟨i0,cI,v,rfl,aF,F',I',R',hE,-,hx⟩
 have s2:=St.call jv rfl R'.st
 have b9:∀ w,K0 w∧az w (I'++I)→(K0 w∧az w I)∧az w I':=fun w hw=>⟨⟨hw.1,(az.app.1 hw.2).2⟩,(az.app.1 hw.2).1⟩
 refine ⟨i0,cI,v,rfl,aF,F',I'++I,⟨R'.len,fun u b hb=>(R'.blk u b hb).mono b9 (Ext.refl _),?_⟩,hE,⟨I',rfl⟩,hx.mono b9 (Ext.refl _)⟩
 rw [List.append_assoc] at s2
 exact s2
def xW (P:Program) (T:aW) (f:FuncId) (sz m:Nat) (tb:da) (n:Nat) (l ts:List Nat) (x:AV) (M':List au) (bP eO:List Nat) (todo:List Item) (E:List (Nat×AV)) (M:List au):Option (List Item×(FuncId×List AV×List au)×Prop×List (Nat×AV)×List au):=
 match dw P T (walk P T 3) sz tb n todo ⟨[],E,M,[],[]⟩ with
 | some (.code (.rangeFunc (.tmp g) ps cx body)::k,s)=>bif fJ m bP&&ff m s.mv then (match bO s.E g,qP s.E ts with
  | some (.fn gf bZ),some E1=>(match iP (l++[s.M.length]) (.yl s.M.length::bZ),eP (l++[s.M.length]) (s.M++[.lp .ready f sz E1 ⟨ps,cx,body⟩]) (l++[s.M.length]) with
   | some told,some Ms=>bif cC (l++[s.M.length])&&Nat.ble (l++[s.M.length]).length M'.length&&fR P gf&&cC bP then
    (match (eE (ei (s.M++[.lp .ready f sz E1 ⟨ps,cx,body⟩]) (l++[s.M.length])++(M'.drop (l++[s.M.length]).length).map (cM (outer (l++[s.M.length]) (s.M.length+1)))) (l++[s.M.length]) ((M'.take (l++[s.M.length]).length).map (cM (outer (l++[s.M.length]) (s.M.length+1)))))[s.M.length]? with
    | some (.lp ls _ _ _ _)=>bif ls.still then (match km bP eO (ls.then k) ⟨s.vc,s.E,(eE (ei (s.M++[.lp .ready f sz E1 ⟨ps,cx,body⟩]) (l++[s.M.length])++(M'.drop (l++[s.M.length]).length).map (cM (outer (l++[s.M.length]) (s.M.length+1)))) (l++[s.M.length]) ((M'.take (l++[s.M.length]).length).map (cM (outer (l++[s.M.length]) (s.M.length+1))))).set s.M.length .dead,[],[]⟩ with
     | some (td,A,E2,M2)=>some (td,(gf,told,Ms),A,E2,M2)
     | none=>none) else none
    | _=>none) else none
   | _,_=>none)
  | _,_=>none) else none
 | _=>none
theorem MQ {ι:Type} {Q:ι→Prop} (hT:bp P T=true) (hm:P.follows .mixedOrders=true) (hK:∀ w,Kp D w0 w→K0 w) (lh:R.ro=none) {m:Nat} (aB:b.m=m) (tb:da) (n:Nat) (l ts:List Nat) (x:ι→AV) (M':ι→List au) (bP eO:List Nat) {A:Prop} {E2:ι→List (Nat×AV)} {M2:ι→List au} {gf:FuncId} {told:List AV} {Ms:List au} (r:bX true D w0 K0 sz b E M a w)
  (h:∀ i,xW P T f sz m tb n l ts (x i) (M' i) bP eO todo E M=some (todo',(gf,told,Ms),A,E2 i,M2 i)) (dZ:jm P gf told Ms Q x M') (hA:A) (i1:ι) (k:∀ i,Q i→∀ a' w',bX true D w0 K0 sz b (E2 i) (M2 i) a' w'→aN P f todo' R a' w'):aN P f todo R a w:=by
 subst aB
 have hb:=r.1
 obtain ⟨b',rb,aV,ud,uf,c7⟩:=r.re
 have hh:=h
 have h:=hh i1
 unfold xW at h
 split at h
 rotate_left
 ·cases h
 rename_i g ps cx body k0 s0 hr
 cases gi:(fJ b.m bP&&ff b.m s0.mv) with
 | false=>simp only [gi,cond_false,reduceCtorEq] at h
 | true=>
 simp only [gi,cond_true] at h
 have mT:=gi
 simp only [Bool.and_eq_true] at gi
 obtain ⟨BR,Bi⟩:=gi
 split at h
 rotate_left
 ·simp at h
 rename_i ug bZ E1 hg n9
 split at h
 rotate_left
 ·simp at h
 rename_i Bj CI gU gD
 have du:∀ i,(cC (l++[s0.M.length])&&Nat.ble (l++[s0.M.length]).length (M' i).length&&fR P ug&&cC bP)=true∧∃ ls f9 ub E9 fx,(eE (ei (s0.M++[.lp .ready f sz E1 ⟨ps,cx,body⟩]) (l++[s0.M.length])++((M' i).drop (l++[s0.M.length]).length).map (cM (outer (l++[s0.M.length]) (s0.M.length+1)))) (l++[s0.M.length]) (((M' i).take (l++[s0.M.length]).length).map (cM (outer (l++[s0.M.length]) (s0.M.length+1)))))[s0.M.length]?=some (.lp ls f9 ub E9 fx)∧ls.still=true∧(ug,Bj,CI)=(gf,told,Ms)∧
   km bP eO (ls.then k0) ⟨s0.vc,s0.E,(eE (ei (s0.M++[.lp .ready f sz E1 ⟨ps,cx,body⟩]) (l++[s0.M.length])++((M' i).drop (l++[s0.M.length]).length).map (cM (outer (l++[s0.M.length]) (s0.M.length+1)))) (l++[s0.M.length]) (((M' i).take (l++[s0.M.length]).length).map (cM (outer (l++[s0.M.length]) (s0.M.length+1))))).set s0.M.length .dead,[],[]⟩=some (todo',A,E2 i,M2 i):=by
  intro i
  have h:=hh i
  unfold xW at h
  rw [hr] at h
  simp only [mT,cond_true,hg,n9,gU,gD] at h
  cases hc:(cC (l++[s0.M.length])&&Nat.ble (l++[s0.M.length]).length (M' i).length&&fR P ug&&cC bP) with
  | false=>simp only [hc,cond_false,reduceCtorEq] at h
  | true=>
   simp only [hc,cond_true] at h
   refine ⟨rfl,?_⟩
   split at h
   ·rename_i ls f9 ub E9 fx nQ
    cases bM:ls.still with
    | false=>simp only [bM,cond_false,reduceCtorEq] at h
    | true=>
     simp only [bM,cond_true] at h
     split at h
     ·rename_i td A0 S3 S4 ha
      simp only [Option.some.injEq,Prod.mk.injEq] at h
      obtain ⟨rfl,⟨rfl,rfl,rfl⟩,rfl,rfl,rfl⟩:=h
      exact ⟨ls,f9,ub,E9,fx,nQ,bM,rfl,ha⟩
     ·cases h
   ·cases h
 obtain ⟨hc,_,_,_,_,_,-,-,uh,S5⟩:=du i1
 simp only [Prod.mk.injEq] at uh
 obtain ⟨rfl,rfl,rfl⟩:=uh
 obtain ⟨-,RY,-,-⟩:=ng S5
 have kB:bw s0.vc:=by rw [RY];exact hA
 simp only [Bool.and_eq_true] at hc
 obtain ⟨⟨⟨de,-⟩,iQ⟩,sM⟩:=hc
 have hle:∀ i,(l++[s0.M.length]).length≤(M' i).length:=fun i=>by
  have:=(du i).1
  simp only [Bool.and_eq_true] at this
  exact Nat.le_of_ble_eq_true this.1.1.2
 generalize gO:l++[s0.M.length]=l2 at du gU gD de hle
 generalize CE:(au.lp .ready f sz E1 ⟨ps,cx,body⟩)=lp at du gD
 refine iT hT (fo hT hm 3) hm hK n hr rb kB fun a w r=>?_
 obtain ⟨bI,I,df,IE,β,F,Rm,aT,hs⟩:=r
 have iZ:=hs g _ hg
 generalize hy:a.eval (.tmp g)=y at iZ
 cases iZ with
 | fn cs cG fO=>
  have he:=run_enterLoop_outer (P:=P) (w:=w) f a.tmps ps cx body
  refine aN.rangeFunc (wd:=(w.alloc (.deferred (some []))).alloc (.loop { state:=.ready,pending:=none,fn:=f,tmps:=a.tmps,params:=ps,assign:=cx,body,defers:=w.heap.size })) (w2:=(w.alloc (.deferred (some []))).alloc (.loop { state:=.ready,pending:=none,fn:=f,tmps:=a.tmps,params:=ps,assign:=cx,body,defers:=w.heap.size })) (gf:=ug) (args:=#[.func (.yield (w.heap.size+1)) #[] #[]]++cs.toArray) (dd:={ target:=.fn (.func ug) cs.toArray,args:=#[.func (.yield (w.heap.size+1)) #[] #[]] }) lh he (by
   simp only [resolve,hy]
   simp [go_sem]) (by simp [invoke,go_sem,uV iQ]) ?_
  have R1:RM D w0 K0 s0.M β F ((w.heap.size,.deferred (some []))::I) (w.alloc (.deferred (some []))):=by
   refine ⟨Rm.len,fun u b hb=>(Rm.blk u b hb).mono (fun w hw=>⟨hw.1,(az.app.1 (show az w ([_]++I) from hw.2)).2⟩) (Ext.refl _),?_⟩
   have:=Rm.st.alloc (.deferred (some []))
   exact this.perm (by classical rw [List.perm_iff_count];intro z;simp only [List.count_append,List.count_cons];omega)
  have gI:bL I ((w.heap.size,.deferred (some []))::I):=⟨[_],rfl⟩
  have b6:∀ t v,bO s0.E t=some v→aE (fun w'=>K0 w'∧az w' ((w.heap.size,.deferred (some []))::I)) β v (a.eval (.tmp t)):=fun t v hv=>(hs t v hv).mono (fun w hw=>⟨hw.1,gI.holds w hw.2⟩) (Ext.refl _)
  have R2:=R1.new (q:=(some ⟨w.heap.size+1,0,none⟩,0)) (blk:=lp) (Gr.alloc _ (.loop { state:=.ready,pending:=none,fn:=f,tmps:=a.tmps,params:=ps,assign:=cx,body,defers:=w.heap.size })) (by have:=dG.alloc (w.alloc (.deferred (some []))) (.loop { state:=.ready,pending:=none,fn:=f,tmps:=a.tmps,params:=ps,assign:=cx,body,defers:=w.heap.size });rwa [World.size_alloc] at this) (by
   subst CE
   exact .lp (bz:=.ready) (fA R1 _) bI fun x hx=>(b6 x.1 x.2 (yB n9 x hx)).mono (fun _ h=>h) (Ext.app _ _))
  have Bg:(s0.M++[lp]).length=s0.M.length+1:=by simp
  have cH:=fA R1 (some ⟨w.heap.size+1,0,none⟩,0)
  have cX:=Dz (vs:=.yl s0.M.length::bZ) (ys:=.func (.yield (w.heap.size+1)) #[] #[]::cs) R2 hK (by simp [cG]) (fun j c y e1 e2=>by
   cases j with
   | zero=>simp at e1 e2;subst e1 e2;exact .yl cH
   | succ j=>simp at e1 e2;exact ((fO j c y e1 e2).mono (fun w hw=>⟨hw.1,gI.holds w hw.2⟩) (Ext.refl _)).mono (fun _ h=>h) (Ext.app _ _)) gU gD (l4 de) (fun i _=>hle i) dZ
  rw [Bg] at cX
  have Bh:(#[.func (.yield (w.heap.size+1)) #[] #[]]++cs.toArray:Array Value)=(Value.func (.yield (w.heap.size+1)) #[] #[]::cs).toArray:=by simp
  rw [Bh]
  refine cX.mono ?_
  rintro e w3 ⟨i0,cI,v,rfl,pL,F3,I3,R3,e3,g3,-,-⟩
  refine ⟨v,rfl,?_⟩
  obtain ⟨-,ls,f9,ub,E9,fx,nQ,bM,-,IG⟩:=du i0
  generalize CF:eE (ei (s0.M++[lp]) l2++((M' i0).drop l2.length).map (cM (outer l2 (s0.M.length+1)))) l2 (((M' i0).take l2.length).map (cM (outer l2 (s0.M.length+1))))=Mo at R3 nQ IG
  obtain ⟨rfl,-,h3,h4⟩:=ng IG
  obtain ⟨H,hF,hB,hH⟩:=R3.at nQ
  have CG:pL[s0.M.length]?=some (some ⟨w.heap.size+1,0,none⟩,0):=e3 _ _ (by simp) cH
  cases hB with
  | @lp b0 c0 f0 Ix k4 bz E0 Iy tmps hb RV rI=>
   rw [CG] at hb;cases hb
   refine ⟨_,_,ED (ls:=ls) hH.one bM rfl rfl,?_⟩
   rw [LS.then_eq]
   have R4:=R3.x.ea nQ
   rw [List.nil_append,hF] at R4
   have R5:RM D w0 K0 (Mo.set s0.M.length .dead) pL (aS F3 s0.M.length []) I3 (ct w3 (w.heap.size+1) (.loop { state:=.exhausted,pending:=ls.ji,fn:=f9,tmps,params:=fx.ps,assign:=fx.cx,body:=fx.body,defers:=k4 })):=by
    refine ⟨R4.len,R4.blk,?_⟩
    have s1:=(R4.st.perm (K:=(w.heap.size+1,.loop { state:=ls.state,pending:=ls.ji,fn:=f9,tmps,params:=fx.ps,assign:=fx.cx,body:=fx.body,defers:=k4 })::((List.range (Mo.set s0.M.length .dead).length).flatMap (aS F3 s0.M.length [])++I3)) (by classical rw [List.perm_iff_count];intro z;simp only [List.count_append,List.count_cons,List.count_nil];omega)).set (.loop { state:=.exhausted,pending:=ls.ji,fn:=f9,tmps,params:=fx.ps,assign:=fx.cx,body:=fx.body,defers:=k4 })
    exact St.l3 (H:=[_]) s1
   have S6:b'.m≤(Mo.set s0.M.length .dead).length:=by
    rw [List.length_set,← CF,Eu,List.length_append,uQ,List.length_append]
    have:b'.m≤s0.M.length:=IE
    omega
   refine k i0 cI _ _ (bX.from c7 hb ud uf (dy.kD (mk:=true) (b:=b') (s:=⟨[],s0.E,Mo.set s0.M.length .dead,List.range b'.m,s0.mv⟩) (a:={ a with defers:=[{ target:=.collected w.heap.size,args:=#[] }]++a.defers }) (by rw [aV,c7]) ⟨bI,I3,?_,S6,pL,_,R5,⟨fun u q hu hq=>e3 u q (by simp) (Ext.app _ _ _ _ (aT.1 u q hu hq)),(aT.2.1.trans gI).trans g3,fun u hu hn=>absurd (List.mem_range.2 hu) hn⟩,fun t v hv=>?_⟩ sM (by rw [c7];exact BR) (by rw [c7];exact Bi) h3 h4))
   ·have:=Mk.grow df (gI.trans g3)
    refine ⟨List.nodup_cons.2 ⟨fun hd=>?_,this.1⟩,fun d hd=>?_⟩
    ·obtain ⟨b,e1,e2⟩:=df.2 _ hd
     cases e1
     have aK:=(Array.getElem?_eq_some_iff.1 ((az.app.1 Rm.st.holds).2 _ e2)).1
     exact absurd aK (Nat.lt_irrefl _)
    rcases List.mem_append.1 hd with hd | hd
    ·rw [List.mem_singleton] at hd;subst hd
     obtain ⟨J,hJ⟩:=g3
     exact ⟨_,rfl,by rw [hJ];exact List.mem_append_right _ List.mem_cons_self⟩
    ·exact this.2 d hd
   ·exact ((b6 t v hv).mono (fun w hw=>⟨hw.1,g3.holds w hw.2⟩) (Ext.refl _)).mono (fun _ h=>h) (fun u q hq=>e3 u q (by simp) (Ext.app _ _ _ _ hq))
theorem vB {Q:Exit→Act→World→Prop} {X:Act→World→Prop} {ops:Array Oper} {C:List (Oper×Bool)} (hX:∀ a w,X a w→dO P ops Q C a w):∀ (A:List Oper) (a:Act) (w:World),dO P ops (fun e a w=>e=.normal∧X a w) (A.map (·,false)) a w→dO P ops Q (A.map (·,false)++C) a w
 | [],a,w,h=>hX a w h.2
 | o::r,a,w,h=>by
  simp only [List.map_cons,List.cons_append] at h ⊢
  unfold dO at h ⊢
  simp only [cond_false] at h ⊢
  split
  ·rename_i hg
   simp only [hg] at h
   exact bq.mono h fun v w' h=>vB hX r _ _ h
  ·rename_i j want hg
   simp only [hg] at h
   exact ⟨fun hy=>bq.mono (h.1 hy) fun v w' h=>vB hX r _ _ h,fun hy=>vB hX r _ _ (h.2 hy)⟩
def yF (P:Program) (T:aW) (sz m:Nat) (tb:da) (n j:Nat) (l bP eO:List Nat) (xi:AV) (Mi:List au) (todo:List Item) (E:List (Nat×AV)) (M:List au):Option (List Item×(FuncId×List AV×List au)×(Prop×Prop)×List (Nat×AV)×List au):=
 match dw P T (walk P T 3) sz tb n todo ⟨[],E,M,[],[]⟩ with
 | some (.code (.region id ops false)::k0,s)=>(match im P T (walk P T 3) sz ops (ops.toList.take j) 0 (o2 tb id) s,ops.toList.drop j with
  | some s1,⟨some d,.call ⟨.value g,args,_⟩,_,_,_,none⟩::B=>(match aO s1.E g,jN s1.E args.toList with
   | some (.fn f' bZ),some vs=>(match iP l (vs++bZ),eP l s1.M l with
    | some told,some Ms=>bif Nat.blt d sz&&cC l&&Nat.ble l.length Mi.length&&fJ m bP&&cC bP&&Nat.ble s1.M.length (eE (ei s1.M l++(Mi.drop l.length).map (cM (outer l s1.M.length))) l ((Mi.take l.length).map (cM (outer l s1.M.length)))).length then
     (match im P T (walk P T 3) sz ops B (j+1) (o2 tb id) ⟨[],g7 s1.E (some d) (mapA (outer l s1.M.length) xi),eE (ei s1.M l++(Mi.drop l.length).map (cM (outer l s1.M.length))) l ((Mi.take l.length).map (cM (outer l s1.M.length))),List.range m,s1.mv⟩ with
     | some s2=>bif ff m s2.mv then (match eP bP s2.M bP,iy bP s2.E eO with
      | some M2,some E2=>some (k0,(f',told,Ms),(bw s1.vc,bw s2.vc),E2,M2)
      | _,_=>none) else none
     | none=>none) else none
    | _,_=>none)
   | _,_=>none)
  | _,_=>none)
 | _=>none
theorem FE {ι:Type} {Q:ι→Prop} (hT:bp P T=true) (hm:P.follows .mixedOrders=true) (hK:∀ w,Kp D w0 w→K0 w) {m:Nat} (aB:b.m=m) (tb:da) (n j:Nat) (l bP eO:List Nat) (x:ι→AV) (M':ι→List au) {A1:Prop} {A2:ι→Prop} {E2:ι→List (Nat×AV)} {M2:ι→List au} {f':FuncId} {told:List AV} {Ms:List au} (r:bX mk D w0 K0 sz b E M a w)
  (h:∀ i,yF P T sz m tb n j l bP eO (x i) (M' i) todo E M=some (todo',(f',told,Ms),(A1,A2 i),E2 i,M2 i)) (dZ:jm P f' told Ms Q x M') (hA:A1) (S7:∀ i,Q i→A2 i) (i1:ι) (k:∀ i,Q i→∀ a' w',bX mk D w0 K0 sz b (E2 i) (M2 i) a' w'→aN P f todo' R a' w'):aN P f todo R a w:=by
 subst aB
 have hb:=r.1
 obtain ⟨b',rb,aV,ud,uf,c7⟩:=r.re
 have hh:=h
 have h:=hh i1
 unfold yF at h
 split at h
 rotate_left
 ·cases h
 rename_i id ops k0 s hr
 split at h
 rotate_left
 ·cases h
 rename_i s1 d g args ey ty pos aft B b6 cn
 split at h
 rotate_left
 ·cases h
 rename_i f0 bZ vs hg kB
 split at h
 rotate_left
 ·cases h
 rename_i Bj CI gU gD
 have du:∀ i,(Nat.blt d sz&&cC l&&Nat.ble l.length (M' i).length&&fJ b.m bP&&cC bP&&Nat.ble s1.M.length (eE (ei s1.M l++((M' i).drop l.length).map (cM (outer l s1.M.length))) l (((M' i).take l.length).map (cM (outer l s1.M.length)))).length)=true∧∃ s2,im P T (walk P T 3) sz ops B (j+1) (o2 tb id) ⟨[],g7 s1.E (some d) (mapA (outer l s1.M.length) (x i)),eE (ei s1.M l++((M' i).drop l.length).map (cM (outer l s1.M.length))) l (((M' i).take l.length).map (cM (outer l s1.M.length))),List.range b.m,s1.mv⟩=some s2∧
   ff b.m s2.mv=true∧eP bP s2.M bP=some (M2 i)∧iy bP s2.E eO=some (E2 i)∧k0=todo'∧(f0,Bj,CI)=(f',told,Ms)∧bw s1.vc=A1∧bw s2.vc=A2 i:=by
  intro i
  have h:=hh i
  unfold yF at h
  rw [hr] at h
  simp only [b6,cn,hg,kB,gU,gD] at h
  cases hc:(Nat.blt d sz&&cC l&&Nat.ble l.length (M' i).length&&fJ b.m bP&&cC bP&&Nat.ble s1.M.length (eE (ei s1.M l++((M' i).drop l.length).map (cM (outer l s1.M.length))) l (((M' i).take l.length).map (cM (outer l s1.M.length)))).length) with
  | false=>simp only [hc,cond_false,reduceCtorEq] at h
  | true=>
   simp only [hc,cond_true] at h
   refine ⟨rfl,?_⟩
   split at h
   ·rename_i s2 gN
    cases hf:ff b.m s2.mv with
    | false=>simp only [hf,cond_false,reduceCtorEq] at h
    | true=>
     simp only [hf,cond_true] at h
     split at h
     ·rename_i S4 S3 h3 h4
      simp only [Option.some.injEq,Prod.mk.injEq] at h
      obtain ⟨rfl,⟨rfl,rfl,rfl⟩,⟨e1,e2⟩,rfl,rfl⟩:=h
      exact ⟨s2,gN,hf,h3,h4,rfl,rfl,e1,e2⟩
     ·cases h
   ·cases h
 obtain ⟨hc,-,-,-,-,-,rfl,uh,bg,-⟩:=du i1
 simp only [Prod.mk.injEq] at uh
 obtain ⟨rfl,rfl,rfl⟩:=uh
 simp only [Bool.and_eq_true] at hc
 obtain ⟨⟨⟨⟨⟨hd,de⟩,-⟩,bM⟩,sM⟩,-⟩:=hc
 have HC:bw s1.vc:=by rw [bg];exact hA
 have aM:bw s.vc:=vP _ _ _ _ b6 HC
 refine iT hT (fo hT hm 3) hm hK n hr rb aM fun a w r=>?_
 refine aN.code (uA ?_)
 rw [← List.take_append_drop j ops.toList,cn,List.map_append]
 refine vB (X:=fun a w=>dy mk D w0 K0 sz b' s1 a w) (fun a w r1=>?_) _ a w (z9 hT (fo hT hm 3) hK _ _ _ _ a w b6 r HC fun a' w' r'=>⟨rfl,r'⟩)
 simp only [List.map_cons]
 unfold dO
 simp only [cond_false]
 obtain ⟨size,I,defers,xg,β,F,Rm,aT,hs⟩:=r1
 have C:Ctx D w0 K0 s1.E s1.M β F I a.eval w:=⟨Rm,hs,fun _=>rfl,fun _=>rfl,fun _=>rfl,hK⟩
 obtain ⟨y,hy,ry⟩:=C.bS hg
 cases ry with
 | fn cs cG fO=>
  obtain ⟨dT,iU⟩:=C.k5 kB
  have QH:(args.toList.map a.eval++cs).length=(vs++bZ).length:=by rw [List.length_append,List.length_append,dT,cG]
  have kS:∀ (j:Nat) c y,(vs++bZ)[j]?=some c→(args.toList.map a.eval++cs)[j]?=some y→aE (fun w=>K0 w∧az w I) β c y:=by
   intro j c y h1 h2
   rcases Nat.lt_or_ge j vs.length with hj | hj
   ·rw [List.getElem?_append_left hj] at h1
    rw [List.getElem?_append_left (by omega)] at h2
    exact iU j c y h1 h2
   ·rw [List.getElem?_append_right hj] at h1
    rw [List.getElem?_append_right (by omega),dT] at h2
    exact fO _ c y h1 h2
  have mW:args.map a.eval=(args.toList.map a.eval).toArray:=by rw [← Array.toList_map]
  refine pR hy dZ.1 mW ?_
  have jP:((args.toList.map a.eval).toArray++cs.toArray:Array Value)=(args.toList.map a.eval++cs).toArray:=by simp
  rw [jP]
  refine (Dz C.rm C.k QH kS gU gD (l4 de) (fun i _=>by have:=(du i).1;simp only [Bool.and_eq_true] at this;exact Nat.le_of_ble_eq_true this.1.1.1.2) dZ).mono ?_
  rintro e w' ⟨i0,cI,v,rfl,aF,F',I',R',e',hI,hF,mX⟩
  refine ⟨v,rfl,?_⟩
  obtain ⟨hc,s2,gN,tW,h3,h4,-,-,-,c8⟩:=du i0
  simp only [Bool.and_eq_true] at hc
  obtain ⟨e1,e2,e3⟩:=RE.put size (defers.grow hI) (fun t v hv=>(hs t v hv).mono (fun w hw=>⟨hw.1,hI.holds w hw.2⟩) (fun u q hq=>e' u q (by simp) hq)) (dst:=some d) hd mX
  refine z9 hT (fo hT hm 3) hK _ _ _ _ _ _ gN ⟨e1,I',e2,Nat.le_trans xg (Nat.le_of_ble_eq_true hc.2),aF,F',R',⟨fun u q hu hq=>e' u q (by simp) (aT.1 u q hu hq),aT.2.1.trans hI,fun u hu hn=>?_⟩,e3⟩ (by rw [c8];exact S7 i0 cI) fun a' w' r'=>⟨rfl,?_⟩
  ·exact absurd (List.mem_range.2 (by rw [← c7];exact hu)) hn
  ·exact k i0 cI a' w' (bX.from c7 hb ud uf (r'.kD (by rw [aV,c7]) sM (by rw [c7];exact bM) (by rw [c7];exact tW) h3 h4))
end Go.Proofs.YtlinpknagdgphaaGreat
namespace Go.Proofs.YtlinpknagdgphaaGreat
open Go.RowKit
variable {mk:Bool} {P:Program} {a:Act} {w:World} {D:List Nat} {w0:World} {K0:World→Prop} {E:List (Nat×AV)} {M:List au} {sz:Nat} {b:dH}
def BT (u v:Nat):AV→AV
 | .sl x n=>bif x.beq u then .sl v n else .sl x n
 | c=>c
def wU (u v:Nat):au→au
 | .bx T cells=>.bx T (cells.map (BT u v))
 | c=>c
theorem Of {K:World→Prop} {β:Beta} {u v:Nat} (h:∀ p,β[u]?=some p→β[v]?=some p) {c:AV} {y:Value} (r:aE K β c y):aE K β (BT u v c) y:=by
 unfold BT
 split
 ·rename_i x n
  cases hx:x.beq u with
  | false=>exact r
  | true=>
   obtain rfl:=Nat.eq_of_beq_eq_true hx
   cases r with
   | sl hb=>exact .sl (h _ hb)
 ·exact r
theorem Og {K:World→Prop} {β:Beta} {u v x:Nat} (h:∀ p,β[u]?=some p→β[v]?=some p) {c:au} {H:aA} (r:bK K β x c H):bK K β x (wU u v c) H:=by
 unfold wU
 split
 ·cases r with
  | bx hb ys hl hr=>
   refine .bx hb ys (by rw [List.length_map];exact hl) fun j c y h1 h2=>?_
   rw [List.getElem?_map,Option.map_eq_some_iff] at h1
   obtain ⟨c0,g1,rfl⟩:=h1
   exact Of h (hr j c0 y g1 h2)
 ·exact r
theorem bX.shift (r:bX mk D w0 K0 sz b E M a w) (u:Nat) {T k:Nat} {rows:List (List DV)} (hM:M[u]?=some (.rw T k rows)):bX mk D w0 K0 sz b E ((M.set u au.dead++[au.rw T k rows]).map (wU u M.length)) a w:=by
 obtain ⟨-,r'⟩:=r.via (N:=fun _:Unit=>(M.set u au.dead++[au.rw T k rows]).map (wU u M.length)) fun β F I R=>by
  have hB:=R.blk u _ hM
  have aK:=(List.getElem?_eq_some_iff.1 hM).1
  have R1:=R.x.ea hM
  rw [List.nil_append] at R1
  have hu:u<β.length:=by rw [R.len];exact aK
  obtain ⟨F',R2,-⟩:=yu (bs:=[au.rw T k rows]) (γ:=[β[u]]) (G:=fun _=>F u) (Y:=[]) rfl (by simpa using R1) (fun i c hi=>by
   have cI:i=0:=by have:=(List.getElem?_eq_some_iff.1 hi).1;simp at this;exact this
   subst cI
   simp only [List.getElem?_cons_zero,Option.some.injEq] at hi;subst hi
   rw [List.length_set,Nat.add_zero]
   generalize F u=Fu at hB ⊢
   cases hB with
   | rw hb X G hl hs hr=>
    exact bK.rw (by rw [List.getElem?_append_right (by rw [R.len];exact Nat.le_refl _),R.len,Nat.sub_self,List.getElem?_cons_zero,← hb,List.getElem?_eq_getElem hu]) X G hl hs hr)
  have R3:=R2.nil rfl
  refine ⟨(),β++[β[u]],F',I,⟨by rw [List.length_map];exact R3.len,fun x c hx=>?_,by rw [List.length_map];exact R3.st⟩,Ext.app _ _,bL.refl I,by simp⟩
  rw [List.getElem?_map,Option.map_eq_some_iff] at hx
  obtain ⟨c0,g1,rfl⟩:=hx
  refine Og (fun p hp=>?_) (R3.blk x c0 g1)
  rw [List.getElem?_append_left hu] at hp
  rw [List.getElem?_append_right (by rw [R.len];exact Nat.le_refl _),R.len,Nat.sub_self,List.getElem?_cons_zero,← hp,List.getElem?_eq_getElem hu]
 exact r'
end Go.Proofs.YtlinpknagdgphaaGreat
namespace Go.Proofs.YtlinpknagdgphaaGreat
open Go.RowKit Go.Deep
theorem DA {H:Type} {enc:TypeId×Value→H} {P:Program} (hl:laidOutB P=true) {W W':World} (g:Gr W W'):∀ {ts:List TypeId} {vs:List Value} {ds:List (DataW H)} {ps:List MemPlace},(∀ t ∈ ts,P.readableRec t=true∧t<P.types.size)→DataW.TrodAll enc P W 0 (fun _=>true) true ts vs ds ps→(∀ x ∈ ps,x.block<W.heap.size)→DataW.TrodAll enc P W' 0 (fun b=>decide (b<W.heap.size)) true ts vs ds ps
 | [],[],[],_,_,h,_=>h
 | [],_::_,_,_,_,h,_=>h.elim
 | [],[],_::_,_,_,h,_=>h.elim
 | _::_,[],_,_,_,h,_=>h.elim
 | _::_,_::_,[],_,_,h,_=>h.elim
 | t::ts,v::vs,d::ds,ps,ht,h,hp=>by
  obtain ⟨p,q,h1,h2,rfl⟩:=h
  refine ⟨p,q,Below.trod hl (ht t (by simp)).1 (ht t (by simp)).2 h1 g (fun x hx=>hp x (by simp [hx])),DA hl g (fun t' h'=>ht t' (by simp [h'])) h2 (fun x hx=>hp x (by simp [hx])),rfl⟩
theorem MR {H:Type} {enc:TypeId×Value→H} {P:Program} {f:Func} {s:ChangeSpec} {W W':World} {args:Array Value} {ds gs:List (DataW H)} {before:List MemPlace} {tb:TypeId} (hl:laidOutB P=true)
  (hp:f.params.toList.all (fun t=>P.readableRec t&&decide (t<P.types.size))=true) (hr:f.resultTypes=#[tb]) (ht:P.underlying tb=some .bool) (hv:s.vars=[])
  (hW:DataW.Whole enc P f.params.toList s.vars false W args.toList ds gs before) (xm:s.fn H (ds++gs)={ results:=[.lit (.bool true)],args:=ds }) (g:Gr W W'):s.post enc P f false true false false W args (.bool true) W':=by
 have CJ:=hW
 have aK:=hW.lt
 obtain ⟨p,q,hA,hV,rfl,fL,de⟩:=hW
 rw [hv] at hV
 match gs,hV with
 | [],hV=>
  cases hV
  refine ⟨ds,[],_,[],p,[],CJ,?_,?_,?_,?_,fun h=>by cases h⟩
  ·rw [xm,hr]
   exact ⟨[],[],⟨1,by simp [DataW.trod,ht,Value.cells]⟩,rfl,rfl⟩
  ·rw [xm]
   refine DA hl g (fun t h=>?_) hA (fun x hx=>aK x (by simp [hx]))
   have:=List.all_eq_true.1 hp t h
   simpa using this
  ·rw [xm,hv];rfl
  ·exact Below.frame g _
def TR (P:Program) (w:World) (t:TypeId) (cs:List Value):Prop:=∃ (H:Type) (enc:TypeId×Value→H) (base:Nat) (sp:Nat→Bool) (held:Bool) (fuel:Nat) (x:DataW H×List MemPlace),DataW.trod enc P w base sp held fuel t cs=some x
theorem TR.of {H:Type} {enc:TypeId×Value→H} {P:Program} {w:World} {base:Nat} {sp:Nat→Bool} {held:Bool} {t:TypeId} {v:Value} {d:DataW H} {ps:List MemPlace} (h:DataW.Trod enc P w base sp held t v d ps):TR P w t v.cells.toList:=by
 obtain ⟨n,h⟩:=h;exact ⟨H,enc,base,sp,held,n,_,h⟩
section
variable {P:Program} {w:World} {t e:TypeId} {cs:List Value}
theorem TR.int {k:IntKind} (ht:P.underlying t=some (.int k)) (h:TR P w t cs):∃ n,cs=[.int k n]∧(Lit.int k n).wf=true:=by
 obtain ⟨H,enc,base,sp,held,fuel,x,h⟩:=h
 cases fuel with
 | zero=>simp [DataW.trod] at h
 | succ fuel=>
  rw [DataW.trod_step] at h;unfold DataW.trodStep at h;simp only [ht] at h
  split at h<;>simp_all
theorem cells?_some {base:Nat} {a:Addr} {n:Nat} {X:List Value} (h:w.cells? base a n=some X):X.length=n∧∀ j (hj:j<X.length),w.cell? (a.add j)=some X[j]:=by
 obtain ⟨_,h1,h2⟩:=World.cells?_some h
 exact ⟨h1,fun j hj=>by rw [h2 j (by omega)];exact List.getElem?_eq_getElem hj⟩
theorem sc {X:Nat→List Value} {c:Nat}:∀ {n:Nat},(∀ i,i<n→(X i).length=c)→((List.range n).flatMap X).length=n*c
 | 0,_=>by simp
 | k+1,h=>by rw [List.range_succ,List.flatMap_append,List.length_append,sc (n:=k) (fun i hi=>h i (by omega))];simp [h k (by omega),Nat.succ_mul]
theorem TR.MS (ht:P.underlying t=some (.slice e)) (h:TR P w t cs):∃ (v:Value) (n:Nat) (X:Nat→List Value),cs=[v]∧n≤maxLen∧(∀ i,i<n→(X i).length=P.cellsOf e∧TR P w e (X i))∧Src w (P.cellsOf e) v n ((List.range n).flatMap X)∧∃ a c,v=.slice a n c∧n≤c:=by
 obtain ⟨H,enc,base,sp,held,fuel,x,h⟩:=h
 rcases open_slice ht h with ⟨rfl,_⟩ | ⟨a,len,cap,m,n,D,Pl,rfl,_,uc,RZ,hm,_,hx⟩
 ·exact ⟨_,0,fun _=>[],rfl,by simp [maxLen],fun i hi=>by omega,by simp [Src],_,_,rfl,Nat.zero_le _⟩
 ·have hle:len≤m:=by rw [hm];split<;>omega
  obtain ⟨X,hX⟩:=choose_lt (n:=len) (α:=List Value) (p:=fun i c=>w.cells? base (a.add (i*P.cellsOf e)) (P.cellsOf e)=some c∧DataW.trod enc P w base sp held n e c=some (D i,Pl i)) (fun i hi=>hx i (by omega))
  have hlen:∀ i,i<len→(X i).length=P.cellsOf e:=fun i hi=>(cells?_some (hX i hi).1).1
  refine ⟨_,len,X,rfl,by omega,fun i hi=>⟨hlen i hi,H,enc,base,sp,held,n,_,(hX i hi).2⟩,⟨?_,?_⟩,⟨a,cap,rfl,uc⟩⟩
  ·exact sc hlen
  ·refine Or.inr ⟨a,cap,rfl,?_⟩
   have key:∀ k,k≤len→∀ j (hj:j<((List.range k).flatMap X).length),w.cell? (a.add j)=some ((List.range k).flatMap X)[j]:=by
    intro k
    induction k with
    | zero=>intro _ j hj;simp at hj
    | succ k ih=>
     intro hk j hj
     have Ur:((List.range k).flatMap X).length=k*P.cellsOf e:=sc (fun i hi=>hlen i (by omega))
     have hE:(List.range (k+1)).flatMap X=(List.range k).flatMap X++X k:=by rw [List.range_succ,List.flatMap_append];simp
     have CK:j<((List.range k).flatMap X++X k).length:=by rw [← hE];exact hj
     have QI:((List.range (k+1)).flatMap X)[j]=((List.range k).flatMap X++X k)[j]:=by congr 1
     rw [QI]
     by_cases h1:j<((List.range k).flatMap X).length
     ·rw [List.getElem_append_left h1];exact ih (by omega) j h1
     ·rw [List.getElem_append_right (by omega)]
      have h2:=(cells?_some (hX k (by omega)).1).2 (j-((List.range k).flatMap X).length) (by rw [List.length_append] at CK;omega)
      rw [← h2,Addr.na]
      congr 2
      omega
   exact key len (Nat.le_refl _)
end
end Go.Proofs.YtlinpknagdgphaaGreat
namespace Go.Proofs.YtlinpknagdgphaaGreat
open Go.RowKit Go.Deep
def gQ (w:World) (l:List DV) (cs:List Value):Prop:=cs.length=l.length∧∀ (j:Nat) c v,l[j]?=some c→cs[j]?=some v→bQ (Gr w) c v []
theorem gQ.one {w:World} {c:DV} {v:Value} (h:bQ (Gr w) c v []):gQ w [c] [v]:=⟨rfl,fun j c' v' h1 h2=>by
 cases j with
 | zero=>simp at h1 h2;subst h1 h2;exact h
 | succ j=>simp at h1⟩
theorem gQ.app {w:World} {l l':List DV} {cs cf:List Value} (h:gQ w l cs) (h':gQ w l' cf):gQ w (l++l') (cs++cf):=⟨by simp [h.1,h'.1],fun j c v h1 h2=>by
 have e:=h.1
 by_cases hj:j<l.length
 ·rw [List.getElem?_append_left hj] at h1;rw [List.getElem?_append_left (by omega)] at h2;exact h.2 j c v h1 h2
 ·rw [List.getElem?_append_right (by omega)] at h1;rw [List.getElem?_append_right (by omega),e] at h2;exact h'.2 _ c v h1 h2⟩
def Rd (P:Program) (w:World) (t:TypeId) {α:Type} (row:α→List DV) (ok:α→Prop):Prop:=∀ cs,TR P w t cs→∃ x,ok x∧gQ w (row x) cs
variable {P:Program} {w:World} {t e:TypeId} {α β γ:Type}
theorem Rd.u64 (h:P.underlying t=some (.int .u64)):Rd P w t (fun n:Nat=>[.u n]) fun n=>n≤18446744073709551615:=fun cs hc=>by
 obtain ⟨n,rfl,hw⟩:=hc.int h
 have eb:(0:Int)≤n∧n≤18446744073709551615:=by simpa [Lit.wf,IntKind.min,IntKind.max,IntKind.signed,IntKind.bits] using hw
 have e:n=((n.toNat:Nat):Int):=by omega
 refine ⟨n.toNat,by omega,.one ?_⟩
 show bQ _ (.v (.int .u64 ((n.toNat:Nat):Int))) _ _
 rw [← e];exact .v _
theorem Rd.byte (h:P.underlying t=some (.int .u8)):Rd P w t (fun b:UInt8=>[.v (.int .u8 (b.toNat:Int))]) fun _=>True:=fun cs hc=>by
 obtain ⟨n,rfl,hw⟩:=hc.int h
 have eb:(0:Int)≤n∧n≤255:=by simpa [Lit.wf,IntKind.min,IntKind.max,IntKind.signed,IntKind.bits] using hw
 have e:n=(((UInt8.ofNat n.toNat).toNat:Nat):Int):=by simp;omega
 refine ⟨UInt8.ofNat n.toNat,trivial,.one ?_⟩
 rw [← e];exact .v _
theorem Rd.slice [Inhabited α] {k:Nat} {row:α→List DV} {ok:α→Prop} (h:P.underlying t=some (.slice e)) (hk:P.cellsOf e=k) (hr:Rd P w e row ok):Rd P w t (fun l:List α=>[.ro k (l.map row)]) fun l=>l.length≤9223372036854775807∧∀ x ∈ l,ok x:=fun cs hc=>by
 subst hk
 obtain ⟨v,n,X,rfl,hn,hX,hs,ew⟩:=TR.MS h hc
 obtain ⟨Y,hY⟩:=choose_lt (n:=n) (α:=α) (p:=fun i x=>ok x∧gQ w (row x) (X i)) fun i hi=>hr _ (hX i hi).2
 have hg:∀ (i:Nat) r,(((List.range n).map Y).map row)[i]?=some r→i<n∧r=row (Y i):=fun i r hi=>by
  have aK:=(List.getElem?_eq_some_iff.1 hi).1
  simp at aK
  simp [aK] at hi
  exact ⟨aK,hi.symm⟩
 have hl:(((List.range n).map Y).map row).length=n:=by simp
 refine ⟨(List.range n).map Y,⟨by simp;exact Nat.le_trans hn (by decide),?_⟩,.one (.ro X (fun i r hi=>?_) ?_ (fun w' g=>?_) fun i r j c x h1 h2 h3=>?_)⟩
 ·intro x hx
  obtain ⟨i,hi,rfl⟩:=List.mem_map.1 hx
  exact (hY i (by simpa using hi)).1
 ·obtain ⟨jr,rfl⟩:=hg i r hi
  refine ⟨?_,(hX i jr).1⟩
  rw [← (hX i jr).1];exact (hY i jr).2.1.symm
 ·rw [hl];exact ew
 ·rw [hl];exact hs.gr g
 ·obtain ⟨jr,rfl⟩:=hg i r h1
  exact (hY i jr).2.2 j c x h2 h3
theorem gQ.agg {l:List DV} {cs:Array Value} (h:gQ w l cs.toList):aE (Gr w) [] (.ag (l.map .d)) (.agg cs):=by
 have:=aE.ag (K:=Gr w) (β:=[]) (l:=l.map .d) cs.toList (by simpa using h.1) fun j c y h1 h2=>by
  rw [List.getElem?_map] at h1
  cases hc:l[j]? with
  | none=>rw [hc] at h1;cases h1
  | some c'=>rw [hc] at h1;simp at h1;subst h1;exact .d (h.2 j c' y hc h2)
 simpa using this
theorem gQ.v {c:DV} {v:Value} (h:gQ w [c] [v]):aE (Gr w) [] (.d c) v:=.d (h.2 0 c v rfl rfl)
theorem aD.holds {f:FuncId} {args:List AV} (h:aD P f args (.v (.bool true))) {ys:List Value} (hl:ys.length=args.length) (hr:∀ (j:Nat) c y,args[j]?=some c→ys[j]?=some y→aE (Gr w) [] c y):Calls P f ys.toArray w fun e w'=>e=.returned (.bool true)∧Gr w w':=
 (h.2 w (Gr w) ys (fun _ g=>g) hl hr).mono fun e w' ⟨r,he,hg,H,⟨Ho,Hi,_,hd⟩,_⟩=>by
  cases hd with
  | v x=>exact ⟨he,hg⟩
end Go.Proofs.YtlinpknagdgphaaGreat
namespace Go.Proofs.YtlinpknagdgphaaGreat
open Go.RowKit Go.Deep
def TZ (P:Program) (w:World) (B:Nat) (t:TypeId) (cs:List Value):Prop:=∃ (H:Type) (enc:TypeId×Value→H) (base:Nat) (sp:Nat→Bool) (held:Bool) (fuel:Nat) (x:DataW H×List MemPlace),DataW.trod enc P w base sp held fuel t cs=some x∧∀ n ∈ x.1.weights P t,n≤B
variable {P:Program} {w:World} {t e:TypeId} {cs:List Value} {B:Nat} {α β γ:Type}
theorem TZ.of {H:Type} {enc:TypeId×Value→H} {base:Nat} {sp:Nat→Bool} {held:Bool} {v:Value} {d:DataW H} {ps:List MemPlace} (h:DataW.Trod enc P w base sp held t v d ps) (hb:∀ n ∈ d.weights P t,n≤B):TZ P w B t v.cells.toList:=by
 obtain ⟨n,h⟩:=h;exact ⟨H,enc,base,sp,held,n,_,h,hb⟩
theorem TZ.tr (h:TZ P w B t cs):TR P w t cs:=let ⟨H,enc,base,sp,held,fuel,x,h,_⟩:=h;⟨H,enc,base,sp,held,fuel,x,h⟩
theorem Dg {H:Type} {d:DataW H}:∀ {l:List (DataW H)},d ∈ l→∀ n ∈ d.weights P e,n ∈ DataW.weightsAll P e l
 | d'::r,h,n,hn=>by
  rw [DataW.weightsAll,List.mem_append]
  rcases List.mem_cons.1 h with rfl | h
  ·exact Or.inl hn
  ·exact Or.inr (Dg h n hn)
theorem TZ.slice (ht:P.underlying t=some (.slice e)) (hb:1≤P.bytesOf e) (h:TZ P w B t cs):∃ (v:Value) (n:Nat) (X:Nat→List Value),cs=[v]∧n*P.bytesOf e≤B∧(∀ i,i<n→(X i).length=P.cellsOf e∧TZ P w B e (X i))∧Src w (P.cellsOf e) v n ((List.range n).flatMap X)∧∃ a c,v=.slice a n c∧n≤c:=by
 obtain ⟨H,enc,base,sp,held,fuel,x,h,hB⟩:=h
 rcases open_slice ht h with ⟨rfl,_⟩ | ⟨a,len,cap,m,n,D,Pl,rfl,_,uc,RZ,hm,S8,hx⟩
 ·exact ⟨_,0,fun _=>[],rfl,by omega,fun i hi=>by omega,by simp [Src],_,_,rfl,Nat.zero_le _⟩
 ·have hle:len≤m:=by rw [hm];split<;>omega
  obtain ⟨X,hX⟩:=choose_lt (n:=len) (α:=List Value) (p:=fun i c=>w.cells? base (a.add (i*P.cellsOf e)) (P.cellsOf e)=some c∧DataW.trod enc P w base sp held n e c=some (D i,Pl i)) (fun i hi=>hx i (by omega))
  have hlen:∀ i,i<len→(X i).length=P.cellsOf e:=fun i hi=>(cells?_some (hX i hi).1).1
  rw [S8] at hB
  simp only [DataW.weights,ht] at hB
  have h1:=hB _ List.mem_cons_self
  refine ⟨_,len,X,rfl,?_,fun i hi=>⟨hlen i hi,H,enc,base,sp,held,n,_,(hX i hi).2,fun k hk=>hB k ?_⟩,⟨?_,?_⟩,⟨a,cap,rfl,uc⟩⟩
  ·rw [List.length_map,List.length_range,Nat.add_mul] at h1;omega
  ·exact List.mem_cons_of_mem _ (List.mem_append_left _ (Dg (List.mem_map.2 ⟨i,by simpa using hi,rfl⟩) k hk))
  ·exact sc hlen
  ·refine Or.inr ⟨a,cap,rfl,?_⟩
   have key:∀ k,k≤len→∀ j (hj:j<((List.range k).flatMap X).length),w.cell? (a.add j)=some ((List.range k).flatMap X)[j]:=by
    intro k
    induction k with
    | zero=>intro _ j hj;simp at hj
    | succ k ih=>
     intro hk j hj
     have QJ:(List.range (k+1)).flatMap X=(List.range k).flatMap X++X k:=by rw [List.range_succ,List.flatMap_append];simp
     have fG:((List.range k).flatMap X).length=k*P.cellsOf e:=sc (fun i hi=>hlen i (by omega))
     simp only [QJ] at hj ⊢
     rcases Nat.lt_or_ge j ((List.range k).flatMap X).length with h | h
     ·rw [List.getElem_append_left h];exact ih (by omega) j h
     ·rw [List.getElem_append_right h]
      have jt:j-((List.range k).flatMap X).length<(X k).length:=by rw [List.length_append] at hj;omega
      have:=(cells?_some (hX k (by omega)).1).2 _ jt
      rw [← this,Addr.na]
      congr 2
      omega
   exact key len (Nat.le_refl _)
theorem TZ.struct {fs:Array Field} (ht:P.underlying t=some (.struct fs)) (h:TZ P w B t cs):cs.length=P.cellsOf t∧∀ f ∈ fs.toList,TZ P w B f.type ((cs.drop f.offset).take (P.cellsOf f.type)):=by
 obtain ⟨H,enc,base,sp,held,fuel,x,h,hB⟩:=h
 obtain ⟨xs,n,-,hx,hl,Cg,hf⟩:=DataW.trod_struct ht h
 refine ⟨hl,fun f nK=>?_⟩
 obtain ⟨i,hi,rfl⟩:=List.getElem_of_mem nK
 have jr:i<fs.size:=by simpa using hi
 have h1:=hf i fs[i] (Array.getElem?_eq_getElem jr)
 rw [List.getElem?_eq_getElem (by omega)] at h1
 refine ⟨H,enc,base,sp,held,n,xs[i],by simpa using h1,fun k hk=>hB k ?_⟩
 rw [hx]
 simp only [DataW.weights,ht]
 exact DataW.weights_mem_each (j:=i) (by rw [List.getElem?_map,List.getElem?_eq_getElem hi];rfl) (by rw [List.getElem?_map,List.getElem?_eq_getElem (by omega)];rfl) k (by simpa using hk)
def dD (P:Program) (w:World) (B:Nat) (t:TypeId) {α:Type} (row:α→List DV) (ok:α→Prop):Prop:=∀ cs,TZ P w B t cs→∃ x,ok x∧gQ w (row x) cs
theorem Rd.sz {row:α→List DV} {ok:α→Prop} (h:Rd P w t row ok):dD P w B t row ok:=fun cs hc=>h cs hc.tr
theorem dD.slice [Inhabited α] {k b:Nat} {row:α→List DV} {ok:α→Prop} (h:P.underlying t=some (.slice e)) (hk:P.cellsOf e=k) (hb:P.bytesOf e=b) (dm:1≤b) (hr:dD P w B e row ok):dD P w B t (fun l:List α=>[.ro k (l.map row)]) fun l=>l.length*b≤B∧∀ x ∈ l,ok x:=fun cs hc=>by
 subst hk hb
 obtain ⟨v,n,X,rfl,hn,hX,hs,ew⟩:=TZ.slice h dm hc
 obtain ⟨Y,hY⟩:=choose_lt (n:=n) (α:=α) (p:=fun i x=>ok x∧gQ w (row x) (X i)) fun i hi=>hr _ (hX i hi).2
 have hg:∀ (i:Nat) r,(((List.range n).map Y).map row)[i]?=some r→i<n∧r=row (Y i):=fun i r hi=>by
  have aK:=(List.getElem?_eq_some_iff.1 hi).1
  simp at aK
  simp [aK] at hi
  exact ⟨aK,hi.symm⟩
 have hl:(((List.range n).map Y).map row).length=n:=by simp
 refine ⟨(List.range n).map Y,⟨by simpa using hn,?_⟩,.one (.ro X (fun i r hi=>?_) ?_ (fun w' g=>?_) fun i r j c x h1 h2 h3=>?_)⟩
 ·intro x hx
  obtain ⟨i,hi,rfl⟩:=List.mem_map.1 hx
  exact (hY i (by simpa using hi)).1
 ·obtain ⟨jr,rfl⟩:=hg i r hi
  refine ⟨?_,(hX i jr).1⟩
  rw [← (hX i jr).1];exact (hY i jr).2.1.symm
 ·rw [hl];exact ew
 ·rw [hl];exact hs.gr g
 ·obtain ⟨jr,rfl⟩:=hg i r h1
  exact (hY i jr).2.2 j c x h2 h3
theorem dD.map {row:α→List DV} {ok:α→Prop} (hr:dD P w B t row ok) (g:α→β) {BD:β→List DV} {IH:β→Prop} (h1:∀ x,row x=BD (g x)) (h2:∀ x,ok x→IH (g x)):dD P w B t BD IH:=fun cs hc=>by
 obtain ⟨x,h3,h4⟩:=hr cs hc
 exact ⟨g x,h2 x h3,h1 x▸h4⟩
end Go.Proofs.YtlinpknagdgphaaGreat
namespace Go.Proofs.YtlinpknagdgphaaGreat
open Go.RowKit
structure ah where
 node:Int
 inc:Nat
deriving DecidableEq
def ah.row (p:ah):List DV:=[.v (.int .i64 p.node),.v (.int .u64 (p.inc:Int))]
abbrev procs (l:List ah):List (List DV):=l.map ah.row
theorem cK {l:List ah} {i:Nat} {p:ah} (h:l[i]?=some p):(procs l)[i]?=some [.v (.int .i64 p.node),.v (.int .u64 (p.inc:Int))]:=by simp [procs,h,ah.row]
def ah.may (p:ah):Bool:=decide (1≤p.node∧p.node≤10∧0<p.inc)
theorem MT (d:Nat) (a b c e:Int) (w:World):(Op.equalIn (d+2) 24 (.agg #[.int .i64 a,.int .u64 b]) (.agg #[.int .i64 c,.int .u64 e])).run Tryz.prog w=.ok (a==c&&b==e) w:=
 K5 (f0:=⟨"Node",3,0,false, "", "",0⟩) (f1:=⟨"Inc",22,1,false, "", "",8⟩) (by kernel_rfl) (by kernel_rfl) (by decide) (by decide) (rV w (by kernel_rfl) rfl) (rV w (by kernel_rfl) rfl) (rV w (by kernel_rfl) rfl) (rV w (by kernel_rfl) rfl)
  (DZ w d (by kernel_rfl)) (DZ w d (by kernel_rfl))
def idx {α:Type} [DecidableEq α]:List α→α→Nat→Int
 | [],_,_ => -1
 | x::r,p,k=>if x=p then (k:Int) else idx r p (k+1)
theorem Ag {α:Type} [DecidableEq α] {p:α}:∀ {l:List α} {k i:Nat},l[i]?=some p→(∀ j,j<i→l[j]?≠some p)→idx l p k=((k+i:Nat):Int)
 | [],_,_,h,_=>by simp at h
 | x::r,k,0,h,_=>by simp at h;simp [idx,h]
 | x::r,k,i+1,h,hb=>by
  have h0:x≠p:=by have:=hb 0 (by omega);simpa using this
  rw [idx,if_neg h0,Ag (i:=i) (by simpa using h) fun j hj=>by simpa using hb (j+1) (by omega)]
  congr 1;omega
theorem yG {α:Type} [DecidableEq α] {p:α}:∀ {l:List α} {k:Nat},(∀ j,j<l.length→l[j]?≠some p)→idx l p k = -1
 | [],_,_=>rfl
 | x::r,k,h=>by
  have h0:x≠p:=by have:=h 0 (by simp);simpa using this
  rw [idx,if_neg h0]
  exact yG fun j hj=>by simpa using h (j+1) (by simpa using hj)
theorem iv {k:IntKind} {a b:Int} (h:a=b):DV.v (.int k a)=.v (.int k b):=by rw [h]
theorem qB {α:Type} {a b:List α} (hl:a.length=b.length) (h:∀ j,j<a.length→a[j]?=b[j]?):a=b:=by
 apply List.ext_getElem?
 intro j
 rcases Nat.lt_or_ge j a.length with hj | hj
 ·exact h j hj
 ·rw [List.getElem?_eq_none hj,List.getElem?_eq_none (by omega)]
theorem ez {t:TypeId} {xs ys:List Value} {c c':Bool} (e:dK Tryz.prog t xs ys c) (h:c=c'):dK Tryz.prog t xs ys c':=h▸e
theorem Gz (a b c d:Int):dK Tryz.prog 24 [.int .i64 a,.int .u64 b] [.int .i64 c,.int .u64 d] (a==c&&b==d):=⟨by kernel_rfl,fun w=>MT 9998 a b c d w⟩
theorem eN (x y:ah):dK Tryz.prog 24 [.int .i64 x.node,.int .u64 (x.inc:Int)] [.int .i64 y.node,.int .u64 (y.inc:Int)] (decide (x=y)):=by
 have h:=Gz x.node x.inc y.node y.inc
 refine ez h ?_
 cases x with | mk a b=>cases y with | mk c d=>
 rw [Bool.eq_iff_iff]
 simp only [Bool.and_eq_true,beq_iff_eq,decide_eq_true_eq,ah.mk.injEq]
 omega
set_option maxRecDepth 100000 in
theorem mc (p:ah):aD Tryz.prog 17 [.ag [.z p.node,.u p.inc]] (DV.v (.bool p.may)):=by
 refine aD.intro (by kernel_rfl) rfl rfl 16 rfl rfl fun w0 K ac hK r=>?_
 cases h0:(decide ((1:Int)≤p.node)) with
 | false=>
  have bH:=of_decide_eq_false h0
  rw [show (DV.v (.bool p.may):DV)=.v (.bool false) from (bv (by simp [ah.may];omega))]
  exact aQ tk tq hK rfl [(1,[(2,.b false)])] 2000 r (by kernel_rfl) (U h0 trivial)
 | true=>
  have bH:=of_decide_eq_true h0
  cases h1:(decide ((p.node:Int)≤10)) with
  | false=>
   have bN:=of_decide_eq_false h1
   rw [show (DV.v (.bool p.may):DV)=.v (.bool false) from (bv (by simp [ah.may];omega))]
   exact aQ tk tq hK rfl [(1,[(2,.b true),(6,.b false)])] 2000 r (by kernel_rfl) (U h0 (U h1 trivial))
  | true=>
   have bN:=of_decide_eq_true h1
   cases h2:(decide ((0:Int)<((p.inc:Nat):Int))) with
   | false=>
    have b7:=of_decide_eq_false h2
    rw [show (DV.v (.bool p.may):DV)=.v (.bool false) from (bv (by simp [ah.may];omega))]
    exact aQ tk tq hK rfl [(1,[(2,.b true),(6,.b true),(11,.b false)])] 2000 r (by kernel_rfl) (U h0 (U h1 (U h2 trivial)))
   | true=>
    have b7:=of_decide_eq_true h2
    rw [show (DV.v (.bool p.may):DV)=.v (.bool true) from (bv (by simp [ah.may];omega))]
    exact aQ tk tq hK rfl [(1,[(2,.b true),(6,.b true),(11,.b true)])] 2000 r (by kernel_rfl) (U h0 (U h1 (U h2 trivial)))
set_option maxRecDepth 100000 in
theorem DB (a b:List ah) (hb:a.length<2147483648):aD Tryz.prog 36 [.d (.ro 2 (procs a)),.d (.ro 2 (procs b))] (DV.v (.bool (decide (a=b)))):=by
 refine aD.intro (by kernel_rfl) rfl rfl 26 rfl rfl fun w0 K ac hK r=>?_
 have u0:=((by simp):(((procs a).length:Nat):Int)=((a.length:Nat):Int))
 have u1:=((by simp):(((procs b).length:Nat):Int)=((b.length:Nat):Int))
 cases h0:((((a.length:Nat):Int):Int) != ((b.length:Nat):Int)) with
 | false=>
  have bH:=gK h0
  refine bU (todo':=hd Tryz.f36 0) (E':=[(0,.d (.ro 2 (procs a))),(1,.d (.ro 2 (procs b))),(12,.n a.length),(13,.n 0)]) (M':=[]) tk tq hK [(1,[(1,.z (((a.length:Nat):Int))),(3,.z (((b.length:Nat):Int))),(4,.b false)]),(3,[(1,.z (((a.length:Nat):Int)))])] 2000 [] [0,1,12,13] r (by kernel_rfl) (U u0 (U u1 (U h0 (U u0 trivial)))) fun ac wd r=>?_
  refine aN.rounds (Φ:=fun (i:Nat) ac wd=>(i≤a.length∧∀ j,j<i→a[j]?=b[j]?)∧ec [] w0 K 26 [(0,.d (.ro 2 (procs a))),(1,.d (.ro 2 (procs b))),(12,.n a.length),(13,.n i)] [] ac wd) (a.length) ?_ (Nat.zero_le _) ⟨⟨by omega,by omega⟩,r⟩
  clear r
  rintro i cI bo ac wd ⟨aM,r⟩
  obtain ⟨eS,aM⟩:=aM
  cases h1:(decide ((((i:Nat):Int):Int)<((a.length:Nat):Int))) with
  | false=>
   have bN:=of_decide_eq_false h1
   rw [show (DV.v (.bool (decide (a=b))):DV)=.v (.bool true) from (bv (by first | (simp;intro e;subst e;simp_all;done) | (simp;exact qB (by omega) fun j hj=>aM j (by omega))))]
   exact aQ tk tq hK rfl [(4,[(0,.b false)])] 2000 r (by kernel_rfl) (U h1 trivial)
  | true=>
   have bN:=of_decide_eq_true h1
   obtain ⟨gA,oS⟩:∃ x,a[i]?=some x:=⟨_,List.getElem?_eq_getElem (by omega)⟩
   obtain ⟨dC,kj⟩:∃ x,b[i]?=some x:=⟨_,List.getElem?_eq_getElem (by omega)⟩
   cases h2:(decide (gA=dC)) with
   | false=>
    have b7:=of_decide_eq_false h2
    rw [show (DV.v (.bool (decide (a=b))):DV)=.v (.bool false) from (bv (by first | (simp;intro e;subst e;simp_all;done) | (simp;exact qB (by omega) fun j hj=>aM j (by omega))))]
    exact aQ tk tq hK rfl [(4,[(0,.b true)]),(6,[(2,.ix (i) [.z gA.node,.u gA.inc]),(6,.ix (i) [.z dC.node,.u dC.inc]),(8,.b false)])] 2000 r (by kernel_rfl) (U h1 (U (aX ((i:Nat):Int)) (U (cK oS) (U (aX ((i:Nat):Int)) (U (cK kj) (U ((ez (eN _ _) h2):dK Tryz.prog 24 [(.int .i64 (gA.node)),(.int .u64 (((gA.inc:Nat):Int)))] [(.int .i64 (dC.node)),(.int .u64 (((dC.inc:Nat):Int)))] false) trivial))))))
   | true=>
    have b7:=of_decide_eq_true h2
    exact bU (todo':=hd Tryz.f36 0) tk tq hK [(4,[(0,.b true)]),(6,[(2,.ix (i) [.z gA.node,.u gA.inc]),(6,.ix (i) [.z dC.node,.u dC.inc]),(8,.b true)]),(8,[(0,.z (((i+1:Nat):Int)))])] 2000 [] [0,1,12,13] r (by kernel_rfl) (U h1 (U (aX ((i:Nat):Int)) (U (cK oS) (U (aX ((i:Nat):Int)) (U (cK kj) (U ((ez (eN _ _) h2):dK Tryz.prog 24 [(.int .i64 (gA.node)),(.int .u64 (((gA.inc:Nat):Int)))] [(.int .i64 (dC.node)),(.int .u64 (((dC.inc:Nat):Int)))] true) (U ((wi (by omega)):IntKind.i64.wrap ((((i:Nat):Int):Int)+1)=((i+1:Nat):Int)) trivial))))))) fun ac wd r=>bo (by omega) ac wd ⟨⟨by omega,fun j hj=>by rcases Nat.lt_succ_iff_lt_or_eq.1 hj with h | rfl;exact aM j h;simp only [oS,kj,Option.some.injEq];first | assumption | omega⟩,r⟩
 | true=>
  have bH:¬ _=_:=bne_iff_ne.1 h0
  rw [show (DV.v (.bool (decide (a=b))):DV)=.v (.bool false) from (bv (by first | (simp;intro e;subst e;simp_all;done) | (simp;exact qB (by omega) fun j hj=>aM j (by omega))))]
  exact aQ tk tq hK rfl [(1,[(1,.z (((a.length:Nat):Int))),(3,.z (((b.length:Nat):Int))),(4,.b true)])] 2000 r (by kernel_rfl) (U u0 (U u1 (U h0 trivial)))
set_option maxRecDepth 100000 in
theorem EG (a b:List ah) (hb:a.length<2147483648):aD Tryz.prog 14 [.d (.ro 2 (procs a)),.d (.ro 2 (procs b))] (DV.v (.bool (decide (a=b)))):=by
 refine aD.intro (by kernel_rfl) rfl rfl 26 rfl rfl fun w0 K ac hK r=>?_
 have u0:=((by simp):(((procs a).length:Nat):Int)=((a.length:Nat):Int))
 have u1:=((by simp):(((procs b).length:Nat):Int)=((b.length:Nat):Int))
 cases h0:((((a.length:Nat):Int):Int) != ((b.length:Nat):Int)) with
 | false=>
  have bH:=gK h0
  refine bU (todo':=hd Tryz.f14 0) (E':=[(0,.d (.ro 2 (procs a))),(1,.d (.ro 2 (procs b))),(5,.n 0)]) (M':=[]) tk tq hK [(1,[(1,.z (((a.length:Nat):Int))),(3,.z (((b.length:Nat):Int))),(4,.b false)])] 2000 [] [0,1,5] r (by kernel_rfl) (U u0 (U u1 (U h0 trivial))) fun ac wd r=>?_
  refine aN.rounds (Φ:=fun (i:Nat) ac wd=>(i≤a.length∧∀ j,j<i→a[j]?=b[j]?)∧ec [] w0 K 26 [(0,.d (.ro 2 (procs a))),(1,.d (.ro 2 (procs b))),(5,.n i)] [] ac wd) (a.length) ?_ (Nat.zero_le _) ⟨⟨by omega,by omega⟩,r⟩
  clear r
  rintro i cI bo ac wd ⟨aM,r⟩
  obtain ⟨eS,aM⟩:=aM
  cases h1:(decide ((((i:Nat):Int):Int)<((a.length:Nat):Int))) with
  | false=>
   have bN:=of_decide_eq_false h1
   rw [show (DV.v (.bool (decide (a=b))):DV)=.v (.bool true) from (bv (by first | (simp;intro e;subst e;simp_all;done) | (simp;exact qB (by omega) fun j hj=>aM j (by omega))))]
   exact aQ tk tq hK rfl [(4,[(2,.z (((a.length:Nat):Int))),(3,.b false)])] 2000 r (by kernel_rfl) (U u0 (U h1 trivial))
  | true=>
   have bN:=of_decide_eq_true h1
   obtain ⟨gA,oS⟩:∃ x,a[i]?=some x:=⟨_,List.getElem?_eq_getElem (by omega)⟩
   obtain ⟨dC,kj⟩:∃ x,b[i]?=some x:=⟨_,List.getElem?_eq_getElem (by omega)⟩
   cases h2:(decide (gA=dC)) with
   | false=>
    have b7:=of_decide_eq_false h2
    rw [show (DV.v (.bool (decide (a=b))):DV)=.v (.bool false) from (bv (by first | (simp;intro e;subst e;simp_all;done) | (simp;exact qB (by omega) fun j hj=>aM j (by omega))))]
    exact aQ tk tq hK rfl [(4,[(2,.z (((a.length:Nat):Int))),(3,.b true)]),(6,[(2,.ix (i) [.z gA.node,.u gA.inc]),(6,.ix (i) [.z dC.node,.u dC.inc]),(8,.b false)])] 2000 r (by kernel_rfl) (U u0 (U h1 (U (aX ((i:Nat):Int)) (U (cK oS) (U (aX ((i:Nat):Int)) (U (cK kj) (U ((ez (eN _ _) h2):dK Tryz.prog 24 [(.int .i64 (gA.node)),(.int .u64 (((gA.inc:Nat):Int)))] [(.int .i64 (dC.node)),(.int .u64 (((dC.inc:Nat):Int)))] false) trivial)))))))
   | true=>
    have b7:=of_decide_eq_true h2
    exact bU (todo':=hd Tryz.f14 0) tk tq hK [(4,[(2,.z (((a.length:Nat):Int))),(3,.b true)]),(5,[(1,.z (((i+1:Nat):Int)))]),(6,[(2,.ix (i) [.z gA.node,.u gA.inc]),(6,.ix (i) [.z dC.node,.u dC.inc]),(8,.b true)])] 2000 [] [0,1,5] r (by kernel_rfl) (U u0 (U h1 (U (aX ((i:Nat):Int)) (U (cK oS) (U (aX ((i:Nat):Int)) (U (cK kj) (U ((ez (eN _ _) h2):dK Tryz.prog 24 [(.int .i64 (gA.node)),(.int .u64 (((gA.inc:Nat):Int)))] [(.int .i64 (dC.node)),(.int .u64 (((dC.inc:Nat):Int)))] true) (U ((wi (by omega)):IntKind.i64.wrap ((((i:Nat):Int):Int)+1)=((i+1:Nat):Int)) trivial)))))))) fun ac wd r=>bo (by omega) ac wd ⟨⟨by omega,fun j hj=>by rcases Nat.lt_succ_iff_lt_or_eq.1 hj with h | rfl;exact aM j h;simp only [oS,kj,Option.some.injEq];first | assumption | omega⟩,r⟩
 | true=>
  have bH:¬ _=_:=bne_iff_ne.1 h0
  rw [show (DV.v (.bool (decide (a=b))):DV)=.v (.bool false) from (bv (by first | (simp;intro e;subst e;simp_all;done) | (simp;exact qB (by omega) fun j hj=>aM j (by omega))))]
  exact aQ tk tq hK rfl [(1,[(1,.z (((a.length:Nat):Int))),(3,.z (((b.length:Nat):Int))),(4,.b true)])] 2000 r (by kernel_rfl) (U u0 (U u1 (U h0 trivial)))
set_option maxRecDepth 100000 in
theorem DC (l:List ah) (p:ah) (hb:l.length<2147483648):aD Tryz.prog 105 [.d (.ro 2 (procs l)),.ag [.z p.node,.u p.inc]] (DV.v (.int .i64 (idx l p 0))):=by
 refine aD.intro (by kernel_rfl) rfl rfl 19 rfl rfl fun w0 K ac hK r=>?_
 refine bU (todo':=hd Tryz.f105 0) (E':=[(0,.d (.ro 2 (procs l))),(3,.pt 0 0),(7,.n l.length),(8,.n 0)]) (M':=[.bx 24 [.z p.node,.u p.inc]]) tk tq hK [(1,[(1,.z (((l.length:Nat):Int)))])] 2000 [0] [0,3,7,8] r (by kernel_rfl) (U ((by simp):(((procs l).length:Nat):Int)=((l.length:Nat):Int)) trivial) fun ac wd r=>?_
 refine aN.rounds (Φ:=fun (i:Nat) ac wd=>(i≤l.length∧∀ j,j<i→l[j]?≠some p)∧ec [] w0 K 19 [(0,.d (.ro 2 (procs l))),(3,.pt 0 0),(7,.n l.length),(8,.n i)] [.bx 24 [.z p.node,.u p.inc]] ac wd) (l.length) ?_ (Nat.zero_le _) ⟨⟨by omega,by omega⟩,r⟩
 clear r
 rintro i cI bo ac wd ⟨aM,r⟩
 obtain ⟨eS,aM⟩:=aM
 cases h0:(decide ((((i:Nat):Int):Int)<((l.length:Nat):Int))) with
 | false=>
  have bH:=of_decide_eq_false h0
  rw [show (DV.v (.int .i64 (idx l p 0)):DV)=.z (-1) from (iv (by first | (rw [Ag (i:=i) (by rw [cv];congr 1;first | (symm;assumption) | omega) (fun j hj=>aM j hj)];simp;done) | exact yG fun j hj=>aM j (by omega)))]
  exact aQ tk tq hK rfl [(2,[(0,.b false)])] 2000 r (by kernel_rfl) (U h0 trivial)
 | true=>
  have bH:=of_decide_eq_true h0
  obtain ⟨aq,cv⟩:∃ x,l[i]?=some x:=⟨_,List.getElem?_eq_getElem (by omega)⟩
  cases h1:(decide (p=aq)) with
  | false=>
   have bN:=of_decide_eq_false h1
   exact bU (todo':=hd Tryz.f105 0) tk tq hK [(2,[(0,.b true)]),(4,[(3,.ix (i) [.z aq.node,.u aq.inc]),(5,.b false)]),(6,[(0,.z (((i+1:Nat):Int)))])] 2000 [0] [0,3,7,8] r (by kernel_rfl) (U h0 (U (aX ((i:Nat):Int)) (U (cK cv) (U ((ez (eN _ _) h1):dK Tryz.prog 24 [(.int .i64 (p.node)),(.int .u64 (((p.inc:Nat):Int)))] [(.int .i64 (aq.node)),(.int .u64 (((aq.inc:Nat):Int)))] false) (U ((wi (by omega)):IntKind.i64.wrap ((((i:Nat):Int):Int)+1)=((i+1:Nat):Int)) trivial))))) fun ac wd r=>bo (by omega) ac wd ⟨⟨by omega,fun j hj=>by rcases Nat.lt_succ_iff_lt_or_eq.1 hj with h | rfl;exact aM j h;simp only [cv,Option.some.injEq,ne_eq];intro e;first | omega | simp_all⟩,r⟩
  | true=>
   have bN:=of_decide_eq_true h1
   rw [show (DV.v (.int .i64 (idx l p 0)):DV)=.n i from (iv (by first | (rw [Ag (i:=i) (by rw [cv];congr 1;first | (symm;assumption) | omega) (fun j hj=>aM j hj)];simp;done) | exact yG fun j hj=>aM j (by omega)))]
   exact aQ tk tq hK rfl [(2,[(0,.b true)]),(4,[(3,.ix (i) [.z aq.node,.u aq.inc]),(5,.b true)])] 2000 r (by kernel_rfl) (U h0 (U (aX ((i:Nat):Int)) (U (cK cv) (U ((ez (eN _ _) h1):dK Tryz.prog 24 [(.int .i64 (p.node)),(.int .u64 (((p.inc:Nat):Int)))] [(.int .i64 (aq.node)),(.int .u64 (((aq.inc:Nat):Int)))] true) trivial))))
def eF (a b:Int):Int:=if a<b then -1 else if b<a then 1 else 0
def ah.cmp (p q:ah):Int:=if eF p.node q.node≠0 then eF p.node q.node else eF p.inc q.inc
def ah.lt (p q:ah):Bool:=decide (p.node<q.node∨p.node=q.node∧p.inc<q.inc)
theorem GA (p q:ah):(decide (0≤p.cmp q))=!p.lt q:=by
 unfold ah.cmp ah.lt eF
 rw [Bool.eq_iff_iff]
 simp only [decide_eq_true_eq,Bool.not_eq_true',decide_eq_false_iff_not]
 repeat' split
 all_goals omega
set_option maxRecDepth 100000 in
theorem Py (a b:Int):aD Tryz.prog 78 [.z a,.z b] (DV.v (.int .i64 (eF a b))):=by
 refine aD.intro (by kernel_rfl) rfl rfl 20 rfl rfl fun w0 K ac hK r=>?_
 cases h0:(decide ((a:Int)<b)) with
 | false=>
  have bH:=of_decide_eq_false h0
  cases h1:(decide ((b:Int)<a)) with
  | false=>
   have bN:=of_decide_eq_false h1
   rw [show (DV.v (.int .i64 (eF a b)):DV)=.z 0 from (iv (by unfold eF;(repeat' split)<;>omega))]
   exact aQ tk tq hK rfl [(1,[(1,.dt 200 [(1,[(2,.b false)])])]),(2,[(1,.dt 200 [(1,[(2,.b false)])])]),(9,[(2,.b false)]),(11,[(2,.b false)])] 2000 r (by kernel_rfl) (U ((by simp):((a:Int) != a)=false) (U ((by simp):((b:Int) != b)=false) (U h0 (U h1 trivial))))
  | true=>
   have bN:=of_decide_eq_true h1
   rw [show (DV.v (.int .i64 (eF a b)):DV)=.z 1 from (iv (by unfold eF;(repeat' split)<;>omega))]
   exact aQ tk tq hK rfl [(1,[(1,.dt 200 [(1,[(2,.b false)])])]),(2,[(1,.dt 200 [(1,[(2,.b false)])])]),(9,[(2,.b false)]),(11,[(2,.b true)])] 2000 r (by kernel_rfl) (U ((by simp):((a:Int) != a)=false) (U ((by simp):((b:Int) != b)=false) (U h0 (U h1 trivial))))
 | true=>
  have bH:=of_decide_eq_true h0
  rw [show (DV.v (.int .i64 (eF a b)):DV)=.z (-1) from (iv (by unfold eF;(repeat' split)<;>omega))]
  exact aQ tk tq hK rfl [(1,[(1,.dt 200 [(1,[(2,.b false)])])]),(2,[(1,.dt 200 [(1,[(2,.b false)])])]),(9,[(2,.b true)])] 2000 r (by kernel_rfl) (U ((by simp):((a:Int) != a)=false) (U ((by simp):((b:Int) != b)=false) (U h0 trivial)))
set_option maxRecDepth 100000 in
theorem Oh (a b:Int):aD Tryz.prog 80 [.d (.v (.int .u64 (a))),.d (.v (.int .u64 (b)))] (DV.v (.int .i64 (eF a b))):=by
 refine aD.intro (by kernel_rfl) rfl rfl 20 rfl rfl fun w0 K ac hK r=>?_
 cases h0:(decide ((a:Int)<b)) with
 | false=>
  have bH:=of_decide_eq_false h0
  cases h1:(decide ((b:Int)<a)) with
  | false=>
   have bN:=of_decide_eq_false h1
   rw [show (DV.v (.int .i64 (eF a b)):DV)=.z 0 from (iv (by unfold eF;(repeat' split)<;>omega))]
   exact aQ tk tq hK rfl [(1,[(1,.dt 200 [(1,[(2,.b false)])])]),(2,[(1,.dt 200 [(1,[(2,.b false)])])]),(9,[(2,.b false)]),(11,[(2,.b false)])] 2000 r (by kernel_rfl) (U ((by simp):((a:Int) != a)=false) (U ((by simp):((b:Int) != b)=false) (U h0 (U h1 trivial))))
  | true=>
   have bN:=of_decide_eq_true h1
   rw [show (DV.v (.int .i64 (eF a b)):DV)=.z 1 from (iv (by unfold eF;(repeat' split)<;>omega))]
   exact aQ tk tq hK rfl [(1,[(1,.dt 200 [(1,[(2,.b false)])])]),(2,[(1,.dt 200 [(1,[(2,.b false)])])]),(9,[(2,.b false)]),(11,[(2,.b true)])] 2000 r (by kernel_rfl) (U ((by simp):((a:Int) != a)=false) (U ((by simp):((b:Int) != b)=false) (U h0 (U h1 trivial))))
 | true=>
  have bH:=of_decide_eq_true h0
  rw [show (DV.v (.int .i64 (eF a b)):DV)=.z (-1) from (iv (by unfold eF;(repeat' split)<;>omega))]
  exact aQ tk tq hK rfl [(1,[(1,.dt 200 [(1,[(2,.b false)])])]),(2,[(1,.dt 200 [(1,[(2,.b false)])])]),(9,[(2,.b true)])] 2000 r (by kernel_rfl) (U ((by simp):((a:Int) != a)=false) (U ((by simp):((b:Int) != b)=false) (U h0 trivial)))
set_option maxRecDepth 100000 in
theorem uD (p q:ah):aD Tryz.prog 63 [.ag [.z p.node,.u p.inc],.ag [.z q.node,.u q.inc]] (DV.v (.int .i64 (p.cmp q))):=by
 refine aD.intro (by kernel_rfl) rfl rfl 14 rfl rfl fun w0 K ac hK r=>?_
 have u0:=(Py _ _:aD Tryz.prog 78 [.z p.node,.z q.node] (.z (eF (p.node) (q.node))))
 cases h0:((eF (p.node) (q.node):Int) != 0) with
 | false=>
  have bH:=gK h0
  rw [show (DV.v (.int .i64 (p.cmp q)):DV)=.z (eF (((p.inc:Nat):Int)) (((q.inc:Nat):Int))) from (iv (by unfold ah.cmp;simp_all))]
  exact aQ tk tq hK rfl [(2,[(5,.aJ (.z (eF (p.node) (q.node)))),(7,.dt 200 [(1,[(1,.b false)]),(3,[(1,.dt 200 [(1,[(4,.aJ (.z (eF (((p.inc:Nat):Int)) (((q.inc:Nat):Int)))))])])])])])] 2000 r (by kernel_rfl) (U u0 (U h0 (U (Oh _ _:aD Tryz.prog 80 [.u p.inc,.u q.inc] (.z (eF (((p.inc:Nat):Int)) (((q.inc:Nat):Int))))) trivial)))
 | true=>
  have bH:¬ _=_:=bne_iff_ne.1 h0
  rw [show (DV.v (.int .i64 (p.cmp q)):DV)=.z (eF (p.node) (q.node)) from (iv (by unfold ah.cmp;simp_all))]
  exact aQ tk tq hK rfl [(2,[(5,.aJ (.z (eF (p.node) (q.node)))),(7,.dt 200 [(1,[(1,.b true)])])])] 2000 r (by kernel_rfl) (U u0 (U h0 trivial))
end Go.Proofs.YtlinpknagdgphaaGreat
namespace Go.Proofs.YtlinpknagdgphaaGreat
open Go.RowKit
def gB (l:List ah) (i:Nat):Prop:=(∀ j p,j<i→l[j]?=some p→p.may=true)∧∀ j p q,j+1<i→l[j]?=some p→l[j+1]?=some q→p.lt q=true
def BU (l:List ah) (j:Nat):Bool:=match l[j]?,l[j+1]? with | some p,some q=>p.lt q | _,_=>true
def isSet (l:List ah):Bool:=((List.range l.length).all fun j=>match l[j]? with | some p=>p.may | none=>true)&&(List.range (l.length-1)).all (BU l)
theorem rX (l:List ah):isSet l=true↔gB l l.length:=by
 simp only [isSet,Bool.and_eq_true,List.all_eq_true,List.mem_range,gB]
 constructor
 ·rintro ⟨h1,h2⟩
  refine ⟨fun j p hj hp=>by have:=h1 j hj;simpa [hp] using this,fun j p q hj hp hq=>?_⟩
  have:=h2 j (by omega);simpa [BU,hp,hq] using this
 ·rintro ⟨h1,h2⟩
  refine ⟨fun j hj=>?_,fun j hj=>?_⟩
  ·rw [List.getElem?_eq_getElem hj];exact h1 j _ hj (List.getElem?_eq_getElem hj)
  ·have e1:l[j]?=some l[j]:=List.getElem?_eq_getElem (by omega)
   have e2:l[j+1]?=some l[j+1]:=List.getElem?_eq_getElem (by omega)
   simp only [BU,e1,e2];exact h2 j _ _ (by omega) e1 e2
theorem uR {l:List ah} (h:gB l l.length):isSet l=true:=(rX l).2 h
theorem pZ {l:List ah} (h:¬ gB l l.length):isSet l=false:=by
 cases hs:isSet l with
 | false=>rfl
 | true=>exact absurd ((rX l).1 hs) h
theorem gB.step {l:List ah} {i:Nat} {p:ah} (h:gB l i) (hp:l[i]?=some p) (hm:p.may=true) (hc:∀ q,0<i→l[i-1]?=some q→q.lt p=true):gB l (i+1):=by
 refine ⟨fun j q hj hq=>?_,fun j a b hj ha hb=>?_⟩
 ·rcases Nat.lt_succ_iff_lt_or_eq.1 hj with h' | rfl
  ·exact h.1 j q h' hq
  ·rw [hp] at hq;cases hq;exact hm
 ·rcases Nat.lt_succ_iff_lt_or_eq.1 hj with h' | h'
  ·exact h.2 j a b h' ha hb
  ·have:j=i-1:=by omega
   subst this
   have hi:i-1+1=i:=by omega
   rw [hi,hp] at hb;cases hb
   exact hc a (by omega) ha
theorem gB.kE {l:List ah} {i n:Nat} {p:ah} (hp:l[i]?=some p) (hm:p.may=false) (hi:i<n):¬ gB l n:=fun h=>by have:=h.1 i p hi hp;rw [hm] at this;cases this
theorem gB.kF {l:List ah} {i n:Nat} {p q:ah} (hp:l[i]?=some p) (hq:l[i-1]?=some q) (h0:0<i) (hm:q.lt p=false) (hi:i<n):¬ gB l n:=fun h=>by
 have:=h.2 (i-1) q p (by omega) hq (by rw [show i-1+1=i by omega];exact hp);rw [hm] at this;cases this
theorem rY {p q:ah} {b:Bool} (h:(decide ((0:Int)≤p.cmp q))=b):p.lt q=!b:=by rw [← h,GA];simp
set_option maxRecDepth 100000 in
theorem FF (l:List ah) (hb:l.length<2147483648):aD Tryz.prog 53 [.d (.ro 2 (procs l))] (DV.v (.bool (isSet l))):=by
 refine aD.intro (by kernel_rfl) rfl rfl 30 rfl rfl fun w0 K ac hK r=>?_
 refine bU (todo':=hd Tryz.f53 0) (E':=[(0,.d (.ro 2 (procs l))),(5,.d (.ro 2 (procs l))),(6,.n l.length),(7,.n 0)]) (M':=[]) tk tq hK [(1,[(1,.z (((l.length:Nat):Int)))])] 2000 [] [0,5,6,7] r (by kernel_rfl) (U ((by simp):(((procs l).length:Nat):Int)=((l.length:Nat):Int)) trivial) fun ac wd r=>?_
 refine aN.rounds (Φ:=fun (i:Nat) ac wd=>(i≤l.length∧gB l i)∧ec [] w0 K 30 [(0,.d (.ro 2 (procs l))),(5,.d (.ro 2 (procs l))),(6,.n l.length),(7,.n i)] [] ac wd) (l.length) ?_ (Nat.zero_le _) ⟨⟨by omega,by simp [gB]⟩,r⟩
 clear r
 rintro i cI bo ac wd ⟨aM,r⟩
 obtain ⟨eS,aM⟩:=aM
 cases h0:(decide ((((i:Nat):Int):Int)<((l.length:Nat):Int))) with
 | false=>
  have bH:=of_decide_eq_false h0
  rw [show (DV.v (.bool (isSet l)):DV)=.v (.bool true) from (bv (by first | exact uR (by rw [show l.length=i by omega];exact aM) | exact pZ (gB.kE cv (by assumption) (by omega)) | exact pZ (gB.kF cv ig (by omega) (by first | assumption | (rw [rY (by assumption)];rfl)) (by omega))))]
  exact aQ tk tq hK rfl [(2,[(0,.b false)])] 2000 r (by kernel_rfl) (U h0 trivial)
 | true=>
  have bH:=of_decide_eq_true h0
  obtain ⟨aq,cv⟩:∃ x,l[i]?=some x:=⟨_,List.getElem?_eq_getElem (by omega)⟩
  cases h1:(aq.may) with
  | false=>
   rw [show (DV.v (.bool (isSet l)):DV)=.v (.bool false) from (bv (by first | exact uR (by rw [show l.length=i by omega];exact aM) | exact pZ (gB.kE cv (by assumption) (by omega)) | exact pZ (gB.kF cv ig (by omega) (by first | assumption | (rw [rY (by assumption)];rfl)) (by omega))))]
   exact aQ tk tq hK rfl [(2,[(0,.b true)]),(3,[(1,.ix (i) [.z aq.node,.u aq.inc])]),(4,[(1,.aJ (.v (.bool false)))])] 2000 r (by kernel_rfl) (U h0 (U (aX ((i:Nat):Int)) (U (cK cv) (U ((by have k:=mc aq;rw [h1] at k;exact k):aD Tryz.prog 17 [.ag [.z aq.node,.u aq.inc]] (.v (.bool false))) trivial))))
  | true=>
   have u0:=((by have k:=mc aq;rw [h1] at k;exact k):aD Tryz.prog 17 [.ag [.z aq.node,.u aq.inc]] (.v (.bool true)))
   cases h2:(decide ((0:Int)<((i:Nat):Int))) with
   | false=>
    have b7:=of_decide_eq_false h2
    exact bU (todo':=hd Tryz.f53 0) tk tq hK [(2,[(0,.b true)]),(3,[(1,.ix (i) [.z aq.node,.u aq.inc])]),(4,[(1,.aJ (.v (.bool true))),(5,.b false)]),(6,[(0,.z (((i+1:Nat):Int)))])] 2000 [] [0,5,6,7] r (by kernel_rfl) (U h0 (U (aX ((i:Nat):Int)) (U (cK cv) (U u0 (U h2 (U ((wi (by omega)):IntKind.i64.wrap ((((i:Nat):Int):Int)+1)=((i+1:Nat):Int)) trivial)))))) fun ac wd r=>bo (by omega) ac wd ⟨⟨by omega,aM.step cv (by assumption) fun q rJ hq=>by first | (exfalso;omega) | (rw [ig] at hq;cases hq;first | assumption | (rw [rY (by assumption)];rfl))⟩,r⟩
   | true=>
    have b7:=of_decide_eq_true h2
    obtain ⟨fU,ig⟩:∃ x,l[i-1]?=some x:=⟨_,List.getElem?_eq_getElem (by omega)⟩
    have u1:=((wi (by omega)):IntKind.i64.wrap ((((i:Nat):Int):Int)-1)=((i-1:Nat):Int))
    have u2:=(uD _ _:aD Tryz.prog 63 [.ag [.z fU.node,.u fU.inc],.ag [.z aq.node,.u aq.inc]] (.z (fU.cmp aq)))
    cases h3:(decide ((0:Int)≤fU.cmp aq)) with
    | false=>
     have eV:=of_decide_eq_false h3
     exact bU (todo':=hd Tryz.f53 0) tk tq hK [(2,[(0,.b true)]),(3,[(1,.ix (i) [.z aq.node,.u aq.inc])]),(4,[(1,.aJ (.v (.bool true))),(5,.b true),(9,.z (((i-1:Nat):Int))),(10,.ix (i-1) [.z fU.node,.u fU.inc]),(13,.aJ (.z (fU.cmp aq))),(14,.b false)]),(6,[(0,.z (((i+1:Nat):Int)))])] 2000 [] [0,5,6,7] r (by kernel_rfl) (U h0 (U (aX ((i:Nat):Int)) (U (cK cv) (U u0 (U h2 (U u1 (U (aX ((i-1:Nat):Int)) (U (cK ig) (U u2 (U h3 (U ((wi (by omega)):IntKind.i64.wrap ((((i:Nat):Int):Int)+1)=((i+1:Nat):Int)) trivial))))))))))) fun ac wd r=>bo (by omega) ac wd ⟨⟨by omega,aM.step cv (by assumption) fun q rJ hq=>by first | (exfalso;omega) | (rw [ig] at hq;cases hq;first | assumption | (rw [rY (by assumption)];rfl))⟩,r⟩
    | true=>
     have eV:=of_decide_eq_true h3
     rw [show (DV.v (.bool (isSet l)):DV)=.v (.bool false) from (bv (by first | exact uR (by rw [show l.length=i by omega];exact aM) | exact pZ (gB.kE cv (by assumption) (by omega)) | exact pZ (gB.kF cv ig (by omega) (by first | assumption | (rw [rY (by assumption)];rfl)) (by omega))))]
     exact aQ tk tq hK rfl [(2,[(0,.b true)]),(3,[(1,.ix (i) [.z aq.node,.u aq.inc])]),(4,[(1,.aJ (.v (.bool true))),(5,.b true),(9,.z (((i-1:Nat):Int))),(10,.ix (i-1) [.z fU.node,.u fU.inc]),(13,.aJ (.z (fU.cmp aq))),(14,.b true)])] 2000 r (by kernel_rfl) (U h0 (U (aX ((i:Nat):Int)) (U (cK cv) (U u0 (U h2 (U u1 (U (aX ((i-1:Nat):Int)) (U (cK ig) (U u2 (U h3 trivial))))))))))
end Go.Proofs.YtlinpknagdgphaaGreat
namespace Go.Proofs.YtlinpknagdgphaaGreat
open Go.RowKit
structure S9 where
 round:Nat
 server:ah
deriving DecidableEq
structure View where
 id:S9
 members:List ah
 TM:List Nat
deriving DecidableEq
end Go.Proofs.YtlinpknagdgphaaGreat
namespace Go.Proofs.YtlinpknagdgphaaGreat
open Go.RowKit
def Pz (l:List ah) (p:ah):Nat:=(idx l p 0).toNat
def PA (l:List ah) (p:ah):Bool:=decide (0≤idx l p 0)
def Lone (l:List ah) (i:Nat):Prop:=∀ a b p q,a<i→b<a→l[a]?=some p→l[b]?=some q→q.node≠p.node
def lone (l:List ah):Bool:=(List.range l.length).all fun a=>(List.range a).all fun b=>match l[a]?,l[b]? with | some p,some q=>decide (q.node≠p.node) | _,_=>true
theorem p5 (l:List ah):lone l=true↔Lone l l.length:=by
 simp only [lone,List.all_eq_true,List.mem_range,Lone]
 constructor
 ·intro h a b p q ha hb hp hq
  have:=h a ha b hb;simpa [hp,hq] using this
 ·intro h a ha b hb
  have e1:l[a]?=some l[a]:=List.getElem?_eq_getElem ha
  have e2:l[b]?=some l[b]:=List.getElem?_eq_getElem (by omega)
  simp only [e1,e2,decide_eq_true_eq];exact h a b _ _ ha hb e1 e2
theorem EH {l:List ah} (h:Lone l l.length):lone l=true:=(p5 l).2 h
end Go.Proofs.YtlinpknagdgphaaGreat
namespace Go.Proofs.YtlinpknagdgphaaGreat
open Go.RowKit
structure Slot where
 n:Nat
 body:List UInt8
deriving DecidableEq
def Slot.row (s:Slot):List DV:=[.v (.int .u64 (s.n:Int)),.ro 1 (bc s.body)]
abbrev eO (l:List Slot):List (List DV):=l.map Slot.row
def QK (l:List Slot) (n:Nat):Int:=idx (l.map Slot.n) n 0
set_option maxRecDepth 100000 in
theorem I8 (l:List UInt8) (h0:0<l.length) (hb:l.length<2147483648):aD Tryz.prog 56 [.d (.ro 1 (bc l))] (DV.em 5 1 (bc l)):=by
 refine aD.intro (by kernel_rfl) rfl rfl 8 rfl rfl fun w0 K ac hK r=>?_
 rw [show (DV.em 5 1 (bc l):DV)=.em 5 1 ([]++(bc l)) from rfl]
 exact aQ tk tq hK rfl [] 2000 r (by kernel_rfl) (U ((by simpa [bc] using h0):0<(bc l).length) (U ((by simp):(0)=([]:List (List DV)).length) (U ((by simp [bc];omega):(2*((0)+(bc l).length)+0)*1≤281474976710656) (U ((by simp [bc];omega):(0)+(bc l).length<4611686018427387904) (U ((by simp [bA,AV.one,cd,bc]):bA (bc l)) (U ((by simp):(0+(bc l).length)=([]++(bc l):List (List DV)).length) trivial))))))
set_option maxRecDepth 100000 in
theorem I9 (c:Nat):aD Tryz.prog 56 [.d (.v (.slice none 0 c))] (DV.v (.slice none 0 0)):=by
 refine aD.intro (by kernel_rfl) rfl rfl 8 rfl rfl fun w0 K ac hK r=>?_
 exact aQ tk tq hK rfl [] 2000 r (by kernel_rfl) trivial
set_option maxRecDepth 100000 in
theorem Ji (a:Addr) (c:Nat):aD Tryz.prog 56 [.d (.v (.slice (some a) 0 c))] (DV.em 5 1 ([]++[])):=by
 refine aD.intro (by kernel_rfl) rfl rfl 8 rfl rfl fun w0 K ac hK r=>?_
 exact aQ tk tq hK rfl [] 2000 r (by kernel_rfl) (U ((by simp):(0)=([]:List (List DV)).length) (U ((by simp):(2*((0)+0)+0)*1≤281474976710656) (U ((by simp):(0)+0<4611686018427387904) (U ((by simp [bA]):bA (([]:List (List DV)))) (U ((by simp):(0+0)=([]++([]:List (List DV)):List (List DV)).length) trivial)))))
theorem J0 (l:List UInt8) (hb:l.length<2147483648):aD Tryz.prog 56 [.d (.ro 1 (bc l))] (.em 5 1 (bc l)):=by
 cases l with
 | nil=>
  refine aD.empty (pre:=[]) (post:=[]) fun a c=>?_
  cases a with
  | none=>exact aD.nil 5 1 (I9 c)
  | some a=>exact Ji a c
 | cons b l=>exact I8 (b::l) (by simp) hb
set_option maxRecDepth 100000 in
theorem Ja (l:List ah) (h0:0<l.length) (hb:l.length<2147483648):aD Tryz.prog 47 [.d (.ro 2 (procs l))] (DV.em 24 2 (procs l)):=by
 refine aD.intro (by kernel_rfl) rfl rfl 8 rfl rfl fun w0 K ac hK r=>?_
 rw [show (DV.em 24 2 (procs l):DV)=.em 24 2 ([]++(procs l)) from rfl]
 exact aQ tk tq hK rfl [] 2000 r (by kernel_rfl) (U ((by simpa using h0):0<(procs l).length) (U ((by simp):(0)=([]:List (List DV)).length) (U ((by simp;omega):(2*((0)+(procs l).length)+0)*16≤281474976710656) (U ((by simp;omega):(0)+(procs l).length<4611686018427387904) (U ((by simp [bA,AV.one,cd,ah.row]):bA (procs l)) (U ((by simp):(0+(procs l).length)=([]++(procs l):List (List DV)).length) trivial))))))
set_option maxRecDepth 100000 in
theorem Jb (c:Nat):aD Tryz.prog 47 [.d (.v (.slice none 0 c))] (DV.v (.slice none 0 0)):=by
 refine aD.intro (by kernel_rfl) rfl rfl 8 rfl rfl fun w0 K ac hK r=>?_
 exact aQ tk tq hK rfl [] 2000 r (by kernel_rfl) trivial
set_option maxRecDepth 100000 in
theorem Jj (a:Addr) (c:Nat):aD Tryz.prog 47 [.d (.v (.slice (some a) 0 c))] (DV.em 24 2 ([]++[])):=by
 refine aD.intro (by kernel_rfl) rfl rfl 8 rfl rfl fun w0 K ac hK r=>?_
 exact aQ tk tq hK rfl [] 2000 r (by kernel_rfl) (U ((by simp):(0)=([]:List (List DV)).length) (U ((by simp):(2*((0)+0)+0)*16≤281474976710656) (U ((by simp):(0)+0<4611686018427387904) (U ((by simp [bA]):bA (([]:List (List DV)))) (U ((by simp):(0+0)=([]++([]:List (List DV)):List (List DV)).length) trivial)))))
theorem xG (l:List ah) (hb:l.length<2147483648):aD Tryz.prog 47 [.d (.ro 2 (procs l))] (.em 24 2 (procs l)):=by
 cases l with
 | nil=>
  refine aD.empty (pre:=[]) (post:=[]) fun a c=>?_
  cases a with
  | none=>exact aD.nil 24 2 (Jb c)
  | some a=>exact Jj a c
 | cons b l=>exact Ja (b::l) (by simp) hb
end Go.Proofs.YtlinpknagdgphaaGreat
namespace Go.Proofs.YtlinpknagdgphaaGreat
open Go.RowKit
structure II where
 src:ah
 n:Nat
 body:List UInt8
deriving DecidableEq
end Go.Proofs.YtlinpknagdgphaaGreat
namespace Go.Proofs.YtlinpknagdgphaaGreat
open Go.RowKit
theorem gX (x:Value):dh (.v x):=by intro K K2 y H h;cases h;exact .v _
end Go.Proofs.YtlinpknagdgphaaGreat
namespace Go.Proofs.YtlinpknagdgphaaGreat
open Go.RowKit
abbrev streams (l:List (List Slot)):List (List DV):=l.map fun s=>[.ro 2 (eO s)]
structure tj where
 view:View
 streams:List (List Slot)
 TN:List Nat
deriving DecidableEq
end Go.Proofs.YtlinpknagdgphaaGreat
namespace Go.Proofs.YtlinpknagdgphaaGreat
open Go.RowKit
theorem dh.tu {l:List DV} (h:∀ c ∈ l,dh c):dh (.tu l):=by
 intro K K' y H r
 cases r with | tu ys F hl hr=>exact .tu ys F hl fun j c y h1 h2=>h c (List.mem_of_getElem? h1) _ _ _ _ (hr j c y h1 h2)
theorem dh.em {T k:Nat} {rows:List (List DV)} (h:∀ r ∈ rows,∀ c ∈ r,dh c):dh (.em T k rows):=by
 intro K K' y H r
 cases r with | em X F hl hs hr=>exact .em X F hl hs fun i r j c x h1 h2 h3=>h r (List.mem_of_getElem? h1) c (List.mem_of_getElem? h2) _ _ _ _ (hr i r j c x h1 h2 h3)
theorem dh.two (x y:Value):dh (.tu [.v x,.v y]):=.tu (by simp only [List.mem_cons,List.not_mem_nil,or_false];rintro c (rfl | rfl)<;>exact gX _)
def MU (f:tj) (i:Nat):List Slot:=(f.streams[i]?).getD []
def tj.G4 (f:tj) (m:II):Prop:=PA f.view.members m.src=true∧1≤m.n∧m.n≤16∧m.body.length≤64∧QK (MU f (Pz f.view.members m.src)) m.n<0
instance (f:tj) (m:II):Decidable (f.G4 m):=by unfold tj.G4;infer_instance
end Go.Proofs.YtlinpknagdgphaaGreat
namespace Go.Proofs.YtlinpknagdgphaaGreat
open Go.RowKit
abbrev ints (l:List Int):List (List DV):=l.map fun z=>[.v (.int .i64 z)]
theorem fT {l:List Int} {i:Nat} {z:Int} (h:l[i]?=some z):(ints l)[i]?=some [.v (.int .i64 z)]:=by simp [ints,h]
theorem ints_set (l:List Int) (i:Nat) (z:Int):List.set (ints l) i [.v (.int .i64 z)]=ints (l.set i z):=by unfold ints;rw [List.map_set]
theorem MV (l:List Int) (z:Int):ints l++[[.v (.int .i64 z)]]=ints (l++[z]):=by unfold ints;rw [List.map_append];rfl
theorem D3 (l:List Int):cg (ints l)=ints l:=by
 rw [jz];unfold ints;rw [List.map_map];apply List.map_congr_left;intro s _;show [cT (.v _)]=_;rw [cT]
def sA (l:List Int):Prop:=∀ (i:Nat) a b,l[i]?=some a→l[i+1]?=some b→a≤b
def o7 (n:Nat):Nat:=match n with | 0=>0 | 1=>1 | 2=>2 | 3=>2 | 4=>3 | 5=>3 | 6=>3 | 7=>3 | _=>4
set_option maxRecDepth 100000 in
theorem Oi :aD Tryz.prog 93 [.d (.v (.int .u64 0))] (.v (.int .i64 0)):=by
 refine aD.intro (by kernel_rfl) rfl rfl 25 rfl rfl fun w0 K ac hK r=>?_
 exact aQ tk tq hK rfl [(10,[(2,.z (0)),(3,.n 0),(4,.z (0)),(5,.z (0))])] 2000 r (by kernel_rfl) (U ((by decide):IntKind.u8.wrap (0)=0) (U (rfl:(0:Int)=((0:Nat):Int)) (U ((by decide):IntKind.i64.wrap (0)=0) (U ((by decide):IntKind.i64.wrap ((0:Int)+0)=0) trivial))))
set_option maxRecDepth 100000 in
theorem K7 :aD Tryz.prog 76 [.d (.v (.int .u64 0))] (.v (.int .i64 0)):=by
 refine aD.intro (by kernel_rfl) rfl rfl 8 rfl rfl fun w0 K ac hK r=>?_
 exact aQ tk tq hK rfl [(2,[(1,.aJ (.z 0))])] 2000 r (by kernel_rfl) (U (Oi) trivial)
set_option maxRecDepth 100000 in
theorem Oj :aD Tryz.prog 93 [.d (.v (.int .u64 1))] (.v (.int .i64 1)):=by
 refine aD.intro (by kernel_rfl) rfl rfl 25 rfl rfl fun w0 K ac hK r=>?_
 exact aQ tk tq hK rfl [(10,[(2,.z (1)),(3,.n 1),(4,.z (1)),(5,.z (1))])] 2000 r (by kernel_rfl) (U ((by decide):IntKind.u8.wrap (1)=1) (U (rfl:(1:Int)=((1:Nat):Int)) (U ((by decide):IntKind.i64.wrap (1)=1) (U ((by decide):IntKind.i64.wrap ((0:Int)+1)=1) trivial))))
set_option maxRecDepth 100000 in
theorem K8 :aD Tryz.prog 76 [.d (.v (.int .u64 1))] (.v (.int .i64 1)):=by
 refine aD.intro (by kernel_rfl) rfl rfl 8 rfl rfl fun w0 K ac hK r=>?_
 exact aQ tk tq hK rfl [(2,[(1,.aJ (.z 1))])] 2000 r (by kernel_rfl) (U (Oj) trivial)
set_option maxRecDepth 100000 in
theorem Ol :aD Tryz.prog 93 [.d (.v (.int .u64 2))] (.v (.int .i64 2)):=by
 refine aD.intro (by kernel_rfl) rfl rfl 25 rfl rfl fun w0 K ac hK r=>?_
 exact aQ tk tq hK rfl [(10,[(2,.z (2)),(3,.n 2),(4,.z (2)),(5,.z (2))])] 2000 r (by kernel_rfl) (U ((by decide):IntKind.u8.wrap (2)=2) (U (rfl:(2:Int)=((2:Nat):Int)) (U ((by decide):IntKind.i64.wrap (2)=2) (U ((by decide):IntKind.i64.wrap ((0:Int)+2)=2) trivial))))
set_option maxRecDepth 100000 in
theorem K9 :aD Tryz.prog 76 [.d (.v (.int .u64 2))] (.v (.int .i64 2)):=by
 refine aD.intro (by kernel_rfl) rfl rfl 8 rfl rfl fun w0 K ac hK r=>?_
 exact aQ tk tq hK rfl [(2,[(1,.aJ (.z 2))])] 2000 r (by kernel_rfl) (U (Ol) trivial)
set_option maxRecDepth 100000 in
theorem Om :aD Tryz.prog 93 [.d (.v (.int .u64 3))] (.v (.int .i64 2)):=by
 refine aD.intro (by kernel_rfl) rfl rfl 25 rfl rfl fun w0 K ac hK r=>?_
 exact aQ tk tq hK rfl [(10,[(2,.z (3)),(3,.n 3),(4,.z (2)),(5,.z (2))])] 2000 r (by kernel_rfl) (U ((by decide):IntKind.u8.wrap (3)=3) (U (rfl:(3:Int)=((3:Nat):Int)) (U ((by decide):IntKind.i64.wrap (2)=2) (U ((by decide):IntKind.i64.wrap ((0:Int)+2)=2) trivial))))
set_option maxRecDepth 100000 in
theorem La :aD Tryz.prog 76 [.d (.v (.int .u64 3))] (.v (.int .i64 2)):=by
 refine aD.intro (by kernel_rfl) rfl rfl 8 rfl rfl fun w0 K ac hK r=>?_
 exact aQ tk tq hK rfl [(2,[(1,.aJ (.z 2))])] 2000 r (by kernel_rfl) (U (Om) trivial)
set_option maxRecDepth 100000 in
theorem On :aD Tryz.prog 93 [.d (.v (.int .u64 4))] (.v (.int .i64 3)):=by
 refine aD.intro (by kernel_rfl) rfl rfl 25 rfl rfl fun w0 K ac hK r=>?_
 exact aQ tk tq hK rfl [(10,[(2,.z (4)),(3,.n 4),(4,.z (3)),(5,.z (3))])] 2000 r (by kernel_rfl) (U ((by decide):IntKind.u8.wrap (4)=4) (U (rfl:(4:Int)=((4:Nat):Int)) (U ((by decide):IntKind.i64.wrap (3)=3) (U ((by decide):IntKind.i64.wrap ((0:Int)+3)=3) trivial))))
set_option maxRecDepth 100000 in
theorem Lb :aD Tryz.prog 76 [.d (.v (.int .u64 4))] (.v (.int .i64 3)):=by
 refine aD.intro (by kernel_rfl) rfl rfl 8 rfl rfl fun w0 K ac hK r=>?_
 exact aQ tk tq hK rfl [(2,[(1,.aJ (.z 3))])] 2000 r (by kernel_rfl) (U (On) trivial)
set_option maxRecDepth 100000 in
theorem Oo :aD Tryz.prog 93 [.d (.v (.int .u64 5))] (.v (.int .i64 3)):=by
 refine aD.intro (by kernel_rfl) rfl rfl 25 rfl rfl fun w0 K ac hK r=>?_
 exact aQ tk tq hK rfl [(10,[(2,.z (5)),(3,.n 5),(4,.z (3)),(5,.z (3))])] 2000 r (by kernel_rfl) (U ((by decide):IntKind.u8.wrap (5)=5) (U (rfl:(5:Int)=((5:Nat):Int)) (U ((by decide):IntKind.i64.wrap (3)=3) (U ((by decide):IntKind.i64.wrap ((0:Int)+3)=3) trivial))))
set_option maxRecDepth 100000 in
theorem Lc :aD Tryz.prog 76 [.d (.v (.int .u64 5))] (.v (.int .i64 3)):=by
 refine aD.intro (by kernel_rfl) rfl rfl 8 rfl rfl fun w0 K ac hK r=>?_
 exact aQ tk tq hK rfl [(2,[(1,.aJ (.z 3))])] 2000 r (by kernel_rfl) (U (Oo) trivial)
set_option maxRecDepth 100000 in
theorem Oq :aD Tryz.prog 93 [.d (.v (.int .u64 6))] (.v (.int .i64 3)):=by
 refine aD.intro (by kernel_rfl) rfl rfl 25 rfl rfl fun w0 K ac hK r=>?_
 exact aQ tk tq hK rfl [(10,[(2,.z (6)),(3,.n 6),(4,.z (3)),(5,.z (3))])] 2000 r (by kernel_rfl) (U ((by decide):IntKind.u8.wrap (6)=6) (U (rfl:(6:Int)=((6:Nat):Int)) (U ((by decide):IntKind.i64.wrap (3)=3) (U ((by decide):IntKind.i64.wrap ((0:Int)+3)=3) trivial))))
set_option maxRecDepth 100000 in
theorem Ld :aD Tryz.prog 76 [.d (.v (.int .u64 6))] (.v (.int .i64 3)):=by
 refine aD.intro (by kernel_rfl) rfl rfl 8 rfl rfl fun w0 K ac hK r=>?_
 exact aQ tk tq hK rfl [(2,[(1,.aJ (.z 3))])] 2000 r (by kernel_rfl) (U (Oq) trivial)
set_option maxRecDepth 100000 in
theorem Ot :aD Tryz.prog 93 [.d (.v (.int .u64 7))] (.v (.int .i64 3)):=by
 refine aD.intro (by kernel_rfl) rfl rfl 25 rfl rfl fun w0 K ac hK r=>?_
 exact aQ tk tq hK rfl [(10,[(2,.z (7)),(3,.n 7),(4,.z (3)),(5,.z (3))])] 2000 r (by kernel_rfl) (U ((by decide):IntKind.u8.wrap (7)=7) (U (rfl:(7:Int)=((7:Nat):Int)) (U ((by decide):IntKind.i64.wrap (3)=3) (U ((by decide):IntKind.i64.wrap ((0:Int)+3)=3) trivial))))
set_option maxRecDepth 100000 in
theorem Lf :aD Tryz.prog 76 [.d (.v (.int .u64 7))] (.v (.int .i64 3)):=by
 refine aD.intro (by kernel_rfl) rfl rfl 8 rfl rfl fun w0 K ac hK r=>?_
 exact aQ tk tq hK rfl [(2,[(1,.aJ (.z 3))])] 2000 r (by kernel_rfl) (U (Ot) trivial)
set_option maxRecDepth 100000 in
theorem Ou :aD Tryz.prog 93 [.d (.v (.int .u64 8))] (.v (.int .i64 4)):=by
 refine aD.intro (by kernel_rfl) rfl rfl 25 rfl rfl fun w0 K ac hK r=>?_
 exact aQ tk tq hK rfl [(10,[(2,.z (8)),(3,.n 8),(4,.z (4)),(5,.z (4))])] 2000 r (by kernel_rfl) (U ((by decide):IntKind.u8.wrap (8)=8) (U (rfl:(8:Int)=((8:Nat):Int)) (U ((by decide):IntKind.i64.wrap (4)=4) (U ((by decide):IntKind.i64.wrap ((0:Int)+4)=4) trivial))))
set_option maxRecDepth 100000 in
theorem Lg :aD Tryz.prog 76 [.d (.v (.int .u64 8))] (.v (.int .i64 4)):=by
 refine aD.intro (by kernel_rfl) rfl rfl 8 rfl rfl fun w0 K ac hK r=>?_
 exact aQ tk tq hK rfl [(2,[(1,.aJ (.z 4))])] 2000 r (by kernel_rfl) (U (Ou) trivial)
set_option maxRecDepth 100000 in
theorem Ow :aD Tryz.prog 93 [.d (.v (.int .u64 9))] (.v (.int .i64 4)):=by
 refine aD.intro (by kernel_rfl) rfl rfl 25 rfl rfl fun w0 K ac hK r=>?_
 exact aQ tk tq hK rfl [(10,[(2,.z (9)),(3,.n 9),(4,.z (4)),(5,.z (4))])] 2000 r (by kernel_rfl) (U ((by decide):IntKind.u8.wrap (9)=9) (U (rfl:(9:Int)=((9:Nat):Int)) (U ((by decide):IntKind.i64.wrap (4)=4) (U ((by decide):IntKind.i64.wrap ((0:Int)+4)=4) trivial))))
set_option maxRecDepth 100000 in
theorem Lh :aD Tryz.prog 76 [.d (.v (.int .u64 9))] (.v (.int .i64 4)):=by
 refine aD.intro (by kernel_rfl) rfl rfl 8 rfl rfl fun w0 K ac hK r=>?_
 exact aQ tk tq hK rfl [(2,[(1,.aJ (.z 4))])] 2000 r (by kernel_rfl) (U (Ow) trivial)
set_option maxRecDepth 100000 in
theorem MW :aD Tryz.prog 93 [.d (.v (.int .u64 10))] (.v (.int .i64 4)):=by
 refine aD.intro (by kernel_rfl) rfl rfl 25 rfl rfl fun w0 K ac hK r=>?_
 exact aQ tk tq hK rfl [(10,[(2,.z (10)),(3,.n 10),(4,.z (4)),(5,.z (4))])] 2000 r (by kernel_rfl) (U ((by decide):IntKind.u8.wrap (10)=10) (U (rfl:(10:Int)=((10:Nat):Int)) (U ((by decide):IntKind.i64.wrap (4)=4) (U ((by decide):IntKind.i64.wrap ((0:Int)+4)=4) trivial))))
set_option maxRecDepth 100000 in
theorem J1 :aD Tryz.prog 76 [.d (.v (.int .u64 10))] (.v (.int .i64 4)):=by
 refine aD.intro (by kernel_rfl) rfl rfl 8 rfl rfl fun w0 K ac hK r=>?_
 exact aQ tk tq hK rfl [(2,[(1,.aJ (.z 4))])] 2000 r (by kernel_rfl) (U (MW) trivial)
set_option maxRecDepth 100000 in
theorem MX :aD Tryz.prog 93 [.d (.v (.int .u64 11))] (.v (.int .i64 4)):=by
 refine aD.intro (by kernel_rfl) rfl rfl 25 rfl rfl fun w0 K ac hK r=>?_
 exact aQ tk tq hK rfl [(10,[(2,.z (11)),(3,.n 11),(4,.z (4)),(5,.z (4))])] 2000 r (by kernel_rfl) (U ((by decide):IntKind.u8.wrap (11)=11) (U (rfl:(11:Int)=((11:Nat):Int)) (U ((by decide):IntKind.i64.wrap (4)=4) (U ((by decide):IntKind.i64.wrap ((0:Int)+4)=4) trivial))))
set_option maxRecDepth 100000 in
theorem J2 :aD Tryz.prog 76 [.d (.v (.int .u64 11))] (.v (.int .i64 4)):=by
 refine aD.intro (by kernel_rfl) rfl rfl 8 rfl rfl fun w0 K ac hK r=>?_
 exact aQ tk tq hK rfl [(2,[(1,.aJ (.z 4))])] 2000 r (by kernel_rfl) (U (MX) trivial)
set_option maxRecDepth 100000 in
theorem MY :aD Tryz.prog 93 [.d (.v (.int .u64 12))] (.v (.int .i64 4)):=by
 refine aD.intro (by kernel_rfl) rfl rfl 25 rfl rfl fun w0 K ac hK r=>?_
 exact aQ tk tq hK rfl [(10,[(2,.z (12)),(3,.n 12),(4,.z (4)),(5,.z (4))])] 2000 r (by kernel_rfl) (U ((by decide):IntKind.u8.wrap (12)=12) (U (rfl:(12:Int)=((12:Nat):Int)) (U ((by decide):IntKind.i64.wrap (4)=4) (U ((by decide):IntKind.i64.wrap ((0:Int)+4)=4) trivial))))
set_option maxRecDepth 100000 in
theorem J3 :aD Tryz.prog 76 [.d (.v (.int .u64 12))] (.v (.int .i64 4)):=by
 refine aD.intro (by kernel_rfl) rfl rfl 8 rfl rfl fun w0 K ac hK r=>?_
 exact aQ tk tq hK rfl [(2,[(1,.aJ (.z 4))])] 2000 r (by kernel_rfl) (U (MY) trivial)
theorem zj (n:Nat) (h:n≤12):aD Tryz.prog 76 [.d (.v (.int .u64 ((n:Nat):Int)))] (.v (.int .i64 ((o7 n:Nat):Int))):=
 match n,h with
 | 0,_=>K7
 | 1,_=>K8
 | 2,_=>K9
 | 3,_=>La
 | 4,_=>Lb
 | 5,_=>Lc
 | 6,_=>Ld
 | 7,_=>Lf
 | 8,_=>Lg
 | 9,_=>Lh
 | 10,_=>J1
 | 11,_=>J2
 | 12,_=>J3
 | n+13,h=>absurd h (by omega)
set_option maxRecDepth 100000 in
theorem GB (x:Int):aD Tryz.prog 94 [.z x] (.v (.bool false)):=by
 refine aD.intro (by kernel_rfl) rfl rfl 6 rfl rfl fun w0 K ac hK r=>?_
 exact aQ tk tq hK rfl [(1,[(2,.b false)])] 2000 r (by kernel_rfl) (U ((by simp):((x:Int) != x)=false) trivial)
set_option maxRecDepth 100000 in
theorem GC (x y:Int):aD Tryz.prog 102 [.z x,.z y] (.v (.bool (decide (x<y)))):=by
 refine aD.intro (by kernel_rfl) rfl rfl 17 rfl rfl fun w0 K ac hK r=>?_
 cases h0:(decide ((x:Int)<y)) with
 | false=>
  have bH:=of_decide_eq_false h0
  exact aQ tk tq hK rfl [(1,[(1,.aJ (.v (.bool false))),(10,.b false)])] 2000 r (by kernel_rfl) (U (GB _:aD Tryz.prog 94 [.z x] (.v (.bool false))) (U h0 trivial))
 | true=>
  have bH:=of_decide_eq_true h0
  exact aQ tk tq hK rfl [(1,[(1,.aJ (.v (.bool false))),(10,.b true)])] 2000 r (by kernel_rfl) (U (GB _:aD Tryz.prog 94 [.z x] (.v (.bool false))) (U h0 trivial))
set_option maxRecDepth 100000 in
theorem Ox (l:List Int) (hs:sA l) (hb:l.length<1073741824):aD Tryz.prog 96 [.d (.ro 1 (ints l)),.z 0,.n l.length] (.tu []):=by
 refine aD.intro (by kernel_rfl) rfl rfl 49 rfl rfl fun w0 K ac hK r=>?_
 refine bU (todo':=hd Tryz.f96 0) (E':=[(0,.d (.ro 1 (ints l))),(1,.z 0),(2,.n l.length),(6,.n (0+1))]) (M':=[]) tk tq hK [(0,[(1,.z (1))])] 2000 [] [0,1,2,6] r (by kernel_rfl) (U ((wi (by omega)):IntKind.i64.wrap ((0:Int)+1)=1) trivial) fun ac wd r=>?_
 refine aN.rounds (Φ:=fun (i:Nat) ac wd=>(True)∧ec [] w0 K 49 [(0,.d (.ro 1 (ints l))),(1,.z 0),(2,.n l.length),(6,.n (i+1))] [] ac wd) (l.length) ?_ (Nat.zero_le _) ⟨trivial,r⟩
 clear r
 rintro i cI bo ac wd ⟨aM,r⟩
 cases h0:(decide ((((i+1:Nat):Int):Int)<((l.length:Nat):Int))) with
 | false=>
  have bH:=of_decide_eq_false h0
  exact aQ tk tq hK rfl [(1,[(2,.b false)])] 2000 r (by kernel_rfl) (U h0 trivial)
 | true=>
  have bH:=of_decide_eq_true h0
  obtain ⟨fU,ig⟩:∃ x,l[i+1]?=some x:=⟨_,List.getElem?_eq_getElem (by omega)⟩
  obtain ⟨me,oE⟩:∃ x,l[i+1-1]?=some x:=⟨_,List.getElem?_eq_getElem (by omega)⟩
  refine bU (todo':=hd Tryz.f96 1) (E':=[(0,.d (.ro 1 (ints l))),(1,.z 0),(2,.n l.length),(6,.n (i+1)),(7,.n (i+1))]) (M':=[]) tk tq hK [(1,[(2,.b true)])] 2000 [] [0,1,2,6,7] r (by kernel_rfl) (U h0 trivial) fun ac wd r=>?_
  cases h1:(decide ((0:Int)<((i+1:Nat):Int))) with
  | false=>
   have bN:=of_decide_eq_false h1
   exact bU (todo':=hd Tryz.f96 0) tk tq hK [(2,[(1,.z (((i+1+1:Nat):Int)))]),(4,[(2,.b false)])] 2000 [] [0,1,2,6] r (by kernel_rfl) (U h1 (U ((wi (by omega)):IntKind.i64.wrap ((((i+1:Nat):Int):Int)+1)=((i+1+1:Nat):Int)) trivial)) fun ac wd r=>bo (by omega) ac wd ⟨trivial,r⟩
  | true=>
   have bN:=of_decide_eq_true h1
   have u0:=((wi (by omega)):IntKind.i64.wrap ((((i+1:Nat):Int):Int)-1)=((i+1-1:Nat):Int))
   cases h2:(decide (fU<me)) with
   | false=>
    have b7:=of_decide_eq_false h2
    exact bU (todo':=hd Tryz.f96 0) tk tq hK [(2,[(1,.z (((i+1+1:Nat):Int)))]),(4,[(2,.b true),(6,.ix (i+1) [.z fU]),(10,.z (((i+1-1:Nat):Int))),(11,.ix (i+1-1) [.z me]),(13,.aJ (.v (.bool false)))])] 2000 [] [0,1,2,6] r (by kernel_rfl) (U h1 (U (aX ((i+1:Nat):Int)) (U (fT ig) (U u0 (U (aX ((i+1-1:Nat):Int)) (U (fT oE) (U ((by have k:=GC (fU) (me);rw [h2] at k;exact k):aD Tryz.prog 102 [.z fU,.z me] (.v (.bool false))) (U ((wi (by omega)):IntKind.i64.wrap ((((i+1:Nat):Int):Int)+1)=((i+1+1:Nat):Int)) trivial)))))))) fun ac wd r=>bo (by omega) ac wd ⟨trivial,r⟩
   | true=>
    have b7:=of_decide_eq_true h2
    exact absurd (hs i _ _ (by simpa using oE) ig) (by omega)
set_option maxRecDepth 100000 in
theorem Oy (l:List Int) (k:Nat) (hs:sA l) (hb:l.length≤12):aD Tryz.prog 81 [.d (.ro 1 (ints l)),.z 0,.n l.length,.n k] (.tu []):=by
 refine aD.intro (by kernel_rfl) rfl rfl 134 rfl rfl fun w0 K ac hK r=>?_
 refine bU (todo':=hd Tryz.f81 0) (E':=[(0,.d (.ro 1 (ints l))),(1,.z 0),(2,.n l.length),(3,.n k),(8,.d (.v (.bool true))),(9,.d (.v (.bool true)))]) (M':=[]) tk tq hK [] 2000 [] [0,1,2,3,8,9] r (by kernel_rfl) trivial fun ac wd r=>?_
 have u0:=((wi (by omega)):IntKind.i64.wrap ((((l.length:Nat):Int):Int)-0)=((l.length:Nat):Int))
 cases h0:(decide ((((l.length:Nat):Int):Int)≤12)) with
 | false=>
  have bH:=of_decide_eq_false h0
  exact absurd bH (by omega)
 | true=>
  have bH:=of_decide_eq_true h0
  exact aQ tk tq hK rfl [(2,[(2,.z (((l.length:Nat):Int)))]),(3,[(1,.b true)]),(4,[(3,.aJ (.tu []))])] 2000 r (by kernel_rfl) (U u0 (U h0 (U (Ox l hs (by omega)) trivial)))
set_option maxRecDepth 100000 in
theorem PB (l:List Int) (hs:sA l) (hb:l.length≤6):aD Tryz.prog 67 [.d (.ro 1 (ints l))] (.tu []):=by
 refine aD.intro (by kernel_rfl) rfl rfl 11 rfl rfl fun w0 K ac hK r=>?_
 exact aQ tk tq hK rfl [(0,[(1,.z (((l.length:Nat):Int)))]),(1,[(3,.z (((l.length:Nat):Int))),(4,.aJ (.n (o7 l.length))),(5,.aJ (.tu []))])] 2000 r (by kernel_rfl) (U ((by simp):(((ints l).length:Nat):Int)=((l.length:Nat):Int)) (U ((wu (by omega)):IntKind.u64.wrap (((l.length:Nat):Int))=((l.length:Nat):Int)) (U (zj l.length (by omega)) (U (Oy l (o7 l.length) hs (by omega)) trivial))))
def sB (l:List Int) (p:Nat) (o:List Int):List Int:=match l[p]? with | some a=>(if 0<p∧l[p-1]?=some a then o else o++[a]) | none=>o
def bF (l:List Int):Nat→List Int
 | 0=>[]
 | p+1=>sB l p (bF l p)
def wr (l:List Int) (k:Nat):Nat→List Int
 | 0=>l
 | j+1=>match l[k+(j+1)]? with | some a=>(if l[k+j]?=some a then wr l k j else (wr l k j).set (bF l (k+1+j)).length a) | none=>wr l k j
theorem rZ {l:List Int} {p:Nat} {a:Int} (h:l[p]?=some a) (hp:0<p) (h2:l[p-1]?=some a):bF l (p+1)=bF l p:=by rw [bF,sB,h];simp [hp,h2]
theorem sd {l:List Int} {p:Nat} {a b:Int} (h:l[p]?=some a) (h2:l[p-1]?=some b) (gm:a≠b):bF l (p+1)=bF l p++[a]:=by
 rw [bF,sB,h];simp only [h2];rw [if_neg];rintro ⟨-,e⟩;cases e;exact gm rfl
theorem EI {l:List Int} {a:Int} (h:l[0]?=some a):bF l 1=[a]:=by rw [bF,sB,h];simp [bF]
theorem FG (l:List Int) (p:Nat):(bF l (p+1)).length≤(bF l p).length+1:=by
 rw [bF,sB];split
 ·split<;>simp
 ·omega
theorem gY {l:List Int} {k:Nat} (h:(bF l (k+1)).length≤k):∀ j,(bF l (k+1+j)).length≤k+j
 | 0=>h
 | j+1=>by have h1:=gY h j;have h2:=FG l (k+1+j);rw [← Nat.add_assoc];omega
@[simp] theorem nr (l:List Int) (k:Nat):∀ j,(wr l k j).length=l.length
 | 0=>rfl
 | j+1=>by
  rw [wr];split
  ·split
   ·exact nr l k j
   ·rw [List.length_set,nr l k j]
  ·exact nr l k j
theorem sN {l:List Int} {k:Nat} (h:(bF l (k+1)).length≤k):∀ {j p:Nat},k+j≤p→(wr l k j)[p]?=l[p]?
 | 0,p,_=>rfl
 | j+1,p,hp=>by
  have h1:=gY h j
  rw [wr];split
  ·split
   ·exact sN h (by omega)
   ·rw [List.getElem?_set,if_neg (by omega)];exact sN h (by omega)
  ·exact sN h (by omega)
theorem zk {l:List Int} {k j:Nat} {a:Int} (h:l[k+(j+1)]?=some a) (h2:l[k+j]?=some a):wr l k (j+1)=wr l k j:=by rw [wr,h];simp [h2]
theorem Ah {l:List Int} {k j:Nat} {a b:Int} (h:l[k+(j+1)]?=some a) (h2:l[k+j]?=some b) (gm:a≠b):wr l k (j+1)=(wr l k j).set (bF l (k+1+j)).length a:=by
 rw [wr,h];simp only [h2];rw [if_neg];intro e;cases e;exact gm rfl
theorem vC {l:List Int} {k:Nat} (h:bF l (k+1)=l.take k) (hk:k<l.length):∀ {j:Nat},k+1+j≤l.length→(wr l k j).take (bF l (k+1+j)).length=bF l (k+1+j)
 | 0,_=>by
  show l.take (bF l (k+1)).length=bF l (k+1)
  rw [h,List.length_take,Nat.min_eq_left (by omega)]
 | j+1,hj=>by
  have hle:(bF l (k+1)).length≤k:=by rw [h,List.length_take];omega
  have h1:=gY hle j
  have ih:=vC h hk (j:=j) (by omega)
  have e1:l[k+1+j]?=some l[k+1+j]:=List.getElem?_eq_getElem (by omega)
  have e2:l[k+j]?=some l[k+j]:=List.getElem?_eq_getElem (by omega)
  have e3:k+1+j-1=k+j:=by omega
  have e4:k+(j+1)=k+1+j:=by omega
  rw [← Nat.add_assoc]
  by_cases gm:l[k+1+j]=l[k+j]
  ·rw [rZ e1 (by omega) (by rw [e3,e2,gm]),zk (by rw [e4];exact e1) (by rw [e2,gm])];exact ih
  ·rw [sd e1 (by rw [e3];exact e2) gm,Ah (by rw [e4];exact e1) e2 gm]
   rw [List.length_append,List.length_singleton,List.take_succ_eq_append_getElem (by rw [List.length_set,nr];omega),List.take_set_of_le (Nat.le_refl _),ih,List.getElem_set_self]
theorem p6 {l:List Int} (h:l.length<2):bF l l.length=l:=by
 match l,h with
 | [],_=>rfl
 | [a],_=>exact EI rfl
theorem xX (l:List Int) (n:Nat):(ints l).take n=ints (l.take n):=by unfold ints;rw [List.map_take]
theorem CL {T k:Nat} {a b:List (List DV)} (h:a=b):[au.rw T k a]=[.rw T k b]:=by rw [h]
theorem yH {A B:List (List DV)} {n:Nat} (h:n≤A.length):(A.take n++B).take n=A.take n:=by
 rw [List.take_append_of_le_length (by simp;omega),List.take_take,Nat.min_self]
theorem EJ {l:List Int} (h:0<l.length):bF l 1=l.take 1:=by
 match l,h with
 | a::r,_=>exact EI rfl
theorem FH {l:List Int} {k:Nat} {a:Int} (h:l[k]?=some a):l.take (k+1)=l.take k++[a]:=by
 obtain ⟨hk,rfl⟩:=List.getElem?_eq_some_iff.1 h
 rw [List.take_succ_eq_append_getElem hk]
set_option maxRecDepth 100000 in
theorem Li (l:List Int) (hb:l.length<1073741824):aL Tryz.prog 69 [.sl 0 (l.length)] [.rw 3 1 (ints l)] (.sl 0 (bF l l.length).length) ([.rw 3 1 (ints (bF l l.length))]):=by
 refine aL.intro (by kernel_rfl) rfl rfl 61 rfl rfl fun D w0 K bs ac wd hK (aB:bs.m=1) r=>?_
 cases h0:(decide ((((l.length:Nat):Int):Int)<2)) with
 | false=>
  have bH:=of_decide_eq_false h0
  refine b8 (todo':=hd Tryz.f69 0) (E':=[(0,.sl 0 (l.length)),(3,.n (0+1))]) (M':=[.rw 3 1 (ints l)]) tk tq hK aB [(1,[(2,.b false)])] 2000 [0] [0,3] r (by kernel_rfl) (U h0 trivial) fun ac wd r=>?_
  refine aN.rounds (Φ:=fun (i:Nat) ac wd=>(i+1≤l.length∧bF l (i+1)=l.take (i+1))∧RB D w0 K 61 bs [(0,.sl 0 (l.length)),(3,.n (i+1))] [.rw 3 1 (ints l)] ac wd) (l.length) ?_ (Nat.zero_le _) ⟨⟨by omega,EJ (by omega)⟩,r⟩
  clear r
  rintro i cI bo ac wd ⟨aM,r⟩
  obtain ⟨Ta,oa⟩:=aM
  cases h1:(decide ((((i+1:Nat):Int):Int)<((l.length:Nat):Int))) with
  | false=>
   have bN:=of_decide_eq_false h1
   refine bB (y:=.sl 0 (l.length)) (N':=[.rw 3 1 (ints l)]) ((by first | (rw [p6 (by omega)];done) | (rw [show bF l l.length=l by rw [show l.length=i+1 by omega,oa];exact List.take_of_length_le (by omega)];done) | (rw [show l.length=i+1+1+j by omega]))) ((by first | (rw [p6 (by omega)];done) | (rw [show bF l l.length=l by rw [show l.length=i+1 by omega,oa];exact List.take_of_length_le (by omega)];done) | (refine CL ?_;rw [yH (by rw [List.length_map,nr];have:=gY aK j;omega),xX,vC eI (by omega) (by omega)];rw [show l.length=i+1+1+j by omega]))) ?_
   exact bC tk tq hK rfl aB [(4,[(3,.b false)])] 2000 [0] r (by kernel_rfl) (U h1 trivial)
  | true=>
   have bN:=of_decide_eq_true h1
   obtain ⟨fU,ig⟩:∃ x,l[i+1]?=some x:=⟨_,List.getElem?_eq_getElem (by omega)⟩
   obtain ⟨me,oE⟩:∃ x,l[i+1-1]?=some x:=⟨_,List.getElem?_eq_getElem (by omega)⟩
   have u0:=((by first | omega | (have:=gY aK j;omega)):(i+1)<(l.length))
   have u1:=((wi (by omega)):IntKind.i64.wrap ((((i+1:Nat):Int):Int)-1)=((i+1-1:Nat):Int))
   have u2:=((by first | omega | (have:=gY aK j;omega)):(i+1-1)<(l.length))
   cases h2:((fU:Int)==me) with
   | false=>
    have b7:=ne_of_beq_false h2
    exact b8 (todo':=hd Tryz.f69 0) tk tq hK aB [(4,[(3,.b true)]),(5,[(1,.z (((i+1+1:Nat):Int)))]),(6,[(2,.n (i+1)),(3,.ix 0 [.z fU]),(6,.z (((i+1-1:Nat):Int))),(7,.n (i+1-1)),(8,.ix 0 [.z me]),(9,.b false)])] 2000 [0] [0,3] r (by kernel_rfl) (U h1 (U (aX ((i+1:Nat):Int)) (U u0 (U ((by simp<;>omega):(l.length)≤(ints l).length) (U (fT ig) (U u1 (U (aX ((i+1-1:Nat):Int)) (U u2 (U ((by simp<;>omega):(l.length)≤(ints l).length) (U (fT oE) (U h2 (U ((wi (by omega)):IntKind.i64.wrap ((((i+1:Nat):Int):Int)+1)=((i+1+1:Nat):Int)) trivial)))))))))))) fun ac wd r=>bo (by omega) ac wd ⟨⟨by omega,by rw [sd (p:=i+1) ig oE (by omega),oa,← FH ig]⟩,r⟩
   | true=>
    have b7:=eq_of_beq h2
    have eI:bF l (i+1+1)=l.take (i+1):=by rw [rZ (p:=i+1) ig (by omega) (by rw [oE,‹fU=me›])];exact oa
    have aK:(bF l (i+1+1)).length≤i+1:=by rw [eI,List.length_take];omega
    refine b8 (todo':=hd Tryz.f69 1) (E':=[(0,.sl 0 (l.length)),(3,.n (i+1)),(4,.sb 0 1 (i+1) (l.length-(i+1))),(5,.z 1)]) (M':=[.rw 3 1 (ints l)]) tk tq hK aB [(4,[(3,.b true)]),(6,[(2,.n (i+1)),(3,.ix 0 [.z fU]),(6,.z (((i+1-1:Nat):Int))),(7,.n (i+1-1)),(8,.ix 0 [.z me]),(9,.b true)]),(7,[(2,.n (i+1))])] 2000 [0] [0,3,4,5] r (by kernel_rfl) (U h1 (U (aX ((i+1:Nat):Int)) (U u0 (U ((by simp<;>omega):(l.length)≤(ints l).length) (U (fT ig) (U u1 (U (aX ((i+1-1:Nat):Int)) (U u2 (U ((by simp<;>omega):(l.length)≤(ints l).length) (U (fT oE) (U h2 (U (aX ((i+1:Nat):Int)) (U u0 (U ((by simp<;>omega):(l.length)=(ints l).length) trivial)))))))))))))) fun ac wd r=>?_
    refine aN.rounds (Φ:=fun (j:Nat) ac wd=>(i+1+1+j≤l.length)∧RB D w0 K 61 bs [(0,.sl 0 (l.length)),(3,.n ((bF l (i+1+1+j)).length)),(4,.sb 0 1 (i+1) (l.length-(i+1))),(5,.n (j+1))] [.rw 3 1 (ints (wr l (i+1) j))] ac wd) (l.length) ?_ (Nat.zero_le _) ⟨by omega,(r).cast (by rw [eI];simp;omega) rfl⟩
    clear r
    rintro j eS fV ac wd ⟨bg,r⟩
    cases h3:(decide ((((j+1:Nat):Int):Int)<((l.length-(i+1):Nat):Int))) with
    | false=>
     have eV:=of_decide_eq_false h3
     have R6:=gY aK j
     refine bB (y:=.sl 0 ((bF l (i+1+1+j)).length)) (N':=[.rw 3 1 (((ints (wr l (i+1) j)).take ((bF l (i+1+1+j)).length)++(List.replicate (l.length-((bF l (i+1+1+j)).length)) ([.z 0]:List DV)++(ints (wr l (i+1) j)).drop (((bF l (i+1+1+j)).length)+(l.length-((bF l (i+1+1+j)).length))))).take ((bF l (i+1+1+j)).length))]) ((by first | (rw [p6 (by omega)];done) | (rw [show bF l l.length=l by rw [show l.length=i+1 by omega,oa];exact List.take_of_length_le (by omega)];done) | (rw [show l.length=i+1+1+j by omega]))) ((by first | (rw [p6 (by omega)];done) | (rw [show bF l l.length=l by rw [show l.length=i+1 by omega,oa];exact List.take_of_length_le (by omega)];done) | (refine CL ?_;rw [yH (by rw [List.length_map,nr];have:=gY aK j;omega),xX,vC eI (by omega) (by omega)];rw [show l.length=i+1+1+j by omega]))) ?_
     exact bC tk tq hK rfl aB [(9,[(3,.b false)]),(14,[(2,.n ((bF l (i+1+1+j)).length))]),(15,[(2,.n ((bF l (i+1+1+j)).length))])] 2000 [0] r (by kernel_rfl) (U h3 (U (aX (((bF l (i+1+1+j)).length:Nat):Int)) (U ((by first | omega | (have:=gY aK j;omega)):((bF l (i+1+1+j)).length)<(l.length)) (U ((by simp<;>omega):(l.length)=(ints (wr l (i+1) j)).length) (U ((by first | omega | (have:=gY aK j;omega)):0<(l.length-((bF l (i+1+1+j)).length))) (U ((by simp<;>omega):((bF l (i+1+1+j)).length)+(l.length-((bF l (i+1+1+j)).length))≤(ints (wr l (i+1) j)).length) (U (aX (((bF l (i+1+1+j)).length:Nat):Int)) (U ((by first | omega | (have:=gY aK j;omega)):((bF l (i+1+1+j)).length)≤(l.length)) (U ((by simp<;>omega):(l.length)=((ints (wr l (i+1) j)).take ((bF l (i+1+1+j)).length)++(List.replicate (l.length-((bF l (i+1+1+j)).length)) ([.z 0]:List DV)++(ints (wr l (i+1) j)).drop (((bF l (i+1+1+j)).length)+(l.length-((bF l (i+1+1+j)).length)))):List (List DV)).length) trivial)))))))))
    | true=>
     have eV:=of_decide_eq_true h3
     obtain ⟨lA,l5⟩:∃ x,l[i+1+(j+1)]?=some x:=⟨_,List.getElem?_eq_getElem (by omega)⟩
     obtain ⟨m9,l0⟩:∃ x,l[i+1+(j+1-1)]?=some x:=⟨_,List.getElem?_eq_getElem (by omega)⟩
     have R6:=gY aK j
     obtain ⟨fK,R7⟩:∃ x,(wr l (i+1) j)[(bF l (i+1+1+j)).length]?=some x:=⟨_,List.getElem?_eq_getElem (by rw [nr];omega)⟩
     have u3:=((by first | omega | (have:=gY aK j;omega)):(j+1)<(l.length-(i+1)))
     have u4:=((by simp<;>omega):(i+1)+(l.length-(i+1))≤(ints (wr l (i+1) j)).length)
     have u5:=(fT (by rw [sN aK (by omega)];exact l5):(ints (wr l (i+1) j))[i+1+(j+1)]?=some [.z lA])
     have u6:=((wi (by omega)):IntKind.i64.wrap ((((j+1:Nat):Int):Int)-1)=((j+1-1:Nat):Int))
     have u7:=((by first | omega | (have:=gY aK j;omega)):(j+1-1)<(l.length-(i+1)))
     have u8:=(fT (by rw [sN aK (by omega)];exact l0):(ints (wr l (i+1) j))[i+1+(j+1-1)]?=some [.z m9])
     cases h4:((lA:Int) != m9) with
     | false=>
      have eA:=gK h4
      exact b8 (todo':=hd Tryz.f69 1) (E':=[(0,.sl 0 (l.length)),(3,.n ((bF l (i+1+1+j)).length)),(4,.sb 0 1 (i+1) (l.length-(i+1))),(5,.n (j+1+1))]) (M':=[.rw 3 1 (ints (wr l (i+1) j))]) tk tq hK aB [(9,[(3,.b true)]),(10,[(1,.z (((j+1+1:Nat):Int)))]),(11,[(2,.n (j+1)),(3,.ix 0 [.z lA]),(6,.z (((j+1-1:Nat):Int))),(7,.n (j+1-1)),(8,.ix 0 [.z m9]),(9,.b false)])] 2000 [0] [0,3,4,5] r (by kernel_rfl) (U h3 (U (aX ((j+1:Nat):Int)) (U u3 (U u4 (U u5 (U u6 (U (aX ((j+1-1:Nat):Int)) (U u7 (U u4 (U u8 (U h4 (U ((wi (by omega)):IntKind.i64.wrap ((((j+1:Nat):Int):Int)+1)=((j+1+1:Nat):Int)) trivial)))))))))))) fun ac wd r=>fV (by omega) ac wd ⟨by omega,r.cast (by have e:i+1+1+(j+1)=(i+1+(j+1))+1:=(by omega);have e2:i+1+(j+1)=i+1+1+j:=(by omega);rw [e];first | (rw [sd (p:=i+1+(j+1)) l5 (by have k:=l0;simpa using k) (by omega),e2];simp;done) | (rw [rZ (p:=i+1+(j+1)) l5 (by omega) (by have k:=l0;rw [show lA=m9 by omega];simpa using k),e2];done)) (by first | (rw [ints_set,Ah (k:=i+1) (j:=j) l5 (by have k:=l0;simpa using k) (by omega)];done) | (rw [zk (k:=i+1) (j:=j) l5 (by have k:=l0;rw [show lA=m9 by omega];simpa using k)];done))⟩
     | true=>
      have eA:¬ _=_:=bne_iff_ne.1 h4
      exact b8 (todo':=hd Tryz.f69 1) (E':=[(0,.sl 0 (l.length)),(3,.n ((bF l (i+1+1+j)).length+1)),(4,.sb 0 1 (i+1) (l.length-(i+1))),(5,.n (j+1+1))]) (M':=[.rw 3 1 (List.set (ints (wr l (i+1) j)) ((bF l (i+1+1+j)).length) [.z lA])]) tk tq hK aB [(9,[(3,.b true)]),(10,[(1,.z (((j+1+1:Nat):Int)))]),(11,[(2,.n (j+1)),(3,.ix 0 [.z lA]),(6,.z (((j+1-1:Nat):Int))),(7,.n (j+1-1)),(8,.ix 0 [.z m9]),(9,.b true)]),(12,[(4,.n (j+1)),(5,.ix 0 [.z lA]),(6,.n ((bF l (i+1+1+j)).length)),(7,.ix 0 [.z fK])]),(13,[(1,.z ((((bF l (i+1+1+j)).length+1:Nat):Int)))])] 2000 [0] [0,3,4,5] r (by kernel_rfl) (U h3 (U (aX ((j+1:Nat):Int)) (U u3 (U u4 (U u5 (U u6 (U (aX ((j+1-1:Nat):Int)) (U u7 (U u4 (U u8 (U h4 (U (aX ((j+1:Nat):Int)) (U u3 (U u4 (U u5 (U (aX (((bF l (i+1+1+j)).length:Nat):Int)) (U ((by first | omega | (have:=gY aK j;omega)):((bF l (i+1+1+j)).length)<(l.length)) (U ((by simp<;>omega):(l.length)≤(ints (wr l (i+1) j)).length) (U (fT R7) (U ((wi (by omega)):IntKind.i64.wrap (((((bF l (i+1+1+j)).length:Nat):Int):Int)+1)=(((bF l (i+1+1+j)).length+1:Nat):Int)) (U ((wi (by omega)):IntKind.i64.wrap ((((j+1:Nat):Int):Int)+1)=((j+1+1:Nat):Int)) trivial))))))))))))))))))))) fun ac wd r=>fV (by omega) ac wd ⟨by omega,r.cast (by have e:i+1+1+(j+1)=(i+1+(j+1))+1:=(by omega);have e2:i+1+(j+1)=i+1+1+j:=(by omega);rw [e];first | (rw [sd (p:=i+1+(j+1)) l5 (by have k:=l0;simpa using k) (by omega),e2];simp;done) | (rw [rZ (p:=i+1+(j+1)) l5 (by omega) (by have k:=l0;rw [show lA=m9 by omega];simpa using k),e2];done)) (by first | (rw [ints_set,Ah (k:=i+1) (j:=j) l5 (by have k:=l0;simpa using k) (by omega)];done) | (rw [zk (k:=i+1) (j:=j) l5 (by have k:=l0;rw [show lA=m9 by omega];simpa using k)];done))⟩
 | true=>
  have bH:=of_decide_eq_true h0
  refine bB (y:=.sl 0 (l.length)) (N':=[.rw 3 1 (ints l)]) ((by first | (rw [p6 (by omega)];done) | (rw [show bF l l.length=l by rw [show l.length=i+1 by omega,oa];exact List.take_of_length_le (by omega)];done) | (rw [show l.length=i+1+1+j by omega]))) ((by first | (rw [p6 (by omega)];done) | (rw [show bF l l.length=l by rw [show l.length=i+1 by omega,oa];exact List.take_of_length_le (by omega)];done) | (refine CL ?_;rw [yH (by rw [List.length_map,nr];have:=gY aK j;omega),xX,vC eI (by omega) (by omega)];rw [show l.length=i+1+1+j by omega]))) ?_
  exact bC tk tq hK rfl aB [(1,[(2,.b true)])] 2000 [0] r (by kernel_rfl) (U h0 trivial)
end Go.Proofs.YtlinpknagdgphaaGreat
namespace Go.Proofs.YtlinpknagdgphaaGreat
open Go.RowKit
theorem D4 {l:List Int} (h:∀ (i:Nat) (a b:Int),l[i]?=some a→l[i+1]?=some b→b≠a):∀ {p:Nat},p≤l.length→bF l p=l.take p
 | 0,_=>by simp [bF]
 | 1,hp=>EJ (by omega)
 | p+2,hp=>by
  have e1:l[p+1]?=some l[p+1]:=List.getElem?_eq_getElem (by omega)
  have e2:l[p]?=some l[p]:=List.getElem?_eq_getElem (by omega)
  rw [sd (p:=p+1) e1 (by simp) (h p _ _ e2 e1),D4 h (p:=p+1) (by omega),← FH e1]
theorem EK (l:List Int):∀ p,(bF l p).length≤p
 | 0=>by simp [bF]
 | p+1=>by have:=FG l p;have:=EK l p;omega
theorem J4 {l:List ah} (hs:isSet l=true):((bF (l.map ah.node) (l.map ah.node).length).length=l.length)↔lone l=true:=by
 have BV:=(rX l).1 hs
 have hle:∀ (i:Nat) p q,l[i]?=some p→l[i+1]?=some q→p.node≤q.node:=fun i p q hp hq=>by
  have:=BV.2 i p q (List.getElem?_eq_some_iff.1 hq).1 hp hq
  unfold ah.lt at this
  have:=of_decide_eq_true this
  omega
 have mono:∀ (d i:Nat) p q,l[i]?=some p→l[i+d]?=some q→p.node≤q.node:=by
  intro d
  induction d with
  | zero=>intro i p q hp hq;rw [Nat.add_zero,hp] at hq;cases hq;omega
  | succ d ih=>
   intro i p q hp hq
   have aK:=(List.getElem?_eq_some_iff.1 hq).1
   have e:l[i+d]?=some l[i+d]:=List.getElem?_eq_getElem (by omega)
   have h1:=ih i p _ hp e
   have h2:=hle (i+d) _ q e (by rw [Nat.add_assoc];exact hq)
   omega
 constructor
 ·intro h
  cases hl:lone l with
  | true=>rfl
  | false=>
   exfalso
   have hn:¬ Lone l l.length:=fun hh=>by rw [EH hh] at hl;cases hl
   apply hn
   intro a b p q ha hb hp hq e
   have mD:0<a:=by omega
   have e1:l[a-1]?=some l[a-1]:=List.getElem?_eq_getElem (by omega)
   have h1:=mono (a-1-b) b q _ hq (by rw [show b+(a-1-b)=a-1 by omega];exact e1)
   have h2:=hle (a-1) _ p e1 (by rw [show a-1+1=a by omega];exact hp)
   have g1:(l.map ah.node)[a]?=some p.node:=by rw [List.getElem?_map,hp];rfl
   have g2:(l.map ah.node)[a-1]?=some p.node:=by rw [List.getElem?_map,e1];simp;omega
   have h3:=rZ g1 mD g2
   have h4:=EK (l.map ah.node) a
   have h5:=gY (l:=l.map ah.node) (k:=a) (by rw [h3];exact h4) (l.length-(a+1))
   rw [show a+1+(l.length-(a+1))=(l.map ah.node).length by simp;omega] at h5
   omega
 ·intro h
  have QL:=(p5 l).1 h
  rw [D4 (fun i a b ha hb=>?_) (Nat.le_refl _),List.take_length,List.length_map]
  rw [List.getElem?_map,Option.map_eq_some_iff] at ha hb
  obtain ⟨p,hp,rfl⟩:=ha
  obtain ⟨q,hq,rfl⟩:=hb
  exact fun e=>QL (i+1) i q p (List.getElem?_eq_some_iff.1 hq).1 (by omega) hq hp e.symm
theorem DD {l:List ah} (hs:isSet l=true):sA (l.map ah.node):=by
 have BV:=(rX l).1 hs
 intro i a b ha hb
 rw [List.getElem?_map,Option.map_eq_some_iff] at ha hb
 obtain ⟨p,hp,rfl⟩:=ha
 obtain ⟨q,hq,rfl⟩:=hb
 have:=BV.2 i p q (List.getElem?_eq_some_iff.1 hq).1 hp hq
 unfold ah.lt at this
 have:=of_decide_eq_true this
 omega
theorem MZ (l:List Int) (i:Nat) (h:i=l.length) (hb:l.length<1073741824):aL Tryz.prog 69 [.sl 0 i] [.rw 3 1 (ints l)] (.sl 0 (bF l l.length).length) [.rw 3 1 (ints (bF l l.length))]:=by subst h;exact Li l hb
theorem J5 {l:List ah} {i:Nat} {p:ah} (h:l[i]?=some p):ints ((l.take i).map ah.node)++[[.v (.int .i64 p.node)]]=ints ((l.take (i+1)).map ah.node):=by
 obtain ⟨hi,rfl⟩:=List.getElem?_eq_some_iff.1 h
 rw [MV,List.take_succ_eq_append_getElem hi,List.map_append];rfl
set_option maxRecDepth 100000 in
theorem FI (l:List ah) (hs:sA (l.map ah.node)) (hb:l.length≤6):aD Tryz.prog 54 [.d (.ro 2 (procs l))] (.ro 1 (ints (bF (l.map ah.node) (l.map ah.node).length))):=by
 refine aD.intro (by kernel_rfl) rfl rfl 26 rfl rfl fun w0 K ac hK r=>?_
 refine bU (todo':=hd Tryz.f54 0) (E':=[(3,.sl 0 (0)),(9,.d (.ro 2 (procs l))),(10,.n l.length),(11,.z 0)]) (M':=[.rw 3 1 ([])]) tk tq hK [(1,[(1,.z (((l.length:Nat):Int))),(2,.n2 (0) (l.length))]),(2,[(1,.z (((l.length:Nat):Int)))])] 2000 [0] [3,9,10,11] r (by kernel_rfl) (U ((by simp):(((procs l).length:Nat):Int)=((l.length:Nat):Int)) (U (rfl:(0:Int)=((0:Nat):Int)) (U (aX ((l.length:Nat):Int)) (U ((by first | omega | (simp;omega)):(0)≤(l.length)) (U ((by first | omega | (simp;omega)):8*(l.length)≤281474976710656) (U ((by first | omega | (simp;omega)):(l.length)<4611686018427387904) (U ((by simp):(((procs l).length:Nat):Int)=((l.length:Nat):Int)) trivial))))))) fun ac wd r=>?_
 refine aN.rounds (Φ:=fun (i:Nat) ac wd=>(i≤l.length)∧ec [] w0 K 26 [(3,.sl 0 (i)),(9,.d (.ro 2 (procs l))),(10,.n l.length),(11,.n i)] [.rw 3 1 (ints ((l.take i).map ah.node))] ac wd) (l.length) ?_ (Nat.zero_le _) ⟨by omega,(r).cast rfl rfl⟩
 clear r
 rintro i cI bo ac wd ⟨aM,r⟩
 cases h0:(decide ((((i:Nat):Int):Int)<((l.length:Nat):Int))) with
 | false=>
  have bH:=of_decide_eq_false h0
  have du:l.take i=l:=List.take_of_length_le (by omega)
  exact aQ tk tq hK rfl [(3,[(0,.b false)]),(7,[(1,.call [.d (.ro 1 (ints (l.map ah.node)))] (.tu []))]),(8,[(1,.mem [0] (.sl 0 ((bF (l.map ah.node) (l.map ah.node).length).length)) [.rw 3 1 (ints (bF (l.map ah.node) (l.map ah.node).length))]),(2,.dt 200 [(1,[(5,.res (.ro 1 (ints (bF (l.map ah.node) (l.map ah.node).length))))])])])] 2000 r (by kernel_rfl) (U h0 (U (PB (l.map ah.node) hs (by simp;omega)) (U ((.tu (by simp)):dh (.tu [])) (U (cQ (1)) (U ((by simp<;>omega):(i)=(ints ((l.take i).map ah.node)).length) (U ((by rw [D3,du]):cg (ints ((l.take i).map ah.node))=ints (l.map ah.node)) (U ((by rw [du];exact MZ (l.map ah.node) (i) (by simp;omega) (by simp;omega)):aL Tryz.prog 69 [.sl 0 (i)] [.rw 3 1 (ints ((l.take i).map ah.node))] (.sl 0 ((bF (l.map ah.node) (l.map ah.node).length).length)) [.rw 3 1 (ints (bF (l.map ah.node) (l.map ah.node).length))]) (U (aX (((bF (l.map ah.node) (l.map ah.node).length).length:Nat):Int)) (U (aX (((bF (l.map ah.node) (l.map ah.node).length).length:Nat):Int)) (U ((by simp<;>omega):((bF (l.map ah.node) (l.map ah.node).length).length)=(ints (bF (l.map ah.node) (l.map ah.node).length)).length) (U (cQ (1)) (U (D3 _:cg (ints (bF (l.map ah.node) (l.map ah.node).length))=ints (bF (l.map ah.node) (l.map ah.node).length)) trivial))))))))))))
 | true=>
  have bH:=of_decide_eq_true h0
  obtain ⟨aq,cv⟩:∃ x,l[i]?=some x:=⟨_,List.getElem?_eq_getElem (by omega)⟩
  exact bU (todo':=hd Tryz.f54 0) (E':=[(3,.sl 0 (i+(1))),(9,.d (.ro 2 (procs l))),(10,.n l.length),(11,.n (i+1))]) (M':=[.rw 3 1 (ints ((l.take i).map ah.node)++[[.z aq.node]])]) tk tq hK [(3,[(0,.b true)]),(4,[(0,.ix (i) [.z aq.node,.u aq.inc])]),(6,[(0,.z (((i+1:Nat):Int)))])] 2000 [0] [3,9,10,11] r (by kernel_rfl) (U h0 (U (aX ((i:Nat):Int)) (U (cK cv) (U ((by simp<;>omega):(i)=(ints ((l.take i).map ah.node)).length) (U ((by simp<;>omega):(1)=([[.z aq.node]]:List (List DV)).length) (U ((by first | omega | (simp;done) | (simp;omega)):(2*((i)+(1))+0)*8≤281474976710656) (U ((by first | omega | (simp;done) | (simp;omega)):(i)+(1)<4611686018427387904) (U ((by simp [bA,AV.one,cd]):bA ([[.z aq.node]])) (U ((wi (by omega)):IntKind.i64.wrap ((((i:Nat):Int):Int)+1)=((i+1:Nat):Int)) trivial))))))))) fun ac wd r=>bo (by omega) ac wd ⟨by omega,r.cast rfl (by rw [J5 cv])⟩
end Go.Proofs.YtlinpknagdgphaaGreat
namespace Go.Proofs.YtlinpknagdgphaaGreat
open Go.RowKit
structure aw where
 server:ah
 seq:Nat
 ay:List ah
deriving DecidableEq
def aw.row (a:aw):List DV:=[.v (.int .i64 a.server.node),.v (.int .u64 (a.server.inc:Int)),.v (.int .u64 (a.seq:Int)),.ro 2 (procs a.ay)]
abbrev aI (l:List aw):List (List DV):=l.map aw.row
theorem eC {l:List aw} {i:Nat} {a:aw} (h:l[i]?=some a):(aI l)[i]?=some [.v (.int .i64 a.server.node),.v (.int .u64 (a.server.inc:Int)),.v (.int .u64 (a.seq:Int)),.ro 2 (procs a.ay)]:=by simp [aI,h,aw.row]
def ah.jo (p:ah):Bool:=p.may&&decide (p.inc<34359738368)
def ah.dR (p:ah):Bool:=p.may&&decide (p.inc<34359738368)&&decide (p.node≤4)
theorem ah.qn {p:ah}:p.dR=true↔1≤p.node∧p.node≤4∧0<p.inc∧p.inc<34359738368:=by
 simp only [ah.dR,ah.may,Bool.and_eq_true,decide_eq_true_eq];omega
set_option maxRecDepth 100000 in
theorem kc (x m:Nat):aD Tryz.prog 52 [.u x,.u m] (DV.v (.bool (decide (m≤x∧x≤34359738367)))):=by
 refine aD.intro (by kernel_rfl) rfl rfl 12 rfl rfl fun w0 K ac hK r=>?_
 cases h0:(decide ((((m:Nat):Int):Int)≤((x:Nat):Int))) with
 | false=>
  have bH:=of_decide_eq_false h0
  rw [show (DV.v (.bool (decide (m≤x∧x≤34359738367))):DV)=.v (.bool false) from (bv (by simp;omega))]
  exact aQ tk tq hK rfl [(1,[(2,.b false)])] 2000 r (by kernel_rfl) (U h0 trivial)
 | true=>
  have bH:=of_decide_eq_true h0
  cases h1:(decide ((((x:Nat):Int):Int)≤34359738367)) with
  | false=>
   have bN:=of_decide_eq_false h1
   rw [show (DV.v (.bool (decide (m≤x∧x≤34359738367))):DV)=.v (.bool false) from (bv (by simp;omega))]
   exact aQ tk tq hK rfl [(1,[(2,.b true),(5,.b false)])] 2000 r (by kernel_rfl) (U h0 (U h1 trivial))
  | true=>
   have bN:=of_decide_eq_true h1
   rw [show (DV.v (.bool (decide (m≤x∧x≤34359738367))):DV)=.v (.bool true) from (bv (by simp;omega))]
   exact aQ tk tq hK rfl [(1,[(2,.b true),(5,.b true)])] 2000 r (by kernel_rfl) (U h0 (U h1 trivial))
set_option maxRecDepth 100000 in
theorem vT (p:ah):aD Tryz.prog 66 [.ag [.z p.node,.u p.inc]] (DV.v (.bool (p.jo))):=by
 refine aD.intro (by kernel_rfl) rfl rfl 10 rfl rfl fun w0 K ac hK r=>?_
 cases h0:(p.may) with
 | false=>
  rw [show (DV.v (.bool (p.jo)):DV)=.v (.bool false) from (bv (by simp_all [ah.dR,ah.may,ah.jo];try omega))]
  exact aQ tk tq hK rfl [(1,[(1,.aJ (.v (.bool false)))])] 2000 r (by kernel_rfl) (U ((by have k:=mc p;rw [h0] at k;exact k):aD Tryz.prog 17 [.ag [.z p.node,.u p.inc]] (.v (.bool false))) trivial)
 | true=>
  have u0:=((by have k:=mc p;rw [h0] at k;exact k):aD Tryz.prog 17 [.ag [.z p.node,.u p.inc]] (.v (.bool true)))
  cases h1:(decide (1≤p.inc∧p.inc≤34359738367)) with
  | false=>
   have bN:=of_decide_eq_false h1
   rw [show (DV.v (.bool (p.jo)):DV)=.v (.bool false) from (bv (by simp_all [ah.dR,ah.may,ah.jo];try omega))]
   exact aQ tk tq hK rfl [(1,[(1,.aJ (.v (.bool true))),(5,.aJ (.v (.bool false)))])] 2000 r (by kernel_rfl) (U u0 (U ((by have k:=kc p.inc 1;rw [h1] at k;exact k):aD Tryz.prog 52 [.u p.inc,.d (.v (.int .u64 1))] (.v (.bool false))) trivial))
  | true=>
   have bN:=of_decide_eq_true h1
   rw [show (DV.v (.bool (p.jo)):DV)=.v (.bool true) from (bv (by simp_all [ah.dR,ah.may,ah.jo];try omega))]
   exact aQ tk tq hK rfl [(1,[(1,.aJ (.v (.bool true))),(5,.aJ (.v (.bool true)))])] 2000 r (by kernel_rfl) (U u0 (U ((by have k:=kc p.inc 1;rw [h1] at k;exact k):aD Tryz.prog 52 [.u p.inc,.d (.v (.int .u64 1))] (.v (.bool true))) trivial))
set_option maxRecDepth 100000 in
theorem vo (p:ah):aD Tryz.prog 51 [.ag [.z p.node,.u p.inc]] (DV.v (.bool (p.dR))):=by
 refine aD.intro (by kernel_rfl) rfl rfl 10 rfl rfl fun w0 K ac hK r=>?_
 cases h0:(p.jo) with
 | false=>
  rw [show (DV.v (.bool (p.dR)):DV)=.v (.bool false) from (bv (by simp_all [ah.dR,ah.may,ah.jo];try omega))]
  exact aQ tk tq hK rfl [(1,[(1,.aJ (.v (.bool false)))])] 2000 r (by kernel_rfl) (U ((by have k:=vT p;rw [h0] at k;exact k):aD Tryz.prog 66 [.ag [.z p.node,.u p.inc]] (.v (.bool false))) trivial)
 | true=>
  have u0:=((by have k:=vT p;rw [h0] at k;exact k):aD Tryz.prog 66 [.ag [.z p.node,.u p.inc]] (.v (.bool true)))
  cases h1:(decide ((p.node:Int)≤4)) with
  | false=>
   have bN:=of_decide_eq_false h1
   rw [show (DV.v (.bool (p.dR)):DV)=.v (.bool false) from (bv (by simp_all [ah.dR,ah.may,ah.jo];try omega))]
   exact aQ tk tq hK rfl [(1,[(1,.aJ (.v (.bool true))),(5,.b false)])] 2000 r (by kernel_rfl) (U u0 (U h1 trivial))
  | true=>
   have bN:=of_decide_eq_true h1
   rw [show (DV.v (.bool (p.dR)):DV)=.v (.bool true) from (bv (by simp_all [ah.dR,ah.may,ah.jo];try omega))]
   exact aQ tk tq hK rfl [(1,[(1,.aJ (.v (.bool true))),(5,.b true)])] 2000 r (by kernel_rfl) (U u0 (U h1 trivial))
end Go.Proofs.YtlinpknagdgphaaGreat
namespace Go.Proofs.YtlinpknagdgphaaGreat
open Go.RowKit
def aw.may (a:aw):Bool:=a.server.dR&&(decide (1≤a.seq)&&decide (a.seq≤34359738367))&&(isSet a.ay&&a.ay.all ah.dR&&lone (a.server::a.ay))
theorem D5 (p:ah) (l:List ah):lone (p::l)=true↔lone l=true∧∀ q ∈ l,q.node≠p.node:=by
 simp only [p5,Lone]
 constructor
 ·intro h
  refine ⟨fun a b x y ha hb hx hy=>h (a+1) (b+1) x y (by simpa using ha) (by omega) (by simpa using hx) (by simpa using hy),fun q hq e=>?_⟩
  obtain ⟨i,hi,rfl⟩:=List.getElem_of_mem hq
  exact h (i+1) 0 l[i] p (by simpa using hi) (by omega) (by simp [hi]) (by simp) e.symm
 ·rintro ⟨h1,h2⟩ a b x y ha hb hx hy
  cases a with
  | zero=>omega
  | succ a=>
   rw [List.getElem?_cons_succ] at hx
   cases b with
   | zero=>simp at hy;subst hy;exact fun e=>h2 x (List.mem_of_getElem? hx) e.symm
   | succ b=>rw [List.getElem?_cons_succ] at hy;exact h1 a b x y (by simpa using ha) (by omega) hx hy
theorem PC {l:List ah} {f:ah→Bool} {i:Nat} (hi:l.length≤i) (h:∀ j p,j<i→l[j]?=some p→f p=true):l.all f=true:=by
 rw [List.all_eq_true];intro x hx
 obtain ⟨j,hj,rfl⟩:=List.getElem_of_mem hx
 exact h j _ (by omega) (List.getElem?_eq_getElem hj)
theorem D6:∀ {l:List ah},lone l=true→l.all ah.dR=true→l.length≤4:=by
 have key:∀ (m:Nat) (l:List ah),lone l=true→(∀ p ∈ l,1≤p.node∧p.node≤m)→l.length≤m:=by
  intro m
  induction m with
  | zero=>
   intro l _ h
   cases l with
   | nil=>simp
   | cons p l=>have:=h p List.mem_cons_self;omega
  | succ m ih=>
   intro l hl h
   by_cases hm:∃ i:Nat,∃ p:ah,l[i]?=some p∧p.node=(m+1:Nat)
   ·obtain ⟨i,p,hi,hp⟩:=hm
    obtain ⟨aK,rfl⟩:=List.getElem?_eq_some_iff.1 hi
    have hL:=(p5 l).1 hl
    have h1:(l.take i++l.drop (i+1)).length≤m:=by
     have get:∀ {a x},(l.take i++l.drop (i+1))[a]?=some x→∃ a',l[a']?=some x∧a'≠i∧(a<i→a'=a)∧(i≤a→a'=a+1):=by
      intro a x hx
      rcases Nat.lt_or_ge a i with ha | ha
      ·rw [List.getElem?_append_left (by simp;omega),List.getElem?_take,if_pos ha] at hx
       exact ⟨a,hx,by omega,fun _=>rfl,fun h=>by omega⟩
      ·rw [List.getElem?_append_right (by simp;omega),List.getElem?_drop] at hx
       simp only [List.length_take] at hx
       refine ⟨a+1,by rw [← hx];congr 1;omega,by omega,fun h=>by omega,fun _=>rfl⟩
     refine ih _ ((p5 _).2 fun a b x y ha hb hx hy=>?_) fun x hx=>?_
     ·obtain ⟨a',e1,-,f1,f2⟩:=get hx
      obtain ⟨b',e2,-,k1,k2⟩:=get hy
      have:b'<a':=by
       rcases Nat.lt_or_ge a i with h | h<;>rcases Nat.lt_or_ge b i with h' | h'
       ·have:=f1 h;have:=k1 h';omega
       ·omega
       ·have:=f2 h;have:=k1 h';omega
       ·have:=f2 h;have:=k2 h';omega
      exact hL a' b' x y (List.getElem?_eq_some_iff.1 e1).1 this e1 e2
     ·obtain ⟨a,ha,rfl⟩:=List.getElem_of_mem hx
      obtain ⟨a',e1,dN,-,-⟩:=get (List.getElem?_eq_getElem ha)
      have hb:=h _ (List.mem_of_getElem? e1)
      have hn:(l.take i++l.drop (i+1))[a].node≠(m+1:Nat):=by
       intro e
       rcases Nat.lt_or_ge a' i with hh | hh
       ·exact hL i a' _ _ aK hh hi e1 (by rw [e,hp])
       ·exact hL a' i _ _ (List.getElem?_eq_some_iff.1 e1).1 (by omega) e1 hi (by rw [e,hp])
      omega
    simp only [List.length_append,List.length_take,List.length_drop] at h1
    omega
   ·have:=ih l hl fun p hp=>by
     obtain ⟨i,hi,rfl⟩:=List.getElem_of_mem hp
     have h1:=h _ hp
     have h2:l[i].node≠(m+1:Nat):=fun e=>hm ⟨i,_,List.getElem?_eq_getElem hi,e⟩
     omega
    omega
 intro l hl ha
 refine key 4 l hl fun p hp=>?_
 have:=ah.qn.1 (List.all_eq_true.1 ha p hp)
 omega
theorem aw.gL {a:aw}:a.may=true↔a.server.dR=true∧(1≤a.seq∧a.seq≤34359738367)∧isSet a.ay=true∧a.ay.all ah.dR=true∧lone a.ay=true∧∀ q ∈ a.ay,q.node≠a.server.node:=by
 simp only [aw.may,Bool.and_eq_true,decide_eq_true_eq,D5]
 constructor
 ·rintro ⟨⟨h1,h2⟩,⟨h3,h4⟩,h5,h6⟩;exact ⟨h1,h2,h3,h4,h5,h6⟩
 ·rintro ⟨h1,h2,h3,h4,h5,h6⟩;exact ⟨⟨h1,h2⟩,⟨h3,h4⟩,h5,h6⟩
theorem aw.gR {a:aw} (h:a.may=true):a.ay.length≤3:=by
 obtain ⟨h1,-,-,h4,h5,h6⟩:=aw.gL.1 h
 have:=D6 ((D5 _ _).2 ⟨h5,h6⟩) (by simp only [List.all_cons,h1,h4,Bool.and_self])
 simpa using this
theorem aw.kE {a:aw} (h:a.server.dR=false):a.may=false:=by simp [aw.may,h]
theorem aw.kF {a:aw} (h:¬ (1≤a.seq∧a.seq≤34359738367)):a.may=false:=by
 cases hh:a.may with
 | false=>rfl
 | true=>exact absurd (aw.gL.1 hh).2.1 h
theorem aw.ob {a:aw} (h:isSet a.ay=false):a.may=false:=by simp [aw.may,h]
theorem aw.od {a:aw} (h:4<a.ay.length):a.may=false:=by
 cases hh:a.may with
 | false=>rfl
 | true=>have:=aw.gR hh;omega
theorem aw.oe {a:aw} {i:Nat} {p:ah} (h:a.ay[i]?=some p) (hs:p.dR=false):a.may=false:=by
 cases hh:a.may with
 | false=>rfl
 | true=>rw [List.all_eq_true.1 (aw.gL.1 hh).2.2.2.1 p (List.mem_of_getElem? h)] at hs;cases hs
theorem aw.og {a:aw} {i:Nat} {p:ah} (h:a.ay[i]?=some p) (hs:p.node=a.server.node):a.may=false:=by
 cases hh:a.may with
 | false=>rfl
 | true=>exact absurd hs ((aw.gL.1 hh).2.2.2.2.2 p (List.mem_of_getElem? h))
theorem PD {l:List ah} {n:Int} {i:Nat} (hi:l.length≤i) (h:∀ j p,j<i→l[j]?=some p→p.dR=true∧p.node≠n):(∀ q ∈ l,q.node≠n)∧l.all ah.dR=true:=
 ⟨fun q hq=>by obtain ⟨j,hj,rfl⟩:=List.getElem_of_mem hq;exact (h j _ (by omega) (List.getElem?_eq_getElem hj)).2,PC hi fun j p hj hp=>(h j p hj hp).1⟩
theorem aw.nS {a:aw} {c:Bool} {i:Nat} (h1:a.server.dR=true) (h2:1≤a.seq∧a.seq≤34359738367) (h3:isSet a.ay=true) (hi:a.ay.length≤i) (h4:∀ j p,j<i→a.ay[j]?=some p→p.dR=true∧p.node≠a.server.node)
  (hc:(((((bF (a.ay.map ah.node) (a.ay.map ah.node).length).length:Nat):Int)==((a.ay.length:Nat):Int))=c)):a.may=c:=by
 obtain ⟨g1,g2⟩:=PD hi h4
 have hl:=J4 h3
 rw [Bool.eq_iff_iff,aw.gL]
 have H4:c=true↔lone a.ay=true:=by
  rw [← hl,← hc,beq_iff_eq];omega
 rw [H4]
 exact ⟨fun h=>h.2.2.2.2.1,fun h=>⟨h1,h2,h3,g2,h,g1⟩⟩
set_option maxRecDepth 100000 in
theorem xY (a:aw) (hb:a.ay.length≤9223372036854775807):aD Tryz.prog 37 [.ag [.z a.server.node,.u a.server.inc,.u a.seq,.d (.ro 2 (procs a.ay))]] (DV.v (.bool a.may)):=by
 refine aD.intro (by kernel_rfl) rfl rfl 54 rfl rfl fun w0 K ac hK r=>?_
 cases h0:(a.server.dR) with
 | false=>
  rw [show (DV.v (.bool a.may):DV)=.v (.bool false) from (bv (by first | exact aw.kE (by assumption) | exact aw.kF (by omega) | exact aw.ob (by assumption) | exact aw.od (by omega) | exact aw.oe fQ (by assumption) | exact aw.og fQ (by omega) | exact aw.nS (by assumption) (by omega) (by assumption) (by omega) aM (by assumption)))]
  exact aQ tk tq hK rfl [(1,[(2,.aJ (.v (.bool false)))])] 2000 r (by kernel_rfl) (U ((by have k:=vo a.server;rw [h0] at k;exact k):aD Tryz.prog 51 [.ag [.z a.server.node,.u a.server.inc]] (.v (.bool false))) trivial)
 | true=>
  have u0:=((by have k:=vo a.server;rw [h0] at k;exact k):aD Tryz.prog 51 [.ag [.z a.server.node,.u a.server.inc]] (.v (.bool true)))
  cases h1:(decide (1≤a.seq∧a.seq≤34359738367)) with
  | false=>
   have bN:=of_decide_eq_false h1
   rw [show (DV.v (.bool a.may):DV)=.v (.bool false) from (bv (by first | exact aw.kE (by assumption) | exact aw.kF (by omega) | exact aw.ob (by assumption) | exact aw.od (by omega) | exact aw.oe fQ (by assumption) | exact aw.og fQ (by omega) | exact aw.nS (by assumption) (by omega) (by assumption) (by omega) aM (by assumption)))]
   exact aQ tk tq hK rfl [(1,[(2,.aJ (.v (.bool true))),(7,.aJ (.v (.bool false)))])] 2000 r (by kernel_rfl) (U u0 (U ((by have k:=kc a.seq 1;rw [h1] at k;exact k):aD Tryz.prog 52 [.u a.seq,.d (.v (.int .u64 1))] (.v (.bool false))) trivial))
  | true=>
   have bN:=of_decide_eq_true h1
   have u1:=((by have k:=kc a.seq 1;rw [h1] at k;exact k):aD Tryz.prog 52 [.u a.seq,.d (.v (.int .u64 1))] (.v (.bool true)))
   have u2:=((by simp):(((procs a.ay).length:Nat):Int)=((a.ay.length:Nat):Int))
   cases h2:(decide ((4:Int)<((a.ay.length:Nat):Int))) with
   | false=>
    have b7:=of_decide_eq_false h2
    cases h3:(isSet a.ay) with
    | false=>
     rw [show (DV.v (.bool a.may):DV)=.v (.bool false) from (bv (by first | exact aw.kE (by assumption) | exact aw.kF (by omega) | exact aw.ob (by assumption) | exact aw.od (by omega) | exact aw.oe fQ (by assumption) | exact aw.og fQ (by omega) | exact aw.nS (by assumption) (by omega) (by assumption) (by omega) aM (by assumption)))]
     exact aQ tk tq hK rfl [(1,[(2,.aJ (.v (.bool true))),(7,.aJ (.v (.bool true))),(13,.z (((a.ay.length:Nat):Int))),(14,.b false),(19,.aJ (.v (.bool false)))])] 2000 r (by kernel_rfl) (U u0 (U u1 (U u2 (U h2 (U ((by have k:=FF a.ay (by omega);rw [h3] at k;exact k):aD Tryz.prog 53 [.d (.ro 2 (procs a.ay))] (.v (.bool false))) trivial)))))
    | true=>
     refine bU (todo':=hd Tryz.f37 0) (E':=[(1,.pt 0 0),(28,.d (.ro 2 (procs a.ay))),(29,.n a.ay.length),(30,.n 0)]) (M':=[.bx 31 [.z a.server.node,.u a.server.inc,.u a.seq,.d (.ro 2 (procs a.ay))]]) tk tq hK [(1,[(2,.aJ (.v (.bool true))),(7,.aJ (.v (.bool true))),(13,.z (((a.ay.length:Nat):Int))),(14,.b false),(19,.aJ (.v (.bool true)))]),(3,[(2,.z (((a.ay.length:Nat):Int)))])] 2000 [0] [1,28,29,30] r (by kernel_rfl) (U u0 (U u1 (U u2 (U h2 (U ((by have k:=FF a.ay (by omega);rw [h3] at k;exact k):aD Tryz.prog 53 [.d (.ro 2 (procs a.ay))] (.v (.bool true))) (U u2 trivial)))))) fun ac wd r=>?_
     refine aN.rounds (Φ:=fun (i:Nat) ac wd=>(i≤a.ay.length∧∀ j p,j<i→a.ay[j]?=some p→p.dR=true∧p.node≠a.server.node)∧ec [] w0 K 54 [(1,.pt 0 0),(28,.d (.ro 2 (procs a.ay))),(29,.n a.ay.length),(30,.n i)] [.bx 31 [.z a.server.node,.u a.server.inc,.u a.seq,.d (.ro 2 (procs a.ay))]] ac wd) (a.ay.length) ?_ (Nat.zero_le _) ⟨⟨by omega,by omega⟩,r⟩
     clear r
     rintro i cI bo ac wd ⟨aM,r⟩
     obtain ⟨eS,aM⟩:=aM
     cases h4:(decide ((((i:Nat):Int):Int)<((a.ay.length:Nat):Int))) with
     | false=>
      have eA:=of_decide_eq_false h4
      have u3:=((by simp):(((ints (bF (a.ay.map ah.node) (a.ay.map ah.node).length)).length:Nat):Int)=(((bF (a.ay.map ah.node) (a.ay.map ah.node).length).length:Nat):Int))
      cases h5:(((((bF (a.ay.map ah.node) (a.ay.map ah.node).length).length:Nat):Int):Int)==((a.ay.length:Nat):Int)) with
      | false=>
       have ib:=ne_of_beq_false h5
       rw [show (DV.v (.bool a.may):DV)=.v (.bool false) from (bv (by first | exact aw.kE (by assumption) | exact aw.kF (by omega) | exact aw.ob (by assumption) | exact aw.od (by omega) | exact aw.oe fQ (by assumption) | exact aw.og fQ (by omega) | exact aw.nS (by assumption) (by omega) (by assumption) (by omega) aM (by assumption)))]
       exact aQ tk tq hK rfl [(4,[(0,.b false)]),(9,[(6,.z (((a.ay.length:Nat):Int))),(2,.aJ (.ro 1 (ints (bF (a.ay.map ah.node) (a.ay.map ah.node).length)))),(3,.z ((((bF (a.ay.map ah.node) (a.ay.map ah.node).length).length:Nat):Int))),(7,.b false)])] 2000 r (by kernel_rfl) (U h4 (U u2 (U (FI a.ay (DD (by assumption)) (by omega)) (U u3 (U h5 trivial)))))
      | true=>
       have ib:=eq_of_beq h5
       rw [show (DV.v (.bool a.may):DV)=.v (.bool true) from (bv (by first | exact aw.kE (by assumption) | exact aw.kF (by omega) | exact aw.ob (by assumption) | exact aw.od (by omega) | exact aw.oe fQ (by assumption) | exact aw.og fQ (by omega) | exact aw.nS (by assumption) (by omega) (by assumption) (by omega) aM (by assumption)))]
       exact aQ tk tq hK rfl [(4,[(0,.b false)]),(9,[(6,.z (((a.ay.length:Nat):Int))),(2,.aJ (.ro 1 (ints (bF (a.ay.map ah.node) (a.ay.map ah.node).length)))),(3,.z ((((bF (a.ay.map ah.node) (a.ay.map ah.node).length).length:Nat):Int))),(7,.b true)])] 2000 r (by kernel_rfl) (U h4 (U u2 (U (FI a.ay (DD (by assumption)) (by omega)) (U u3 (U h5 trivial)))))
     | true=>
      have eA:=of_decide_eq_true h4
      obtain ⟨jc,fQ⟩:∃ x,a.ay[i]?=some x:=⟨_,List.getElem?_eq_getElem (by omega)⟩
      cases h6:(jc.dR) with
      | false=>
       rw [show (DV.v (.bool a.may):DV)=.v (.bool false) from (bv (by first | exact aw.kE (by assumption) | exact aw.kF (by omega) | exact aw.ob (by assumption) | exact aw.od (by omega) | exact aw.oe fQ (by assumption) | exact aw.og fQ (by omega) | exact aw.nS (by assumption) (by omega) (by assumption) (by omega) aM (by assumption)))]
       exact aQ tk tq hK rfl [(4,[(0,.b true)]),(5,[(0,.ix (i) [.z jc.node,.u jc.inc])]),(6,[(1,.aJ (.v (.bool false)))])] 2000 r (by kernel_rfl) (U h4 (U (aX ((i:Nat):Int)) (U (cK fQ) (U ((by have k:=vo jc;rw [h6] at k;exact k):aD Tryz.prog 51 [.ag [.z jc.node,.u jc.inc]] (.v (.bool false))) trivial))))
      | true=>
       have u4:=((by have k:=vo jc;rw [h6] at k;exact k):aD Tryz.prog 51 [.ag [.z jc.node,.u jc.inc]] (.v (.bool true)))
       cases h7:((jc.node:Int)==a.server.node) with
       | false=>
        have gE:=ne_of_beq_false h7
        exact bU (todo':=hd Tryz.f37 0) tk tq hK [(4,[(0,.b true)]),(5,[(0,.ix (i) [.z jc.node,.u jc.inc])]),(6,[(1,.aJ (.v (.bool true))),(9,.b false)]),(8,[(0,.z (((i+1:Nat):Int)))])] 2000 [0] [1,28,29,30] r (by kernel_rfl) (U h4 (U (aX ((i:Nat):Int)) (U (cK fQ) (U u4 (U h7 (U ((wi (by omega)):IntKind.i64.wrap ((((i:Nat):Int):Int)+1)=((i+1:Nat):Int)) trivial)))))) fun ac wd r=>bo (by omega) ac wd ⟨⟨by omega,fun j p hj hp=>by rcases Nat.lt_succ_iff_lt_or_eq.1 hj with h | rfl;exact aM j p h hp;rw [fQ] at hp;cases hp;exact ⟨by assumption,by omega⟩⟩,r⟩
       | true=>
        have gE:=eq_of_beq h7
        rw [show (DV.v (.bool a.may):DV)=.v (.bool false) from (bv (by first | exact aw.kE (by assumption) | exact aw.kF (by omega) | exact aw.ob (by assumption) | exact aw.od (by omega) | exact aw.oe fQ (by assumption) | exact aw.og fQ (by omega) | exact aw.nS (by assumption) (by omega) (by assumption) (by omega) aM (by assumption)))]
        exact aQ tk tq hK rfl [(4,[(0,.b true)]),(5,[(0,.ix (i) [.z jc.node,.u jc.inc])]),(6,[(1,.aJ (.v (.bool true))),(9,.b true)])] 2000 r (by kernel_rfl) (U h4 (U (aX ((i:Nat):Int)) (U (cK fQ) (U u4 (U h7 trivial)))))
   | true=>
    have b7:=of_decide_eq_true h2
    rw [show (DV.v (.bool a.may):DV)=.v (.bool false) from (bv (by first | exact aw.kE (by assumption) | exact aw.kF (by omega) | exact aw.ob (by assumption) | exact aw.od (by omega) | exact aw.oe fQ (by assumption) | exact aw.og fQ (by omega) | exact aw.nS (by assumption) (by omega) (by assumption) (by omega) aM (by assumption)))]
    exact aQ tk tq hK rfl [(1,[(2,.aJ (.v (.bool true))),(7,.aJ (.v (.bool true))),(13,.z (((a.ay.length:Nat):Int))),(14,.b true)])] 2000 r (by kernel_rfl) (U u0 (U u1 (U u2 (U h2 trivial))))
set_option maxRecDepth 100000 in
theorem wo (a:aw) (hb:a.ay.length≤9223372036854775807):aD Tryz.prog 44 [.ag [.z a.server.node,.u a.server.inc,.u a.seq,.d (.ro 2 (procs a.ay))]] (DV.v (.bool a.may)):=by
 refine aD.intro (by kernel_rfl) rfl rfl 6 rfl rfl fun w0 K ac hK r=>?_
 exact aQ tk tq hK rfl [(1,[(2,.dt 200 [(3,[(3,.b true),(24,.aJ (.v (.bool a.may)))])])])] 2000 r (by kernel_rfl) (U ((ez (Gz 0 0 0 0) (by decide)):dK Tryz.prog 24 [(.int .i64 (0)),(.int .u64 (0))] [(.int .i64 (0)),(.int .u64 (0))] true) (U (xY a hb) trivial))
end Go.Proofs.YtlinpknagdgphaaGreat
namespace Go.Proofs.YtlinpknagdgphaaGreat
open Go.RowKit
theorem xH (l:List ah):cg (procs l)=procs l:=by
 rw [jz];unfold procs;rw [List.map_map];apply List.map_congr_left;intro s _;simp [ah.row,cT]
theorem Lj (l:List ah):bA (procs l):=by
 simp only [bA,procs,List.mem_map]
 first
 | (rintro r ⟨p,-,rfl⟩ c hc;simp only [ah.row,List.mem_cons,List.not_mem_nil,or_false] at hc;rcases hc with rfl | rfl<;>rfl)
 | (simp only [List.all_eq_true,List.mem_map];rintro r ⟨p,-,rfl⟩ c hc;simp only [ah.row,List.mem_cons,List.not_mem_nil,or_false] at hc;rcases hc with rfl | rfl<;>rfl)
end Go.Proofs.YtlinpknagdgphaaGreat
namespace Go.Proofs.YtlinpknagdgphaaGreat
open Go.RowKit
def dF (a b:aw):Bool:=decide (b.server.inc<a.server.inc∨a.server.inc=b.server.inc∧b.seq<a.seq)
def aw.BW (a:aw):List DV:=[.v (.int .i64 a.server.node),.v (.int .u64 (a.server.inc:Int)),.v (.int .u64 (a.seq:Int)),.em 24 2 (procs a.ay)]
abbrev b4 (l:List aw):List (List DV):=l.map aw.BW
theorem Jo (l:List aw) (a:aw):b4 l++[[.v (.int .i64 a.server.node),.v (.int .u64 (a.server.inc:Int)),.v (.int .u64 (a.seq:Int)),.em 24 2 (procs a.ay)]]=b4 (l++[a]):=by simp [b4,aw.BW]
theorem ux (l:List aw):cg (b4 l)=aI l:=by
 rw [jz];unfold b4 aI;rw [List.map_map];apply List.map_congr_left;intro s _;show [cT (.v _),cT (.v _),cT (.v _),cT (.em _ 2 (procs s.ay))]=_;rw [cT,cT,cT,cT,xH];rfl
theorem gJ (l:List aw):cg (aI l)=aI l:=by
 rw [jz];unfold aI;rw [List.map_map];apply List.map_congr_left;intro s _;simp [aw.row,cT]
set_option maxRecDepth 100000 in
theorem lG (a b:aw):aD Tryz.prog 45 [.ag [.z a.server.node,.u a.server.inc,.u a.seq,.d (.ro 2 (procs a.ay))],.ag [.z b.server.node,.u b.server.inc,.u b.seq,.d (.ro 2 (procs b.ay))]] (DV.v (.bool (dF a b))):=by
 refine aD.intro (by kernel_rfl) rfl rfl 24 rfl rfl fun w0 K ac hK r=>?_
 cases h0:((((a.server.inc:Nat):Int):Int) != ((b.server.inc:Nat):Int)) with
 | false=>
  have bH:=gK h0
  cases h1:(decide ((((b.seq:Nat):Int):Int)<((a.seq:Nat):Int))) with
  | false=>
   have bN:=of_decide_eq_false h1
   rw [show (DV.v (.bool (dF a b)):DV)=.v (.bool false) from (bv (by unfold dF;first | (apply decide_eq_true;omega) | (apply decide_eq_false;omega) | (simp;omega)))]
   exact aQ tk tq hK rfl [(1,[(6,.b false)]),(3,[(4,.b false)])] 2000 r (by kernel_rfl) (U h0 (U h1 trivial))
  | true=>
   have bN:=of_decide_eq_true h1
   rw [show (DV.v (.bool (dF a b)):DV)=.v (.bool true) from (bv (by unfold dF;first | (apply decide_eq_true;omega) | (apply decide_eq_false;omega) | (simp;omega)))]
   exact aQ tk tq hK rfl [(1,[(6,.b false)]),(3,[(4,.b true)])] 2000 r (by kernel_rfl) (U h0 (U h1 trivial))
 | true=>
  have bH:¬ _=_:=bne_iff_ne.1 h0
  cases h2:(decide ((((b.server.inc:Nat):Int):Int)<((a.server.inc:Nat):Int))) with
  | false=>
   have b7:=of_decide_eq_false h2
   rw [show (DV.v (.bool (dF a b)):DV)=.v (.bool false) from (bv (by unfold dF;first | (apply decide_eq_true;omega) | (apply decide_eq_false;omega) | (simp;omega)))]
   exact aQ tk tq hK rfl [(1,[(6,.b true)]),(2,[(6,.b false)])] 2000 r (by kernel_rfl) (U h0 (U h2 trivial))
  | true=>
   have b7:=of_decide_eq_true h2
   rw [show (DV.v (.bool (dF a b)):DV)=.v (.bool true) from (bv (by unfold dF;first | (apply decide_eq_true;omega) | (apply decide_eq_false;omega) | (simp;omega)))]
   exact aQ tk tq hK rfl [(1,[(6,.b true)]),(2,[(6,.b true)])] 2000 r (by kernel_rfl) (U h0 (U h2 trivial))
end Go.Proofs.YtlinpknagdgphaaGreat
namespace Go.Proofs.YtlinpknagdgphaaGreat
open Go.RowKit
theorem sm:j3 [.z 0,.v (.int .u64 0),.v (.int .u64 0),.v (.slice none 0 0)] [.v (.int .i64 0),.v (.int .u64 ((0:Nat):Int)),.v (.int .u64 ((0:Nat):Int)),.ro 2 []]:=.cons (Le.refl _) (.cons (Le.refl _) (.cons (Le.refl _) (.cons (Le.Be 2) .nil)))
abbrev aw.none:aw:=⟨⟨0,0⟩,0,[]⟩
def kG (k:Nat) (c a:aw):aw:=if a.may=true∧a.server.node=(k:Int)∧(c.seq=0∨dF a c=true) then a else c
def aC (l:List aw) (n k:Nat):aw:=(l.take n).foldl (kG k) aw.none
theorem oz {l:List aw} {n:Nat} {a:aw} (h:l[n]?=some a) (k:Nat):aC l (n+1) k=kG k (aC l n k) a:=by
 obtain ⟨hn,rfl⟩:=List.getElem?_eq_some_iff.1 h
 rw [aC,List.take_succ_eq_append_getElem hn,List.foldl_append];rfl
def eQ (l:List aw) (n:Nat):List (List DV):=[(aC l n 0).row,(aC l n 1).row,(aC l n 2).row,(aC l n 3).row,(aC l n 4).row]
theorem Oz {l:List aw} {n k:Nat} (h:k<5):(eQ l n)[k]?=some (aC l n k).row:=by
 match k,h with
 | 0,_=>rfl
 | 1,_=>rfl
 | 2,_=>rfl
 | 3,_=>rfl
 | 4,_=>rfl
 | k+5,h=>omega
theorem five {P:Nat→Prop} (h:∀ k,k<5→P k):P 0∧P 1∧P 2∧P 3∧P 4:=⟨h 0 (by omega),h 1 (by omega),h 2 (by omega),h 3 (by omega),h 4 (by omega)⟩
theorem D7 {l:List aw} {n:Nat} (h:∀ k,k<5→aC l (n+1) k=aC l n k):eQ l n=eQ l (n+1):=by
 obtain ⟨h0,h1,h2,h3,h4⟩:=five h
 rw [eQ,eQ,h0,h1,h2,h3,h4]
theorem M0 {l:List aw} {n k:Nat} {a:aw} (hk:k<5) (h:∀ j,j<5→aC l (n+1) j=if j=k then a else aC l n j):List.set (eQ l n) k a.row=eQ l (n+1):=by
 obtain ⟨h0,h1,h2,h3,h4⟩:=five h
 rw [eQ,eQ,h0,h1,h2,h3,h4]
 match k,hk with
 | 0,_=>rfl
 | 1,_=>rfl
 | 2,_=>rfl
 | 3,_=>rfl
 | 4,_=>rfl
 | k+5,h=>omega
theorem wq {l:List aw} {n:Nat} {a:aw} (h:l[n]?=some a) (hm:a.may=false):eQ l n=eQ l (n+1):=
 D7 fun k _=>by rw [oz h,kG,if_neg (by simp [hm])]
theorem p7 {a:aw} (h:a.may=true):((a.server.node.toNat:Nat):Int)=a.server.node∧a.server.node.toNat<5∧0<a.server.node.toNat:=by
 have:=ah.qn.1 (aw.gL.1 h).1
 omega
theorem vU {l:List aw} {n:Nat} {a:aw} (h:l[n]?=some a) (hm:a.may=true) (h1:((aC l n a.server.node.toNat).seq:Int)≠0) (h2:dF a (aC l n a.server.node.toNat)=false):eQ l n=eQ l (n+1):=
 D7 fun k _=>by
  rw [oz h,kG,if_neg]
  rintro ⟨-,e,e2⟩
  obtain rfl:a.server.node.toNat=k:=by omega
  rcases e2 with e2 | e2
  ·exact h1 (by rw [e2];rfl)
  ·rw [h2] at e2;cases e2
theorem vV {l:List aw} {n:Nat} {a:aw} (h:l[n]?=some a) (hm:a.may=true) (h2:((aC l n a.server.node.toNat).seq:Int)=0∨dF a (aC l n a.server.node.toNat)=true):List.set (eQ l n) (0+a.server.node.toNat) a.row=eQ l (n+1):=by
 obtain ⟨e1,e2,-⟩:=p7 hm
 rw [Nat.zero_add]
 refine M0 e2 fun k hk=>?_
 rw [oz h,kG]
 by_cases b9:k=a.server.node.toNat
 ·subst b9;rw [if_pos ⟨hm,e1.symm,h2.imp (fun h=>by omega) id⟩,if_pos rfl]
 ·rw [if_neg b9,if_neg]
  rintro ⟨-,e,-⟩
  omega
def cW (l:List aw):Nat→List aw
 | 0=>[]
 | k+1=>cW l k++(if 0<(aC l l.length k).seq then [aC l l.length k] else [])
def book (l:List aw):List aw:=cW l 5
theorem oM (l:List aw) (k:Nat):∀ n,aC l n k=aw.none∨(aC l n k ∈ l∧(aC l n k).may=true∧(aC l n k).server.node=(k:Int)):=by
 intro n
 induction n with
 | zero=>left;simp [aC]
 | succ n ih=>
  rcases Nat.lt_or_ge n l.length with hn | hn
  ·have e:=List.getElem?_eq_getElem hn
   rw [oz e,kG]
   split
   ·rename_i h;exact .inr ⟨List.getElem_mem hn,h.1,h.2.1⟩
   ·exact ih
  ·have:aC l (n+1) k=aC l n k:=by rw [aC,aC,List.take_of_length_le (by omega),List.take_of_length_le hn]
   rw [this];exact ih
theorem yI (l:List aw) (n k:Nat):(aC l n k).ay.length≤3:=by
 rcases oM l k n with h | ⟨-,h,-⟩
 ·rw [h];simp
 ·exact aw.gR h
theorem DE {l:List aw} {k:Nat} (h:(0:Int)<((aC l l.length k).seq:Int)):b4 (cW l k)++[[.v (.int .i64 (aC l l.length k).server.node),.v (.int .u64 ((aC l l.length k).server.inc:Int)),.v (.int .u64 ((aC l l.length k).seq:Int)),.em 24 2 (procs (aC l l.length k).ay)]]=b4 (cW l (k+1)):=by
 rw [Jo,cW,if_pos (by omega)]
theorem D8 {l:List aw} {k:Nat} (h:¬ (0:Int)<((aC l l.length k).seq:Int)):b4 (cW l k)=b4 (cW l (k+1)):=by
 rw [cW,if_neg (by omega),List.append_nil]
theorem Dh {l:List aw} {k:Nat} (h:(0:Int)<((aC l l.length k).seq:Int)):(cW l (k+1)).length=(cW l k).length+1:=by
 rw [cW,if_pos (by omega)];simp
theorem Di {l:List aw} {k:Nat} (h:¬ (0:Int)<((aC l l.length k).seq:Int)):(cW l (k+1)).length=(cW l k).length:=by
 rw [cW,if_neg (by omega)];simp
theorem xI (l:List aw):∀ k,(cW l k).length≤k
 | 0=>by simp [cW]
 | k+1=>by have:=xI l k;rw [cW,List.length_append];split<;>simp<;>omega
set_option maxRecDepth 100000 in
theorem o8 (l:List aw) (hb:l.length≤9223372036854775807) (hp:∀ x ∈ l,x.ay.length≤9223372036854775807):aD Tryz.prog 43 [.d (.ro 4 (aI l))] (.em 31 4 (b4 (book l))):=by
 refine aD.intro (by kernel_rfl) rfl rfl 58 rfl rfl fun w0 K ac hK r=>?_
 refine q5 (todo':=aft Tryz.f43 1) (E':=[(0,.d (.ro 4 (aI l))),(2,.d (.v (.slice none 0 0))),(3,.pt 0 0)]) (M':=[.bx 106 [.z 0,.d (.v (.int .u64 0)),.d (.v (.int .u64 0)),.d (.v (.slice none 0 0)),.z 0,.d (.v (.int .u64 0)),.d (.v (.int .u64 0)),.d (.v (.slice none 0 0)),.z 0,.d (.v (.int .u64 0)),.d (.v (.int .u64 0)),.d (.v (.slice none 0 0)),.z 0,.d (.v (.int .u64 0)),.d (.v (.int .u64 0)),.d (.v (.slice none 0 0)),.z 0,.d (.v (.int .u64 0)),.d (.v (.int .u64 0)),.d (.v (.slice none 0 0))]]) tk tq hK [] 4 [0] [0,2,3] r (by kernel_rfl) trivial fun ac wd r=>?_
 have r:=r.Pv (M2:=[.rw 106 4 ([[.z 0,.v (.int .u64 0),.v (.int .u64 0),.v (.slice none 0 0)],[.z 0,.v (.int .u64 0),.v (.int .u64 0),.v (.slice none 0 0)],[.z 0,.v (.int .u64 0),.v (.int .u64 0),.v (.slice none 0 0)],[.z 0,.v (.int .u64 0),.v (.int .u64 0),.v (.slice none 0 0)],[.z 0,.v (.int .u64 0),.v (.int .u64 0),.v (.slice none 0 0)]])]) (E2:=[(0,.d (.ro 4 (aI l))),(2,.d (.v (.slice none 0 0))),(3,.ep 0 4 (0) 0)]) 0 4 5 (by kernel_rfl) (by kernel_rfl) rfl
 have r:=(r.less 0 (rows':=eQ l 0) rfl (.cons sm (.cons sm (.cons sm (.cons sm (.cons sm .nil)))))).cast (M':=[.rw 106 4 (eQ l 0)]) rfl rfl
 refine bU (todo':=hd Tryz.f43 0) (E':=[(3,.ep 0 4 (0) 0),(9,.d (.ro 4 (aI l))),(10,.n l.length),(11,.n 0)]) (M':=[.rw 106 4 (eQ l 0)]) tk tq hK [(2,[(1,.z (((l.length:Nat):Int)))])] 2000 [0] [3,9,10,11] r (by kernel_rfl) (U ((by simp):(((aI l).length:Nat):Int)=((l.length:Nat):Int)) trivial) fun ac wd r=>?_
 refine aN.rounds (Φ:=fun (i:Nat) ac wd=>(i≤l.length)∧ec [] w0 K 58 [(3,.ep 0 4 (0) 0),(9,.d (.ro 4 (aI l))),(10,.n l.length),(11,.n i)] [.rw 106 4 (eQ l i)] ac wd) (l.length) ?_ (Nat.zero_le _) ⟨(Nat.zero_le _),r⟩
 clear r
 rintro i cI bo ac wd ⟨aM,r⟩
 cases h0:(decide ((((i:Nat):Int):Int)<((l.length:Nat):Int))) with
 | false=>
  have bH:=of_decide_eq_false h0
  refine bU (todo':=hd Tryz.f43 1) (E':=[(41,.ag [.z ((aC l l.length 0).server.node),.u ((aC l l.length 0).server.inc),.u ((aC l l.length 0).seq),.d (.ro 2 (procs (aC l l.length 0).ay)),.z ((aC l l.length 1).server.node),.u ((aC l l.length 1).server.inc),.u ((aC l l.length 1).seq),.d (.ro 2 (procs (aC l l.length 1).ay)),.z ((aC l l.length 2).server.node),.u ((aC l l.length 2).server.inc),.u ((aC l l.length 2).seq),.d (.ro 2 (procs (aC l l.length 2).ay)),.z ((aC l l.length 3).server.node),.u ((aC l l.length 3).server.inc),.u ((aC l l.length 3).seq),.d (.ro 2 (procs (aC l l.length 3).ay)),.z ((aC l l.length 4).server.node),.u ((aC l l.length 4).server.inc),.u ((aC l l.length 4).seq),.d (.ro 2 (procs (aC l l.length 4).ay))]),(42,.z 0),(6,.d (.v (.slice none 0 0)))]) (M':=[]) tk tq hK [(3,[(0,.b false)]),(9,[(0,.res (.ag [.z ((aC l l.length 0).server.node),.u ((aC l l.length 0).server.inc),.u ((aC l l.length 0).seq),.ro 2 (procs (aC l l.length 0).ay),.z ((aC l l.length 1).server.node),.u ((aC l l.length 1).server.inc),.u ((aC l l.length 1).seq),.ro 2 (procs (aC l l.length 1).ay),.z ((aC l l.length 2).server.node),.u ((aC l l.length 2).server.inc),.u ((aC l l.length 2).seq),.ro 2 (procs (aC l l.length 2).ay),.z ((aC l l.length 3).server.node),.u ((aC l l.length 3).server.inc),.u ((aC l l.length 3).seq),.ro 2 (procs (aC l l.length 3).ay),.z ((aC l l.length 4).server.node),.u ((aC l l.length 4).server.inc),.u ((aC l l.length 4).seq),.ro 2 (procs (aC l l.length 4).ay)]))])] 2000 [] [41,42,6] r (by kernel_rfl) (U h0 (U ((by rw [show i=l.length by omega];rfl):List.flatten (eQ l i)=[.z ((aC l l.length 0).server.node),.u ((aC l l.length 0).server.inc),.u ((aC l l.length 0).seq),.ro 2 (procs (aC l l.length 0).ay),.z ((aC l l.length 1).server.node),.u ((aC l l.length 1).server.inc),.u ((aC l l.length 1).seq),.ro 2 (procs (aC l l.length 1).ay),.z ((aC l l.length 2).server.node),.u ((aC l l.length 2).server.inc),.u ((aC l l.length 2).seq),.ro 2 (procs (aC l l.length 2).ay),.z ((aC l l.length 3).server.node),.u ((aC l l.length 3).server.inc),.u ((aC l l.length 3).seq),.ro 2 (procs (aC l l.length 3).ay),.z ((aC l l.length 4).server.node),.u ((aC l l.length 4).server.inc),.u ((aC l l.length 4).seq),.ro 2 (procs (aC l l.length 4).ay)]) trivial)) fun ac wd r=>?_
  refine aN.rounds (Φ:=fun (i:Nat) ac wd=>(i≤5)∧ec [] w0 K 58 [(41,.ag [.z ((aC l l.length 0).server.node),.u ((aC l l.length 0).server.inc),.u ((aC l l.length 0).seq),.d (.ro 2 (procs (aC l l.length 0).ay)),.z ((aC l l.length 1).server.node),.u ((aC l l.length 1).server.inc),.u ((aC l l.length 1).seq),.d (.ro 2 (procs (aC l l.length 1).ay)),.z ((aC l l.length 2).server.node),.u ((aC l l.length 2).server.inc),.u ((aC l l.length 2).seq),.d (.ro 2 (procs (aC l l.length 2).ay)),.z ((aC l l.length 3).server.node),.u ((aC l l.length 3).server.inc),.u ((aC l l.length 3).seq),.d (.ro 2 (procs (aC l l.length 3).ay)),.z ((aC l l.length 4).server.node),.u ((aC l l.length 4).server.inc),.u ((aC l l.length 4).seq),.d (.ro 2 (procs (aC l l.length 4).ay))]),(42,.n i),(6,.sl 0 ((cW l i).length))] [.rw 31 4 (b4 (cW l i))] ac wd) (5) ?_ (Nat.zero_le _) ⟨(Nat.zero_le _),r.gW (M1:=[.rw 31 4 []]) [(6,31,4)] [] (by kernel_rfl) (by kernel_rfl)⟩
  clear r
  rintro i eS fV ac wd ⟨bg,r⟩
  cases h1:(decide ((((i:Nat):Int):Int)<5)) with
  | false=>
   have bN:=of_decide_eq_false h1
   rw [show (.em 31 4 (b4 (book l)):DV)=.em 31 4 (b4 (cW l i)) from (by unfold book;rw [show (5:Nat)=i by omega])]
   exact aQ tk tq hK rfl [(10,[(0,.b false)])] 2000 r (by kernel_rfl) (U h1 (U ((by first | rfl | (simp;done) | (simp<;>omega)):((cW l i).length)=(b4 (cW l i)).length) trivial))
  | true=>
   have bN:=of_decide_eq_true h1
   have u0:=((by match i,(show i<5 by omega) with | 0,_=>rfl | 1,_=>rfl | 2,_=>rfl | 3,_=>rfl | 4,_=>rfl | j+5,h=>omega):List.take 4 (List.drop ((i)*4) ([.z ((aC l l.length 0).server.node),.u ((aC l l.length 0).server.inc),.u ((aC l l.length 0).seq),.ro 2 (procs (aC l l.length 0).ay),.z ((aC l l.length 1).server.node),.u ((aC l l.length 1).server.inc),.u ((aC l l.length 1).seq),.ro 2 (procs (aC l l.length 1).ay),.z ((aC l l.length 2).server.node),.u ((aC l l.length 2).server.inc),.u ((aC l l.length 2).seq),.ro 2 (procs (aC l l.length 2).ay),.z ((aC l l.length 3).server.node),.u ((aC l l.length 3).server.inc),.u ((aC l l.length 3).seq),.ro 2 (procs (aC l l.length 3).ay),.z ((aC l l.length 4).server.node),.u ((aC l l.length 4).server.inc),.u ((aC l l.length 4).seq),.ro 2 (procs (aC l l.length 4).ay)]:List DV))=[.z ((aC l l.length i).server.node),.u ((aC l l.length i).server.inc),.u ((aC l l.length i).seq),.ro 2 (procs (aC l l.length i).ay)])
   cases h2:(decide ((0:Int)<(((aC l l.length i).seq:Nat):Int))) with
   | false=>
    have b7:=of_decide_eq_false h2
    exact bU (todo':=hd Tryz.f43 1) (E':=[(41,.ag [.z ((aC l l.length 0).server.node),.u ((aC l l.length 0).server.inc),.u ((aC l l.length 0).seq),.d (.ro 2 (procs (aC l l.length 0).ay)),.z ((aC l l.length 1).server.node),.u ((aC l l.length 1).server.inc),.u ((aC l l.length 1).seq),.d (.ro 2 (procs (aC l l.length 1).ay)),.z ((aC l l.length 2).server.node),.u ((aC l l.length 2).server.inc),.u ((aC l l.length 2).seq),.d (.ro 2 (procs (aC l l.length 2).ay)),.z ((aC l l.length 3).server.node),.u ((aC l l.length 3).server.inc),.u ((aC l l.length 3).seq),.d (.ro 2 (procs (aC l l.length 3).ay)),.z ((aC l l.length 4).server.node),.u ((aC l l.length 4).server.inc),.u ((aC l l.length 4).seq),.d (.ro 2 (procs (aC l l.length 4).ay))]),(42,.n (i+1)),(6,.sl 0 ((cW l i).length))]) (M':=[.rw 31 4 (b4 (cW l i))]) tk tq hK [(10,[(0,.b true)]),(11,[(0,.ix (i) [.z ((aC l l.length i).server.node),.u ((aC l l.length i).server.inc),.u ((aC l l.length i).seq),.ro 2 (procs (aC l l.length i).ay)])]),(12,[(2,.b false)]),(15,[(0,.z (((i+1:Nat):Int)))])] 2000 [0] [41,42,6] r (by kernel_rfl) (U h1 (U (aX ((i:Nat):Int)) (U ((by first | omega | decide | (simp;omega)):(i)<5) (U u0 (U h2 (U ((wi (by omega)):IntKind.i64.wrap ((((i:Nat):Int):Int)+1)=((i+1:Nat):Int)) trivial)))))) fun ac wd r=>fV (by omega) ac wd ⟨(by omega),r.cast (by first | (rw [Di (by assumption)];done) | (rw [Dh (by assumption)];done)) (by first | (rw [D8 (by assumption)];done) | (rw [DE (by assumption)];done))⟩
   | true=>
    have b7:=of_decide_eq_true h2
    exact bU (todo':=hd Tryz.f43 1) (E':=[(41,.ag [.z ((aC l l.length 0).server.node),.u ((aC l l.length 0).server.inc),.u ((aC l l.length 0).seq),.d (.ro 2 (procs (aC l l.length 0).ay)),.z ((aC l l.length 1).server.node),.u ((aC l l.length 1).server.inc),.u ((aC l l.length 1).seq),.d (.ro 2 (procs (aC l l.length 1).ay)),.z ((aC l l.length 2).server.node),.u ((aC l l.length 2).server.inc),.u ((aC l l.length 2).seq),.d (.ro 2 (procs (aC l l.length 2).ay)),.z ((aC l l.length 3).server.node),.u ((aC l l.length 3).server.inc),.u ((aC l l.length 3).seq),.d (.ro 2 (procs (aC l l.length 3).ay)),.z ((aC l l.length 4).server.node),.u ((aC l l.length 4).server.inc),.u ((aC l l.length 4).seq),.d (.ro 2 (procs (aC l l.length 4).ay))]),(42,.n (i+1)),(6,.sl 0 ((cW l i).length+(1)))]) (M':=[.rw 31 4 (b4 (cW l i)++[[.z ((aC l l.length i).server.node),.u ((aC l l.length i).server.inc),.u ((aC l l.length i).seq),.em 24 2 (procs (aC l l.length i).ay)]])]) tk tq hK [(10,[(0,.b true)]),(11,[(0,.ix (i) [.z ((aC l l.length i).server.node),.u ((aC l l.length i).server.inc),.u ((aC l l.length i).seq),.ro 2 (procs (aC l l.length i).ay)])]),(12,[(2,.b true)]),(13,[(2,.aJ (.em 24 2 (procs (aC l l.length i).ay)))]),(15,[(0,.z (((i+1:Nat):Int)))])] 2000 [0] [41,42,6] r (by kernel_rfl) (U h1 (U (aX ((i:Nat):Int)) (U ((by first | omega | decide | (simp;omega)):(i)<5) (U u0 (U h2 (U (xG _ (by have:=yI l l.length i;omega):aD Tryz.prog 47 [.d (.ro 2 (procs (aC l l.length i).ay))] (.em 24 2 (procs (aC l l.length i).ay))) (U (cQ ((procs (aC l l.length i).ay).length)) (U ((by first | rfl | (simp;done) | (simp<;>omega)):((cW l i).length)=(b4 (cW l i)).length) (U ((by first | rfl | (simp;done) | (simp<;>omega)):(1)=([[.z ((aC l l.length i).server.node),.u ((aC l l.length i).server.inc),.u ((aC l l.length i).seq),.em 24 2 (procs (aC l l.length i).ay)]]:List (List DV)).length) (U ((by have:=xI l i;have:=yI l l.length i;first | omega | (simp;omega)):(2*(((cW l i).length)+(1))+0)*48≤281474976710656) (U ((by have:=xI l i;have:=yI l l.length i;first | omega | (simp;omega)):((cW l i).length)+(1)<4611686018427387904) (U ((by first | exact Lj _ | simp [bA,AV.one,cd]):bA ([[.z ((aC l l.length i).server.node),.u ((aC l l.length i).server.inc),.u ((aC l l.length i).seq),.em 24 2 (procs (aC l l.length i).ay)]])) (U ((wi (by omega)):IntKind.i64.wrap ((((i:Nat):Int):Int)+1)=((i+1:Nat):Int)) trivial))))))))))))) fun ac wd r=>fV (by omega) ac wd ⟨(by omega),r.cast (by first | (rw [Di (by assumption)];done) | (rw [Dh (by assumption)];done)) (by first | (rw [D8 (by assumption)];done) | (rw [DE (by assumption)];done))⟩
 | true=>
  have bH:=of_decide_eq_true h0
  obtain ⟨aq,cv⟩:∃ x,l[i]?=some x:=⟨_,List.getElem?_eq_getElem (by omega)⟩
  cases h3:(aq.may) with
  | false=>
   exact bU (todo':=hd Tryz.f43 0) (E':=[(3,.ep 0 4 (0) 0),(9,.d (.ro 4 (aI l))),(10,.n l.length),(11,.n (i+1))]) (M':=[.rw 106 4 (eQ l i)]) tk tq hK [(3,[(0,.b true)]),(4,[(0,.ix (i) [.z aq.server.node,.u aq.server.inc,.u aq.seq,.ro 2 (procs aq.ay)])]),(5,[(1,.aJ (.v (.bool false)))]),(7,[(0,.z (((i+1:Nat):Int)))])] 2000 [0] [3,9,10,11] r (by kernel_rfl) (U h0 (U (aX ((i:Nat):Int)) (U (eC cv) (U ((by have k:=wo aq (hp _ (List.mem_of_getElem? cv));rw [h3] at k;exact k):aD Tryz.prog 44 [.ag [.z aq.server.node,.u aq.server.inc,.u aq.seq,.d (.ro 2 (procs aq.ay))]] (.v (.bool false))) (U ((wi (by omega)):IntKind.i64.wrap ((((i:Nat):Int):Int)+1)=((i+1:Nat):Int)) trivial))))) fun ac wd r=>bo (by omega) ac wd ⟨(by omega),r.cast rfl (by first | (rw [wq cv (by assumption)];done) | (rw [vU cv (by assumption) (by assumption) (by assumption)];done) | (refine congrArg (fun x=>[au.rw 106 4 x]) (vV cv (by assumption) ?_);first | exact .inl (by assumption) | exact .inr (by assumption)))⟩
  | true=>
   obtain ⟨Us,Ut,Uu⟩:=p7 (a:=aq) (by assumption)
   have u1:=((by have k:=wo aq (hp _ (List.mem_of_getElem? cv));rw [h3] at k;exact k):aD Tryz.prog 44 [.ag [.z aq.server.node,.u aq.server.inc,.u aq.seq,.d (.ro 2 (procs aq.ay))]] (.v (.bool true)))
   have u2:=((by omega):(aq.server.node)=((aq.server.node.toNat:Nat):Int))
   have u3:=((by first | omega | decide | (simp;omega)):(aq.server.node.toNat)<5)
   have u4:=((by rw [Nat.zero_add];exact Oz (by omega)):(eQ l i)[0+aq.server.node.toNat]?=some [.z ((aC l i aq.server.node.toNat).server.node),.u ((aC l i aq.server.node.toNat).server.inc),.u ((aC l i aq.server.node.toNat).seq),.ro 2 (procs (aC l i aq.server.node.toNat).ay)])
   cases h4:(((((aC l i aq.server.node.toNat).seq:Nat):Int):Int)==0) with
   | false=>
    have eA:=ne_of_beq_false h4
    cases h5:(dF aq (aC l i aq.server.node.toNat)) with
    | false=>
     exact bU (todo':=hd Tryz.f43 0) (E':=[(3,.ep 0 4 (0) 0),(9,.d (.ro 4 (aI l))),(10,.n l.length),(11,.n (i+1))]) (M':=[.rw 106 4 (eQ l i)]) tk tq hK [(3,[(0,.b true)]),(4,[(0,.ix (i) [.z aq.server.node,.u aq.server.inc,.u aq.seq,.ro 2 (procs aq.ay)])]),(5,[(1,.aJ (.v (.bool true))),(6,.n2 (aq.server.node.toNat) 0),(8,.ix 0 [.z ((aC l i aq.server.node.toNat).server.node),.u ((aC l i aq.server.node.toNat).server.inc),.u ((aC l i aq.server.node.toNat).seq),.ro 2 (procs (aC l i aq.server.node.toNat).ay)]),(9,.b false),(15,.n2 (aq.server.node.toNat) 0),(16,.ix 0 [.z ((aC l i aq.server.node.toNat).server.node),.u ((aC l i aq.server.node.toNat).server.inc),.u ((aC l i aq.server.node.toNat).seq),.ro 2 (procs (aC l i aq.server.node.toNat).ay)]),(17,.aJ (.v (.bool false)))]),(7,[(0,.z (((i+1:Nat):Int)))])] 2000 [0] [3,9,10,11] r (by kernel_rfl) (U h0 (U (aX ((i:Nat):Int)) (U (eC cv) (U u1 (U u2 (U u3 (U u4 (U h4 (U u2 (U u3 (U u4 (U ((by have k:=lG aq (aC l i aq.server.node.toNat);rw [h5] at k;exact k):aD Tryz.prog 45 [.ag [.z aq.server.node,.u aq.server.inc,.u aq.seq,.d (.ro 2 (procs aq.ay))],.ag [.z ((aC l i aq.server.node.toNat).server.node),.u ((aC l i aq.server.node.toNat).server.inc),.u ((aC l i aq.server.node.toNat).seq),.d (.ro 2 (procs (aC l i aq.server.node.toNat).ay))]] (.v (.bool false))) (U ((wi (by omega)):IntKind.i64.wrap ((((i:Nat):Int):Int)+1)=((i+1:Nat):Int)) trivial))))))))))))) fun ac wd r=>bo (by omega) ac wd ⟨(by omega),r.cast rfl (by first | (rw [wq cv (by assumption)];done) | (rw [vU cv (by assumption) (by assumption) (by assumption)];done) | (refine congrArg (fun x=>[au.rw 106 4 x]) (vV cv (by assumption) ?_);first | exact .inl (by assumption) | exact .inr (by assumption)))⟩
    | true=>
     exact bU (todo':=hd Tryz.f43 0) (E':=[(3,.ep 0 4 (0) 0),(9,.d (.ro 4 (aI l))),(10,.n l.length),(11,.n (i+1))]) (M':=[.rw 106 4 (List.set (eQ l i) (0+aq.server.node.toNat) [.z aq.server.node,.u aq.server.inc,.u aq.seq,.ro 2 (procs aq.ay)])]) tk tq hK [(3,[(0,.b true)]),(4,[(0,.ix (i) [.z aq.server.node,.u aq.server.inc,.u aq.seq,.ro 2 (procs aq.ay)])]),(5,[(1,.aJ (.v (.bool true))),(6,.n2 (aq.server.node.toNat) 0),(8,.ix 0 [.z ((aC l i aq.server.node.toNat).server.node),.u ((aC l i aq.server.node.toNat).server.inc),.u ((aC l i aq.server.node.toNat).seq),.ro 2 (procs (aC l i aq.server.node.toNat).ay)]),(9,.b false),(15,.n2 (aq.server.node.toNat) 0),(16,.ix 0 [.z ((aC l i aq.server.node.toNat).server.node),.u ((aC l i aq.server.node.toNat).server.inc),.u ((aC l i aq.server.node.toNat).seq),.ro 2 (procs (aC l i aq.server.node.toNat).ay)]),(17,.aJ (.v (.bool true)))]),(6,[(4,.n2 (aq.server.node.toNat) 0),(5,.ix 0 [.z ((aC l i aq.server.node.toNat).server.node),.u ((aC l i aq.server.node.toNat).server.inc),.u ((aC l i aq.server.node.toNat).seq),.ro 2 (procs (aC l i aq.server.node.toNat).ay)])]),(7,[(0,.z (((i+1:Nat):Int)))])] 2000 [0] [3,9,10,11] r (by kernel_rfl) (U h0 (U (aX ((i:Nat):Int)) (U (eC cv) (U u1 (U u2 (U u3 (U u4 (U h4 (U u2 (U u3 (U u4 (U ((by have k:=lG aq (aC l i aq.server.node.toNat);rw [h5] at k;exact k):aD Tryz.prog 45 [.ag [.z aq.server.node,.u aq.server.inc,.u aq.seq,.d (.ro 2 (procs aq.ay))],.ag [.z ((aC l i aq.server.node.toNat).server.node),.u ((aC l i aq.server.node.toNat).server.inc),.u ((aC l i aq.server.node.toNat).seq),.d (.ro 2 (procs (aC l i aq.server.node.toNat).ay))]] (.v (.bool true))) (U u2 (U u3 (U u4 (U ((wi (by omega)):IntKind.i64.wrap ((((i:Nat):Int):Int)+1)=((i+1:Nat):Int)) trivial)))))))))))))))) fun ac wd r=>bo (by omega) ac wd ⟨(by omega),r.cast rfl (by first | (rw [wq cv (by assumption)];done) | (rw [vU cv (by assumption) (by assumption) (by assumption)];done) | (refine congrArg (fun x=>[au.rw 106 4 x]) (vV cv (by assumption) ?_);first | exact .inl (by assumption) | exact .inr (by assumption)))⟩
   | true=>
    have eA:=eq_of_beq h4
    exact bU (todo':=hd Tryz.f43 0) (E':=[(3,.ep 0 4 (0) 0),(9,.d (.ro 4 (aI l))),(10,.n l.length),(11,.n (i+1))]) (M':=[.rw 106 4 (List.set (eQ l i) (0+aq.server.node.toNat) [.z aq.server.node,.u aq.server.inc,.u aq.seq,.ro 2 (procs aq.ay)])]) tk tq hK [(3,[(0,.b true)]),(4,[(0,.ix (i) [.z aq.server.node,.u aq.server.inc,.u aq.seq,.ro 2 (procs aq.ay)])]),(5,[(1,.aJ (.v (.bool true))),(6,.n2 (aq.server.node.toNat) 0),(8,.ix 0 [.z ((aC l i aq.server.node.toNat).server.node),.u ((aC l i aq.server.node.toNat).server.inc),.u ((aC l i aq.server.node.toNat).seq),.ro 2 (procs (aC l i aq.server.node.toNat).ay)]),(9,.b true)]),(6,[(4,.n2 (aq.server.node.toNat) 0),(5,.ix 0 [.z ((aC l i aq.server.node.toNat).server.node),.u ((aC l i aq.server.node.toNat).server.inc),.u ((aC l i aq.server.node.toNat).seq),.ro 2 (procs (aC l i aq.server.node.toNat).ay)])]),(7,[(0,.z (((i+1:Nat):Int)))])] 2000 [0] [3,9,10,11] r (by kernel_rfl) (U h0 (U (aX ((i:Nat):Int)) (U (eC cv) (U u1 (U u2 (U u3 (U u4 (U h4 (U u2 (U u3 (U u4 (U ((wi (by omega)):IntKind.i64.wrap ((((i:Nat):Int):Int)+1)=((i+1:Nat):Int)) trivial)))))))))))) fun ac wd r=>bo (by omega) ac wd ⟨(by omega),r.cast rfl (by first | (rw [wq cv (by assumption)];done) | (rw [vU cv (by assumption) (by assumption) (by assumption)];done) | (refine congrArg (fun x=>[au.rw 106 4 x]) (vV cv (by assumption) ?_);first | exact .inl (by assumption) | exact .inr (by assumption)))⟩
end Go.Proofs.YtlinpknagdgphaaGreat
namespace Go.Proofs.YtlinpknagdgphaaGreat
open Go.RowKit
def ins (x:ah):List ah→List ah
 | []=>[x]
 | y::r=>if x.lt y=true then x::y::r else y::ins x r
def c6 (l:List ah) (n:Nat):List ah:=(l.take n).foldl (fun s x=>ins x s) []
def e9 (l:List ah):List ah:=c6 l l.length
theorem uz {l:List ah} {n:Nat} {x:ah} (h:l[n]?=some x):c6 l (n+1)=ins x (c6 l n):=by
 obtain ⟨hn,rfl⟩:=List.getElem?_eq_some_iff.1 h
 rw [c6,List.take_succ_eq_append_getElem hn,List.foldl_append];rfl
theorem zl (x:ah):∀ s,(ins x s).length=s.length+1
 | []=>rfl
 | y::r=>by rw [ins];split<;>simp [zl x r]
theorem j6 (l:List ah):∀ n,n≤l.length→(c6 l n).length=n
 | 0,_=>by simp [c6]
 | n+1,h=>by rw [uz (List.getElem?_eq_getElem (by omega)),zl,j6 l n (by omega)]
theorem yJ (x:ah):∀ s,(ins x s).Perm (x::s)
 | []=>List.Perm.refl _
 | y::r=>by
  rw [ins];split
  ·exact List.Perm.refl _
  ·exact ((yJ x r).cons y).trans (List.Perm.swap x y r)
theorem C7 (l:List ah):∀ n,n≤l.length→(c6 l n).Perm (l.take n)
 | 0,_=>by simp [c6]
 | n+1,h=>by
  rw [uz (List.getElem?_eq_getElem (by omega)),List.take_succ_eq_append_getElem (by omega)]
  exact (yJ _ _).trans (((C7 l n (by omega)).cons _).trans (List.perm_append_singleton _ _).symm)
theorem uK (l:List ah):(e9 l).Perm l:=by
 have:=C7 l l.length (Nat.le_refl _);rwa [List.take_length] at this
theorem lt_trans {p q r:ah} (h1:p.lt q=true) (h2:q.lt r=true):p.lt r=true:=by
 unfold ah.lt at *;have:=of_decide_eq_true h1;have:=of_decide_eq_true h2;apply decide_eq_true;omega
theorem lt_irrefl (p:ah):p.lt p=false:=by unfold ah.lt;apply decide_eq_false;omega
theorem M4 {p q:ah} (h1:p.lt q=false) (h2:q.lt p=false):p=q:=by
 unfold ah.lt at *;have:=of_decide_eq_false h1;have:=of_decide_eq_false h2
 cases p;cases q;simp only [ah.mk.injEq];dsimp only at *;omega
theorem C8 {p q r:ah} (h1:q.lt p=false) (h2:r.lt q=false):r.lt p=false:=by
 cases h:r.lt p with
 | false=>rfl
 | true=>
  unfold ah.lt at *;have:=of_decide_eq_false h1;have:=of_decide_eq_false h2;have:=of_decide_eq_true h;omega
def oh (s:List ah):Prop:=s.Pairwise fun a b=>b.lt a=false
theorem zm {x z:ah} {s:List ah}:z ∈ ins x s↔z=x∨z ∈ s:=by rw [(yJ x s).mem_iff,List.mem_cons]
theorem FJ {x:ah}:∀ {s:List ah},oh s→oh (ins x s)
 | [],_=>by simp [ins,oh]
 | y::r,h=>by
  unfold oh at *
  rw [List.pairwise_cons] at h
  rw [ins];split
  ·rename_i hx
   rw [List.pairwise_cons,List.pairwise_cons]
   have fN:y.lt x=false:=by
    cases e:y.lt x with
    | false=>rfl
    | true=>have:=lt_trans hx e;rw [lt_irrefl] at this;cases this
   refine ⟨fun z hz=>?_,h⟩
   rcases List.mem_cons.1 hz with rfl | hz
   ·exact fN
   ·exact C8 fN (h.1 z hz)
  ·rename_i hx
   rw [List.pairwise_cons]
   refine ⟨fun z hz=>?_,FJ h.2⟩
   rcases zm.1 hz with rfl | hz
   ·simpa using hx
   ·exact h.1 z hz
theorem xy (l:List ah):∀ n,n≤l.length→oh (c6 l n)
 | 0,_=>by simp [c6,oh]
 | n+1,h=>by rw [uz (List.getElem?_eq_getElem (by omega))];exact FJ (xy l n (by omega))
theorem Lk (l:List ah):oh (e9 l):=xy l _ (Nat.le_refl _)
theorem GD {x:ah}:∀ {s:List ah} {j:Nat},(∀ y ∈ s.take j,x.lt y=false)→(∀ y,s[j]?=some y→x.lt y=true)→ins x s=s.take j++x::s.drop j
 | [],j,_,_=>by simp [ins]
 | y::r,0,_,h=>by rw [ins,if_pos (h y rfl)];rfl
 | y::r,j+1,h1,h2=>by
  have:=h1 y (by simp)
  rw [ins,if_neg (by simp [this]),GD (j:=j) (fun z hz=>h1 z (by simp [hz])) (fun z hz=>h2 z (by simpa using hz))]
  rfl
def eG (s:List ah) (x:ah) (j:Nat) (r:List ah):List ah:=s.take j++x::(s.drop j++r)
theorem p8 {s:List ah} {x:ah} {j:Nat} {r:List ah}:(eG s x j r).length=s.length+1+r.length:=by
 unfold eG;simp only [List.length_append,List.length_cons,List.length_take,List.length_drop];omega
theorem FK {s:List ah} {x:ah} {j:Nat} {r:List ah} (h:j≤s.length):(eG s x j r)[j]?=some x:=by
 unfold eG;rw [List.getElem?_append_right (by simp;omega)];simp [Nat.min_eq_left h]
theorem xJ {s:List ah} {x y:ah} {j:Nat} {r:List ah} (h0:0<j) (hy:s[j-1]?=some y):(eG s x j r)[j-1]?=some y:=by
 have:=(List.getElem?_eq_some_iff.1 hy).1
 unfold eG;rw [List.getElem?_append_left (by simp;omega),List.getElem?_take,if_pos (by omega),hy]
theorem Ll {s:List ah} {x y:ah} {j:Nat} {r:List ah} (h0:0<j) (h:j≤s.length) (hy:s[j-1]?=some y):((eG s x j r).set j y).set (j-1) x=eG s x (j-1) r:=by
 obtain ⟨aK,rfl⟩:=List.getElem?_eq_some_iff.1 hy
 unfold eG
 obtain ⟨k,rfl⟩:∃ k,j=k+1:=⟨j-1,by omega⟩
 simp only [Nat.add_sub_cancel] at *
 have hk:k<s.length:=aK
 rw [List.set_append_right _ _ (by simp;omega),List.take_succ_eq_append_getElem hk]
 have e0:(List.take k s++[s[k]]).length=k+1:=by simp;omega
 rw [e0,Nat.sub_self,List.set_cons_zero,List.append_assoc,List.set_append_right _ _ (by simp;omega)]
 rw [show k-(List.take k s).length=0 by simp;omega]
 simp only [List.singleton_append,List.set_cons_zero]
 rw [List.drop_eq_getElem_cons hk]
 rfl
theorem D9 (l:List ah) (i:Nat) (p:ah):List.set (procs l) i [.v (.int .i64 p.node),.v (.int .u64 (p.inc:Int))]=procs (l.set i p):=by
 unfold procs;rw [List.map_set];rfl
theorem uL {l:List ah} {n j:Nat} {x:ah} (h:l[n]?=some x) (hj:j≤n) (h1:j=0∨∃ y,(c6 l n)[j-1]?=some y∧x.lt y=false) (h2:∀ y,(c6 l n)[j]?=some y→x.lt y=true):eG (c6 l n) x j (l.drop (n+1))=c6 l (n+1)++l.drop (n+1):=by
 have hn:=(List.getElem?_eq_some_iff.1 h).1
 have hs:=xy l n (by omega)
 have hl:=j6 l n (by omega)
 rw [uz h,GD (j:=j) (fun y hy=>?_) h2]
 ·unfold eG;simp
 ·rcases h1 with rfl | ⟨z,hz,hx⟩
  ·simp at hy
  ·obtain ⟨i,hi,rfl⟩:=List.getElem_of_mem hy
   simp only [List.length_take] at hi
   rw [List.getElem_take]
   obtain ⟨m0,rfl⟩:=List.getElem?_eq_some_iff.1 hz
   rcases Nat.lt_or_ge i (j-1) with rK | rK
   ·exact C8 ((List.pairwise_iff_getElem.1 hs) i (j-1) (by omega) m0 rK) hx
   ·have:i=j-1:=by omega
    subst this;exact hx
theorem xK {p q:ah} {b:Bool} (h:(decide (p.cmp q<0))=b):p.lt q=b:=by
 rw [← h]
 have:=GA p q
 cases e:p.lt q with
 | true=>rw [e] at this;symm;apply decide_eq_true;have:=of_decide_eq_false (this.trans rfl);omega
 | false=>rw [e] at this;symm;apply decide_eq_false;have:=of_decide_eq_true (this.trans rfl);omega
theorem Jz (l:List ah):c6 l 1++l.drop 1=l:=by
 cases l with
 | nil=>rfl
 | cons a l=>simp [c6,ins]
theorem Lm {l:List ah} {i:Nat} (h1:i≤l.length) (h2:l.length≤i+1):[au.rw 24 2 (procs (e9 l))]=[.rw 24 2 (procs (c6 l (i+1)++l.drop (i+1)))]:=by
 rw [List.drop_of_length_le h2,List.append_nil]
 unfold e9
 rw [show c6 l (i+1)=c6 l l.length by unfold c6;rw [List.take_of_length_le h2,List.take_length]]
theorem J6 {l:List ah} {n:Nat} {x:ah} (h:l[n]?=some x):eG (c6 l n) x (n-0) (l.drop (n+1))=c6 l n++l.drop n:=by
 obtain ⟨hn,rfl⟩:=List.getElem?_eq_some_iff.1 h
 have hl:=j6 l n (by omega)
 rw [Nat.sub_zero,List.drop_eq_getElem_cons hn]
 unfold eG
 rw [List.take_of_length_le (by omega),List.drop_of_length_le (by omega)]
 rfl
set_option maxRecDepth 100000 in
theorem M5 (l:List ah) (hb:l.length<1073741824):aL Tryz.prog 84 [.sl 0 (l.length),.z 0,.n l.length,.fn 63 []] [.rw 24 2 (procs l)] (.tu []) ([.rw 24 2 (procs (e9 l))]):=by
 refine aL.intro (by kernel_rfl) rfl rfl 53 rfl rfl fun D w0 K bs ac wd hK (aB:bs.m=1) r=>?_
 refine b8 (todo':=hd Tryz.f84 0) (E':=[(0,.sl 0 (l.length)),(1,.z 0),(2,.n l.length),(3,.fn 63 []),(8,.z 1)]) (M':=[.rw 24 2 (procs l)]) tk tq hK aB [(0,[(1,.z (1))])] 2000 [0] [0,1,2,3,8] r (by kernel_rfl) (U ((wi (by omega)):IntKind.i64.wrap ((0:Int)+1)=1) trivial) fun ac wd r=>?_
 refine aN.rounds (Φ:=fun (i:Nat) ac wd=>(i≤l.length)∧RB D w0 K 53 bs [(0,.sl 0 (l.length)),(1,.z 0),(2,.n l.length),(3,.fn 63 []),(8,.n (i+1))] [.rw 24 2 (procs (c6 l (i+1)++l.drop (i+1)))] ac wd) (l.length) ?_ (Nat.zero_le _) ⟨(Nat.zero_le _),(r).cast rfl (by rw [Jz])⟩
 clear r
 rintro i cI bo ac wd ⟨aM,r⟩
 have eS:=aM
 cases h0:(decide ((((i+1:Nat):Int):Int)<((l.length:Nat):Int))) with
 | false=>
  have bH:=of_decide_eq_false h0
  refine bB (y:=.tu []) (N':=[.rw 24 2 (procs (c6 l (i+1)++l.drop (i+1)))]) (rfl) ((Lm eS (by omega))) ?_
  exact bC tk tq hK rfl aB [(1,[(2,.b false)])] 2000 [0] r (by kernel_rfl) (U h0 trivial)
 | true=>
  have bH:=of_decide_eq_true h0
  obtain ⟨x,gx⟩:∃ x,l[i+1]?=some x:=⟨_,List.getElem?_eq_getElem (by omega)⟩
  have dL:=j6 l (i+1) (by omega)
  refine b8 (todo':=hd Tryz.f84 1) (E':=[(0,.sl 0 (l.length)),(1,.z 0),(2,.n l.length),(3,.fn 63 []),(8,.n (i+1)),(9,.n (i+1))]) (M':=[.rw 24 2 (procs (c6 l (i+1)++l.drop (i+1)))]) tk tq hK aB [(1,[(2,.b true)])] 2000 [0] [0,1,2,3,8,9] r (by kernel_rfl) (U h0 trivial) fun ac wd r=>?_
  refine aN.rounds (Φ:=fun (d:Nat) ac wd=>(d≤i+1∧∀ y,(c6 l (i+1))[i+1-d]?=some y→x.lt y=true)∧RB D w0 K 53 bs [(0,.sl 0 (l.length)),(1,.z 0),(2,.n l.length),(3,.fn 63 []),(8,.n (i+1)),(9,.n (i+1-d))] [.rw 24 2 (procs (eG (c6 l (i+1)) x (i+1-d) (l.drop (i+1+1))))] ac wd) (i+1) ?_ (Nat.zero_le _) ⟨⟨by omega,fun y hy=>by rw [Nat.sub_zero,List.getElem?_eq_none (by omega)] at hy;cases hy⟩,(r).cast rfl (by rw [J6 gx])⟩
  clear r
  rintro d eS fV ac wd ⟨bg,r⟩
  obtain ⟨pH,ja⟩:=bg
  cases h1:(decide ((0:Int)<((i+1-d:Nat):Int))) with
  | false=>
   have bN:=of_decide_eq_false h1
   exact b8 (todo':=hd Tryz.f84 0) (E':=[(0,.sl 0 (l.length)),(1,.z 0),(2,.n l.length),(3,.fn 63 []),(8,.n (i+1+1))]) (M':=[.rw 24 2 (procs (eG (c6 l (i+1)) x (i+1-d) (l.drop (i+1+1))))]) tk tq hK aB [(2,[(1,.z (((i+1+1:Nat):Int)))]),(4,[(2,.b false)])] 2000 [0] [0,1,2,3,8] r (by kernel_rfl) (U h1 (U ((wi (by omega)):IntKind.i64.wrap ((((i+1:Nat):Int):Int)+1)=((i+1+1:Nat):Int)) trivial)) fun ac wd r=>bo (by omega) ac wd ⟨(by omega),r.cast rfl (by first | (rw [uL (n:=i+1) gx (by omega) (.inl (by omega)) ja];done) | (rw [uL (n:=i+1) gx (by omega) (.inr ⟨y,gy,xK (by assumption)⟩) ja];done))⟩
  | true=>
   have bN:=of_decide_eq_true h1
   obtain ⟨y,gy⟩:∃ y,(c6 l (i+1))[i+1-d-1]?=some y:=⟨_,List.getElem?_eq_getElem (by omega)⟩
   have u0:=((by first | omega | decide | (simp;omega)):(i+1-d)<(l.length))
   have u1:=((by first | (simp [p8,j6 l (i+1) (show i+1≤l.length by omega)];done) | (simp [p8,j6 l (i+1) (show i+1≤l.length by omega)]<;>omega) | (simp<;>omega)):(l.length)≤(procs (eG (c6 l (i+1)) x (i+1-d) (l.drop (i+1+1)))).length)
   have u2:=(cK (FK (by rw [j6 l (i+1) (by omega)];omega)):(procs (eG (c6 l (i+1)) x (i+1-d) (l.drop (i+1+1))))[i+1-d]?=some [.z x.node,.u x.inc])
   have u3:=((wi (by omega)):IntKind.i64.wrap ((((i+1-d:Nat):Int):Int)-1)=((i+1-d-1:Nat):Int))
   have u4:=((by first | omega | decide | (simp;omega)):(i+1-d-1)<(l.length))
   have u5:=(cK (xJ (by omega) gy):(procs (eG (c6 l (i+1)) x (i+1-d) (l.drop (i+1+1))))[i+1-d-1]?=some [.z y.node,.u y.inc])
   cases h2:(decide ((x.cmp y:Int)<0)) with
   | false=>
    have b7:=of_decide_eq_false h2
    exact b8 (todo':=hd Tryz.f84 0) (E':=[(0,.sl 0 (l.length)),(1,.z 0),(2,.n l.length),(3,.fn 63 []),(8,.n (i+1+1))]) (M':=[.rw 24 2 (procs (eG (c6 l (i+1)) x (i+1-d) (l.drop (i+1+1))))]) tk tq hK aB [(2,[(1,.z (((i+1+1:Nat):Int)))]),(4,[(2,.b true),(7,.n (i+1-d)),(8,.ix 0 [.z x.node,.u x.inc]),(11,.z (((i+1-d-1:Nat):Int))),(12,.n (i+1-d-1)),(13,.ix 0 [.z y.node,.u y.inc]),(14,.aJ (.z (x.cmp y))),(15,.b false)])] 2000 [0] [0,1,2,3,8] r (by kernel_rfl) (U h1 (U (aX ((i+1-d:Nat):Int)) (U u0 (U u1 (U u2 (U u3 (U (aX ((i+1-d-1:Nat):Int)) (U u4 (U u1 (U u5 (U (uD x y) (U h2 (U ((wi (by omega)):IntKind.i64.wrap ((((i+1:Nat):Int):Int)+1)=((i+1+1:Nat):Int)) trivial))))))))))))) fun ac wd r=>bo (by omega) ac wd ⟨(by omega),r.cast rfl (by first | (rw [uL (n:=i+1) gx (by omega) (.inl (by omega)) ja];done) | (rw [uL (n:=i+1) gx (by omega) (.inr ⟨y,gy,xK (by assumption)⟩) ja];done))⟩
   | true=>
    have b7:=of_decide_eq_true h2
    have q7:=(aX ((i+1-d:Nat):Int))
    have q8:=((by first | omega | decide | (simp;omega)):(i+1-d)<(l.length))
    have lQ:=((by first | (simp [p8,j6 l (i+1) (show i+1≤l.length by omega)];done) | (simp [p8,j6 l (i+1) (show i+1≤l.length by omega)]<;>omega) | (simp<;>omega)):(l.length)≤(procs (eG (c6 l (i+1)) x (i+1-d) (l.drop (i+1+1)))).length)
    have q9:=(cK (FK (by rw [j6 l (i+1) (by omega)];omega)):(procs (eG (c6 l (i+1)) x (i+1-d) (l.drop (i+1+1))))[i+1-d]?=some [.z x.node,.u x.inc])
    have rh:=((wi (by omega)):IntKind.i64.wrap ((((i+1-d:Nat):Int):Int)-1)=((i+1-d-1:Nat):Int))
    have rj:=(aX ((i+1-d-1:Nat):Int))
    have rl:=((by first | omega | decide | (simp;omega)):(i+1-d-1)<(l.length))
    have wV:=(cK (xJ (by omega) gy):(procs (eG (c6 l (i+1)) x (i+1-d) (l.drop (i+1+1))))[i+1-d-1]?=some [.z y.node,.u y.inc])
    have HD:=((by first | (simp [p8,j6 l (i+1) (show i+1≤l.length by omega)];done) | (simp [p8,j6 l (i+1) (show i+1≤l.length by omega)]<;>omega) | (simp<;>omega)):(l.length)≤(List.set (procs (eG (c6 l (i+1)) x (i+1-d) (l.drop (i+1+1)))) (i+1-d) [.z y.node,.u y.inc]:List (List DV)).length)
    have HE:=((by rw [List.getElem?_set,if_neg (by omega)];exact cK (xJ (by omega) gy)):(List.set (procs (eG (c6 l (i+1)) x (i+1-d) (l.drop (i+1+1)))) (i+1-d) [.z y.node,.u y.inc])[i+1-d-1]?=some [.z y.node,.u y.inc])
    refine FD (todo':=aft Tryz.f84 6) (E':=[(0,.sl 0 (l.length)),(1,.z 0),(2,.n l.length),(3,.fn 63 []),(8,.n (i+1)),(9,.n (i+1-d)),(18,.n (i+1-d)),(19,.z 0),(20,.d (.v (.bool true))),(21,.d (.v (.bool true))),(22,.fn 63 []),(23,.sl 0 (l.length)),(24,.n (i+1-d)),(25,.ep 0 2 (i+1-d) 0),(26,.ag [.z x.node,.u x.inc]),(27,.sl 0 (l.length)),(28,.n (i+1-d)),(29,.n (i+1-d-1)),(30,.ep 0 2 (i+1-d-1) 0),(31,.ag [.z y.node,.u y.inc]),(32,.z (x.cmp y)),(33,.d (.v (.bool true))),(34,.d (.v (.bool true))),(37,.sl 0 (l.length)),(38,.n (i+1-d)),(39,.sl 0 (l.length)),(40,.n (i+1-d)),(41,.n (i+1-d-1)),(42,.sl 0 (l.length)),(43,.n (i+1-d)),(44,.n (i+1-d-1)),(45,.ep 0 2 (i+1-d-1) 0),(47,.sl 0 (l.length)),(48,.n (i+1-d)),(49,.ep 0 2 (i+1-d) 0),(46,.ag [.z y.node,.u y.inc]),(50,.ag [.z x.node,.u x.inc]),(51,.ep 0 2 (i+1-d) 0),(52,.ep 0 2 (i+1-d-1) 0)]) (M':=[.rw 24 2 (List.set (List.set (procs (eG (c6 l (i+1)) x (i+1-d) (l.drop (i+1+1)))) (i+1-d) [.z y.node,.u y.inc]) (i+1-d-1) [.z x.node,.u x.inc])]) tk tq hK aB [(4,[(2,.b true),(7,.n (i+1-d)),(8,.ix 0 [.z x.node,.u x.inc]),(11,.z (((i+1-d-1:Nat):Int))),(12,.n (i+1-d-1)),(13,.ix 0 [.z y.node,.u y.inc]),(14,.aJ (.z (x.cmp y))),(15,.b true)]),(6,[(4,.z (((i+1-d-1:Nat):Int))),(7,.z (((i+1-d-1:Nat):Int))),(8,.n (i+1-d-1)),(9,.ix 0 [.z y.node,.u y.inc]),(12,.n (i+1-d)),(13,.ix 0 [.z x.node,.u x.inc]),(14,.n (i+1-d)),(15,.ix 0 [.z x.node,.u x.inc]),(16,.n (i+1-d-1)),(17,.ix 0 [.z y.node,.u y.inc])])] 7 2 [9,13] [[0],[0]] [0,1,2,3,8,9,18,19,20,21,22,23,24,25,26,27,28,29,30,31,32,33,34,37,38,39,40,41,42,43,44,45,47,48,49,46,50,51,52] r (by kernel_rfl) (U (U h1 (U q7 (U q8 (U lQ (U q9 (U rh (U rj (U rl (U lQ (U wV (U (uD x y) (U h2 (U rh (U rh (U rj (U rl (U lQ (U q7 (U q8 (U lQ (U wV (U q9 (U q7 (U q8 (U lQ (U q9 (U rj (U rl (U HD (U HE trivial)))))))))))))))))))))))))))))) (U (U h1 (U q7 (U q8 (U lQ (U q9 (U rh (U rj (U rl (U lQ (U wV (U (uD x y) (U h2 (U rh (U rh (U rj (U rl (U lQ (U q7 (U q8 (U lQ (U q9 (U wV (U q7 (U q8 (U lQ (U q9 (U rj (U rl (U HD (U HE trivial)))))))))))))))))))))))))))))) trivial)) fun ac wd r=>?_
    exact b8 (todo':=hd Tryz.f84 1) (E':=[(0,.sl 0 (l.length)),(1,.z 0),(2,.n l.length),(3,.fn 63 []),(8,.n (i+1)),(9,.n (i+1-d-1))]) (M':=[.rw 24 2 (List.set (List.set (procs (eG (c6 l (i+1)) x (i+1-d) (l.drop (i+1+1)))) (i+1-d) [.z y.node,.u y.inc]) (i+1-d-1) [.z x.node,.u x.inc])]) tk tq hK aB [(5,[(1,.z (((i+1-d-1:Nat):Int)))])] 2000 [0] [0,1,2,3,8,9] r (by kernel_rfl) (U u3 trivial) fun ac wd r=>fV (by omega) ac wd ⟨⟨by omega,fun z hz=>by rw [Nat.sub_add_eq,gy] at hz;cases hz;exact xK (by assumption)⟩,r.cast (by rw [Nat.sub_add_eq]) (by rw [D9,D9,Ll (by omega) (by omega) gy,Nat.sub_add_eq])⟩
end Go.Proofs.YtlinpknagdgphaaGreat
namespace Go.Proofs.YtlinpknagdgphaaGreat
open Go.RowKit
def iu (l:List ah) (n:Nat):List ah:=(l.take n).foldl (fun s x=>if x ∈ s then s else ins x s) []
def eW (l:List ah):List ah:=iu l l.length
theorem xL {l:List ah} {n:Nat} {x:ah} (h:l[n]?=some x):iu l (n+1)=if x ∈ iu l n then iu l n else ins x (iu l n):=by
 obtain ⟨hn,rfl⟩:=List.getElem?_eq_some_iff.1 h
 rw [iu,List.take_succ_eq_append_getElem hn,List.foldl_append];rfl
theorem xZ (l:List ah):∀ n,(iu l n).length≤n
 | 0=>by simp [iu]
 | n+1=>by
  have ih:=xZ l n
  rcases Nat.lt_or_ge n l.length with h | h
  ·rw [xL (List.getElem?_eq_getElem h)]
   split
   ·omega
   ·rw [zl];omega
  ·have:iu l (n+1)=iu l n:=by rw [iu,iu,List.take_of_length_le (by omega),List.take_of_length_le h]
   rw [this];omega
def SS (s:List ah):Prop:=s.Pairwise fun a b=>a.lt b=true
theorem Ea {p q:ah} (h:p.lt q=false) (hn:q≠p):q.lt p=true:=by
 cases e:q.lt p with
 | true=>rfl
 | false=>exact absurd (M4 e h) hn
theorem GF {x:ah}:∀ {s:List ah},SS s→x ∉ s→SS (ins x s)
 | [],_,_=>by simp [ins,SS]
 | y::r,h,hx=>by
  unfold SS at *
  rw [List.pairwise_cons] at h
  simp only [List.mem_cons,not_or] at hx
  rw [ins];split
  ·rename_i rL
   rw [List.pairwise_cons,List.pairwise_cons]
   refine ⟨fun z hz=>?_,h⟩
   rcases List.mem_cons.1 hz with rfl | hz
   ·exact rL
   ·exact lt_trans rL (h.1 z hz)
  ·rename_i rL
   rw [List.pairwise_cons]
   refine ⟨fun z hz=>?_,GF h.2 hx.2⟩
   rcases zm.1 hz with rfl | hz
   ·exact Ea (by simpa using rL) (fun e=>hx.1 e.symm)
   ·exact h.1 z hz
theorem yK (l:List ah):∀ n,n≤l.length→SS (iu l n)
 | 0,_=>by simp [iu,SS]
 | n+1,h=>by
  rw [xL (List.getElem?_eq_getElem (by omega))]
  split
  ·exact yK l n (by omega)
  ·rename_i hx;exact GF (yK l n (by omega)) hx
theorem vW (l:List ah):SS (eW l):=yK l _ (Nat.le_refl _)
theorem Eb {l:List ah} {x:ah}:∀ {n},n≤l.length→(x ∈ iu l n↔x ∈ l.take n)
 | 0,_=>by simp [iu]
 | n+1,h=>by
  have ih:=Eb (l:=l) (x:=x) (n:=n) (by omega)
  rw [xL (List.getElem?_eq_getElem (by omega)),List.take_succ_eq_append_getElem (by omega),List.mem_append,List.mem_singleton,← ih]
  split
  ·rename_i hx
   constructor
   ·exact Or.inl
   ·rintro (h1 | rfl)
    ·exact h1
    ·exact hx
  ·rw [zm,or_comm]
theorem so {l:List ah} {x:ah}:x ∈ eW l↔x ∈ l:=by unfold eW;rw [Eb (Nat.le_refl _),List.take_length]
theorem vX:∀ {s t:List ah},SS s→SS t→(∀ x,x ∈ s↔x ∈ t)→s=t
 | [],[],_,_,_=>rfl
 | [],y::t,_,_,h=>by have:=(h y).2 List.mem_cons_self;cases this
 | x::s,[],_,_,h=>by have:=(h x).1 List.mem_cons_self;cases this
 | x::s,y::t,hs,ht,h=>by
  unfold SS at hs ht
  rw [List.pairwise_cons] at hs ht
  have rL:x=y:=by
   rcases List.mem_cons.1 ((h x).1 List.mem_cons_self) with e | e
   ·exact e
   ·rcases List.mem_cons.1 ((h y).2 List.mem_cons_self) with e' | e'
    ·exact e'.symm
    ·have h1:=ht.1 x e
     have h2:=hs.1 y e'
     have:=lt_trans h1 h2;rw [lt_irrefl] at this;cases this
  subst rL
  rw [vX hs.2 ht.2 fun z=>?_]
  have hz:=h z
  simp only [List.mem_cons] at hz
  constructor
  ·intro m0
   rcases hz.1 (Or.inr m0) with rfl | h2
   ·have:=hs.1 z m0;rw [lt_irrefl] at this;cases this
   ·exact h2
  ·intro m0
   rcases hz.2 (Or.inr m0) with rfl | h2
   ·have:=ht.1 z m0;rw [lt_irrefl] at this;cases this
   ·exact h2
theorem Ln {l:List ah} (h:l.Nodup):e9 l=eW l:=by
 have hs:=Lk l
 have hn:(e9 l).Nodup:=(uK l).nodup_iff.2 h
 refine vX ?_ (vW l) fun x=>by rw [so,(uK l).mem_iff]
 unfold SS oh List.Nodup at *
 exact (hs.and hn).imp fun ⟨h1,h2⟩=>Ea h1 h2
theorem EL {l:List ah} {p:ah}:∀ k,decide ((0:Int)≤idx l p k)=decide (p ∈ l):=by
 induction l with
 | nil=>intro k;simp [idx]
 | cons x l ih=>
  intro k
  unfold idx
  by_cases h:x=p
  ·subst h;simp<;>omega
  ·rw [if_neg h,ih (k+1)]
   have:p≠x:=fun e=>h e.symm
   simp [this]
set_option maxRecDepth 100000 in
theorem qo (l:List ah) (p:ah) (hb:l.length<2147483648):aD Tryz.prog 74 [.d (.ro 2 (procs l)),.ag [.z p.node,.u p.inc]] (DV.v (.bool (decide (p ∈ l)))):=by
 refine aD.intro (by kernel_rfl) rfl rfl 8 rfl rfl fun w0 K ac hK r=>?_
 cases h0:(decide ((0:Int)≤idx l p 0)) with
 | false=>
  have bH:=of_decide_eq_false h0
  rw [show (DV.v (.bool (decide (p ∈ l))):DV)=.v (.bool false) from (bv (by rw [← EL 0];first | exact (by assumption) | simp_all))]
  exact aQ tk tq hK rfl [(1,[(2,.dt 200 [(1,[(2,.aJ (.z (idx l p 0))),(3,.b false)])])])] 2000 r (by kernel_rfl) (U (DC l p (by omega)) (U h0 trivial))
 | true=>
  have bH:=of_decide_eq_true h0
  rw [show (DV.v (.bool (decide (p ∈ l))):DV)=.v (.bool true) from (bv (by rw [← EL 0];first | exact (by assumption) | simp_all))]
  exact aQ tk tq hK rfl [(1,[(2,.dt 200 [(1,[(2,.aJ (.z (idx l p 0))),(3,.b true)])])])] 2000 r (by kernel_rfl) (U (DC l p (by omega)) (U h0 trivial))
end Go.Proofs.YtlinpknagdgphaaGreat
namespace Go.Proofs.YtlinpknagdgphaaGreat
open Go.RowKit
theorem uS (l:List ah):(e9 l).length=l.length:=(uK l).length_eq
set_option maxRecDepth 100000 in
theorem M6 (l:List ah) (k:Nat) (hb:l.length≤12):aL Tryz.prog 75 [.sl 0 (l.length),.z 0,.n l.length,.n k,.fn 63 []] [.rw 24 2 (procs l)] (.tu []) ([.rw 24 2 (procs (e9 l))]):=by
 refine aL.intro (by kernel_rfl) rfl rfl 148 rfl rfl fun D w0 K bs ac wd hK (aB:bs.m=1) r=>?_
 refine b8 (todo':=hd Tryz.f75 0) (E':=[(0,.sl 0 (l.length)),(1,.z 0),(2,.n l.length),(3,.n k),(4,.fn 63 []),(10,.d (.v (.bool true))),(11,.d (.v (.bool true)))]) (M':=[.rw 24 2 (procs l)]) tk tq hK aB [] 2000 [0] [0,1,2,3,4,10,11] r (by kernel_rfl) trivial fun ac wd r=>?_
 have u0:=((wi (by omega)):IntKind.i64.wrap ((((l.length:Nat):Int):Int)-0)=((l.length:Nat):Int))
 cases h0:(decide ((((l.length:Nat):Int):Int)≤12)) with
 | false=>
  have bH:=of_decide_eq_false h0
  exact absurd bH (by omega)
 | true=>
  have bH:=of_decide_eq_true h0
  refine bB (y:=.tu []) (N':=[.rw 24 2 (procs (e9 l))]) (rfl) (rfl) ?_
  exact bC tk tq hK rfl aB [(2,[(2,.z (((l.length:Nat):Int)))]),(3,[(1,.b true)]),(4,[(4,.mem [0] (.tu []) [.rw 24 2 (procs (e9 l))])])] 2000 [0] r (by kernel_rfl) (U u0 (U h0 (U (M5 l (by omega)) trivial)))
set_option maxRecDepth 100000 in
theorem Lo (l:List ah) (hb:l.length≤12):aL Tryz.prog 62 [.sl 0 (l.length),.fn 63 []] [.rw 24 2 (procs l)] (.tu []) ([.rw 24 2 (procs (e9 l))]):=by
 refine aL.intro (by kernel_rfl) rfl rfl 14 rfl rfl fun D w0 K bs ac wd hK (aB:bs.m=1) r=>?_
 refine bB (y:=.tu []) (N':=[.rw 24 2 (procs (e9 l))]) (rfl) (rfl) ?_
 exact bC tk tq hK rfl aB [(1,[(3,.z (((l.length:Nat):Int))),(4,.aJ (.n (o7 l.length))),(6,.mem [0] (.tu []) [.rw 24 2 (procs (e9 l))])])] 2000 [0] r (by kernel_rfl) (U ((wu (by omega)):IntKind.u64.wrap (((l.length:Nat):Int))=((l.length:Nat):Int)) (U (zj l.length (by omega)) (U (M6 l (o7 l.length) (by omega)) trivial)))
set_option maxRecDepth 100000 in
theorem M7 (l:List ah) (hn:l.Nodup) (hb:l.length<1073741824):aL Tryz.prog 65 [.sl 0 (l.length)] [.rw 24 2 (procs l)] (.sl 0 l.length) ([.rw 24 2 (procs l)]):=by
 refine aL.intro (by kernel_rfl) rfl rfl 61 rfl rfl fun D w0 K bs ac wd hK (aB:bs.m=1) r=>?_
 cases h0:(decide ((((l.length:Nat):Int):Int)<2)) with
 | false=>
  have bH:=of_decide_eq_false h0
  refine b8 (todo':=hd Tryz.f65 0) (E':=[(0,.sl 0 (l.length)),(3,.n (0+1))]) (M':=[.rw 24 2 (procs l)]) tk tq hK aB [(1,[(2,.b false)])] 2000 [0] [0,3] r (by kernel_rfl) (U h0 trivial) fun ac wd r=>?_
  refine aN.rounds (Φ:=fun (k:Nat) ac wd=>(k≤l.length)∧RB D w0 K 61 bs [(0,.sl 0 (l.length)),(3,.n (k+1))] [.rw 24 2 (procs l)] ac wd) (l.length) ?_ (Nat.zero_le _) ⟨(Nat.zero_le _),r⟩
  clear r
  rintro k cI bo ac wd ⟨aM,r⟩
  cases h1:(decide ((((k+1:Nat):Int):Int)<((l.length:Nat):Int))) with
  | false=>
   have bN:=of_decide_eq_false h1
   refine bB (y:=.sl 0 (l.length)) (N':=[.rw 24 2 (procs l)]) (rfl) (rfl) ?_
   exact bC tk tq hK rfl aB [(4,[(3,.b false)])] 2000 [0] r (by kernel_rfl) (U h1 trivial)
  | true=>
   have bN:=of_decide_eq_true h1
   obtain ⟨y,gy⟩:∃ y,l[k+1]?=some y:=⟨_,List.getElem?_eq_getElem (by omega)⟩
   obtain ⟨x,gx⟩:∃ x,l[k+1-1]?=some x:=⟨_,List.getElem?_eq_getElem (by omega)⟩
   have u0:=((by first | rfl | (simp;done) | (simp<;>omega)):(l.length)≤(procs l).length)
   have u1:=((wi (by omega)):IntKind.i64.wrap ((((k+1:Nat):Int):Int)-1)=((k+1-1:Nat):Int))
   have u2:=((by first | omega | decide | (simp;omega)):(k+1-1)<(l.length))
   cases h2:(decide (y=x)) with
   | false=>
    have b7:=of_decide_eq_false h2
    exact b8 (todo':=hd Tryz.f65 0) tk tq hK aB [(4,[(3,.b true)]),(5,[(1,.z (((k+1+1:Nat):Int)))]),(6,[(2,.n (k+1)),(3,.ix 0 [.z y.node,.u y.inc]),(6,.z (((k+1-1:Nat):Int))),(7,.n (k+1-1)),(8,.ix 0 [.z x.node,.u x.inc]),(9,.b false)])] 2000 [0] [0,3] r (by kernel_rfl) (U h1 (U (aX ((k+1:Nat):Int)) (U ((by first | omega | decide | (simp;omega)):(k+1)<(l.length)) (U u0 (U (cK gy) (U u1 (U (aX ((k+1-1:Nat):Int)) (U u2 (U u0 (U (cK gx) (U ((ez (eN _ _) h2):dK Tryz.prog 24 [(.int .i64 (y.node)),(.int .u64 (((y.inc:Nat):Int)))] [(.int .i64 (x.node)),(.int .u64 (((x.inc:Nat):Int)))] false) (U ((wi (by omega)):IntKind.i64.wrap ((((k+1:Nat):Int):Int)+1)=((k+1+1:Nat):Int)) trivial)))))))))))) fun ac wd r=>bo (by omega) ac wd ⟨(by omega),r⟩
   | true=>
    have b7:=of_decide_eq_true h2
    exact absurd (of_decide_eq_true h2) (fun e=>by have:=(List.getElem?_inj (by omega) hn).1 (gy.trans (by rw [e];exact gx.symm));omega)
 | true=>
  have bH:=of_decide_eq_true h0
  refine bB (y:=.sl 0 (l.length)) (N':=[.rw 24 2 (procs l)]) (rfl) (rfl) ?_
  exact bC tk tq hK rfl aB [(1,[(2,.b true)])] 2000 [0] r (by kernel_rfl) (U h0 trivial)
theorem Lp (l:List ah) (i:Nat) (h:i=l.length) (hn:l.Nodup) (hb:l.length<1073741824):aL Tryz.prog 65 [.sl 0 i] [.rw 24 2 (procs l)] (.sl 0 l.length) [.rw 24 2 (procs l)]:=by subst h;exact M7 l hn hb
theorem Lq (l:List ah) (i:Nat) (h:i=l.length) (hb:l.length≤12):aL Tryz.prog 62 [.sl 0 i,.fn 63 []] [.rw 24 2 (procs l)] (.tu []) [.rw 24 2 (procs (e9 l))]:=by subst h;exact Lo l hb
set_option maxRecDepth 100000 in
theorem EM (l:List ah) (hn:l.Nodup) (hb:l.length≤12):aD Tryz.prog 49 [.d (.ro 2 (procs l))] (.ro 2 (procs (eW l))):=by
 refine aD.intro (by kernel_rfl) rfl rfl 11 rfl rfl fun w0 K ac hK r=>?_
 exact aQ tk tq hK rfl [(1,[(1,.aJ (.em 24 2 (procs l)))]),(2,[(1,.mem [0] (.tu []) [.rw 24 2 (procs (e9 l))])]),(3,[(1,.mem [0] (.sl 0 ((e9 l).length)) [.rw 24 2 (procs (e9 l))]),(2,.dt 200 [(1,[(5,.res (.ro 2 (procs (eW l))))])])])] 2000 r (by kernel_rfl) (U (xG l (by omega)) (U (Lq l ((procs l).length) (by simp) (by omega)) (U (Lp (e9 l) ((procs l).length) (by simp [uS]) ((uK l).nodup_iff.2 hn) (by rw [uS];omega)) (U (aX (((e9 l).length:Nat):Int)) (U (aX (((e9 l).length:Nat):Int)) (U ((by first | rfl | (simp [uS];done) | (simp [uS]<;>omega)):((e9 l).length)=(procs (e9 l)).length) (U (cQ (2)) (U ((by rw [xH,Ln hn]):cg (procs (e9 l))=procs (eW l)) trivial))))))))
end Go.Proofs.YtlinpknagdgphaaGreat
namespace Go.Proofs.YtlinpknagdgphaaGreat
open Go.RowKit
def bD (b:List aw) (p:ah):List ah:=match b.find? (fun a=>decide (a.server=p)) with | some a=>a.ay | none=>[]
theorem DF {b:List aw} {p:ah} {i:Nat} {a:aw} (h:b[i]?=some a) (ha:a.server=p) (hb:∀ j x,j<i→b[j]?=some x→x.server≠p):bD b p=a.ay:=by
 obtain ⟨hi,rfl⟩:=List.getElem?_eq_some_iff.1 h
 have:b.find? (fun a=>decide (a.server=p))=some b[i]:=by
  rw [List.find?_eq_some_iff_getElem]
  exact ⟨by simpa using ha,i,hi,rfl,fun j hj=>by simpa using hb j _ hj (List.getElem?_eq_getElem (by omega))⟩
 rw [bD,this]
theorem Jp {b:List aw} {p:ah} (hb:∀ j x,j<b.length→b[j]?=some x→x.server≠p):bD b p=[]:=by
 have:b.find? (fun a=>decide (a.server=p))=none:=by
  rw [List.find?_eq_none];intro x hx
  obtain ⟨j,hj,rfl⟩:=List.getElem_of_mem hx
  simpa using hb j _ hj (List.getElem?_eq_getElem hj)
 rw [bD,this]
theorem aN.le {P:Program} {f:FuncId} {todo:List Item} {a:Act} {w w0:World} {K:World→Prop} {x x':DV} (e:Le x x') (h:aN P f todo (mI w0 K x) a w):aN P f todo (mI w0 K x') a w:=by
 intro b cs h1 h2 h3
 obtain ⟨ed,w',fr,⟨v,rfl,g,H,⟨Ho,Hi,rfl,hd⟩,n⟩,r2,r3⟩:=h b cs h1 h2 h3
 exact ⟨_,w',fr,⟨v,rfl,g,_,⟨Ho,Hi,rfl,e _ _ _ hd⟩,n⟩,r2,r3⟩
set_option maxRecDepth 100000 in
theorem jC (b:List aw) (p:ah) (hb:b.length≤9223372036854775807):aD Tryz.prog 73 [.d (.ro 4 (aI b)),.ag [.z p.node,.u p.inc]] (.ro 2 (procs (bD b p))):=by
 refine aD.intro (by kernel_rfl) rfl rfl 20 rfl rfl fun w0 K ac hK r=>?_
 refine bU (todo':=hd Tryz.f73 0) (E':=[(3,.pt 0 0),(7,.d (.ro 4 (aI b))),(8,.n b.length),(9,.n 0)]) (M':=[.bx 24 [.z p.node,.u p.inc]]) tk tq hK [(1,[(1,.z (((b.length:Nat):Int)))])] 2000 [0] [3,7,8,9] r (by kernel_rfl) (U ((by simp):(((aI b).length:Nat):Int)=((b.length:Nat):Int)) trivial) fun ac wd r=>?_
 refine aN.rounds (Φ:=fun (i:Nat) ac wd=>(i≤b.length∧∀ j x,j<i→b[j]?=some x→x.server≠p)∧ec [] w0 K 20 [(3,.pt 0 0),(7,.d (.ro 4 (aI b))),(8,.n b.length),(9,.n i)] [.bx 24 [.z p.node,.u p.inc]] ac wd) (b.length) ?_ (Nat.zero_le _) ⟨⟨by omega,by omega⟩,r⟩
 clear r
 rintro i cI bo ac wd ⟨aM,r⟩
 obtain ⟨eS,aM⟩:=aM
 cases h0:(decide ((((i:Nat):Int):Int)<((b.length:Nat):Int))) with
 | false=>
  have bH:=of_decide_eq_false h0
  refine aN.le (x:=.v (.slice none 0 0)) (by rw [Jp (fun j x hj hx=>aM j x (by omega) hx)];exact Le.Be 2) ?_
  exact aQ tk tq hK rfl [(2,[(0,.b false)])] 2000 r (by kernel_rfl) (U h0 trivial)
 | true=>
  have bH:=of_decide_eq_true h0
  obtain ⟨dC,kj⟩:∃ x,b[i]?=some x:=⟨_,List.getElem?_eq_getElem (by omega)⟩
  cases h1:(decide (dC.server=p)) with
  | false=>
   have bN:=of_decide_eq_false h1
   exact bU (todo':=hd Tryz.f73 0) tk tq hK [(2,[(0,.b true)]),(3,[(0,.ix (i) [.z dC.server.node,.u dC.server.inc,.u dC.seq,.ro 2 (procs dC.ay)])]),(4,[(3,.b false)]),(6,[(0,.z (((i+1:Nat):Int)))])] 2000 [0] [3,7,8,9] r (by kernel_rfl) (U h0 (U (aX ((i:Nat):Int)) (U (eC kj) (U ((ez (eN _ _) h1):dK Tryz.prog 24 [(.int .i64 (dC.server.node)),(.int .u64 (((dC.server.inc:Nat):Int)))] [(.int .i64 (p.node)),(.int .u64 (((p.inc:Nat):Int)))] false) (U ((wi (by omega)):IntKind.i64.wrap ((((i:Nat):Int):Int)+1)=((i+1:Nat):Int)) trivial))))) fun ac wd r=>bo (by omega) ac wd ⟨⟨by omega,fun j x hj hx=>by rcases Nat.lt_succ_iff_lt_or_eq.1 hj with h | rfl;exact aM j x h hx;rw [kj] at hx;cases hx;exact of_decide_eq_false (by assumption)⟩,r⟩
  | true=>
   have bN:=of_decide_eq_true h1
   have Uv:dC.server=p:=of_decide_eq_true (by assumption)
   rw [show (.ro 2 (procs (bD b p)):DV)=.ro 2 (procs dC.ay) from (by rw [DF kj (by assumption) aM])]
   exact aQ tk tq hK rfl [(2,[(0,.b true)]),(3,[(0,.ix (i) [.z dC.server.node,.u dC.server.inc,.u dC.seq,.ro 2 (procs dC.ay)])]),(4,[(3,.b true)])] 2000 r (by kernel_rfl) (U h0 (U (aX ((i:Nat):Int)) (U (eC kj) (U ((ez (eN _ _) h1):dK Tryz.prog 24 [(.int .i64 (dC.server.node)),(.int .u64 (((dC.server.inc:Nat):Int)))] [(.int .i64 (p.node)),(.int .u64 (((p.inc:Nat):Int)))] true) trivial))))
end Go.Proofs.YtlinpknagdgphaaGreat
namespace Go.Proofs.YtlinpknagdgphaaGreat
open Go.RowKit
open Go.Maps Go.WideMaps
def ah.eJ (p:ah):Prop:=(-9223372036854775808≤p.node∧p.node≤9223372036854775807)∧p.inc≤18446744073709551615
theorem nk {p:ah} (h:p.dR=true):p.eJ:=by have:=ah.qn.1 h;unfold ah.eJ;omega
abbrev pk (p:ah):MK:=.a [(.i64,p.node),(.u64,(p.inc:Int))]
theorem qC {p q:ah} (h:pk p=pk q):p=q:=by
 simp only [pk,MK.a.injEq,List.cons.injEq,Prod.mk.injEq,true_and,and_true] at h
 cases p;cases q;simp only [ah.mk.injEq];dsimp only at h;omega
theorem Tryz.laidOut:laidOutB Tryz.prog=true:=by kernel_rfl
theorem Tryz.R8:(24:TypeId)<Tryz.prog.types.size:=of_decide_eq_true (by kernel_rfl)
theorem Tryz.QM:(match Tryz.prog.underlying 24 with | some (.array _ _) | some (.struct _)=>true | _=>false)=true:=by kernel_rfl
set_option maxRecDepth 100000 in
theorem Tryz.BX:Keyed Tryz.prog 24:=Keyed.of_law (deep_law_laid Tryz.laidOut (m:=2) (by omega) Tryz.R8 (by kernel_rfl) Tryz.QM)
theorem HF {x:Int} (h : -9223372036854775808≤x∧x≤9223372036854775807):(Lit.int .i64 x).wf=true:=by
 have e1:IntKind.i64.min = -9223372036854775808:=by decide
 have e2:IntKind.i64.max=9223372036854775807:=by decide
 simp only [Lit.wf,e1,e2,Bool.and_eq_true,decide_eq_true_eq];exact h
theorem QN {x:Nat} (h:x≤18446744073709551615):(Lit.int .u64 (x:Int)).wf=true:=by
 have e1:IntKind.u64.min=0:=by decide
 have e2:IntKind.u64.max=18446744073709551615:=by decide
 simp only [Lit.wf,e1,e2,Bool.and_eq_true,decide_eq_true_eq];omega
theorem M8 {P:Program} {K:TypeId} {f0 f1:Field} {a b:Int} {ka kb:IntKind} (hk:P.keyType K=true) (hu:P.underlying K=some (.struct #[f0,f1])) (ha:P.underlying f0.type=some (.int ka)) (hb:P.underlying f1.type=some (.int kb)) (hn:(f0.name != "_"&&f1.name != "_")=true) (h0:f0.offset=0) (h1:f1.offset=1)
  (hc:P.cellsOf K=2) (Tc:P.cellsOf f0.type=1) (Td:P.cellsOf f1.type=1) (hs:0<P.types.size) (g1:(Lit.int ka a).wf=true) (g2:(Lit.int kb b).wf=true):∃ l,keyOf P K (.agg #[.int ka a,.int kb b])=some l:=by
 obtain ⟨d,hd⟩:∃ d,P.types.size=d+1:=⟨P.types.size-1,by omega⟩
 simp only [Bool.and_eq_true] at hn
 unfold keyOf
 rw [hd]
 simp [hk,hu,ha,hb,h0,h1,hn.1,hn.2,Value.formed,hc,Value.cells,Program.keyLits,Tc,Td,g1,g2]
theorem sq {p:ah} (h:p.eJ):∃ l,keyOf Tryz.prog 24 (pk p).val=some l:=
 M8 (f0:=⟨"Node",3,0,false, "", "",0⟩) (f1:=⟨"Inc",22,1,false, "", "",8⟩) (by kernel_rfl) (by kernel_rfl) (by kernel_rfl) (by kernel_rfl) (by kernel_rfl) rfl rfl (by kernel_rfl) (by kernel_rfl) (by kernel_rfl) (of_decide_eq_true (by kernel_rfl)) (HF h.1) (QN h.2)
def cw (ps:List (ah×Nat)):List (Nat×MK×DV):=ps.zipIdx.map fun x=>(x.2,pk x.1.1,.n x.1.2)
theorem zn {ps:List (ah×Nat)} {j:Nat} {q:ah} {d:Nat} (h:ps[j]?=some (q,d)):(cw ps)[j]?=some (j,pk q,.n d):=by simp [cw,List.getElem?_zipIdx,h]
theorem EN {ps:List (ah×Nat)} {j b:Nat} {k:MK} {x:DV} (h:(cw ps)[j]?=some (b,k,x)):∃ q d,ps[j]?=some (q,d)∧b=j∧k=pk q∧x=.n d:=by
 simp only [cw,List.getElem?_map,List.getElem?_zipIdx,Option.map_map,Option.map_eq_some_iff] at h
 obtain ⟨⟨q,d⟩,h1,h2⟩:=h
 simp only [Function.comp,Nat.zero_add,Prod.mk.injEq] at h2
 exact ⟨q,d,h1,h2.1.symm,h2.2.1.symm,h2.2.2.symm⟩
theorem EO {ps:List (ah×Nat)} {e:Nat×MK×DV} (h:e ∈ cw ps):∃ q d,ps[e.1]?=some (q,d)∧e.2.1=pk q∧e.2.2=.n d:=by
 obtain ⟨j,hj,rfl⟩:=List.getElem_of_mem h
 have e1:(cw ps)[j]?=some ((cw ps)[j].1,(cw ps)[j].2.1,(cw ps)[j].2.2):=List.getElem?_eq_getElem hj
 obtain ⟨q,d,h1,h2,h3,h4⟩:=EN e1
 exact ⟨q,d,by rw [h2];exact h1,h3,h4⟩
theorem yL (ps:List (ah×Nat)) (q:ah) (d:Nat):cw ps++[(ps.length,pk q,.n d)]=cw (ps++[(q,d)]):=by simp [cw,List.zipIdx_append]
theorem Ec (ps:List (ah×Nat)):List.map (fun (e:Nat×MK×DV)=>e.2.1) (cw ps)=ps.map fun x=>pk x.1:=by
 apply List.ext_getElem?;intro j
 simp only [cw,List.map_map,List.getElem?_map,List.getElem?_zipIdx]
 cases ps[j]?<;>rfl
theorem Ed (ps:List (ah×Nat)):List.map (fun (e:Nat×MK×DV)=>e.1) (cw ps)=List.range ps.length:=by
 apply List.ext_getElem?;intro j
 simp only [cw,List.map_map,List.getElem?_map,List.getElem?_zipIdx]
 rcases Nat.lt_or_ge j ps.length with h | h
 ·rw [List.getElem?_eq_getElem h,List.getElem?_range h];simp
 ·rw [List.getElem?_eq_none h,List.getElem?_eq_none (by simpa using h)];rfl
theorem FL {ps:List (ah×Nat)}:∀ e ∈ cw ps,e.1<ps.length:=fun e he=>by
 obtain ⟨q,d,h,-⟩:=EO he;exact (List.getElem?_eq_some_iff.1 h).1
def gC (ps:List (ah×Nat)) (q:ah):Bool:=decide (q ∈ ps.map Prod.fst)
theorem zo {ps:List (ah×Nat)} {q:ah} (h:∀ x ∈ ps,x.1.eJ) (hq:q.eJ):b5 Tryz.prog 24 (pk q::List.map (fun (e:Nat×MK×DV)=>e.2.1) (cw ps)):=by
 refine ⟨Tryz.BX,fun k hk=>?_⟩
 rw [Ec] at hk
 rcases List.mem_cons.1 hk with rfl | hk
 ·exact sq hq
 ·obtain ⟨x,hx,rfl⟩:=List.mem_map.1 hk
  exact sq (h x hx)
theorem DG {ps:List (ah×Nat)} {q:ah} (h:gC ps q=false):∀ e ∈ cw ps,e.2.1≠pk q:=fun e he hk=>by
 obtain ⟨q',d,h1,h2,-⟩:=EO he
 rw [h2] at hk
 obtain rfl:=qC hk
 exact of_decide_eq_false h (List.mem_map.2 ⟨_,List.mem_of_getElem? h1,rfl⟩)
theorem M9 {ps:List (ah×Nat)} {q:ah} (h:gC ps q=true):∃ (j d:Nat),ps[j]?=some (q,d):=by
 obtain ⟨⟨q',d⟩,hx,rfl⟩:=List.mem_map.1 (of_decide_eq_true h)
 obtain ⟨j,hj,e⟩:=List.getElem_of_mem hx
 exact ⟨j,d,by rw [List.getElem?_eq_getElem hj,e]⟩
theorem J7 {ps:List (ah×Nat)} (h:(ps.map Prod.fst).Nodup):(List.map (fun (e:Nat×MK×DV)=>e.2.1) (cw ps)).Nodup:=by
 rw [Ec]
 unfold List.Nodup at *
 rw [List.pairwise_map] at *
 exact h.imp fun gm e=>gm (qC e)
theorem vD:gp Tryz.prog 3 (.int .i64 0):=fun w=>by
 have h:(Tryz.prog.info? 3).bind (fun i=>i.zero)=some (.int .i64 0):=by kernel_rfl
 cases hi:Tryz.prog.info? 3 with
 | none=>rw [hi] at h;cases h
 | some i=>rw [hi] at h;simp [zeroValue,typeInfo,Sem.run_bind,hi,(show i.zero=some _ from h)]
def cO (ps:List (ah×Nat)) (d:Nat):List ah→List (ah×Nat)
 | []=>ps
 | q::r=>cO (if gC ps q=true then ps else ps++[(q,d)]) d r
theorem oF (d:Nat) (q:ah):∀ (l:List ah) (ps:List (ah×Nat)),cO ps d (l++[q])=if gC (cO ps d l) q=true then cO ps d l else cO ps d l++[(q,d)]
 | [],ps=>rfl
 | x::l,ps=>by rw [List.cons_append,cO,oF d q l,cO]
theorem DH {d:Nat}:∀ {l:List ah} {ps:List (ah×Nat)},(ps.map Prod.fst).Nodup→((cO ps d l).map Prod.fst).Nodup
 | [],_,h=>h
 | q::r,ps,h=>by
  rw [cO];refine DH ?_
  split
  ·exact h
  ·rename_i hq
   rw [List.map_append,List.nodup_append]
   refine ⟨h,by simp,fun a ha b hb e=>?_⟩
   simp at hb;subst hb e
   exact hq (decide_eq_true ha)
theorem oG {d:Nat} {x:ah×Nat}:∀ {l:List ah} {ps:List (ah×Nat)},x ∈ cO ps d l↔x ∈ ps∨(x.2=d∧x.1 ∈ l∧gC ps x.1=false)
 | [],ps=>by simp [cO]
 | q::r,ps=>by
  rw [cO,oG (l:=r)]
  by_cases hq:gC ps q=true
  ·rw [if_pos hq]
   constructor
   ·rintro (h | ⟨h1,h2,h3⟩)
    ·exact Or.inl h
    ·exact Or.inr ⟨h1,List.mem_cons_of_mem _ h2,h3⟩
   ·rintro (h | ⟨h1,h2,h3⟩)
    ·exact Or.inl h
    ·rcases List.mem_cons.1 h2 with e | h2
     ·rw [e] at h3;rw [h3] at hq;cases hq
     ·exact Or.inr ⟨h1,h2,h3⟩
  ·rw [if_neg hq]
   have hk:∀ y,gC (ps++[(q,d)]) y=(gC ps y||decide (y=q)):=fun y=>by
    unfold gC;rw [List.map_append,Bool.eq_iff_iff];simp
   rw [hk,List.mem_append,List.mem_singleton]
   constructor
   ·rintro ((h | h) | ⟨h1,h2,h3⟩)
    ·exact Or.inl h
    ·subst h;exact Or.inr ⟨rfl,List.mem_cons_self,by simpa using hq⟩
    ·rw [Bool.or_eq_false_iff] at h3
     exact Or.inr ⟨h1,List.mem_cons_of_mem _ h2,h3.1⟩
   ·rintro (h | ⟨h1,h2,h3⟩)
    ·exact Or.inl (Or.inl h)
    ·rcases List.mem_cons.1 h2 with e | h2
     ·refine Or.inl (Or.inr ?_);cases x;simp_all
     ·by_cases e:x.1=q
      ·refine Or.inl (Or.inr ?_);cases x;simp_all
      ·exact Or.inr ⟨h1,h2,by rw [h3];simp [e]⟩
end Go.Proofs.YtlinpknagdgphaaGreat
namespace Go.Proofs.YtlinpknagdgphaaGreat
open Go.RowKit
def dx (b:List aw) (p:ah) (i:Nat):List ah:=((bD b p).take i).filter fun q=>decide (p ∈ bD b q)
def jn (b:List aw) (p:ah):List ah:=(bD b p).filter fun q=>decide (p ∈ bD b q)
theorem EP {b:List aw} {p:ah} {i:Nat} (h:(bD b p).length≤i):dx b p i=jn b p:=by rw [dx,List.take_of_length_le h];rfl
theorem jA {b:List aw} {p q:ah} {i:Nat} (h:(bD b p)[i]?=some q) (hq:decide (p ∈ bD b q)=true):dx b p (i+1)=dx b p i++[q]:=by
 obtain ⟨hi,rfl⟩:=List.getElem?_eq_some_iff.1 h
 rw [dx,List.take_succ_eq_append_getElem hi,List.filter_append,List.filter_cons,if_pos hq];rfl
theorem mg {b:List aw} {p q:ah} {i:Nat} (h:(bD b p)[i]?=some q) (hq:decide (p ∈ bD b q)=false):dx b p (i+1)=dx b p i:=by
 obtain ⟨hi,rfl⟩:=List.getElem?_eq_some_iff.1 h
 rw [dx,List.take_succ_eq_append_getElem hi,List.filter_append,List.filter_cons,if_neg (by rw [hq];decide),List.filter_nil,List.append_nil];rfl
structure dg (b:List aw):Prop where
 may:∀ a ∈ b,a.may=true
 up:b.Pairwise fun x y=>x.server.node<y.server.node
theorem xA {b:List aw} {p q:ah} (h:q ∈ bD b p):∃ a ∈ b,a.server=p∧q ∈ a.ay:=by
 unfold bD at h
 split at h
 ·rename_i a ha
  exact ⟨a,List.mem_of_find?_eq_some ha,by simpa using List.find?_some ha,h⟩
 ·cases h
theorem dg.peer {b:List aw} (g:dg b) {p q:ah} (h:q ∈ bD b p):q.dR=true:=by
 obtain ⟨a,ha,-,hq⟩:=xA h
 exact List.all_eq_true.1 (aw.gL.1 (g.may a ha)).2.2.2.1 q hq
theorem dg.gR {b:List aw} (g:dg b) (p:ah):(bD b p).length≤3:=by
 unfold bD
 split
 ·rename_i a ha;exact aw.gR (g.may a (List.mem_of_find?_eq_some ha))
 ·simp
theorem dg.len {b:List aw} (g:dg b):b.length≤4:=by
 have h1:lone (b.map aw.server)=true:=(p5 _).2 fun a c p q ha hc hp hq e=>by
  rw [List.getElem?_map,Option.map_eq_some_iff] at hp hq
  obtain ⟨x,hx,rfl⟩:=hp
  obtain ⟨y,hy,rfl⟩:=hq
  obtain ⟨xe,rfl⟩:=List.getElem?_eq_some_iff.1 hx
  obtain ⟨CA,rfl⟩:=List.getElem?_eq_some_iff.1 hy
  have:=List.pairwise_iff_getElem.1 g.up c a CA xe hc
  omega
 have h2:(b.map aw.server).all ah.dR=true:=by
  rw [List.all_eq_true];intro p hp
  obtain ⟨a,ha,rfl⟩:=List.mem_map.1 hp
  exact (aw.gL.1 (g.may a ha)).1
 have:=D6 h1 h2
 simpa using this
structure Keys (ps:List (ah×Nat)):Prop where
 ok:∀ x ∈ ps,x.1.eJ
 one:(ps.map Prod.fst).Nodup
theorem Keys.add {ps:List (ah×Nat)} {d:Nat} {l:List ah} (k:Keys ps) (h:∀ q ∈ l,q.eJ):Keys (cO ps d l):=
 ⟨fun x hx=>by
  rcases oG.1 hx with hx | ⟨-,hx,-⟩
  ·exact k.ok x hx
  ·exact h _ hx,DH k.one⟩
theorem vE {b:List aw} (g:dg b) {p:ah} {i:Nat}:∀ q ∈ dx b p i,q.eJ:=fun q hq=>nk (g.peer (List.mem_of_mem_take (List.mem_filter.1 hq).1))
set_option maxRecDepth 100000 in
theorem Na (b:List aw) (p:ah) (ps:List (ah×Nat)) (s:Nat) (g:dg b) (kk:Keys ps) (hs:s<1000000):aL Tryz.prog 72 [.yl 5,.pt 0 0,.pt 1 0] [.bx 68 [.d (.ro 4 (aI b))],.bx 24 [.z p.node,.u p.inc],.mp 92 (ps.length) (cw ps),.bx 92 [.mv 2],.bx 3 [.n s],.lp .ready 48 62 [(5,.pt 3 0),(6,.pt 4 0)] (dU Tryz.f48 0)] (.tu []) ([.bx 68 [.d (.ro 4 (aI b))],.bx 24 [.z p.node,.u p.inc],.mp 92 ((cO ps (s+1) (jn b p)).length) (cw (cO ps (s+1) (jn b p))),.bx 92 [.mv 2],.bx 3 [.n s],.lp .ready 48 62 [(5,.pt 3 0),(6,.pt 4 0)] (dU Tryz.f48 0)]):=by
 have lb:=g.len
 have w9:=g.gR p
 refine aL.intro (by kernel_rfl) rfl rfl 26 rfl rfl fun D w0 K bs ac wd hK (aB:bs.m=6) r=>?_
 refine b8 (todo':=hd Tryz.f72 0) (E':=[(0,.yl 5),(1,.pt 0 0),(2,.pt 1 0),(8,.d (.ro 2 (procs (bD b p)))),(9,.n ((bD b p).length)),(10,.z 0)]) (M':=[.bx 68 [.d (.ro 4 (aI b))],.bx 24 [.z p.node,.u p.inc],.mp 92 (ps.length) (cw ps),.bx 92 [.mv 2],.bx 3 [.n s],.lp .ready 48 62 [(5,.pt 3 0),(6,.pt 4 0)] (dU Tryz.f48 0)]) tk tq hK aB [(0,[(2,.aJ (.ro 2 (procs (bD b p)))),(3,.z ((((bD b p).length:Nat):Int)))])] 2000 [0,1,2,3,4,5] [0,1,2,8,9,10] r (by kernel_rfl) (U (jC b p (by omega)) (U ((by simp):(((procs (bD b p)).length:Nat):Int)=(((bD b p).length:Nat):Int)) trivial)) fun ac wd r=>?_
 refine aN.rounds (Φ:=fun (i:Nat) ac wd=>(i≤(bD b p).length)∧RB D w0 K 26 bs [(0,.yl 5),(1,.pt 0 0),(2,.pt 1 0),(8,.d (.ro 2 (procs (bD b p)))),(9,.n ((bD b p).length)),(10,.n i)] [.bx 68 [.d (.ro 4 (aI b))],.bx 24 [.z p.node,.u p.inc],.mp 92 ((cO ps (s+1) (dx b p i)).length) (cw (cO ps (s+1) (dx b p i))),.bx 92 [.mv 2],.bx 3 [.n s],.lp .ready 48 62 [(5,.pt 3 0),(6,.pt 4 0)] (dU Tryz.f48 0)] ac wd) ((bD b p).length) ?_ (Nat.zero_le _) ⟨(Nat.zero_le _),(r).cast rfl rfl⟩
 clear r
 rintro i cI bo ac wd ⟨aM,r⟩
 cases h0:(decide ((((i:Nat):Int):Int)<(((bD b p).length:Nat):Int))) with
 | false=>
  have bH:=of_decide_eq_false h0
  refine bB (y:=.tu []) (N':=[.bx 68 [.d (.ro 4 (aI b))],.bx 24 [.z p.node,.u p.inc],.mp 92 ((cO ps (s+1) (dx b p i)).length) (cw (cO ps (s+1) (dx b p i))),.bx 92 [.mv 2],.bx 3 [.n s],.lp .ready 48 62 [(5,.pt 3 0),(6,.pt 4 0)] (dU Tryz.f48 0)]) (rfl) ((by rw [EP (by omega)])) ?_
  exact bC tk tq hK rfl aB [(1,[(0,.b false)])] 2000 [0,1,2,3,4,5] r (by kernel_rfl) (U h0 trivial)
 | true=>
  have bH:=of_decide_eq_true h0
  obtain ⟨q,gq⟩:∃ x,(bD b p)[i]?=some x:=⟨_,List.getElem?_eq_getElem (by omega)⟩
  cases h1:(decide (p ∈ bD b q)) with
  | false=>
   have bN:=of_decide_eq_false h1
   exact b8 (todo':=hd Tryz.f72 0) (E':=[(0,.yl 5),(1,.pt 0 0),(2,.pt 1 0),(8,.d (.ro 2 (procs (bD b p)))),(9,.n ((bD b p).length)),(10,.n (i+1))]) (M':=[.bx 68 [.d (.ro 4 (aI b))],.bx 24 [.z p.node,.u p.inc],.mp 92 ((cO ps (s+1) (dx b p i)).length) (cw (cO ps (s+1) (dx b p i))),.bx 92 [.mv 2],.bx 3 [.n s],.lp .ready 48 62 [(5,.pt 3 0),(6,.pt 4 0)] (dU Tryz.f48 0)]) tk tq hK aB [(1,[(0,.b true)]),(2,[(0,.ix (i) [.z q.node,.u q.inc])]),(3,[(2,.aJ (.ro 2 (procs (bD b q)))),(4,.aJ (.v (.bool false)))]),(4,[(0,.z (((i+1:Nat):Int)))])] 2000 [0,1,2,3,4,5] [0,1,2,8,9,10] r (by kernel_rfl) (U h0 (U (aX ((i:Nat):Int)) (U (cK gq) (U (jC b q (by omega)) (U ((by have k:=qo (bD b q) p (by have:=g.gR q;omega);rw [h1] at k;exact k):aD Tryz.prog 74 [.d (.ro 2 (procs (bD b q))),.ag [.z p.node,.u p.inc]] (.v (.bool false))) (U ((wi (by omega)):IntKind.i64.wrap ((((i:Nat):Int):Int)+1)=((i+1:Nat):Int)) trivial)))))) fun ac wd r=>bo (by omega) ac wd ⟨(by omega),r.cast rfl (by first | (rw [mg gq (by assumption)];done) | (rw [jA gq (by assumption),oF,if_pos (by assumption)];done) | (rw [jA gq (by assumption),oF,if_neg (by simp [*]),← yL,List.length_append];rfl))⟩
  | true=>
   have bN:=of_decide_eq_true h1
   have u0:=((by have k:=qo (bD b q) p (by have:=g.gR q;omega);rw [h1] at k;exact k):aD Tryz.prog 74 [.d (.ro 2 (procs (bD b q))),.ag [.z p.node,.u p.inc]] (.v (.bool true)))
   cases h2:(gC (cO ps (s+1) (dx b p i)) q) with
   | false=>
    exact b8 (todo':=hd Tryz.f72 0) (E':=[(0,.yl 5),(1,.pt 0 0),(2,.pt 1 0),(8,.d (.ro 2 (procs (bD b p)))),(9,.n ((bD b p).length)),(10,.n (i+1))]) (M':=[.bx 68 [.d (.ro 4 (aI b))],.bx 24 [.z p.node,.u p.inc],.mp 92 ((cO ps (s+1) (dx b p i)).length+1) (cw (cO ps (s+1) (dx b p i))++[((cO ps (s+1) (dx b p i)).length,.a [(.i64,(q.node:Int)),(.u64,(((q.inc:Nat):Int):Int))],.n (s+1))]),.bx 92 [.mv 2],.bx 3 [.n s],.lp .ready 48 62 [(5,.pt 3 0),(6,.pt 4 0)] (dU Tryz.f48 0)]) tk tq hK aB [(1,[(0,.b true)]),(2,[(0,.ix (i) [.z q.node,.u q.inc])]),(3,[(2,.aJ (.ro 2 (procs (bD b q)))),(4,.aJ (.v (.bool true))),(8,.dt 200 [(17,[(2,.b false)]),(19,[(3,.z (((s+1:Nat):Int))),(4,.b false)])])]),(4,[(0,.z (((i+1:Nat):Int)))])] 2000 [0,1,2,3,4,5] [0,1,2,8,9,10] r (by kernel_rfl) (U h0 (U (aX ((i:Nat):Int)) (U (cK gq) (U (jC b q (by omega)) (U u0 (U ((zo (kk.add (vE g)).ok (nk (g.peer (List.mem_of_getElem? gq)))):b5 Tryz.prog 24 ((.a [(.i64,(q.node:Int)),(.u64,(((q.inc:Nat):Int):Int))])::List.map (fun (e:Nat×MK×DV)=>e.2.1) (cw (cO ps (s+1) (dx b p i))))) (U (vD:gp Tryz.prog 3 (.int .i64 0)) (U ((DG (by assumption)):∀ zz ∈ (cw (cO ps (s+1) (dx b p i)):List (Nat×MK×DV)),zz.2.1≠.a [(.i64,(q.node:Int)),(.u64,(((q.inc:Nat):Int):Int))]) (U ((wi (by omega)):IntKind.i64.wrap ((((s:Nat):Int):Int)+1)=((s+1:Nat):Int)) (U ((zo (kk.add (vE g)).ok (nk (g.peer (List.mem_of_getElem? gq)))):b5 Tryz.prog 24 ((.a [(.i64,(q.node:Int)),(.u64,(((q.inc:Nat):Int):Int))])::List.map (fun (e:Nat×MK×DV)=>e.2.1) (cw (cO ps (s+1) (dx b p i))))) (U ((DG (by assumption)):∀ zz ∈ (cw (cO ps (s+1) (dx b p i)):List (Nat×MK×DV)),zz.2.1≠.a [(.i64,(q.node:Int)),(.u64,(((q.inc:Nat):Int):Int))]) (U ((wi (by omega)):IntKind.i64.wrap ((((i:Nat):Int):Int)+1)=((i+1:Nat):Int)) trivial)))))))))))) fun ac wd r=>bo (by omega) ac wd ⟨(by omega),r.cast rfl (by first | (rw [mg gq (by assumption)];done) | (rw [jA gq (by assumption),oF,if_pos (by assumption)];done) | (rw [jA gq (by assumption),oF,if_neg (by simp [*]),← yL,List.length_append];rfl))⟩
   | true=>
    obtain ⟨jk,dk,lV⟩:=M9 (by assumption)
    exact b8 (todo':=hd Tryz.f72 0) (E':=[(0,.yl 5),(1,.pt 0 0),(2,.pt 1 0),(8,.d (.ro 2 (procs (bD b p)))),(9,.n ((bD b p).length)),(10,.n (i+1))]) (M':=[.bx 68 [.d (.ro 4 (aI b))],.bx 24 [.z p.node,.u p.inc],.mp 92 ((cO ps (s+1) (dx b p i)).length) (cw (cO ps (s+1) (dx b p i))),.bx 92 [.mv 2],.bx 3 [.n s],.lp .ready 48 62 [(5,.pt 3 0),(6,.pt 4 0)] (dU Tryz.f48 0)]) tk tq hK aB [(1,[(0,.b true)]),(2,[(0,.ix (i) [.z q.node,.u q.inc])]),(3,[(2,.aJ (.ro 2 (procs (bD b q)))),(4,.aJ (.v (.bool true))),(8,.dt 200 [(17,[(2,.mk (jk) (.a [(.i64,(q.node:Int)),(.u64,(((q.inc:Nat):Int):Int))]) (.n dk))])])]),(4,[(0,.z (((i+1:Nat):Int)))])] 2000 [0,1,2,3,4,5] [0,1,2,8,9,10] r (by kernel_rfl) (U h0 (U (aX ((i:Nat):Int)) (U (cK gq) (U (jC b q (by omega)) (U u0 (U ((zo (kk.add (vE g)).ok (nk (g.peer (List.mem_of_getElem? gq)))):b5 Tryz.prog 24 ((.a [(.i64,(q.node:Int)),(.u64,(((q.inc:Nat):Int):Int))])::List.map (fun (e:Nat×MK×DV)=>e.2.1) (cw (cO ps (s+1) (dx b p i))))) (U (rfl:(.a [(.i64,(q.node:Int)),(.u64,(((q.inc:Nat):Int):Int))]:MK)=.a [(.i64,(q.node:Int)),(.u64,(((q.inc:Nat):Int):Int))]) (U ((J7 (kk.add (vE g)).one):(List.map (fun (e:Nat×MK×DV)=>e.2.1) (cw (cO ps (s+1) (dx b p i)))).Nodup) (U (⟨_,zn lV⟩:∃ b0,(cw (cO ps (s+1) (dx b p i)):List (Nat×MK×DV))[jk]?=some (b0,.a [(.i64,(q.node:Int)),(.u64,(((q.inc:Nat):Int):Int))],.n dk)) (U ((wi (by omega)):IntKind.i64.wrap ((((i:Nat):Int):Int)+1)=((i+1:Nat):Int)) trivial)))))))))) fun ac wd r=>bo (by omega) ac wd ⟨(by omega),r.cast rfl (by first | (rw [mg gq (by assumption)];done) | (rw [jA gq (by assumption),oF,if_pos (by assumption)];done) | (rw [jA gq (by assumption),oF,if_neg (by simp [*]),← yL,List.length_append];rfl))⟩
end Go.Proofs.YtlinpknagdgphaaGreat
namespace Go.Proofs.YtlinpknagdgphaaGreat
open Go.RowKit
def Can (b:List aw) (p:ah):Nat→ah→Prop
 | 0,q=>q=p
 | n+1,q=>Can b p n q∨∃ r,Can b p n r∧q ∈ jn b r
def dM (b:List aw) (p:ah) (d:Nat) (q:ah):Prop:=Can b p d q∧∀ k,k<d→¬ Can b p k q
theorem Can.mono {b:List aw} {p q:ah} {n m:Nat} (h:Can b p n q) (hm:n≤m):Can b p m q:=by
 induction hm with
 | refl=>exact h
 | step _ ih=>exact Or.inl ih
theorem dM.one {b:List aw} {p q:ah} {d e:Nat} (h:dM b p d q) (k:dM b p e q):d=e:=by
 rcases Nat.lt_trichotomy d e with h1 | h1 | h1
 ·exact absurd h.1 (k.2 d h1)
 ·exact h1
 ·exact absurd k.1 (h.2 e h1)
theorem Can.CM {b:List aw} {p q:ah}:∀ {n:Nat},Can b p n q→∃ d,d≤n∧dM b p d q
 | 0,h=>⟨0,Nat.le_refl _,h,fun k hk=>by omega⟩
 | n+1,h=>by
  by_cases hn:Can b p n q
  ·obtain ⟨d,h1,h2⟩:=Can.CM hn
   exact ⟨d,by omega,h2⟩
  ·exact ⟨n+1,Nat.le_refl _,h,fun k hk hc=>hn (hc.mono (by omega))⟩
theorem dM.prev {b:List aw} {p q:ah} {d:Nat} (h:dM b p (d+1) q):∃ r,dM b p d r∧q ∈ jn b r:=by
 obtain ⟨h1,h2⟩:=h
 rcases h1 with h1 | ⟨r,h1,h3⟩
 ·exact absurd h1 (h2 d (by omega))
 ·refine ⟨r,⟨h1,fun k hk hc=>?_⟩,h3⟩
  exact h2 (k+1) (by omega) (Or.inr ⟨r,hc,h3⟩)
theorem qD {b:List aw} {p q:ah}:q ∈ jn b p↔q ∈ bD b p∧p ∈ bD b q:=by simp [jn,List.mem_filter]
theorem OA {b:List aw} {p q:ah}:q ∈ jn b p↔p ∈ jn b q:=by rw [qD,qD,and_comm]
theorem uT {b:List aw} {p q:ah} (h:q ∈ jn b p):∃ a ∈ b,a.server=q:=by
 obtain ⟨a,h1,h2,-⟩:=xA (qD.1 h).2
 exact ⟨a,h1,h2⟩
theorem GH {α:Type} {f g:α→Bool}:∀ {l:List α},(∀ x ∈ l,f x=true→g x=true)→(∃ x ∈ l,g x=true∧f x=false)→l.countP f<l.countP g
 | [],_,⟨x,hx,_⟩=>by cases hx
 | y::l,h,⟨x,hx,h1,h2⟩=>by
  have hle:l.countP f≤l.countP g:=List.countP_mono_left fun z hz=>h z (List.mem_cons_of_mem _ hz)
  rw [List.countP_cons,List.countP_cons]
  rcases List.mem_cons.1 hx with rfl | hx
  ·rw [h1,h2];simp;omega
  ·have:=GH (fun z hz=>h z (List.mem_cons_of_mem _ hz)) ⟨x,hx,h1,h2⟩
   have hy:=h y List.mem_cons_self
   cases hf:f y with
   | false=>simp;split<;>omega
   | true=>rw [hy hf];simp;omega
open Classical in
theorem dM.le {b:List aw} {p:ah}:∀ {d:Nat} {q:ah},dM b p d q→d≤b.countP fun a=>decide (Can b p d a.server)
 | 0,_,_=>Nat.zero_le _
 | d+1,q,h=>by
  obtain ⟨r,hr,hq⟩:=h.prev
  have ih:=dM.le hr
  obtain ⟨a,ha,hs⟩:=uT hq
  have:(b.countP fun a=>decide (Can b p d a.server))<b.countP fun a=>decide (Can b p (d+1) a.server):=
   GH (fun x _ hx=>decide_eq_true (Or.inl (of_decide_eq_true hx))) ⟨a,ha,decide_eq_true (by rw [hs];exact h.1),decide_eq_false (by rw [hs];exact h.2 d (by omega))⟩
  omega
theorem dM.four {b:List aw} (g:dg b) {p q:ah} {d:Nat} (h:dM b p d q):d≤4:=by
 classical
 have h1:=h.le
 have h2:=List.countP_le_length (p:=fun a:aw=>decide (Can b p d a.server)) (l:=b)
 have h3:=g.len
 omega
structure iz (b:List aw) (p:ah) (s:Nat) (ps:List (ah×Nat)):Prop where
 keys:Keys ps
 all:∀ q d,(q,d) ∈ ps↔d≤s∧dM b p d q
theorem iz.start (b:List aw) {p:ah} (hp:p.eJ):iz b p 0 [(p,0)]:=by
 refine ⟨⟨fun x hx=>by simp at hx;subst hx;exact hp,by simp⟩,fun q d=>?_⟩
 simp only [List.mem_singleton,Prod.mk.injEq]
 constructor
 ·rintro ⟨rfl,rfl⟩;exact ⟨Nat.le_refl _,rfl,fun k hk=>by omega⟩
 ·rintro ⟨h1,h2⟩
  obtain rfl:d=0:=by omega
  exact ⟨h2.1,rfl⟩
def fE (b:List aw) (s:Nat) (ps:List (ah×Nat)) (l:List ah):List (ah×Nat):=l.foldl (fun ps q=>cO ps (s+1) (jn b q)) ps
theorem Lr {b:List aw} {s:Nat} {ps:List (ah×Nat)} {l:List ah} {i:Nat} {q:ah} (h:l[i]?=some q):fE b s ps (l.take (i+1))=cO (fE b s ps (l.take i)) (s+1) (jn b q):=by
 obtain ⟨hi,rfl⟩:=List.getElem?_eq_some_iff.1 h
 rw [fE,List.take_succ_eq_append_getElem hi,List.foldl_append];rfl
theorem QO {b:List aw} (g:dg b) {p:ah}:∀ q ∈ jn b p,q.eJ:=fun q hq=>nk (g.peer (qD.1 hq).1)
theorem x4 {b:List aw} (g:dg b) {s:Nat}:∀ {l:List ah} {ps:List (ah×Nat)},Keys ps→Keys (fE b s ps l)
 | [],_,k=>k
 | q::l,ps,k=>by rw [fE,List.foldl_cons];exact x4 g (k.add (QO g))
theorem se {ps:List (ah×Nat)} {q:ah}:gC ps q=true↔∃ d,(q,d) ∈ ps:=by
 unfold gC;rw [decide_eq_true_iff,List.mem_map]
 constructor
 ·rintro ⟨⟨q',d⟩,h,rfl⟩;exact ⟨d,h⟩
 ·rintro ⟨d,h⟩;exact ⟨_,h,rfl⟩
theorem ER {b:List aw} {s:Nat} {x:ah×Nat}:∀ {l:List ah} {ps:List (ah×Nat)},x ∈ fE b s ps l↔x ∈ ps∨(x.2=s+1∧(∃ r ∈ l,x.1 ∈ jn b r)∧gC ps x.1=false)
 | [],ps=>by simp [fE]
 | r::l,ps=>by
  rw [fE,List.foldl_cons]
  show x ∈ fE b s _ l↔_
  rw [ER (l:=l),oG]
  have hk:gC (cO ps (s+1) (jn b r)) x.1=true↔gC ps x.1=true∨x.1 ∈ jn b r:=by
   rw [se,se]
   constructor
   ·rintro ⟨d,h⟩
    rcases oG.1 h with h | ⟨-,h,-⟩
    ·exact Or.inl ⟨d,h⟩
    ·exact Or.inr h
   ·rintro (⟨d,h⟩ | h)
    ·exact ⟨d,oG.2 (Or.inl h)⟩
    ·by_cases e:gC ps x.1=true
     ·obtain ⟨d,e⟩:=se.1 e;exact ⟨d,oG.2 (Or.inl e)⟩
     ·exact ⟨s+1,oG.2 (Or.inr ⟨rfl,h,by simpa using e⟩)⟩
  have Tf:gC (cO ps (s+1) (jn b r)) x.1=false↔gC ps x.1=false∧x.1 ∉ jn b r:=by
   rw [← Bool.not_eq_true,hk,not_or,Bool.not_eq_true]
  rw [Tf]
  constructor
  ·rintro ((h | ⟨h1,h2,h3⟩) | ⟨h1,⟨r',h2,h3⟩,h4,-⟩)
   ·exact Or.inl h
   ·exact Or.inr ⟨h1,⟨r,List.mem_cons_self,h2⟩,h3⟩
   ·exact Or.inr ⟨h1,⟨r',List.mem_cons_of_mem _ h2,h3⟩,h4⟩
  ·rintro (h | ⟨h1,⟨r',h2,h3⟩,h4⟩)
   ·exact Or.inl (Or.inl h)
   ·by_cases e:x.1 ∈ jn b r
    ·exact Or.inl (Or.inr ⟨h1,e,h4⟩)
    ·rcases List.mem_cons.1 h2 with rfl | h2
     ·exact absurd h3 e
     ·exact Or.inr ⟨h1,⟨r',h2,h3⟩,h4,e⟩
theorem iz.next {b:List aw} (g:dg b) {p:ah} {s:Nat} {ps:List (ah×Nat)} {l:List ah} (h:iz b p s ps) (hl:∀ q,q ∈ l↔(q,s) ∈ ps):iz b p (s+1) (fE b s ps l):=by
 refine ⟨x4 g h.keys,fun q d=>?_⟩
 rw [ER,h.all]
 constructor
 ·rintro (⟨h1,h2⟩ | ⟨rfl,⟨r,h1,h2⟩,h3⟩)
  ·exact ⟨by omega,h2⟩
  ·refine ⟨Nat.le_refl _,Or.inr ⟨r,((h.all r s).1 ((hl r).1 h1)).2.1,h2⟩,fun k hk hc=>?_⟩
   obtain ⟨e,he,hle⟩:=hc.CM
   have:=se.2 ⟨e,(h.all q e).2 ⟨by omega,hle⟩⟩
   dsimp only at h3
   rw [this] at h3;cases h3
 ·rintro ⟨h1,h2⟩
  rcases Nat.lt_or_ge s d with hd | hd
  ·obtain rfl:d=s+1:=by omega
   right
   obtain ⟨r,hr,hq⟩:=h2.prev
   refine ⟨rfl,⟨r,(hl r).2 ((h.all r s).2 ⟨Nat.le_refl _,hr⟩),hq⟩,?_⟩
   cases hk:gC ps q with
   | false=>rfl
   | true=>
    obtain ⟨e,he⟩:=se.1 hk
    obtain ⟨Uw,uj⟩:=(h.all q e).1 he
    have:=uj.one h2;omega
  ·exact Or.inl ⟨hd,h2⟩
theorem iz.HG {b:List aw} {p:ah} {s:Nat} {ps:List (ah×Nat)} (h:iz b p s ps) (hn:∀ q,(q,s) ∉ ps):∀ q d,(q,d) ∈ ps↔dM b p d q:=by
 have Tg:∀ d q,s≤d→¬ dM b p d q:=by
  intro d
  induction d with
  | zero=>intro q hs hl;obtain rfl:s=0:=(by omega);exact hn q ((h.all q 0).2 ⟨Nat.le_refl _,hl⟩)
  | succ d ih=>
   intro q hs hl
   obtain ⟨r,hr,-⟩:=hl.prev
   rcases Nat.lt_or_ge d s with h1 | h1
   ·obtain rfl:s=d+1:=by omega
    exact hn q ((h.all q _).2 ⟨Nat.le_refl _,hl⟩)
   ·exact ih r h1 hr
 intro q d
 rw [h.all]
 constructor
 ·exact fun h=>h.2
 ·intro hl
  refine ⟨?_,hl⟩
  rcases Nat.lt_or_ge s d with h1 | h1
  ·exact absurd hl (Tg d q (by omega))
  ·exact h1
open Classical in
noncomputable def bG (b:List aw) (p:ah):List (ah×Nat):=if h:∃ ps,Keys ps∧∀ q d,(q,d) ∈ ps↔dM b p d q then Classical.choose h else []
theorem FM {b:List aw} {p:ah} {ps:List (ah×Nat)} (k:Keys ps) (h:∀ q d,(q,d) ∈ ps↔dM b p d q):Keys (bG b p)∧(∀ q d,(q,d) ∈ bG b p↔dM b p d q)∧ps.Perm (bG b p):=by
 have hex:∃ ps,Keys ps∧∀ q d,(q,d) ∈ ps↔dM b p d q:=⟨ps,k,h⟩
 have e:bG b p=Classical.choose hex:=by unfold bG;rw [dif_pos hex]
 have hc:=Classical.choose_spec hex
 rw [← e] at hc
 refine ⟨hc.1,hc.2,?_⟩
 have n1:ps.Nodup:=by
  have:=k.one;unfold List.Nodup at *;rw [List.pairwise_map] at this;exact this.imp fun gm e=>gm (by rw [e])
 have n2:(bG b p).Nodup:=by
  have:=hc.1.one;unfold List.Nodup at *;rw [List.pairwise_map] at this;exact this.imp fun gm e=>gm (by rw [e])
 exact (List.perm_ext_iff_of_nodup n1 n2).2 fun ⟨q,d⟩=>(h q d).trans (hc.2 q d).symm
noncomputable def g9 (b:List aw) (p:ah):List (MK×DV):=(bG b p).map fun x=>(pk x.1,.n x.2)
theorem Nb (ps:List (ah×Nat)):(cw ps).map (fun e=>e.2)=ps.map fun x=>(pk x.1,.n x.2):=by
 apply List.ext_getElem?;intro j
 simp only [cw,List.map_map,List.getElem?_map,List.getElem?_zipIdx]
 cases ps[j]?<;>rfl
theorem yM:∀ {n:Nat} {l:List Nat},l.Nodup→(∀ x ∈ l,x<n)→l.length≤n
 | 0,[],_,_=>by simp
 | 0,x::l,_,h=>by have:=h x List.mem_cons_self;omega
 | n+1,l,hn,h=>by
  by_cases hm:n ∈ l
  ·have h1:=yM (n:=n) (hn.erase n) fun x hx=>by
    have h2:=(hn.mem_erase_iff).1 hx
    have:=h x h2.2;omega
   rw [List.length_erase_of_mem hm] at h1;omega
  ·have:=yM (n:=n) hn fun x hx=>by
    have h2:=h x hx
    have:x≠n:=fun e=>hm (e▸hx)
    omega
   omega
structure Seen (ps:List (ah×Nat)) (s i:Nat) (sn:List Nat) (L:List ah):Prop where
 len:sn.length=i
 one:sn.Nodup
 lt:∀ j ∈ sn,j<ps.length
 le:L.length≤i
 all:∀ q,q ∈ L↔∃ j ∈ sn,ps[j]?=some (q,s)
theorem Seen.start (ps:List (ah×Nat)) (s:Nat):Seen ps s 0 [] []:=⟨rfl,by simp,by simp,by simp,by simp⟩
theorem Seen.less {ps:List (ah×Nat)} {s i j:Nat} {sn:List Nat} {L:List ah} (h:Seen ps s i sn L) (hj:j<ps.length) (hn:j ∉ sn):i<ps.length:=by
 have:=yM (n:=ps.length) (l:=j::sn) (List.nodup_cons.2 ⟨hn,h.one⟩) fun x hx=>by
  rcases List.mem_cons.1 hx with rfl | hx
  ·exact hj
  ·exact h.lt x hx
 simp [h.len] at this;omega
theorem Seen.yes {ps:List (ah×Nat)} {s i j:Nat} {sn:List Nat} {L:List ah} {q:ah} (h:Seen ps s i sn L) (hn:j ∉ sn) (hq:ps[j]?=some (q,s)):Seen ps s (i+1) (sn++[j]) (L++[q]):=by
 refine ⟨by simp [h.len],?_,fun x hx=>?_,by have:=h.le;simp;omega,fun q'=>?_⟩
 ·rw [List.nodup_append];exact ⟨h.one,by simp,fun a ha b hb e=>by simp at hb;subst hb e;exact hn ha⟩
 ·rcases List.mem_append.1 hx with hx | hx
  ·exact h.lt x hx
  ·simp at hx;subst hx;exact (List.getElem?_eq_some_iff.1 hq).1
 ·rw [List.mem_append,h.all,List.mem_singleton]
  constructor
  ·rintro (⟨j',h1,h2⟩ | rfl)
   ·exact ⟨j',List.mem_append_left _ h1,h2⟩
   ·exact ⟨j,List.mem_append_right _ List.mem_cons_self,hq⟩
  ·rintro ⟨j',h1,h2⟩
   rcases List.mem_append.1 h1 with h1 | h1
   ·exact Or.inl ⟨j',h1,h2⟩
   ·simp at h1;subst h1;rw [hq] at h2;cases h2;exact Or.inr rfl
theorem Seen.no {ps:List (ah×Nat)} {s i j d:Nat} {sn:List Nat} {L:List ah} {q:ah} (h:Seen ps s i sn L) (hn:j ∉ sn) (hq:ps[j]?=some (q,d)) (hd:d≠s):Seen ps s (i+1) (sn++[j]) L:=by
 refine ⟨by simp [h.len],?_,fun x hx=>?_,by have:=h.le;omega,fun q'=>?_⟩
 ·rw [List.nodup_append];exact ⟨h.one,by simp,fun a ha b hb e=>by simp at hb;subst hb e;exact hn ha⟩
 ·rcases List.mem_append.1 hx with hx | hx
  ·exact h.lt x hx
  ·simp at hx;subst hx;exact (List.getElem?_eq_some_iff.1 hq).1
 ·rw [h.all]
  constructor
  ·rintro ⟨j',h1,h2⟩;exact ⟨j',List.mem_append_left _ h1,h2⟩
  ·rintro ⟨j',h1,h2⟩
   rcases List.mem_append.1 h1 with h1 | h1
   ·exact ⟨j',h1,h2⟩
   ·simp at h1;subst h1;rw [hq] at h2;cases h2;exact absurd rfl hd
theorem Seen.end {ps:List (ah×Nat)} {s i:Nat} {sn:List Nat} {L:List ah} (h:Seen ps s i sn L) (ha:∀ e ∈ cw ps,e.1 ∈ sn):∀ q,q ∈ L↔(q,s) ∈ ps:=by
 intro q
 rw [h.all]
 constructor
 ·rintro ⟨j,-,h⟩;exact List.mem_of_getElem? h
 ·intro hq
  obtain ⟨j,hj,e⟩:=List.getElem_of_mem hq
  have e1:ps[j]?=some (q,s):=by rw [List.getElem?_eq_getElem hj,e]
  exact ⟨j,ha _ (List.mem_of_getElem? (zn e1)),e1⟩
end Go.Proofs.YtlinpknagdgphaaGreat
