/-
  scriptBack_card, part 3 of 6: merged by program from the texts that it needs.
-/
import Derived.Test.YtcnpikbbmbombaaDoorSbB
set_option linter.unusedSimpArgs false
set_option linter.unusedVariables false
set_option linter.unnecessarySimpa false
namespace Go.Proofs.YtcnpikbbmbombaaDoor
open Go.RowKit
def B4 (w:World) (K:World→Prop) (x:DV):Ending→World→Prop:=Ct w fun r H=>∃ Ho Hi,H=Ho++Hi∧bI (fun w=>K w∧Holds w Hi) x r Ho
abbrev o7 (w:World) (K:World→Prop) (x:DV):e7:=.ends (B4 w K x)
def gQ:List AV→Nat→List (Nat×AV)
 | [],_=>[]
 | v::r,i=>(i,v)::gQ r (i+1)
theorem p4:∀ (vs:List AV) (i:Nat) (x:Nat×AV),x ∈ gQ vs i→i≤x.1∧vs[x.1-i]?=some x.2:=by
 intro vs
 induction vs with
 | nil=>intro i x hx;simp [gQ] at hx
 | cons v r ih=>
  intro i x hx
  simp only [gQ,List.mem_cons] at hx
  rcases hx with e | e
  ·subst e;simp
  ·obtain ⟨h1,h2⟩:=ih (i+1) x e
   refine ⟨by omega,?_⟩
   rw [show x.1-i=(x.1-(i+1))+1 by omega];simpa using h2
variable {mk:Bool} {P:Program} {T:aJ} {cl:fq} {f:FuncId} {R:e7} {a:Act} {w:World} {D:List Nat} {w0:World} {K0:World→Prop} {E:List (Nat×AV)} {M:List aj} {β:Beta} {F:Nat→ak} {I X:ak} {sz:Nat} {tb:dj} {todo todo':List Item}
theorem aB.intro {fn:Func} {c:Code} {args:List AV} {x:DV} (jY:gG P f=true) (hf:P.funcs[f]?=some fn) (hb:fn.body=some c) (n:Nat) (hn:fn.ntmps=n) (hle:Nat.ble args.length n=true)
  (h:∀ (w0:World) (K:World→Prop) (a:Act),(∀ w,Kp [] w0 w→K w)→dz [] w0 K n (gQ args 0) [] a w0→aD P f [.code c] (o7 w0 K x) a w0):aB P f args x:=by
 refine ⟨jY,fun w K ys hK hl hr=>?_⟩
 have hle:=Nat.le_of_ble_eq_true hle
 refine pR hf hb (h w K _ (fun w' k=>hK w' k.sI) ⟨by simp;omega,[],rfl,[],fun _=>[],⟨rfl,by simp,by simpa using St.none w⟩,?_⟩)
 intro t v hv
 obtain ⟨y,rfl,rfl,hy⟩:∃ y:Nat×AV,y.1=t∧y.2=v∧y ∈ gQ args 0:=⟨(t,v),rfl,rfl,lP hv⟩
 obtain ⟨-,h2⟩:=p4 args 0 y hy
 simp only [Nat.sub_zero] at h2
 obtain ⟨aI,-⟩:=List.getElem?_eq_some_iff.1 h2
 have iJ:ys[y.1]?=some ys[y.1]:=List.getElem?_eq_getElem (by omega)
 have he:({ tmps:=ys.toArray++Array.replicate (fn.ntmps-ys.toArray.size) undef,defers:=[] }:Act).eval (.tmp y.1)=ys[y.1]:=by
  have:y.1<ys.length:=by omega
  simp [Act.eval,Array.getD_eq_getD_getElem?,Array.getElem?_append,this]
 rw [he]
 exact (hr y.1 y.2 _ h2 iJ).mono (fun w hw=>hw.1) (Ext.refl _)
def iC (T:aJ) (E:List (Nat×AV)) (M:List aj):List ResultVar→Option (List AV)
 | []=>some []
 | .tmp t::r=>(match bS E t,iC T E M r with | some v,some l=>some (v::l) | _,_=>none)
 | .cell t ty::r=>(match bS E t,iC T E M r with
  | some (.pt u o),some l=>(match M[u]? with | some (.bx _ cells)=>(match kD T ty cells o with | some v=>some (v::l) | none=>none) | _=>none)
  | _,_=>none)
theorem oC (hT:aU P T=true) (R:RM D w0 K0 M β F I w) (hs:∀ t v,bS E t=some v→au (fun w=>K0 w∧Holds w I) β v (a.eval (.tmp t))):∀ {rs:List ResultVar} {l:List AV},iC T E M rs=some l→∃ ys,qp P w a rs ys∧ys.length=l.length∧∀ (j:Nat) c y,l[j]?=some c→ys[j]?=some y→au (fun w=>K0 w∧Holds w I) β c y
 | [],l,h=>by simp only [iC,Option.some.injEq] at h;subst h;exact ⟨[],trivial,rfl,by simp⟩
 | .tmp t::r,l,h=>by
  unfold iC at h
  split at h
  ·rename_i v l' h1 h2
   simp only [Option.some.injEq] at h;subst h
   obtain ⟨ys,e1,e2,e3⟩:=oC hT R hs h2
   refine ⟨a.eval (.tmp t)::ys,⟨rfl,e1⟩,by simp [e2],?_⟩
   intro j c y h3 h4
   cases j with
   | zero=>simp at h3 h4;subst h3 h4;exact hs _ _ h1
   | succ j=>simp at h3 h4;exact e3 j c y h3 h4
  ·simp at h
 | .cell t ty::r,l,h=>by
  unfold iC at h
  split at h
  ·rename_i u o l' h1 h2
   split at h
   ·rename_i T0 cells hM
    split at h
    ·rename_i v jg
     simp only [Option.some.injEq] at h;subst h
     obtain ⟨ys,e1,e2,e3⟩:=oC hT R hs h2
     have hr:=hs _ _ h1
     generalize hy:a.eval (.tmp t)=y0 at hr
     cases hr with
     | pt hb=>
      obtain ⟨H,hF,hB,hH⟩:=R.at hM
      cases hB with
      | bx aN zs hl hr=>
       rw [hb] at aN;cases aN
       obtain ⟨y',g1,g2⟩:=oL (d:=none) (ty:=0) (pos := "") (aft:=#[]) (gd:=none) hT (x:=.tmp t) (ρ:=a.eval) (a:=⟨_,0,none⟩) (R:=au (fun w=>K0 w∧Holds w I) β) (fun l ys=>au.ag ys) jg (hy.trans (by rw [add_eq,Nat.zero_add])) hl hr
       have g3:=g2 w fun j z hj=>by rw [add_eq,cell_of hH.one,Nat.zero_add];simpa using hj
       refine ⟨y'::ys,⟨⟨_,hy,?_⟩,e1⟩,by simp [e2],?_⟩
       ·simp only [execOp,hy,Sem.run_bind,Instr.loadAt,Instr.sureAddr] at g3
        cases hv:(loadVar ty _).run P w with
        | ok q w'=>rw [Sem.run_pure,Result.andThen_ok,hv] at g3;simp at g3;obtain ⟨rfl,rfl⟩:=g3;rfl
        | halt q w'=>rw [Sem.run_pure,Result.andThen_ok,hv] at g3;simp [Result.andThen] at g3
       ·intro j c y h3 h4
        cases j with
        | zero=>simp at h3 h4;subst h3 h4;exact g1
        | succ j=>simp at h3 h4;exact e3 j c y h3 h4
    ·simp at h
   ·simp at h
  ·simp at h
def o8:List DV→DV
 | [x]=>x
 | l=>.tu l
theorem back (hT:aU P T=true) {fn:Func} (hf:P.funcs[f]?=some fn) (r:dz [] w0 K0 sz E M a w) {l:List AV} {vc:List Prop} {xs:List DV} {M':List aj} {x:DV} (h1:iC T E M fn.results.toList=some l) (h2:kU M l=some (vc,xs,M')) (hv:aX vc) (hx:o8 xs=x):
  ∃ v,(results fn a.tmps).run P w=.ok v w∧B4 w0 K0 x (.returned v) w:=by
 obtain ⟨-,I,-,β,F,Rm,hs⟩:=r
 obtain ⟨ys,e1,e2,e3⟩:=oC hT Rm hs h1
 obtain ⟨F',H,R',d⟩:=zC Rm.x h2 hv e2 e3
 refine ⟨_,sa rfl e1,_,rfl,R'.st.kp.sI,H++I,⟨H,I,rfl,?_⟩,?_⟩
 ·subst hx
  have hl:=d.len
  cases d with
  | nil=>exact .tu [] (fun _=>[]) rfl (by simp)
  | cons h r=>
   cases r with
   | nil=>simpa [o8] using h
   | cons h' r'=>
    have dd:=fu.cons h (fu.cons h' r')
    obtain ⟨F2,hF,hG⟩:=dd.to
    rw [hF]
    exact .tu _ F2 dd.len hG
 ·have:=R'.st.lO
  exact (this.perm (by classical rw [List.perm_iff_count];intro z;simp only [List.count_append,List.count_nil];omega)).Mh
theorem Ha (hT:aU P T=true) {fn:Func} (hf:P.funcs[f]?=some fn) {k:List Item} (r:dz [] w0 K0 sz E M a w) {l:List AV} {vc:List Prop} {xs:List DV} {M':List aj} {x:DV} (h1:iC T E M fn.results.toList=some l) (h2:kU M l=some (vc,xs,M')) (hv:aX vc) (hx:o8 xs=x):aD P f (.code .ret::k) (o7 w0 K0 x) a w:=
 let ⟨_,h3,h4⟩:=back hT hf r h1 h2 hv hx
 aD.ret hf (ch.np r) h3 h4
theorem Hb (hT:aU P T=true) {fn:Func} (hf:P.funcs[f]?=some fn) (r:dz [] w0 K0 sz E M a w) {l:List AV} {vc:List Prop} {xs:List DV} {M':List aj} {x:DV} (h1:iC T E M fn.results.toList=some l) (h2:kU M l=some (vc,xs,M')) (hv:aX vc) (hx:o8 xs=x):aD P f [] (o7 w0 K0 x) a w:=
 let ⟨_,h3,h4⟩:=back hT hf r h1 h2 hv hx
 aD.fin hf (ch.np r) h3 h4
def xN:List AV→AV
 | [v]=>v
 | l=>.tu l
def nz (T:aJ) (rs:List ResultVar) (s:RS):Option Out:=
 match iC T s.E s.M rs with
 | some l=>some ⟨s.vc,xN l,s.M,s.tc,s.mv,none⟩
 | none=>none
def qK:List Item→Option LS
 | []=>some .ready
 | .code .ret::_=>some .left
 | _=>none
theorem D9 {l:Nat} {tmps:Array Value} {cR body c2:Code} {Φ:Value→World→Prop} {k2:List Item} {s2:LS} (eM:qK k2=some s2)
  (h:aD P f [.code cR,.beginRound,.code body] (.arr l [.beginRound,.code c2] fun a1 w1=>∃ w2,(Instr.beginRound l).run P w1=.ok () w2∧aD P f [.code c2] (.arr l k2 fun _ w3=>∃ v w4,(Instr.endRound l s2.j1).run P w3=.ok v w4∧Φ v w4) a1 w2) { tmps:=tmps,defers:=[] } w):
  RoundIn Fence.wide 0 P l f tmps cR body w fun e w'=>∃ v,e=.returned v∧Φ v w':=by
 refine ⟨trivial,fun c cs hr=>?_⟩
 let b:Frame:={ (default:Frame) with fn:=f,kind:=.normal,roundOf:=some l }
 have dX:Frame.round l f tmps cR body .normal=b.atR { tmps:=tmps,defers:=[] } [.code cR,.beginRound,.code body]:=by simp [Frame.round,Frame.atR,b]
 obtain ⟨a1,w1,⟨w2,NB,hg⟩,st⟩:=h b (c::cs) rfl rfl rfl
 obtain ⟨a2,w3,⟨v,w4,tf,aC⟩,NC⟩:=hg b (c::cs) rfl rfl rfl
 have s1:Steps P (lone (b.atR a1 [.beginRound,.code c2]) (c::cs) w1) (lone (b.atR a1 [.code c2]) (c::cs) w2):=.one (stepR_beginRound rfl NB)
 have s3:Steps P (lone (b.atR a2 k2) (c::cs) w3) (lone (c.finish v) cs w4):=by
  unfold qK at eM
  split at eM
  ·simp only [Option.some.injEq] at eM;subst eM;exact .one (stepR_round_end rfl rfl tf)
  ·simp only [Option.some.injEq] at eM;subst eM;exact .one (stepR_round_ret rfl rfl tf)
  ·simp at eM
 rw [dX]
 exact ⟨.returned v,w4,⟨v,rfl,aC⟩,stepsIn_wide.2 (((st.trans s1).trans NC).trans s3)⟩
theorem FO {l:Nat} {r:Loop} (h:w.heap[l]?=some (.loop r)) (hs:r.state=.ready):(Instr.beginRound l).run P w=.ok () (b7 w l (.loop { r with state:=.busy })):=by
 unfold Instr.beginRound Instr.getLoop
 simp only [Sem.run_bind,qc h rfl,Result.andThen_ok,Sem.run_pure,rZ h rfl,hs]
def LS.on:LS→Bool
 | .left=>false
 | _=>true
theorem Hc {l:Nat} {r:Loop} {k2:List Item} {s2:LS} (eM:qK k2=some s2) (h:w.heap[l]?=some (.loop r)):(Instr.endRound l s2.j1).run P w=.ok (.bool s2.on) (b7 w l (.loop { r with state:=s2.state,pending:=s2.j1 })):=by
 unfold Instr.endRound Instr.getLoop
 simp only [Sem.run_bind,qc h rfl,Result.andThen_ok,Sem.run_pure,rZ h rfl]
 unfold qK at eM
 split at eM
 ·simp only [Option.some.injEq] at eM;subst eM;rfl
 ·simp only [Option.some.injEq] at eM;subst eM;rfl
 ·simp at eM
def jZ:List (Tmp×Value)→Array Value→Array Value
 | [],tm=>tm
 | (t,v)::r,tm=>jZ r (tm.setIfInBounds t v)
theorem zd:∀ (l:List (Tmp×Value)) (tm:Array Value),(jZ l tm).size=tm.size
 | [],_=>rfl
 | (t,v)::r,tm=>by rw [jZ,zd r];simp
theorem tP:∀ (l:List (Tmp×Value)) (tm:Array Value) (t:Nat),t ∉ l.map (·.1)→(jZ l tm).getD t undef=tm.getD t undef
 | [],_,_,_=>rfl
 | (s,v)::r,tm,t,h=>by
  simp only [List.map_cons,List.mem_cons,not_or] at h
  rw [jZ,tP r _ t h.2]
  simp only [Array.getD_eq_getD_getElem?,Array.getElem?_setIfInBounds]
  rw [if_neg (fun e=>h.1 e.symm)]
theorem Ag:∀ (l:List (Tmp×Value)) (tm:Array Value) (t:Nat) (v:Value),(l.map (·.1)).Nodup→(∀ x ∈ l,x.1<tm.size)→(t,v) ∈ l→(jZ l tm).getD t undef=v
 | (s,u)::r,tm,t,v,hn,aI,h=>by
  simp only [List.map_cons,List.nodup_cons] at hn
  rw [jZ]
  rcases List.mem_cons.1 h with e | h
  ·cases e
   rw [tP r _ _ hn.1]
   have hs:=aI (s,u) (by simp)
   simp only at hs
   simp [Array.getD_eq_getD_getElem?,hs]
  ·exact Ag r _ t v hn.2 (fun x hx=>by simpa using aI x (List.mem_cons_of_mem _ hx)) h
def vT (P:Program) (T:aJ) (cl:fq) (n:Nat) (tb:dj) (u:Nat) (args:List AV) (M:List aj):Option Out:=
 match M[u]? with
 | some (.lp .ready f sz E rf)=>bif args.length.beq rf.ps.toList.length&&rf.ps.toList.all (·.blt sz)&&nodupB rf.ps.toList then
  (match dr P T cl sz tb n [.code rf.cR,.beginRound,.code rf.body] ⟨[],rf.ps.toList.zip args++E,M,[],[]⟩ with
  | some ([.beginRound,.code c2],s1)=>(match s1.M[u]? with
   | some (.lp .ready f2 pr E2 ka)=>bif f2.beq f&&!(s1.mv.elem u) then (match dr P T cl sz tb n [.code c2] ⟨s1.vc,s1.E,s1.M.set u (.lp .busy f2 pr E2 ka),u::s1.tc,s1.mv⟩ with
    | some (k2,s2)=>(match qK k2,s2.M[u]? with
     | some ls,some (.lp .busy f3 tH E3 pv)=>bif !(s2.mv.elem u) then some ⟨s2.vc,.d (.v (.bool ls.on)),s2.M.set u (.lp ls f3 tH E3 pv),u::s2.tc,s2.mv,none⟩ else none
     | _,_=>none)
    | _=>none) else none
   | _=>none)
  | _=>none) else none
 | _=>none
def walk (P:Program) (T:aJ):Nat→fq
 | 0=>fun _ _ _ _=>none
 | d+1=>fun c args M o=>match c,o with
  | .yl u,.bG n tb=>vT P T (walk P T d) n tb u args M
  | .fn f,.bG n tb=>(bif gG P f then (match P.funcs[f]? with
   | some fn=>(bif Nat.ble args.length fn.ntmps then (match fn.body with
    | some c=>(match dr P T (walk P T d) fn.ntmps tb n [.code c] ⟨[],gQ args 0,M,[],[]⟩ with
     | some (.code .ret::_,s)=>nz T fn.results.toList s
     | some ([],s)=>nz T fn.results.toList s
     | _=>none)
    | none=>none) else none)
   | none=>none) else none)
  | _,_=>none
theorem IB (hT:aU P T=true) {fn:Func} {s:RS} {out:Out} (h:nz T fn.results.toList s=some out) {b:et} (r:c7 mk D w0 K0 sz b s a w):
  out.vc=s.vc∧out.rd=none∧∃ v,(results fn a.tmps).run P w=.ok v w∧∃ ax F' I',RM D w0 K0 out.M ax F' I' w∧fO out.mv b.β ax∧bK b.I I'∧(∀ u,u<b.m→u ∉ out.tc→F' u=b.F u)∧au (fun w=>K0 w∧Holds w I') ax out.av v:=by
 unfold nz at h
 split at h
 ·rename_i l hl
  simp only [Option.some.injEq] at h;subst h
  obtain ⟨-,I,-,-,β,F,Rm,b4,hs⟩:=r
  obtain ⟨ys,e1,e2,e3⟩:=oC hT Rm hs hl
  refine ⟨rfl,rfl,_,sa rfl e1,β,F,I,Rm,b4.1,b4.2.1,b4.2.2,?_⟩
  match ys,l,e2,e3 with
  | [],[],_,_=>exact .tu [] rfl (by simp)
  | [y],[v],_,e3=>exact e3 0 v y rfl rfl
  | y::y'::ys,v::v'::l,e2,e3=>exact .tu _ e2 e3
 ·simp at h
theorem yM:∀ {A E:List (Nat×AV)} {t:Nat} {v:AV},bS (A++E) t=some v→t ∈ A.map (·.1)→(t,v) ∈ A
 | [],_,_,_,_,h=>by simp at h
 | (k,u)::r,E,t,v,h,hm=>by
  rw [List.cons_append] at h
  unfold bS at h
  cases hk:k.beq t with
  | true=>simp only [hk,cond_true,Option.some.injEq] at h;subst h;rw [Nat.eq_of_beq_eq_true hk];exact List.mem_cons_self
  | false=>
   simp only [hk,cond_false] at h
   refine List.mem_cons_of_mem _ (yM h ?_)
   rcases List.mem_cons.1 hm with e | e
   ·exfalso;simp only at e;rw [e] at hk;simp at hk
   ·exact e
theorem ER {ps:List Nat} {args:List AV} {ys:List Value} {t:Nat} {v:AV} (h:(t,v) ∈ ps.zip args) (hl:ys.length=args.length) (hr:∀ (j:Nat) c y,args[j]?=some c→ys[j]?=some y→au (fun w=>K0 w∧Holds w I) β c y):∃ y,(t,y) ∈ ps.zip ys∧au (fun w=>K0 w∧Holds w I) β v y:=by
 obtain ⟨j,hj,e⟩:=List.getElem_of_mem h
 have h1:(ps.zip args)[j]?=some (t,v):=by rw [List.getElem?_eq_getElem hj,e]
 obtain ⟨a1,a2⟩:=List.getElem?_zip_eq_some.1 h1
 have aI:=(List.getElem?_eq_some_iff.1 a2).1
 have hy:ys[j]?=some ys[j]:=List.getElem?_eq_getElem (by omega)
 exact ⟨ys[j],List.mem_of_getElem? (List.getElem?_zip_eq_some.2 ⟨a1,hy⟩),hr j v _ a2 hy⟩
theorem yV:∀ (l:List (Tmp×Value)) (tm:Array Value),l.foldl (fun tmps (x:Tmp×Value)=>tmps.setIfInBounds x.1 x.2) tm=jZ l tm
 | [],_=>rfl
 | (t,v)::r,tm=>by rw [List.foldl_cons,yV r];rfl
theorem FP (hT:aU P T=true) (hm:P.follows .mixedOrders=true) (cu:jf P cl) {n:Nat} {tb:dj} {u:Nat} {args:List AV} {M:List aj} {out:Out} (h:vT P T cl n tb u args M=some out):out.rd=none∧A0 P u args M out:=by
 unfold vT at h
 split at h
 rotate_left
 ·simp at h
 rename_i f sz E rf hM
 cases hc:(args.length.beq rf.ps.toList.length&&rf.ps.toList.all (·.blt sz)&&nodupB rf.ps.toList) with
 | false=>simp only [hc,cond_false,reduceCtorEq] at h
 | true=>
  simp only [hc,cond_true] at h
  simp only [Bool.and_eq_true] at hc
  obtain ⟨⟨nN,qW⟩,ND⟩:=hc
  have nN:=Nat.eq_of_beq_eq_true nN
  split at h
  rotate_left
  ·simp at h
  rename_i c2 s1 NF
  split at h
  rotate_left
  ·simp at h
  rename_i f2 pr E2 ka tI
  cases hf:(f2.beq f&&!(s1.mv.elem u)) with
  | false=>simp only [hf,cond_false,reduceCtorEq] at h
  | true=>
   simp only [hf,cond_true] at h
   simp only [Bool.and_eq_true,Bool.not_eq_true'] at hf
   obtain ⟨NG,Mz⟩:=hf
   obtain rfl:=Nat.eq_of_beq_eq_true NG
   split at h
   rotate_left
   ·simp at h
   rename_i k2 s2 jG
   split at h
   rotate_left
   ·simp at h
   rename_i ls f3 tH E3 pv eM mI
   cases xO:(!(s2.mv.elem u)) with
   | false=>simp only [xO,cond_false,reduceCtorEq] at h
   | true=>
    simp only [xO,cond_true,Option.some.injEq] at h;subst h
    refine ⟨rfl,?_⟩
    intro D w0 K0 β F I w ys l c Rm hK hv hl lb rC
    have dP:aX s1.vc:=A3 n [.code c2] ⟨s1.vc,s1.E,s1.M.set u (.lp .busy f2 pr E2 ka),u::s1.tc,s1.mv⟩ jG hv
    obtain ⟨H,hF,hB,hH⟩:=Rm.at hM
    cases hB with
    | @lp b0 cc f0 NH nF bz E0 NI tmps hb bp hr=>
     rw [rC] at hb;cases hb
     have Lb:=hH.one
     have hlen:rf.ps.size=ys.toArray.size:=by
      have e:rf.ps.toList.length=rf.ps.size:=Array.length_toList
      have e2:ys.toArray.size=ys.length:=by simp
      omega
     have hy:(Instr.yield l ys.toArray).run P w=.ok (.round l f2 ((rf.ps.zip ys.toArray).foldl (fun tmps (x:Tmp×Value)=>tmps.setIfInBounds x.1 x.2) tmps) rf.cR rf.body) w:=by
      unfold Instr.yield Instr.getLoop
      simp only [Sem.run_bind,qc Lb rfl,Result.andThen_ok,Sem.run_pure]
      rw [if_neg (by simp [hlen])]
      rfl
     refine ⟨f2,_,rf.cR,rf.body,hy,?_⟩
     have Lc:(rf.ps.zip ys.toArray).foldl (fun tmps (x:Tmp×Value)=>tmps.setIfInBounds x.1 x.2) tmps=jZ (rf.ps.toList.zip ys) tmps:=by
      rw [← yV,← Array.foldl_toList];simp
     rw [Lc]
     have wY:(rf.ps.toList.zip ys).map (·.1)=rf.ps.toList:=List.map_fst_zip (by rw [hl,nN];exact Nat.le_refl _)
     have r0:c7 false D w0 K0 sz ⟨β,F,I,M.length⟩ ⟨[],rf.ps.toList.zip args++E,M,[],[]⟩ { tmps:=jZ (rf.ps.toList.zip ys) tmps,defers:=[] } w:=by
      refine ⟨by rw [zd,bp],I,rfl,Nat.le_refl _,β,F,Rm,⟨fun _ _ _ h=>h,bK.refl _,fun _ _ _=>rfl⟩,?_⟩
      intro t v gq
      have Cy:=lP gq
      show au _ β v ((jZ (rf.ps.toList.zip ys) tmps).getD t undef)
      by_cases ht:t ∈ rf.ps.toList
      ·have hz:(t,v) ∈ rf.ps.toList.zip args:=by
        rcases List.mem_append.1 Cy with h1 | h1
        ·exact h1
        ·exact yM gq (by
          rw [List.map_fst_zip (by omega)];exact ht)
       obtain ⟨y,NJ,yA⟩:=ER hz hl lb
       rw [Ag _ _ t y (by rw [wY];exact oe ND) (fun x hx=>by
        have:x.1 ∈ rf.ps.toList:=by rw [← wY];exact List.mem_map_of_mem hx
        have:=List.all_eq_true.1 qW _ this
        rw [bp];simpa [Nat.blt_eq] using this) NJ]
       exact yA
      ·rcases List.mem_append.1 Cy with h1 | h1
       ·exact absurd (by have:=List.mem_map_of_mem (f:=fun x:Nat×AV=>x.1) h1;rwa [List.map_fst_zip (by omega)] at this) ht
       ·rw [tP _ _ _ (by rw [wY];exact ht)]
        exact hr (t,v) h1
     refine D9 (c2:=c2) eM (kA hT cu hm hK n NF r0 dP fun a1 w1 r1=>aD.Br ?_)
     obtain ⟨z1,I1,z2,z3,pQ,F1,Dq,tJ,nV⟩:=r1
     obtain ⟨H1,qX,NK,NL⟩:=Dq.at tI
     have Dr:pQ[u]?=some (some ⟨l,0,none⟩,c):=tJ.1 u _ (by simpa using Mz) rC
     cases NK with
     | @lp b1 OX f1 OY Cz OZ E1 O0 B5 fw MA MB=>
      rw [Dr] at fw;cases fw
      refine ⟨_,FO NL.one rfl,?_⟩
      have MC:=Dq.set tI qX (o':=.loop { state:=.busy,pending:=none,fn:=f2,tmps:=B5,params:=ka.ps,assign:=ka.cR,body:=ka.body,defers:=Cz }) (blk':=.lp .busy f2 pr E2 ka) (.lp (bz:=.busy) (sz:=pr) Dr MA MB)
      have NM:c7 false D w0 K0 sz ⟨β,F,I,M.length⟩ ⟨s1.vc,s1.E,s1.M.set u (.lp .busy f2 pr E2 ka),u::s1.tc,s1.mv⟩ a1 (b7 w1 l (.loop { state:=.busy,pending:=none,fn:=f2,tmps:=B5,params:=ka.ps,assign:=ka.cR,body:=ka.body,defers:=Cz })):=by
       refine ⟨z1,I1,z2,by rw [List.length_set];exact z3,pQ,_,MC,⟨tJ.1,tJ.2.1,fun v gq hn=>?_⟩,nV⟩
       simp only [List.mem_cons,not_or] at hn
       simp only [aG];rw [if_neg hn.1];exact tJ.2.2 v gq hn.2
      refine kA hT cu hm hK n jG NM hv fun a2 w2 r2=>aD.Br ?_
      obtain ⟨y1,I2,y2,y3,iP,F2,Ds,tK,jD⟩:=r2
      obtain ⟨H2,kE,NN,qT⟩:=Ds.at mI
      have Dt:iP[u]?=some (some ⟨l,0,none⟩,c):=tK.1 u _ (by simpa using xO) rC
      cases NN with
      | @lp b2 O1 O2 OF MD O3 O4 OG Ld hC sY CA=>
       rw [Dt] at hC;cases hC
       have ME:=Ds.set mI kE (o':=.loop { state:=ls.state,pending:=ls.j1,fn:=f3,tmps:=Ld,params:=pv.ps,assign:=pv.cR,body:=pv.body,defers:=MD }) (blk':=.lp ls f3 tH E3 pv) (.lp (bz:=ls) (sz:=tH) Dt sY CA)
       refine ⟨_,_,Hc eM qT.one,iP,_,I2,ME,tK.1,tK.2.1,fun v gq hn=>?_,.d (.v _)⟩
       simp only [List.mem_cons,not_or] at hn
       simp only [aG];rw [if_neg hn.1];exact tK.2.2 v gq hn.2
theorem ir (hT:aU P T=true) (hm:P.follows .mixedOrders=true):∀ d,jf P (walk P T d):=by
 intro d
 induction d with
 | zero=>intro f args M o out h;simp [walk] at h
 | succ d ih=>
  intro f args M o out h
  unfold walk at h
  split at h
  ·exact FP hT hm ih h
  ·rename_i f n tb
   cases hc:gG P f with
   | false=>simp [hc] at h
   | true=>
    simp only [hc,cond_true] at h
    split at h
    ·rename_i fn hf
     cases hb:Nat.ble args.length fn.ntmps with
     | false=>simp [hb] at h
     | true=>
      simp only [hb,cond_true] at h
      have hle:=Nat.le_of_ble_eq_true hb
      split at h
      ·rename_i c Lf
       have key:∀ {todo':List Item} {s:RS},dr P T (walk P T d) fn.ntmps tb n [.code c] ⟨[],gQ args 0,M,[],[]⟩=some (todo',s)→nz T fn.results.toList s=some out→(todo'=[]∨∃ k,todo'=.code .ret::k)→out.rd=none∧Bp P f args M out:=by
        intro todo' s hr he Lg
        have dO:out.rd=none:=by
         unfold nz at he
         split at he
         ·simp only [Option.some.injEq] at he;subst he;rfl
         ·simp at he
        refine ⟨dO,hc,?_⟩
        intro D w0 K0 β F I w ys Rm hK hv hl lb
        have qZ:aX s.vc:=by
         unfold nz at he
         split at he
         ·simp only [Option.some.injEq] at he;subst he;exact hv
         ·simp at he
        refine pR hf Lf ?_
        have r0:c7 false D w0 K0 fn.ntmps ⟨β,F,I,M.length⟩ ⟨[],gQ args 0,M,[],[]⟩ { tmps:=ys.toArray++Array.replicate (fn.ntmps-ys.toArray.size) undef,defers:=[] } w:=by
         refine ⟨by simp;omega,I,rfl,Nat.le_refl _,β,F,Rm,⟨fun _ _ _ h=>h,bK.refl _,fun _ _ _=>rfl⟩,?_⟩
         intro t v gq
         obtain ⟨-,h2⟩:=p4 args 0 (t,v) (lP gq)
         simp only [Nat.sub_zero] at h2
         obtain ⟨aI,-⟩:=List.getElem?_eq_some_iff.1 h2
         have iJ:ys[t]?=some ys[t]:=List.getElem?_eq_getElem (by omega)
         have he:({ tmps:=ys.toArray++Array.replicate (fn.ntmps-ys.toArray.size) undef,defers:=[] }:Act).eval (.tmp t)=ys[t]:=by
          have:t<ys.length:=by omega
          simp [Act.eval,Array.getD_eq_getD_getElem?,Array.getElem?_append,this]
         rw [he]
         exact lb t v _ h2 iJ
        refine kA hT ih hm hK n hr r0 qZ fun a' w' r'=>?_
        obtain ⟨-,-,v,h3,h4⟩:=IB hT he r'
        rcases Lg with rfl | ⟨k,rfl⟩
        ·exact aD.fin hf (c7.np r') h3 ⟨v,rfl,h4⟩
        ·exact aD.ret hf (c7.np r') h3 ⟨v,rfl,h4⟩
       split at h
       ·rename_i k s hr;exact key hr h (Or.inr ⟨k,rfl⟩)
       ·rename_i s hr;exact key hr h (Or.inl rfl)
       ·simp at h
      ·simp at h
    ·simp at h
  ·simp at h
def wZ (T:aJ) (E:List (Nat×AV)) (M:List aj) (rs:List ResultVar) (x:DV):Prop:=∃ l vc xs M',iC T E M rs=some l∧kU M l=some (vc,xs,M')∧aX vc∧o8 xs=x
theorem ret (hT:aU P T=true) {fn:Func} (hf:P.funcs[f]?=some fn) {k:List Item} {x:DV} (r:dz [] w0 K0 sz E M a w) (h:wZ T E M fn.results.toList x):aD P f (.code .ret::k) (o7 w0 K0 x) a w:=
 let ⟨_,_,_,_,h1,h2,h3,h4⟩:=h
 Ha hT hf r h1 h2 h3 h4
theorem fin (hT:aU P T=true) {fn:Func} (hf:P.funcs[f]?=some fn) {x:DV} (r:dz [] w0 K0 sz E M a w) (h:wZ T E M fn.results.toList x):aD P f [] (o7 w0 K0 x) a w:=
 let ⟨_,_,_,_,h1,h2,h3,h4⟩:=h
 Hb hT hf r h1 h2 h3 h4
theorem aB.empty {k:Nat} {x:DV} {pre post:List AV} (h:∀ a c,aB P f (pre++.d (.v (.slice a 0 c))::post) x):aB P f (pre++.d (.ro k [])::post) x:=by
 refine ⟨(h none 0).1,fun w K ys hK hl hr=>?_⟩
 have hy:∃ a c,ys[pre.length]?=some (.slice a 0 c):=by
  have aI:pre.length<ys.length:=by rw [hl];simp
  have h1:=hr pre.length _ _ (by rw [List.getElem?_append_right (Nat.le_refl _),Nat.sub_self];rfl) (List.getElem?_eq_getElem aI)
  rw [List.getElem?_eq_getElem aI]
  generalize ys[pre.length]=y at h1
  cases h1 with | d h1=>cases h1 with | ro X hl hy hs hr=>obtain ⟨a,c,rfl,-⟩:=hy;exact ⟨a,c,rfl⟩
 obtain ⟨a,c,hy⟩:=hy
 refine (h a c).2 w K ys hK (by rw [hl];simp) fun j v y h1 h2=>?_
 rcases Nat.lt_trichotomy j pre.length with hj | hj | hj
 ·rw [List.getElem?_append_left hj] at h1
  exact hr j v y (by rw [List.getElem?_append_left hj];exact h1) h2
 ·subst hj
  rw [List.getElem?_append_right (Nat.le_refl _),Nat.sub_self] at h1
  simp only [List.getElem?_cons_zero,Option.some.injEq] at h1;subst h1
  rw [hy,Option.some.injEq] at h2;subst h2
  exact .d (.v _)
 ·rw [List.getElem?_append_right (by omega)] at h1
  have e:j-pre.length=(j-pre.length-1)+1:=by omega
  rw [e,List.getElem?_cons_succ] at h1
  exact hr j v y (by rw [List.getElem?_append_right (by omega),e,List.getElem?_cons_succ];exact h1) h2
theorem aB.nil {args:List AV} (T k:Nat) (h:aB P f args (.v (.slice none 0 0))):aB P f args (.em T k []):=by
 refine ⟨h.1,fun w K ys hK hl hr=>(h.2 w K ys hK hl hr).mono ?_⟩
 rintro e w' ⟨v,rfl,g,H,⟨Ho,Hi,rfl,hd⟩,n⟩
 cases hd
 refine ⟨_,rfl,g,_,⟨[],Hi,rfl,?_⟩,n⟩
 have:=bI.em (K:=fun w=>K w∧Holds w Hi) (T:=T) (k:=k) (rows:=[]) (H0:=[]) (fun _=>[]) (fun _ _=>[]) (by simp) (by simpa [lay] using dD.nil T k none) (by simp)
 simpa [bu] using this
end Go.Proofs.YtcnpikbbmbombaaDoor
namespace Go.Proofs.YtcnpikbbmbombaaDoor
open Go.RowKit
variable {mk:Bool} {P:Program} {T:aJ} {f:FuncId} {R:e7} {a:Act} {w:World} {D:List Nat} {w0:World} {K0:World→Prop} {E:List (Nat×AV)} {M:List aj} {β:Beta} {F:Nat→ak} {I X:ak} {sz:Nat} {tb:dj} {todo todo':List Item}
def tg (T:aJ) (rs:List ResultVar) (s:RS):Option (Prop×DV):=
 match iC T s.E s.M rs with
 | some l=>(match kU s.M l with | some (vc,xs,_)=>some (aX (s.vc++vc),o8 xs) | none=>none)
 | none=>none
def Bs (P:Program) (T:aJ) (sz:Nat) (rs:List ResultVar) (tb:dj) (n:Nat) (todo:List Item) (E:List (Nat×AV)) (M:List aj):Option (Prop×DV):=
 match dr P T (walk P T 3) sz tb n todo ⟨[],E,M,[],[]⟩ with
 | some (.code .ret::_,s)=>tg T rs s
 | some ([],s)=>tg T rs s
 | _=>none
theorem A4 {rs:List ResultVar} {s:RS} {A:Prop} {x:DV} (h:tg T rs s=some (A,x)) (hA:A):aX s.vc∧wZ T s.E s.M rs x:=by
 unfold tg at h
 split at h
 ·rename_i l hl
  split at h
  ·rename_i vc xs M' hp
   simp only [Option.some.injEq,Prod.mk.injEq] at h
   obtain ⟨rfl,hx⟩:=h
   rw [aX.app] at hA
   exact ⟨hA.1,l,vc,xs,M',hl,hp,hA.2,hx⟩
  ·simp at h
 ·simp at h
theorem br (hT:aU P T=true) (hm:P.follows .mixedOrders=true) (hK:∀ w,Kp [] w0 w→K0 w) {fn:Func} (hf:P.funcs[f]?=some fn) (tb:dj) (n:Nat) {x:DV} {A:Prop} (r:dz [] w0 K0 sz E M a w)
  (h:Bs P T sz fn.results.toList tb n todo E M=some (A,x)) (hA:A):aD P f todo (o7 w0 K0 x) a w:=by
 unfold Bs at h
 split at h
 ·rename_i k s hr
  obtain ⟨h1,h2⟩:=A4 h hA
  exact nU hT (ir hT hm 3) hm hK n hr r h1 fun a' w' r'=>ret hT hf r' h2
 ·rename_i s hr
  obtain ⟨h1,h2⟩:=A4 h hA
  exact nU hT (ir hT hm 3) hm hK n hr r h1 fun a' w' r'=>fin hT hf r' h2
 ·simp at h
theorem ch.lF (r:ch mk D w0 K0 sz E M a w) {l ts:List Nat} {M':List aj} {E':List (Nat×AV)} (hn:nodupB l=true) (hM:fH l M l=some M') (hE:jd l E ts=some E'):ch mk D w0 K0 sz E' M' a w:=by
 obtain ⟨h1,I,h2,β,F,Rm,hs⟩:=r
 obtain ⟨e1,e2⟩:=qg hM
 have aI:∀ u ∈ l,u<M.length:=by
  intro u hu
  obtain ⟨i,hi,rfl⟩:=List.getElem_of_mem hu
  obtain ⟨u',b0,g1,g2,-⟩:=e2 i M'[i] (List.getElem?_eq_getElem (by omega))
  rw [List.getElem?_eq_getElem hi,Option.some.injEq] at g1
  rw [g1];exact eT g2
 obtain ⟨rest,bj⟩:=uC (oe hn) aI Rm.x
 refine ⟨h1,I,h2,eD β l,ma F l,⟨by rw [tO,e1],?_,?_⟩,u1 hs hE⟩
 ·intro i b hb
  obtain ⟨u,b0,g1,g2,g3⟩:=e2 i b hb
  rw [uD g1];exact uZ g1 g3 (Rm.blk u b0 g2)
 ·rw [e1,rX]
  have:=bj.lO
  exact this.perm (by classical rw [List.perm_iff_count];intro z;simp only [List.count_append,List.count_nil];omega)
def na:Code→List Item→List (List Item)
 | .seq x y,k=>na x (.code y::k)++na y k
 | .cond _ x y,k=>na x k++na y k
 | .block id c,k=>na c (.inBlock id::k)
 | .loop c,k=>(.code c::.inLoop c::k)::na c (.inLoop c::k)
 | _,_=>[]
def hd (fn:Func) (n:Nat):List Item:=
 match fn.body with
 | some c=>(match (na c [])[n]? with | some t=>t | none=>[])
 | none=>[]
def ks (l ts:List Nat) (t:List Item) (s:RS):Option (List Item×Prop×List (Nat×AV)×List aj):=
 match fH l s.M l,jd l s.E ts with
 | some M',some E'=>some (t,aX s.vc,E',M')
 | _,_=>none
def B6 (P:Program) (T:aJ) (sz:Nat) (tb:dj) (n:Nat) (l ts:List Nat) (todo:List Item) (E:List (Nat×AV)) (M:List aj):Option (List Item×Prop×List (Nat×AV)×List aj):=
 bif nodupB l then (match dr P T (walk P T 3) sz tb n todo ⟨[],E,M,[],[]⟩ with
 | some (.code (.loop c)::k,s)=>ks l ts (.code c::.inLoop c::k) s
 | some (.inLoop c::k,s)=>ks l ts (.code c::.inLoop c::k) s
 | _=>none) else none
theorem ou {l ts:List Nat} {t t':List Item} {s:RS} {A:Prop} {E':List (Nat×AV)} {M':List aj} (h:ks l ts t s=some (t',A,E',M')):t=t'∧aX s.vc=A∧fH l s.M l=some M'∧jd l s.E ts=some E':=by
 unfold ks at h
 split at h
 ·rename_i h1 h2
  simp only [Option.some.injEq,Prod.mk.injEq] at h
  obtain ⟨rfl,hA,rfl,rfl⟩:=h
  exact ⟨rfl,hA,h1,h2⟩
 ·simp at h
theorem cO (hT:aU P T=true) (hm:P.follows .mixedOrders=true) (hK:∀ w,Kp D w0 w→K0 w) (tb:dj) (n:Nat) (l ts:List Nat) {A:Prop} {E':List (Nat×AV)} {M':List aj} (r:ch mk D w0 K0 sz E M a w)
  (h:B6 P T sz tb n l ts todo E M=some (todo',A,E',M')) (hA:A) (k:∀ a' w',ch mk D w0 K0 sz E' M' a' w'→aD P f todo' R a' w'):aD P f todo R a w:=by
 unfold B6 at h
 cases hn:nodupB l with
 | false=>simp [hn] at h
 | true=>
  simp only [hn,cond_true] at h
  split at h
  ·rename_i c k' s hr
   obtain ⟨rfl,rfl,h3,h4⟩:=ou h
   exact nU hT (ir hT hm 3) hm hK n hr r hA fun a' w' r'=>aD.loop (k a' w' (r'.lF hn h3 h4))
  ·rename_i c k' s hr
   obtain ⟨rfl,rfl,h3,h4⟩:=ou h
   exact nU hT (ir hT hm 3) hm hK n hr r hA fun a' w' r'=>aD.again (k a' w' (r'.lF hn h3 h4))
  ·simp at h
end Go.Proofs.YtcnpikbbmbombaaDoor
namespace Go.Proofs.YtcnpikbbmbombaaDoor
open Go.RowKit
variable {mk:Bool} {P:Program} {T:aJ} {f:FuncId} {R:e7} {a:Act} {w:World} {D:List Nat} {w0:World} {K0:World→Prop} {E:List (Nat×AV)} {M:List aj} {β:Beta} {F:Nat→ak} {I X:ak} {sz:Nat} {tb:dj} {todo todo':List Item} {b:et}
def ez (mk:Bool) (D:List Nat) (w0:World) (K0:World→Prop) (sz:Nat) (b:et) (E:List (Nat×AV)) (M:List aj) (a:Act) (w:World):Prop:=
 b.β.length=b.m∧∃ tc,c7 mk D w0 K0 sz b ⟨[],E,M,tc,[]⟩ a w
abbrev RB (D:List Nat) (w0:World) (K0:World→Prop) (sz:Nat) (b:et) (E:List (Nat×AV)) (M:List aj) (a:Act) (w:World):Prop:=ez false D w0 K0 sz b E M a w
def B7 (D:List Nat) (w0:World) (K0:World→Prop) (b:et) (x:AV) (M':List aj):Ending→World→Prop:=
 fun e w'=>∃ v,e=.returned v∧∃ ax F' I',RM D w0 K0 M' ax F' I' w'∧Ext b.β ax∧bK b.I I'∧au (fun w=>K0 w∧Holds w I') ax x v
abbrev eI (D:List Nat) (w0:World) (K0:World→Prop) (b:et) (x:AV) (M':List aj):e7:=.ends (B7 D w0 K0 b x M')
theorem aA.intro {fn:Func} {c:Code} {args:List AV} {x:AV} {M':List aj} (jY:gG P f=true) (hf:P.funcs[f]?=some fn) (hb:fn.body=some c) (n:Nat) (hn:fn.ntmps=n) (hle:Nat.ble args.length n=true)
  (h:∀ (D:List Nat) (w0:World) (K0:World→Prop) (b:et) (a:Act) (w:World),(∀ w,Kp D w0 w→K0 w)→b.m=M.length→RB D w0 K0 n b (gQ args 0) M a w→aD P f [.code c] (eI D w0 K0 b x M') a w):aA P f args M x M':=by
 refine ⟨jY,?_⟩
 intro D w0 K0 β F I w ys Rm hK hl hr
 have hle:=Nat.le_of_ble_eq_true hle
 refine pR hf hb (h D w0 K0 ⟨β,F,I,M.length⟩ _ w hK rfl ⟨Rm.len,[],by simp;omega,I,rfl,Nat.le_refl _,β,F,Rm,⟨fun _ _ _ h=>h,bK.refl _,fun _ _ _=>rfl⟩,?_⟩)
 intro t v hv
 obtain ⟨y,rfl,rfl,hy⟩:∃ y:Nat×AV,y.1=t∧y.2=v∧y ∈ gQ args 0:=⟨(t,v),rfl,rfl,lP hv⟩
 obtain ⟨-,h2⟩:=p4 args 0 y hy
 simp only [Nat.sub_zero] at h2
 obtain ⟨aI,-⟩:=List.getElem?_eq_some_iff.1 h2
 have iJ:ys[y.1]?=some ys[y.1]:=List.getElem?_eq_getElem (by omega)
 have he:({ tmps:=ys.toArray++Array.replicate (fn.ntmps-ys.toArray.size) undef,defers:=[] }:Act).eval (.tmp y.1)=ys[y.1]:=by
  have:y.1<ys.length:=by omega
  simp [Act.eval,Array.getD_eq_getD_getElem?,Array.getElem?_append,this]
 rw [he]
 exact hr y.1 y.2 _ h2 iJ
def jO (m:Nat) (l:List Nat):Bool:=(List.range m).all fun i=>match l[i]? with | some u=>u.beq i | none=>false
theorem ze {m:Nat} {l:List Nat} (h:jO m l=true) {i:Nat} (hi:i<m):l[i]?=some i:=by
 have:=List.all_eq_true.1 h i (List.mem_range.2 hi)
 split at this
 ·rename_i u hu;rw [hu,Nat.eq_of_beq_eq_true this]
 ·simp at this
def iD (m:Nat) (mv:List Nat):Bool:=mv.all fun u=>Nat.ble m u
theorem IC {m:Nat} {mv:List Nat} (h:iD m mv=true) {u:Nat} (hu:u<m):u ∉ mv:=fun hm=>by
 have:=Nat.le_of_ble_eq_true (List.all_eq_true.1 h u hm);omega
theorem zH {l:List Nat} {M':List aj} (hn:nodupB l=true) (hM:fH l M l=some M') (Rm:RM D w0 K0 M β F I w):RM D w0 K0 M' (eD β l) (ma F l) I w:=by
 obtain ⟨e1,e2⟩:=qg hM
 have aI:∀ u ∈ l,u<M.length:=by
  intro u hu
  obtain ⟨i,hi,rfl⟩:=List.getElem_of_mem hu
  obtain ⟨u',b0,g1,g2,-⟩:=e2 i M'[i] (List.getElem?_eq_getElem (by omega))
  rw [List.getElem?_eq_getElem hi,Option.some.injEq] at g1
  rw [g1];exact eT g2
 obtain ⟨rest,bj⟩:=uC (oe hn) aI Rm.x
 refine ⟨by rw [tO,e1],?_,?_⟩
 ·intro i b hb
  obtain ⟨u,b0,g1,g2,g3⟩:=e2 i b hb
  rw [uD g1];exact uZ g1 g3 (Rm.blk u b0 g2)
 ·rw [e1,rX]
  have:=bj.lO
  exact this.perm (by classical rw [List.perm_iff_count];intro z;simp only [List.count_append,List.count_nil];omega)
theorem A5 {l mv tc:List Nat} (hb:b.β.length=b.m) (hs:jO b.m l=true) (hf:iD b.m mv=true) (h:Since b mv tc β F I):Ext b.β (eD β l):=by
 intro u x hx
 have hu:u<b.m:=by rw [← hb];exact (List.getElem?_eq_some_iff.1 hx).1
 exact eU (ze hs hu) (h.1 u x (IC hf hu) hx)
theorem c7.lF {s:RS} (hb:b.β.length=b.m) (r:c7 mk D w0 K0 sz b s a w) {l ts:List Nat} {M':List aj} {E':List (Nat×AV)} (hn:nodupB l=true) (hs:jO b.m l=true) (hf:iD b.m s.mv=true) (hM:fH l s.M l=some M') (hE:jd l s.E ts=some E'):ez mk D w0 K0 sz b E' M' a w:=by
 obtain ⟨h1,I,h2,h3,β,F,Rm,b4,dN⟩:=r
 refine ⟨hb,List.range b.m,h1,I,h2,?_,eD β l,ma F l,zH hn hM Rm,⟨(A5 hb hs hf b4).b _,b4.2.1,fun u hu hn=>absurd (List.mem_range.2 hu) hn⟩,u1 dN hE⟩
 rw [(qg hM).1]
 rcases Nat.lt_or_ge l.length b.m with hl | hl
 ·have:=ze hs (i:=l.length) hl
  rw [List.getElem?_eq_none (Nat.le_refl _)] at this;cases this
 ·exact hl
def Bt (P:Program) (T:aJ) (sz:Nat) (m:Nat) (tb:dj) (n:Nat) (l ts:List Nat) (todo:List Item) (E:List (Nat×AV)) (M:List aj):Option (List Item×Prop×List (Nat×AV)×List aj):=
 bif nodupB l&&jO m l then (match dr P T (walk P T 3) sz tb n todo ⟨[],E,M,[],[]⟩ with
 | some (.code (.loop c)::k,s)=>bif iD m s.mv then ks l ts (.code c::.inLoop c::k) s else none
 | some (.inLoop c::k,s)=>bif iD m s.mv then ks l ts (.code c::.inLoop c::k) s else none
 | _=>none) else none
theorem ez.re (r:ez mk D w0 K0 sz b E M a w):∃ b',c7 mk D w0 K0 sz b' ⟨[],E,M,[],[]⟩ a w∧b'.β.length=b.m∧Ext b.β b'.β∧bK b.I b'.I∧b'.m=b.m:=by
 obtain ⟨hb,tc,h1,I,h2,h3,β,F,Rm,b4,dN⟩:=r
 refine ⟨⟨β.take b.m,F,I,b.m⟩,⟨h1,I,h2,h3,β,F,Rm,⟨fun u x _ hx=>?_,bK.refl _,fun _ _ _=>rfl⟩,dN⟩,?_,fun u x hx=>?_,b4.2.1,rfl⟩
 ·rw [List.getElem?_take] at hx
  split at hx
  ·exact hx
  ·simp at hx
 ·rw [List.length_take,Rm.len];have O5:b.m≤M.length:=h3;omega
 ·have hu:u<b.m:=by rw [← hb];exact (List.getElem?_eq_some_iff.1 hx).1
  rw [List.getElem?_take,if_pos hu]
  exact b4.1 u x (by simp) hx
theorem ez.from {b':et} (al:b'.m=b.m) (hb:b.β.length=b.m) (hE:Ext b.β b'.β) (hG:bK b.I b'.I) (r:ez mk D w0 K0 sz b' E M a w):ez mk D w0 K0 sz b E M a w:=by
 obtain ⟨-,tc,h1,I,h2,h3,β,F,Rm,b4,dN⟩:=r
 refine ⟨hb,List.range b.m,h1,I,h2,by rw [← al];exact h3,β,F,Rm,⟨fun u x _ hx=>b4.1 u x (by simp) (hE u x hx),hG.trans b4.2.1,fun u hu hn=>absurd (List.mem_range.2 hu) hn⟩,dN⟩
theorem cd (hT:aU P T=true) (hm:P.follows .mixedOrders=true) (hK:∀ w,Kp D w0 w→K0 w) {m:Nat} (al:b.m=m) (tb:dj) (n:Nat) (l ts:List Nat) {A:Prop} {E':List (Nat×AV)} {M':List aj} (r:ez mk D w0 K0 sz b E M a w)
  (h:Bt P T sz m tb n l ts todo E M=some (todo',A,E',M')) (hA:A) (k:∀ a' w',ez mk D w0 K0 sz b E' M' a' w'→aD P f todo' R a' w'):aD P f todo R a w:=by
 subst al
 have hb:=r.1
 obtain ⟨b',rb,aN,hE,hG,fW⟩:=r.re
 unfold Bt at h
 cases hn:(nodupB l&&jO b.m l) with
 | false=>simp [hn] at h
 | true=>
  simp only [hn,cond_true] at h
  simp only [Bool.and_eq_true] at hn
  have key:∀ {s:RS} {a':Act} {w':World} {M':List aj} {E':List (Nat×AV)},iD b.m s.mv=true→fH l s.M l=some M'→jd l s.E ts=some E'→c7 mk D w0 K0 sz b' s a' w'→ez mk D w0 K0 sz b E' M' a' w':=fun hf h3 h4 r'=>
   ez.from fW hb hE hG (r'.lF (by rw [aN,fW]) hn.1 (by rw [fW];exact hn.2) (by rw [fW];exact hf) h3 h4)
  split at h
  ·rename_i c k' s hr
   cases hf:iD b.m s.mv with
   | false=>simp [hf] at h
   | true=>
    simp only [hf,cond_true] at h
    obtain ⟨rfl,rfl,h3,h4⟩:=ou h
    exact kA hT (ir hT hm 3) hm hK n hr rb hA fun a' w' r'=>aD.loop (k a' w' (key hf h3 h4 r'))
  ·rename_i c k' s hr
   cases hf:iD b.m s.mv with
   | false=>simp [hf] at h
   | true=>
    simp only [hf,cond_true] at h
    obtain ⟨rfl,rfl,h3,h4⟩:=ou h
    exact kA hT (ir hT hm 3) hm hK n hr rb hA fun a' w' r'=>aD.again (k a' w' (key hf h3 h4 r'))
  ·simp at h
def o9 (T:aJ) (m:Nat) (cy:List Nat) (rs:List ResultVar) (s:RS):Option (Prop×AV×List aj):=
 bif nodupB cy&&jO m cy&&iD m s.mv then (match iC T s.E s.M rs with
 | some l=>(match fH cy s.M cy,s8 cy (xN l) with
  | some M',some x=>some (aX s.vc,x,M')
  | _,_=>none)
 | none=>none) else none
def A6 (P:Program) (T:aJ) (sz:Nat) (m:Nat) (rs:List ResultVar) (tb:dj) (n:Nat) (cy:List Nat) (todo:List Item) (E:List (Nat×AV)) (M:List aj):Option (Prop×AV×List aj):=
 match dr P T (walk P T 3) sz tb n todo ⟨[],E,M,[],[]⟩ with
 | some (.code .ret::_,s)=>o9 T m cy rs s
 | some ([],s)=>o9 T m cy rs s
 | _=>none
theorem a7 (hT:aU P T=true) (hm:P.follows .mixedOrders=true) (hK:∀ w,Kp D w0 w→K0 w) {fn:Func} (hf:P.funcs[f]?=some fn) {m:Nat} (al:b.m=m) (tb:dj) (n:Nat) (cy:List Nat) {x:AV} {M':List aj} {A:Prop} (r:RB D w0 K0 sz b E M a w)
  (h:A6 P T sz m fn.results.toList tb n cy todo E M=some (A,x,M')) (hA:A):aD P f todo (eI D w0 K0 b x M') a w:=by
 subst al
 have hb:=r.1
 obtain ⟨b',rb,aN,hE,hG,fW⟩:=r.re
 have key:∀ {s:RS} {a':Act} {w':World},o9 T b.m cy fn.results.toList s=some (A,x,M')→c7 false D w0 K0 sz b' s a' w'→aX s.vc=A∧∃ v,(results fn a'.tmps).run P w'=.ok v w'∧B7 D w0 K0 b x M' (.returned v) w':=by
  intro s a' w' eH r'
  unfold o9 at eH
  cases hc:(nodupB cy&&jO b.m cy&&iD b.m s.mv) with
  | false=>simp only [hc,cond_false,reduceCtorEq] at eH
  | true=>
   simp only [hc,cond_true] at eH
   simp only [Bool.and_eq_true] at hc
   split at eH
   ·rename_i l hl
    split at eH
    ·rename_i M1 x1 hM hx
     simp only [Option.some.injEq,Prod.mk.injEq] at eH
     obtain ⟨yB,rfl,rfl⟩:=eH
     refine ⟨yB,?_⟩
     obtain ⟨-,I,-,-,β,F,Rm,b4,hs⟩:=r'
     obtain ⟨ys,e1,e2,e3⟩:=oC hT Rm hs hl
     refine ⟨_,sa rfl e1,_,rfl,eD β cy,ma F cy,I,zH hc.1.1 hM Rm,?_,hG.trans b4.2.1,AR hx ?_⟩
     ·have:=A5 (b:=b') (by rw [aN,fW]) (by rw [fW];exact hc.1.2) (by rw [fW];exact hc.2) b4
      exact fun u q hq=>this u q (hE u q hq)
     ·match ys,l,e2,e3 with
      | [],[],_,_=>exact .tu [] rfl (by simp)
      | [y],[v],_,e3=>exact e3 0 v y rfl rfl
      | y::y'::ys,v::v'::l,e2,e3=>exact .tu _ e2 e3
    ·simp at eH
   ·simp at eH
 unfold A6 at h
 have c6:∀ {s:RS},o9 T b.m cy fn.results.toList s=some (A,x,M')→aX s.vc:=by
  intro s eH
  unfold o9 at eH
  cases hc:(nodupB cy&&jO b.m cy&&iD b.m s.mv) with
  | false=>simp only [hc,cond_false,reduceCtorEq] at eH
  | true=>
   simp only [hc,cond_true] at eH
   split at eH
   ·split at eH
    ·simp only [Option.some.injEq,Prod.mk.injEq] at eH
     rw [eH.1];exact hA
    ·simp at eH
   ·simp at eH
 split at h
 ·rename_i k s hr
  refine kA hT (ir hT hm 3) hm hK n hr rb (c6 h) fun a' w' r'=>?_
  obtain ⟨-,v,h1,h2⟩:=key h r'
  exact aD.ret hf (c7.np r') h1 h2
 ·rename_i s hr
  refine kA hT (ir hT hm 3) hm hK n hr rb (c6 h) fun a' w' r'=>?_
  obtain ⟨-,v,h1,h2⟩:=key h r'
  exact aD.fin hf (c7.np r') h1 h2
 ·simp at h
theorem a8 {x y:AV} {N N':List aj} {todo:List Item} (e1:x=y) (e2:N=N') (h:aD P f todo (eI D w0 K0 b y N') a w):aD P f todo (eI D w0 K0 b x N) a w:=e1▸e2▸h
end Go.Proofs.YtcnpikbbmbombaaDoor
namespace Go.Proofs.YtcnpikbbmbombaaDoor
open Go.RowKit
def tb:aJ:=[
 (3,⟨.it .i64,1,8,[.int .i64 0]⟩),
 (5,⟨.it .u8,1,1,[.int .u8 0]⟩),
 (9,⟨.st,1,16,[.string .empty]⟩),
 (45,⟨.sr [0,1,2,3,4,5,6] [3,3,3,3,3,43,29],7,72,[.int .i64 0,.int .i64 0,.int .i64 0,.int .i64 0,.int .i64 0,.int .u64 0,.slice none 0 0]⟩),
 (25,⟨.sr [0,1,2] [3,22,23],3,56,[.int .i64 0,.slice none 0 0,.slice none 0 0]⟩),
 (29,⟨.sl 5,1,24,[.slice none 0 0]⟩),
 (4,⟨.pl,1,1,[.bool false]⟩),
 (71,⟨.ar 2 3,2,16,[.int .i64 0,.int .i64 0]⟩),
 (84,⟨.sr [0,1,2,3,4,5,6] [9,4,4,4,4,4,4],7,24,[.string .empty,.bool false,.bool false,.bool false,.bool false,.bool false,.bool false]⟩),
 (93,⟨.sl 9,1,24,[.slice none 0 0]⟩),
 (43,⟨.it .u64,1,8,[.int .u64 0]⟩),
 (23,⟨.sl 3,1,24,[.slice none 0 0]⟩),
 (26,⟨.sl 45,1,24,[.slice none 0 0]⟩),
 (22,⟨.sl 71,1,24,[.slice none 0 0]⟩),
 (56,⟨.sr [0,1] [54,29],2,32,[.pointer none,.slice none 0 0]⟩),
 (47,⟨.pl,1,8,[.pointer none]⟩),
 (65,⟨.pl,1,8,[.pointer none]⟩),
 (100,⟨.sr [0,1] [29,4],2,32,[.slice none 0 0,.bool false]⟩),
 (152,⟨.sr [0,1] [5,5],2,2,[.int .u8 0,.int .u8 0]⟩),
 (21,⟨.it .i32,1,4,[.int .i32 0]⟩),
 (54,⟨.pl,1,8,[.pointer none]⟩),
 (102,⟨.sr [0] [100],2,32,[.slice none 0 0,.bool false]⟩),
 (140,⟨.it .u32,1,4,[.int .u32 0]⟩),
 (81,⟨.sr [0] [29],1,24,[.slice none 0 0]⟩),
 (85,⟨.ar 14 84,98,336,[.string .empty,.bool false,.bool false,.bool false,.bool false,.bool false,.bool false,.string .empty,.bool false,.bool false,.bool false,.bool false,.bool false,.bool false,.string .empty,.bool false,.bool false,.bool false,.bool false,.bool false,.bool false,.string .empty,.bool false,.bool false,.bool false,.bool false,.bool false,.bool false,.string .empty,.bool false,.bool false,.bool false,.bool false,.bool false,.bool false,.string .empty,.bool false,.bool false,.bool false,.bool false,.bool false,.bool false,.string .empty,.bool false,.bool false,.bool false,.bool false,.bool false,.bool false,.string .empty,.bool false,.bool false,.bool false,.bool false,.bool false,.bool false,.string .empty,.bool false,.bool false,.bool false,.bool false,.bool false,.bool false,.string .empty,.bool false,.bool false,.bool false,.bool false,.bool false,.bool false,.string .empty,.bool false,.bool false,.bool false,.bool false,.bool false,.bool false,.string .empty,.bool false,.bool false,.bool false,.bool false,.bool false,.bool false,.string .empty,.bool false,.bool false,.bool false,.bool false,.bool false,.bool false,.string .empty,.bool false,.bool false,.bool false,.bool false,.bool false,.bool false]⟩),
 (128,⟨.ar 24 5,24,24,List.replicate 24 (.int .u8 0)⟩),
 (141,⟨.ar 65 5,65,65,List.replicate 65 (.int .u8 0)⟩),
 (30,⟨.it .i64,1,8,[.int .i64 0]⟩),
 (88,⟨.it .u16,1,2,[.int .u16 0]⟩),
 (118,⟨.it .u64,1,8,[.int .u64 0]⟩),
 (64,⟨.pl,1,8,[.nilFunc]⟩),
 (133,⟨.ar 8 5,8,8,[.int .u8 0,.int .u8 0,.int .u8 0,.int .u8 0,.int .u8 0,.int .u8 0,.int .u8 0,.int .u8 0]⟩),
 (2,⟨.it .i64,1,8,[.int .i64 0]⟩),
 (139,⟨.ar 20 43,20,160,List.replicate 20 (.int .u64 0)⟩),
 (148,⟨.ar 32 5,32,32,List.replicate 32 (.int .u8 0)⟩),
 (149,⟨.ar 64 5,64,64,List.replicate 64 (.int .u8 0)⟩),
 (153,⟨.ar 16 152,32,32,List.replicate 32 (.int .u8 0)⟩),
 (98,⟨.pl,1,8,[.pointer none]⟩)]
theorem tk:aU Tryd.prog tb=true:=by kernel_rfl
theorem mo:Tryd.prog.follows .mixedOrders=true:=by kernel_rfl
end Go.Proofs.YtcnpikbbmbombaaDoor
namespace Go.Proofs.YtcnpikbbmbombaaDoor
open Go.RowKit
variable {P:Program}
theorem U {a b:Prop} (h:a) (k:b):a∧b:=⟨h,k⟩
theorem bv {a b:Bool} (h:a=b):DV.v (.bool a)=.v (.bool b):=by rw [h]
theorem wi {x y:Int} (h:x=y ∧ -9223372036854775808≤y∧y<9223372036854775808):IntKind.i64.wrap x=y:=by
 obtain ⟨rfl,h1,h2⟩:=h;simp [IntKind.wrap,IntKind.signed,IntKind.bits];omega
theorem wu {x y:Int} (h:x=y∧0≤y∧y<18446744073709551616):IntKind.u64.wrap x=y:=by
 obtain ⟨rfl,h1,h2⟩:=h;simp [IntKind.wrap,IntKind.signed,IntKind.bits];omega
theorem ne_of_beq_false {a b:Int} (h:(a==b)=false):a≠b:=by intro e;subst e;simp at h
theorem fx {a b:Int} (h:(a != b)=false):a=b:=by simpa [bne] using h
theorem px (c:Bool):(jR (Value.bool c)==some true)=c:=by cases c<;>rfl
theorem o0 (a b:Bool):∃ b0:Bool,(Value.bool a)=.bool b0∧(bif b0 then (bif a then Value.bool b else undef) else Value.bool false)=.bool (a&&b):=⟨a,rfl,by cases a<;>rfl⟩
theorem ei (x:DV):x=x:=rfl
theorem fj (n:Nat):n=n:=rfl
theorem aP (n:Int):n=n:=rfl
end Go.Proofs.YtcnpikbbmbombaaDoor
namespace Go.Proofs.YtcnpikbbmbombaaDoor
open Go.RowKit
variable {mk:Bool} {P:Program} {T:aJ} {f:FuncId} {R:e7} {a:Act} {w:World} {D:List Nat} {w0:World} {K0:World→Prop} {E E1:List (Nat×AV)} {M M1 M2:List aj} {β:Beta} {F:Nat→ak} {I X:ak} {sz:Nat} {b:et}
theorem RM.nil (h:RM D w0 K0 M β F I w) (T k:Nat):RM D w0 K0 (M++[.rw T k []]) (β++[(none,0)]) (aG F M.length []) I w:=by
 refine h.new (Gr.refl w) (di.nil w w) ?_
 have:bq (fun w=>K0 w∧Holds w I) (β++[(none,0)]) M.length (.rw T k []) ([]++bu ([]:List (List DV)).length k fun _ _=>[]):=
  .rw (c:=0) (a:=none) (by rw [List.getElem?_append_right (by rw [h.len];exact Nat.le_refl _),h.len];simp) (fun _=>[]) (fun _ _=>[]) (by simp) (by simpa [lay] using dD.nil T k none) (by simp)
 simpa [bu] using this
theorem RM.cells (h:RM D w0 K0 M β F I w) {u Tb:Nat} {cells cells':List AV} (hu:M[u]?=some (.bx Tb cells)) (hl:cells'.length=cells.length)
  (hc:∀ (j:Nat) c c0 y,cells'[j]?=some c→cells[j]?=some c0→au (fun w=>K0 w∧Holds w I) β c0 y→au (fun w=>K0 w∧Holds w I) β c y):RM D w0 K0 (M.set u (.bx Tb cells')) β F I w where
 len:=by rw [h.len,List.length_set]
 blk:=by
  intro v bl hv
  rw [List.getElem?_set] at hv
  split at hv
  ·rename_i NO;subst NO
   split at hv
   ·simp only [Option.some.injEq] at hv;subst hv
    have hr:=h.blk _ _ hu
    generalize F _=H at hr ⊢
    cases hr with
    | bx hb ys cN hr=>
     refine .bx hb ys (by omega) fun j c y h1 h2=>?_
     have hj:j<cells.length:=by rw [← hl];exact (List.getElem?_eq_some_iff.1 h1).1
     exact hc j c _ y h1 (List.getElem?_eq_getElem hj) (hr j _ y (List.getElem?_eq_getElem hj) h2)
   ·cases hv
  ·exact h.blk v bl hv
 st:=by rw [List.length_set];exact h.st
def pa (E:List (Nat×AV)) (t:Nat) (v:AV):List (Nat×AV):=E.map fun x=>bif x.1.beq t then (x.1,v) else x
theorem va {t:Nat} {v:AV}:∀ {E:List (Nat×AV)} {s:Nat} {u:AV},bS (pa E t v) s=some u→(s=t∧u=v∧∃ u0,bS E t=some u0)∨(s≠t∧bS E s=some u)
 | [],s,u,h=>by simp [pa,bS] at h
 | (k,x)::r,s,u,h=>by
  have ih:=va (t:=t) (v:=v) (E:=r) (s:=s) (u:=u)
  unfold pa at ih h
  rw [List.map_cons] at h
  cases hk:k.beq t with
  | true=>
   have NP:=Nat.eq_of_beq_eq_true hk;subst NP
   simp only [Nat.beq_refl,cond_true,bS] at h ⊢
   cases hs:k.beq s with
   | true=>
    have:=Nat.eq_of_beq_eq_true hs;subst this
    rw [hs,cond_true,Option.some.injEq] at h
    exact Or.inl ⟨rfl,h.symm,x,rfl⟩
   | false=>
    rw [hs,cond_false] at h
    rcases ih h with ⟨rfl,-,-⟩ | h2
    ·rw [Nat.beq_refl] at hs;cases hs
    ·exact Or.inr h2
  | false=>
   simp only [hk,cond_false,bS] at h ⊢
   cases hs:k.beq s with
   | true=>
    have:=Nat.eq_of_beq_eq_true hs;subst this
    rw [hs,cond_true] at h
    refine Or.inr ⟨?_,h⟩
    rintro rfl;rw [Nat.beq_refl] at hk;cases hk
   | false=>
    rw [hs,cond_false] at h
    exact ih h
def py:List (Nat×Nat×Nat)→List (Nat×AV)→List aj→Option (List (Nat×AV)×List aj)
 | [],E,M=>some (E,M)
 | (t,T,k)::r,E,M=>match bS E t with
  | some (.d (.v (.slice none 0 0)))=>py r (pa E t (.sl M.length 0)) (M++[.rw T k []])
  | _=>none
def pz:List (Nat×Nat×Nat×Nat)→List aj→Option (List aj)
 | [],M=>some M
 | (u,o,T,k)::r,M=>match M[u]? with
  | some (.bx Tb cells)=>(match cells[o]? with
   | some (.d (.v (.slice none 0 0)))=>pz r ((M++[aj.rw T k []]).set u (.bx Tb (cells.set o (.sl M.length 0))))
   | _=>none)
  | _=>none
theorem Bu (h:RM D w0 K0 M β F I w):(β++[((none:Option Addr),0)])[M.length]?=some (none,0):=by rw [List.getElem?_append_right (by rw [h.len];exact Nat.le_refl _),h.len];simp
theorem vV {ev:Nat→Value} {n:Nat}:∀ {ls:List (Nat×Nat×Nat)} {E:List (Nat×AV)} {M:List aj} {β:Beta} {F:Nat→ak},py ls E M=some (E1,M1)→n≤M.length→RM D w0 K0 M β F I w→(∀ t v,bS E t=some v→au (fun w=>K0 w∧Holds w I) β v (ev t))→
  ∃ ax F',RM D w0 K0 M1 ax F' I w∧Ext β ax∧(∀ u,u<n→F' u=F u)∧n≤M1.length∧∀ t v,bS E1 t=some v→au (fun w=>K0 w∧Holds w I) ax v (ev t)
 | [],E,M,β,F,h,hn,hR,hs=>by
  simp only [py,Option.some.injEq,Prod.mk.injEq] at h;obtain ⟨rfl,rfl⟩:=h
  exact ⟨β,F,hR,fun _ _ h=>h,fun _ _=>rfl,hn,hs⟩
 | (t,T,k)::r,E,M,β,F,h,hn,hR,hs=>by
  unfold py at h
  split at h
  ·rename_i ht
   obtain ⟨ax,F',h1,h2,h3,h4,h5⟩:=vV h (n:=n) (ev:=ev) (by simp;omega) (hR.nil T k) fun s v hv=>by
    rcases va hv with ⟨rfl,rfl,-⟩ | ⟨-,h2⟩
    ·have:=hs s _ ht
     generalize ev s=y at this
     cases this with | d h=>cases h;exact .sl (Bu hR)
    ·exact (hs s v h2).mono (fun _ h=>h) (Ext.app β [((none:Option Addr),0)])
   exact ⟨ax,F',h1,fun u x hx=>h2 u x (Ext.app β [((none:Option Addr),0)] u x hx),fun u hu=>(h3 u hu).trans (lW (tc:=[]) F [] u (by omega) (by simp)),h4,h5⟩
  ·cases h
theorem vW {ev:Nat→Value} {n:Nat}:∀ {lc:List (Nat×Nat×Nat×Nat)} {M:List aj} {β:Beta} {F:Nat→ak},pz lc M=some M1→n≤M.length→RM D w0 K0 M β F I w→(∀ t v,bS E t=some v→au (fun w=>K0 w∧Holds w I) β v (ev t))→
  ∃ ax F',RM D w0 K0 M1 ax F' I w∧Ext β ax∧(∀ u,u<n→F' u=F u)∧n≤M1.length∧∀ t v,bS E t=some v→au (fun w=>K0 w∧Holds w I) ax v (ev t)
 | [],M,β,F,h,hn,hR,hs=>by
  simp only [pz,Option.some.injEq] at h;subst h
  exact ⟨β,F,hR,fun _ _ h=>h,fun _ _=>rfl,hn,hs⟩
 | (u,o,T,k)::r,M,β,F,h,hn,hR,hs=>by
  unfold pz at h
  split at h
  ·rename_i Tb cells hu
   split at h
   ·rename_i ho
    have NQ:=hR.nil T k
    have NR:=NQ.cells (cells':=cells.set o (.sl M.length 0)) (by rw [List.getElem?_append_left (List.getElem?_eq_some_iff.1 hu).1];exact hu) (by simp) fun j c c0 y h1 h2 h3=>by
     rw [List.getElem?_set] at h1
     split at h1
     ·rename_i hj;subst hj
      split at h1
      ·simp only [Option.some.injEq] at h1;subst h1
       rw [ho,Option.some.injEq] at h2;subst h2
       cases h3 with | d h=>cases h;exact .sl (Bu hR)
      ·cases h1
     ·rw [h1,Option.some.injEq] at h2;subst h2;exact h3
    obtain ⟨ax,F',h1,h2,h3,h4,h5⟩:=vW h (n:=n) (ev:=ev) (by simp;omega) NR fun s v hv=>(hs s v hv).mono (fun _ h=>h) (Ext.app β [((none:Option Addr),0)])
    exact ⟨ax,F',h1,fun u x hx=>h2 u x (Ext.app β [((none:Option Addr),0)] u x hx),fun u hu=>(h3 u hu).trans (lW (tc:=[]) F [] u (by omega) (by simp)),h4,h5⟩
   ·cases h
  ·cases h
theorem ch.fE (r:ch mk D w0 K0 sz E M a w) (ls:List (Nat×Nat×Nat)) (lc:List (Nat×Nat×Nat×Nat)) (h:py ls E M=some (E1,M1)) (h2:pz lc M1=some M2):ch mk D w0 K0 sz E1 M2 a w:=by
 obtain ⟨g1,I,g2,β,F,hR,hs⟩:=r
 obtain ⟨pQ,F1,r1,-,-,-,s1⟩:=vV (ev:=fun t=>a.eval (.tmp t)) (n:=0) h (Nat.zero_le _) hR hs
 obtain ⟨iP,F2,r2,-,-,-,s2⟩:=vW (ev:=fun t=>a.eval (.tmp t)) (n:=0) h2 (Nat.zero_le _) r1 s1
 exact ⟨g1,I,g2,iP,F2,r2,s2⟩
theorem ch.cast {E':List (Nat×AV)} {M':List aj} (r:ch mk D w0 K0 sz E M a w) (hE:E=E') (hM:M=M'):ch mk D w0 K0 sz E' M' a w:=hE▸hM▸r
theorem ez.cast {E':List (Nat×AV)} {M':List aj} (r:ez mk D w0 K0 sz b E M a w) (hE:E=E') (hM:M=M'):ez mk D w0 K0 sz b E' M' a w:=hE▸hM▸r
theorem ez.fE (r:ez mk D w0 K0 sz b E M a w) (ls:List (Nat×Nat×Nat)) (lc:List (Nat×Nat×Nat×Nat)) (h:py ls E M=some (E1,M1)) (h2:pz lc M1=some M2):ez mk D w0 K0 sz b E1 M2 a w:=by
 obtain ⟨hb,tc,g1,I,g2,g3,β,F,hR,b4,hs⟩:=r
 obtain ⟨pQ,F1,r1,e1,f1,l1,s1⟩:=vV (ev:=fun t=>a.eval (.tmp t)) (n:=b.m) h g3 hR hs
 obtain ⟨iP,F2,r2,e2,f2,l2,s2⟩:=vW (ev:=fun t=>a.eval (.tmp t)) (n:=b.m) h2 l1 r1 s1
 exact ⟨hb,tc,g1,I,g2,l2,iP,F2,r2,⟨fun u x hu hx=>e2 u x (e1 u x (b4.1 u x hu hx)),b4.2.1,fun u hu hn=>(f2 u hu).trans ((f1 u hu).trans (b4.2.2 u hu hn))⟩,s2⟩
end Go.Proofs.YtcnpikbbmbombaaDoor
namespace Go.Proofs.YtcnpikbbmbombaaDoor
open Go.RowKit
variable {mk:Bool} {ro:Option Nat} {P:Program} {T:aJ} {cl:fq} {f:FuncId} {R:e7} {a:Act} {w:World} {D:List Nat} {w0:World} {K0:World→Prop} {E:List (Nat×AV)} {M:List aj} {sz:Nat} {tb:dj} {todo todo':List Item} {ops:Array Oper} {Q:Exit→Act→World→Prop}
def sO (P:Program) (T:aJ) (cl:fq) (sz:Nat) (ops:Array Oper) (oc:List (Nat×aR)) (rd:List Nat) (i:Nat):RS→Option (List Nat×RS)
 | ⟨vc,E,M,tc,mv⟩=>match ops[i]? with
  | some o=>(bif fR sz o.dst then (match mb sz ops E o.guard with
   | some true=>(match step P T cl E M (mr oc i) o.op with
    | some ⟨mN,av,_,_,_,some j9⟩=>some (j9++rd,⟨vc++mN,gT E o.dst av,M,tc,mv⟩)
    | _=>none)
   | some false=>some (rd,⟨vc,gT E o.dst (.d (.v undef)),M,tc,mv⟩)
   | none=>none) else none)
  | none=>none
def th (P:Program) (T:aJ) (cl:fq) (sz:Nat) (ops:Array Oper) (oc:List (Nat×aR)) (rd:List Nat) (i:Nat):RS→Option RS
 | ⟨vc,E,M,tc,mv⟩=>match ops[i]? with
  | some o=>(bif fR sz o.dst then (match mb sz ops E o.guard with
   | some true=>(match step P T cl E M (mr oc i) o.op with
    | some out=>(bif xK rd out.tc&&Nat.ble M.length out.M.length then some ⟨vc++out.vc,gT (oZ out.mv E) o.dst out.av,out.M,out.tc++tc,out.mv++mv⟩ else none)
    | none=>none)
   | some false=>some ⟨vc,gT E o.dst (.d (.v undef)),M,tc,mv⟩
   | none=>none) else none)
  | none=>none
def ti (g:Nat→Option (List RS)):List Nat→Option (List RS)
 | []=>some []
 | j::r=>match g j,ti g r with | some l,some l'=>some (l++l') | _,_=>none
theorem vb {g:Nat→Option (List RS)}:∀ {r:List Nat} {l:List RS},ti g r=some l→∀ j ∈ r,∃ l',g j=some l'∧∀ s ∈ l',s ∈ l
 | [],_,_,j,hj=>by cases hj
 | i::r,l,h,j,hj=>by
  unfold ti at h
  split at h
  ·rename_i l1 l2 h1 h2
   simp only [Option.some.injEq] at h;subst h
   rcases List.mem_cons.1 hj with rfl | hj
   ·exact ⟨l1,h1,fun s hs=>List.mem_append_left _ hs⟩
   ·obtain ⟨l',h3,h4⟩:=vb h2 j hj
    exact ⟨l',h3,fun s hs=>List.mem_append_right _ (h4 s hs)⟩
  ·cases h
def my (ops:Array Oper) (nl:List Nat) (L:Array Bool):q7:=match Region.ready .any ops L with
 | []=>.fin
 | i::r=>match lR ops L ((i::r).filter fun j=>!(nl.elem j)) with
  | some j=>.look j
  | none=>.bad
theorem Ah {nl:List Nat} {L:Array Bool} (h:my ops nl L=.fin):Region.ready .any ops L=[]:=by
 unfold my at h
 split at h
 ·assumption
 ·split at h<;>cases h
theorem FQ {nl:List Nat} {L:Array Bool} {i:Nat} (h:my ops nl L=.look i):i ∈ Region.ready .any ops L∧∃ o,ops[i]?=some o∧Region.free .any ops L i=true:=by
 unfold my at h
 split at h
 ·cases h
 ·rename_i k r hr
  split at h
  ·rename_i j hj
   simp only [q7.look.injEq] at h;subst h
   obtain ⟨h1,h2⟩:=oa hj
   exact ⟨by rw [hr];exact (List.mem_filter.1 h1).1,h2⟩
  ·cases h
def kt (P:Program) (T:aJ) (cl:fq) (sz:Nat) (ops:Array Oper) (oc:List (Nat×aR)) (nl:List Nat):Nat→Array Bool→List Nat→RS→Option (List RS)
 | 0,L,_,s=>(match my ops nl L with | .fin=>some [s] | _=>none)
 | fuel+1,L,rd,s=>match my ops nl L with
  | .fin=>some [s]
  | .look i=>(match sO P T cl sz ops oc rd i s with
   | some (j9,s1)=>kt P T cl sz ops oc nl fuel (L.setIfInBounds i true) j9 s1
   | none=>none)
  | _=>ti (fun j=>match th P T cl sz ops oc rd j s with
   | some s1=>kt P T cl sz ops oc nl fuel (L.setIfInBounds j true) rd s1
   | none=>none) (Region.ready .any ops L)
theorem Hd {oc:List (Nat×aR)} {rd j9:List Nat} {i:Nat} {s s1:RS} (h:sO P T cl sz ops oc rd i s=some (j9,s1)) (hv:aX s1.vc):aX s.vc:=by
 obtain ⟨vc,E,M,tc,mv⟩:=s
 unfold sO at h
 dsimp only at h
 split at h
 ·rename_i o ho
  cases hd:fR sz o.dst with
  | false=>simp [hd] at h
  | true=>
   simp only [hd,cond_true] at h
   split at h
   ·split at h
    ·simp only [Option.some.injEq,Prod.mk.injEq] at h;obtain ⟨-,rfl⟩:=h;exact (aX.app.1 hv).1
    ·cases h
   ·simp only [Option.some.injEq,Prod.mk.injEq] at h;obtain ⟨-,rfl⟩:=h;exact hv
   ·cases h
 ·cases h
theorem ID {oc:List (Nat×aR)} {rd:List Nat} {i:Nat} {s s1:RS} (h:th P T cl sz ops oc rd i s=some s1) (hv:aX s1.vc):aX s.vc:=by
 obtain ⟨vc,E,M,tc,mv⟩:=s
 unfold th at h
 dsimp only at h
 split at h
 ·rename_i o ho
  cases hd:fR sz o.dst with
  | false=>simp [hd] at h
  | true=>
   simp only [hd,cond_true] at h
   split at h
   ·split at h
    ·rename_i out _
     cases hc:(xK rd out.tc&&Nat.ble M.length out.M.length) with
     | false=>simp [hc] at h
     | true=>simp only [hc,cond_true,Option.some.injEq] at h;subst h;exact (aX.app.1 hv).1
    ·cases h
   ·simp only [Option.some.injEq] at h;subst h;exact hv
   ·cases h
 ·cases h
theorem zf {nl:List Nat} {L:Array Bool} (h:my ops nl L≠.fin):∃ j r,Region.ready .any ops L=j::r:=by
 unfold my at h
 cases hr:Region.ready .any ops L with
 | nil=>rw [hr] at h;exact absurd rfl h
 | cons j r=>exact ⟨j,r,rfl⟩
theorem uG {oc:List (Nat×aR)} {nl:List Nat}:∀ (fuel:Nat) (L:Array Bool) (rd:List Nat) (s:RS) {l:List RS},kt P T cl sz ops oc nl fuel L rd s=some l→∃ s' ∈ l,aX s'.vc→aX s.vc:=by
 intro fuel
 induction fuel with
 | zero=>
  intro L rd s l h
  unfold kt at h
  split at h
  ·simp only [Option.some.injEq] at h;subst h;exact ⟨s,by simp,id⟩
  ·cases h
 | succ fuel ih=>
  intro L rd s l h
  unfold kt at h
  split at h
  ·simp only [Option.some.injEq] at h;subst h;exact ⟨s,by simp,id⟩
  ·split at h
   ·rename_i hl
    obtain ⟨s',h1,h2⟩:=ih _ _ _ h
    exact ⟨s',h1,fun hv=>Hd hl (h2 hv)⟩
   ·cases h
  ·rename_i hn _
   obtain ⟨j,r,hr⟩:=zf (ops:=ops) (nl:=nl) (L:=L) (by intro hf;exact hn hf)
   obtain ⟨l',h1,h2⟩:=vb h j (by rw [hr];exact List.mem_cons_self)
   split at h1
   ·rename_i ho
    obtain ⟨s',h3,h4⟩:=ih _ _ _ h1
    exact ⟨s',h2 s' h3,fun hv=>ID ho (h4 hv)⟩
   ·cases h1
theorem He (hT:aU P T=true) (cu:jf P cl) {b:et} (hK:∀ w,Kp D w0 w→K0 w) (gU:Region.noSelect ops=true) (hQ:∀ d v c a w,Q (.panic c) (Act.put a d v) w→Q (.panic c) a w) {oc:List (Nat×aR)} {nl:List Nat}:
  ∀ (fuel:Nat) (L:Array Bool) (rd:List Nat) (s:RS) {l:List RS} (Rk:World→Prop) (β:Beta) (F:Nat→ak) (I:ak) (a:Act) (w:World),kt P T cl sz ops oc nl fuel L rd s=some l→a.tmps.size=sz→Mk mk a.defers I→b.m≤s.M.length→RM D w0 K0 s.M β F I w→Since b s.mv s.tc β F I→
   (∀ t v,bS s.E t=some v→au (fun w=>K0 w∧Holds w I) β v (a.eval (.tmp t)))→(∀ u ∈ rd,u<s.M.length)→(∀ w,iA K0 I F rd w→Rk w)→(∀ s' ∈ l,aX s'.vc∧∀ a' w',c7 mk D w0 K0 sz b s' a' w'→Q .normal a' w')→jP ro P ops Q Rk fuel L a w:=by
 intro fuel
 induction fuel with
 | zero=>
  intro L rd s l Rk β F I a w h size defers hm Rm b4 hs dO fK k
  have C:Ctx D w0 K0 s.E s.M β F I a.eval w:=⟨Rm,hs,fun _=>rfl,fun _=>rfl,fun _=>rfl,hK⟩
  have hR:=fK w (C.xh dO)
  unfold kt at h
  split at h
  ·rename_i hn
   simp only [Option.some.injEq] at h;subst h
   exact ⟨hR,Ah hn,(k s (by simp)).2 a w ⟨size,I,defers,hm,β,F,Rm,b4,hs⟩⟩
  ·cases h
 | succ fuel ih=>
  intro L rd s l Rk β F I a w h size defers hm Rm b4 hs dO fK k
  have C:Ctx D w0 K0 s.E s.M β F I a.eval w:=⟨Rm,hs,fun _=>rfl,fun _=>rfl,fun _=>rfl,hK⟩
  have hR:=fK w (C.xh dO)
  unfold kt at h
  split at h
  ·rename_i hn
   simp only [Option.some.injEq] at h;subst h
   have hn:=Ah hn
   exact ⟨hR,fun _=>(k s (by simp)).2 a w ⟨size,I,defers,hm,β,F,Rm,b4,hs⟩,fun i hi=>by rw [hn] at hi;cases hi⟩
  ·rename_i i hn
   obtain ⟨q9,o',NA,k4⟩:=FQ hn
   split at h
   ·rename_i O6 s1 hl
    obtain ⟨s',eh,c6⟩:=uG _ _ _ _ h
    have dP:=c6 (k s' eh).1
    obtain ⟨vc,E,M,tc,mv⟩:=s
    dsimp only at hm Rm b4 hs dO fK C
    unfold sO at hl
    dsimp only at hl
    split at hl
    ·rename_i o ho
     cases hd:fR sz o.dst with
     | false=>simp [hd] at hl
     | true=>
      simp only [hd,cond_true] at hl
      have nH:=fun j oj hj jC lD jj=>Region.free_spec ho k4 j oj hj jC lD jj
      split at hl
      ·rename_i hw
       have eG:=kh (ops:=ops) size hs hw
       split at hl
       ·rename_i mN av _ _ _ j9 bj
        simp only [Option.some.injEq,Prod.mk.injEq] at hl;obtain ⟨rfl,rfl⟩:=hl
        have nT:=oB (P:=P) hT cu (d:=o.dst) (ty:=o.type) (pos:=o.pos) (aft:=o.after) (gd:=o.guard) bj
        obtain ⟨xL,rfl,-,aI⟩:=nT
        have lf:=(aX.app.1 dP).2
        obtain ⟨v,lb,kx⟩:=xL C lf
        obtain ⟨e1,e2,e3⟩:=RE.put (E:=E) size defers hs hd lb
        have kq:=ih (L.setIfInBounds i true) _ _ (fun w=>Rk w∧iA K0 I F j9 w) β F I (a.put o.dst v) w h e1 e2 hm Rm b4 e3 (fun u hu=>by rcases List.mem_append.1 hu with e | e;exact aI u e;exact dO u e)
         (fun w hw=>⟨fK w ⟨hw.1,fun u hu=>hw.2 u (List.mem_append_right _ hu)⟩,hw.1,fun u hu=>hw.2 u (List.mem_append_left _ hu)⟩) k
        exact yS (fun w hw=>hw.1) (yO ho (Region.noSelect_spec gU) (hQ o.dst v) _ L a w nH q9 (Or.inl ⟨eG,fun w' dt=>kx w' dt.2⟩) kq)
       ·cases hl
      ·rename_i hw
       simp only [Option.some.injEq,Prod.mk.injEq] at hl;obtain ⟨rfl,rfl⟩:=hl
       have eG:=kh (ops:=ops) size hs hw
       obtain ⟨e1,e2,e3⟩:=RE.put (E:=E) size defers hs hd (.d (.v undef))
       have kq:=ih (L.setIfInBounds i true) _ _ Rk β F I (a.put o.dst undef) w h e1 e2 hm Rm b4 e3 dO fK k
       exact yO ho (Region.noSelect_spec gU) (hQ o.dst undef) _ L a w nH q9 (Or.inr ⟨eG,rfl⟩) kq
      ·cases hl
    ·cases hl
   ·cases h
  ·rename_i hn _
   obtain ⟨j0,r0,Du⟩:=zf (ops:=ops) (nl:=nl) (L:=L) (by intro hf;exact hn hf)
   refine ⟨hR,fun h0=>(by rw [Du] at h0;cases h0),fun j hj=>?_⟩
   obtain ⟨l',h1,h2⟩:=vb h j hj
   split at h1
   ·rename_i s1 hU
    obtain ⟨s',eh,c6⟩:=uG _ _ _ _ h1
    have dP:=c6 (k s' (h2 s' eh)).1
    obtain ⟨vc,E,M,tc,mv⟩:=s
    dsimp only at hm Rm b4 hs dO fK C
    unfold th at hU
    dsimp only at hU
    unfold wpOpIn
    split at hU
    ·rename_i o ho
     simp only [ho]
     cases hd:fR sz o.dst with
     | false=>simp [hd] at hU
     | true=>
      simp only [hd,cond_true] at hU
      split at hU
      ·rename_i hw
       have eG:=kh (ops:=ops) size hs hw
       simp only [eG,if_true]
       split at hU
       ·rename_i out bj
        cases hc:(xK rd out.tc&&Nat.ble M.length out.M.length) with
        | false=>simp [hc] at hU
        | true=>
         simp only [hc,cond_true,Option.some.injEq] at hU;subst hU
         simp only [Bool.and_eq_true] at hc
         have hlen:=Nat.le_of_ble_eq_true hc.2
         have lf:=(aX.app.1 dP).2
         have nT:=(oB (P:=P) hT cu (d:=o.dst) (ty:=o.type) (pos:=o.pos) (aft:=o.after) (gd:=o.guard) bj).pj C lf
         refine aT.wp nT ?_
         rintro v w' ⟨ax,F',I',R',e,hI,hF,mO⟩
         have hk:=uF (ρ:=a.eval) e hs
         obtain ⟨e1,e2,e3⟩:=RE.put size (defers.grow hI) (fun t v hx=>(hk t v hx).mono (fun w hw=>⟨hw.1,hI.holds w hw.2⟩) (Ext.refl _)) hd mO
         refine ih (L.setIfInBounds j true) _ _ Rk ax F' I' (a.put o.dst v) w' h1 e1 e2 (Nat.le_trans hm hlen) R' (b4.step hm e hI hF) e3 (fun u hu=>Nat.lt_of_lt_of_le (dO u hu) hlen) (fun w hw=>fK w ⟨⟨hw.1.1,hI.holds w hw.1.2⟩,fun u hu=>?_⟩) fun s' eh=>k s' (h2 s' eh)
         have yz:u ∉ out.tc:=by
          have:=List.all_eq_true.1 hc.1 u hu
          simpa using this
         rw [← hF u (dO u hu) yz];exact hw.2 u hu
       ·cases hU
      ·rename_i hw
       simp only [Option.some.injEq] at hU;subst hU
       have eG:=kh (ops:=ops) size hs hw
       simp only [eG,Bool.false_eq_true,if_false]
       obtain ⟨e1,e2,e3⟩:=RE.put (E:=E) size defers hs hd (.d (.v undef))
       exact ⟨fun _ _=>trivial,ih (L.setIfInBounds j true) _ _ Rk β F I (a.put o.dst undef) w h1 e1 e2 hm Rm b4 e3 dO fK fun s' eh=>k s' (h2 s' eh)⟩
      ·cases hU
    ·cases hU
   ·cases h1
theorem MF (hT:aU P T=true) (cu:jf P cl) (hm:P.follows .mixedOrders=true) (hK:∀ w,Kp D w0 w→K0 w) (hQ:∀ d v c a w,Q (.panic c) (Act.put a d v) w→Q (.panic c) a w) {b:et} {s:RS} (R:c7 mk D w0 K0 sz b s a w) (oc:List (Nat×aR)) {nl:List Nat} {id:Nat} {l:List RS} (gU:Region.noSelect ops=true)
  (h:kt P T cl sz ops oc nl ops.size (Array.replicate ops.size false) [] s=some l) (k:∀ s' ∈ l,aX s'.vc∧∀ a' w',c7 mk D w0 K0 sz b s' a' w'→Q .normal a' w'):(Code.region id ops true).wpIn (Fl ro) 0 P Q a w:=by
 refine wpIn_region_any hm ?_
 obtain ⟨size,I,defers,hb,β,F,Rm,b4,hs⟩:=R
 have hg:=Gr.drew w
 exact (He hT cu hK gU hQ ops.size _ [] s (fun _=>True) β F I a w.drew h size defers hb (Rm.gr hg) b4 hs (by simp) (fun _ _=>trivial) k).to
def oD (ts:List Nat):List (List Nat)→List RS→Option (List Prop×List (List (Nat×AV)×List aj))
 | [],[]=>some ([],[])
 | l::ls,s::r=>bif nodupB l then (match fH l s.M l,jd l s.E ts,oD ts ls r with
  | some M',some E',some (A,r')=>some (aX s.vc::A,(E',M')::r')
  | _,_,_=>none) else none
 | _,_=>none
theorem zg {ts:List Nat} {E':List (Nat×AV)} {M':List aj}:∀ {ls:List (List Nat)} {r:List RS} {A:List Prop} {o:List (List (Nat×AV)×List aj)},oD ts ls r=some (A,o)→(∀ x ∈ o,x=(E',M'))→aX A→∀ s ∈ r,aX s.vc∧∃ l,nodupB l=true∧fH l s.M l=some M'∧jd l s.E ts=some E'
 | [],[],_,_,_,_,_,s,hs=>by cases hs
 | [],_::_,_,_,h,_,_,_,_=>by simp [oD] at h
 | _::_,[],_,_,h,_,_,_,_=>by simp [oD] at h
 | l::ls,s::r,A,o,h,ho,hA,s',eh=>by
  unfold oD at h
  cases hn:nodupB l with
  | false=>simp [hn] at h
  | true=>
   simp only [hn,cond_true] at h
   split at h
   ·rename_i M1 E1 A1 r1 h1 h2 h3
    simp only [Option.some.injEq,Prod.mk.injEq] at h;obtain ⟨rfl,rfl⟩:=h
    have e:=ho _ List.mem_cons_self
    simp only [Prod.mk.injEq] at e;obtain ⟨rfl,rfl⟩:=e
    rcases List.mem_cons.1 eh with rfl | eh
    ·exact ⟨hA.1,l,hn,h1,h2⟩
    ·exact zg h3 (fun x hx=>ho x (List.mem_cons_of_mem _ hx)) hA.2 s' eh
   ·cases h
def A7 (P:Program) (T:aJ) (sz:Nat) (tb:dj) (n:Nat) (nl:List Nat) (yC:List (List Nat)) (ts:List Nat) (todo:List Item) (E:List (Nat×AV)) (M:List aj):Option (List Item×Prop×List (List (Nat×AV)×List aj)):=
 match dr P T (walk P T 3) sz tb n todo ⟨[],E,M,[],[]⟩ with
 | some (.code (.region id ops true)::k,s)=>bif Region.noSelect ops then (match kt P T (walk P T 3) sz ops (xM tb id) nl ops.size (Array.replicate ops.size false) [] s with
  | some Ls=>(match oD ts yC Ls with | some (A,o)=>some (k,aX A,o) | none=>none)
  | none=>none) else none
 | _=>none
theorem JW (hT:aU P T=true) (hm:P.follows .mixedOrders=true) (hK:∀ w,Kp D w0 w→K0 w) (tb:dj) (n m:Nat) (nl:List Nat) (yC:List (List Nat)) (ts:List Nat) {A:Prop} {E':List (Nat×AV)} {M':List aj} (r:ch mk D w0 K0 sz E M a w)
  (h:A7 P T sz tb n nl yC ts todo E M=some (todo',A,List.replicate m (E',M'))) (hA:A) (k:∀ a' w',ch mk D w0 K0 sz E' M' a' w'→aD P f todo' R a' w'):aD P f todo R a w:=by
 unfold A7 at h
 split at h
 ·rename_i id ops k0 s hr
  cases hs:Region.noSelect ops with
  | false=>simp [hs] at h
  | true=>
   simp only [hs,cond_true] at h
   split at h
   ·rename_i Ls hL
    split at h
    ·rename_i A1 o ho
     simp only [Option.some.injEq,Prod.mk.injEq] at h;obtain ⟨rfl,rfl,rfl⟩:=h
     have hl:=zg ho (fun x hx=>List.eq_of_mem_replicate hx) hA
     obtain ⟨s1,h1,h2⟩:=uG _ _ _ _ hL
     obtain ⟨b,rb⟩:=r.b []
     refine kA hT (ir hT hm 3) hm hK n hr rb (h2 (hl s1 h1).1) fun a1 w1 r1=>aD.code ?_
     refine MF hT (ir hT hm 3) hm hK (by rintro d v c a w ⟨h,-⟩;cases h) r1 _ hs hL fun s' eh=>⟨(hl s' eh).1,fun a' w' r'=>⟨rfl,?_⟩⟩
     obtain ⟨-,l,g1,g2,g3⟩:=hl s' eh
     exact k a' w' (r'.re.lF g1 g2 g3)
    ·cases h
   ·cases h
 ·cases h
def B8 (P:Program) (T:aJ) (sz:Nat) (tb:dj) (n:Nat) (l ts:List Nat) (todo:List Item) (E:List (Nat×AV)) (M:List aj):Option (List Item×Prop×List (Nat×AV)×List aj):=
 bif nodupB l then (match dr P T (walk P T 3) sz tb n todo ⟨[],E,M,[],[]⟩ with
 | some (t,s)=>ks l ts t s
 | none=>none) else none
theorem pd (hT:aU P T=true) (hm:P.follows .mixedOrders=true) (hK:∀ w,Kp D w0 w→K0 w) (tb:dj) (n:Nat) (l ts:List Nat) {A:Prop} {E':List (Nat×AV)} {M':List aj} (r:ch mk D w0 K0 sz E M a w)
  (h:B8 P T sz tb n l ts todo E M=some (todo',A,E',M')) (hA:A) (k:∀ a' w',ch mk D w0 K0 sz E' M' a' w'→aD P f todo' R a' w'):aD P f todo R a w:=by
 unfold B8 at h
 cases hn:nodupB l with
 | false=>simp [hn] at h
 | true=>
  simp only [hn,cond_true] at h
  split at h
  ·rename_i t s hr
   unfold ks at h
   split at h
   ·rename_i M1 E1 hM hE
    simp only [Option.some.injEq,Prod.mk.injEq] at h
    obtain ⟨rfl,rfl,rfl,rfl⟩:=h
    exact nU hT (ir hT hm 3) hm hK n hr r hA fun a' w' r'=>k a' w' (r'.lF hn hM hE)
   ·cases h
  ·cases h
def nA (id:Nat):Code→List Item→List (List Item)
 | .seq x y,k=>nA id x (.code y::k)++nA id y k
 | .cond _ x y,k=>nA id x k++nA id y k
 | .block i c,k=>nA id c (.inBlock i::k)
 | .loop c,k=>nA id c (.inLoop c::k)
 | .region i _ _,k=>bif i.beq id then [k] else []
 | _,_=>[]
def aft (fn:Func) (id:Nat):List Item:=
 match fn.body with
 | some c=>(match nA id c [] with | t::_=>t | []=>[])
 | none=>[]
end Go.Proofs.YtcnpikbbmbombaaDoor
namespace Go.Proofs.YtcnpikbbmbombaaDoor
open Go.RowKit
variable {mk:Bool} {P:Program} {T:aJ} {f:FuncId} {R:e7} {a:Act} {w:World} {D:List Nat} {w0:World} {K0:World→Prop} {E:List (Nat×AV)} {M:List aj} {sz:Nat} {todo todo':List Item} {b:et}
theorem ez.key (r:ez mk D w0 K0 sz b E M a w):∃ b',c7 mk D w0 K0 sz b' ⟨[],E,M,[],[]⟩ a w∧∀ {s:RS} {a':Act} {w':World} {M':List aj} {E':List (Nat×AV)} {l ts:List Nat},nodupB l=true→jO b.m l=true→iD b.m s.mv=true→fH l s.M l=some M'→jd l s.E ts=some E'→c7 mk D w0 K0 sz b' s a' w'→ez mk D w0 K0 sz b E' M' a' w':=by
 have hb:=r.1
 obtain ⟨b',rb,aN,hE,hG,fW⟩:=r.re
 exact ⟨b',rb,fun hn hs hf h3 h4 r'=>ez.from fW hb hE hG (r'.lF (by rw [aN,fW]) hn (by rw [fW];exact hs) (by rw [fW];exact hf) h3 h4)⟩
def Bv (P:Program) (T:aJ) (sz m:Nat) (tb:dj) (n:Nat) (l ts:List Nat) (todo:List Item) (E:List (Nat×AV)) (M:List aj):Option (List Item×Prop×List (Nat×AV)×List aj):=
 bif nodupB l&&jO m l then (match dr P T (walk P T 3) sz tb n todo ⟨[],E,M,[],[]⟩ with
 | some (t,s)=>bif iD m s.mv then ks l ts t s else none
 | none=>none) else none
theorem bT (hT:aU P T=true) (hm:P.follows .mixedOrders=true) (hK:∀ w,Kp D w0 w→K0 w) {m:Nat} (al:b.m=m) (tb:dj) (n:Nat) (l ts:List Nat) {A:Prop} {E':List (Nat×AV)} {M':List aj} (r:ez mk D w0 K0 sz b E M a w)
  (h:Bv P T sz m tb n l ts todo E M=some (todo',A,E',M')) (hA:A) (k:∀ a' w',ez mk D w0 K0 sz b E' M' a' w'→aD P f todo' R a' w'):aD P f todo R a w:=by
 subst al
 obtain ⟨b',rb,key⟩:=r.key
 unfold Bv at h
 cases hn:(nodupB l&&jO b.m l) with
 | false=>simp [hn] at h
 | true=>
  simp only [hn,cond_true] at h
  simp only [Bool.and_eq_true] at hn
  split at h
  ·rename_i t s hr
   cases hf:iD b.m s.mv with
   | false=>simp [hf] at h
   | true=>
    simp only [hf,cond_true] at h
    obtain ⟨rfl,rfl,hM,hE⟩:=ou h
    exact kA hT (ir hT hm 3) hm hK n hr rb hA fun a' w' r'=>k a' w' (key hn.1 hn.2 hf hM hE r')
  ·cases h
end Go.Proofs.YtcnpikbbmbombaaDoor
namespace Go.Proofs.YtcnpikbbmbombaaDoor
open Go.RowKit
variable {mk:Bool} {P:Program} {f:FuncId}
def Le (x x':DV):Prop:=∀ (K:World→Prop) (y:Value) (H:ak),bI K x y H→bI K x' y H
theorem Le.refl (x:DV):Le x x:=fun _ _ _ h=>h
theorem Le.B9 (T k:Nat):Le (.v (.slice none 0 0)) (.em T k []):=by
 intro K y H h
 cases h
 have:bI K (.em T k []) (.slice none 0 0) ([]++bu ([]:List (List DV)).length k fun _ _=>[]):=.em (fun _=>[]) (fun _ _=>[]) (by simp) (by simpa [lay] using dD.nil T k none) (by simp)
 simpa [bu] using this
theorem Le.w5 (k:Nat):Le (.v (.slice none 0 0)) (.ro k []):=by
 intro K y H h
 cases h
 exact .ro (fun _=>[]) (by simp) ⟨none,0,rfl,Nat.le_refl _⟩ (fun w _=>by simpa [lay] using (dD.nil 0 k none).src (Holds.nil w)) (by simp)
theorem Le.ag {l l':List DV} (hl:l.length=l'.length) (h:∀ (j:Nat) c c',l[j]?=some c→l'[j]?=some c'→Le c c'):Le (.ag l) (.ag l'):=by
 intro K y H r
 cases r with
 | ag ys F mJ hr=>
  rw [hl]
  refine .ag ys F (by omega) fun j c z h1 h2=>?_
  have hj:j<l.length:=by rw [hl];exact (List.getElem?_eq_some_iff.1 h1).1
  exact h j _ c (List.getElem?_eq_getElem hj) h1 K z _ (hr j _ z (List.getElem?_eq_getElem hj) h2)
theorem Le.tu {l l':List DV} (hl:l.length=l'.length) (h:∀ (j:Nat) c c',l[j]?=some c→l'[j]?=some c'→Le c c'):Le (.tu l) (.tu l'):=by
 intro K y H r
 cases r with
 | tu ys F mJ hr=>
  rw [hl]
  refine .tu ys F (by omega) fun j c z h1 h2=>?_
  have hj:j<l.length:=by rw [hl];exact (List.getElem?_eq_some_iff.1 h1).1
  exact h j _ c (List.getElem?_eq_getElem hj) h1 K z _ (hr j _ z (List.getElem?_eq_getElem hj) h2)
theorem aB.le {args:List AV} {x x':DV} (h:aB P f args x) (e:Le x x'):aB P f args x':=by
 refine ⟨h.1,fun w K ys hK hl hr=>(h.2 w K ys hK hl hr).mono ?_⟩
 rintro ed w' ⟨v,rfl,g,H,⟨Ho,Hi,rfl,hd⟩,n⟩
 exact ⟨_,rfl,g,_,⟨Ho,Hi,rfl,e _ _ _ hd⟩,n⟩
inductive cV:List DV→List DV→Prop where
 | nil:cV [] []
 | cons {x x':DV} {l l':List DV} (h:Le x x') (t:cV l l'):cV (x::l) (x'::l')
theorem cV.ok {l l':List DV} (h:cV l l'):l.length=l'.length∧∀ (j:Nat) c c',l[j]?=some c→l'[j]?=some c'→Le c c':=by
 induction h with
 | nil=>simp
 | cons h t ih=>
  refine ⟨by simp [ih.1],fun j c c' h1 h2=>?_⟩
  cases j with
  | zero=>simp at h1 h2;subst h1 h2;exact h
  | succ j=>exact ih.2 j c c' (by simpa using h1) (by simpa using h2)
theorem cV.tu {l l':List DV} (h:cV l l'):Le (.tu l) (.tu l'):=Le.tu h.ok.1 h.ok.2
end Go.Proofs.YtcnpikbbmbombaaDoor
namespace Go.Proofs.YtcnpikbbmbombaaDoor
open Go.RowKit
variable {mk:Bool} {P:Program} {T:aJ} {f:FuncId} {a:Act} {w:World} {D:List Nat} {w0:World} {K0:World→Prop} {E E1:List (Nat×AV)} {M M1 M2:List aj} {β:Beta} {F:Nat→ak} {I X:ak} {sz:Nat} {b:et}
def MG:List Nat→List aj→Option (List aj)
 | [],M=>some M
 | u::r,M=>match M[u]? with
  | some (.rw T k rows)=>MG r (M.set u (.rw T k (cx rows)))
  | _=>none
theorem RM.Ca (R:RM D w0 K0 M β F I w) {v n T k:Nat} {rows:List (List DV)} (hv:M[v]?=some (.rw T k rows)) (hn:n=rows.length):∃ F' I',RM D w0 K0 (M.set v .dead) β F' I' w∧bK I I'∧∀ y,au (fun w=>K0 w∧Holds w I) β (.sl v n) y→au (fun w=>K0 w∧Holds w I') β (.d (.ro k (cx rows))) y:=by
 have R1:=R.x.eZ hv
 rw [List.nil_append] at R1
 have hB:=R.blk v _ hv
 refine ⟨aG F v [],F v++I,⟨R1.len,fun u bl hu=>(R1.blk u bl hu).mono (fun w hw=>⟨hw.1,(Holds.app.1 hw.2).2⟩) (Ext.refl _),R1.st.perm (List.Perm.append_left _ List.perm_append_comm)⟩,⟨F v,rfl⟩,fun y r=>?_⟩
 generalize F v=Fv at hB ⊢
 cases r with
 | sl hb=>
  cases hB with
  | rw aN X G hl hs hr=>
   rw [hb] at aN;cases aN
   have hd:=bI.em (K:=fun w=>K0 w∧Holds w I) X G hl hs hr
   have:=sc (K':=fun w=>K0 w∧Holds w (_++I)) hd fun w hw=>⟨⟨hw.1,(Holds.app.1 hw.2).2⟩,(Holds.app.1 hw.2).1⟩
   rw [ef] at this
   rw [hn]
   exact .d this
def ri:List Nat→List (Nat×AV)→List aj→Option (List Prop×List (Nat×AV)×List aj)
 | [],E,M=>some ([],E,M)
 | t::r,E,M=>match bS E t with
  | some (.sl v n)=>(match M[v]? with
   | some (.rw _ k rows)=>(match ri r (pa E t (.d (.ro k (cx rows)))) (M.set v .dead) with | some (p,E',M')=>some ((n=rows.length)::p,E',M') | none=>none)
   | _=>none)
  | _=>none
def rj:List (Nat×Nat)→List aj→Option (List Prop×List aj)
 | [],M=>some ([],M)
 | (u,o)::r,M=>match M[u]? with
  | some (.bx Tb cells)=>(match cells[o]? with
   | some (.sl v n)=>(match M[v]? with
    | some (.rw _ k rows)=>(match rj r ((M.set v .dead).set u (.bx Tb (cells.set o (.d (.ro k (cx rows)))))) with | some (p,M')=>some ((n=rows.length)::p,M') | none=>none)
    | _=>none)
   | _=>none)
  | _=>none
theorem Bw {ev:Nat→Value}:∀ {ls:List Nat} {E:List (Nat×AV)} {M:List aj} {F:Nat→ak} {I:ak} {p:List Prop},ri ls E M=some (p,E1,M1)→aX p→RM D w0 K0 M β F I w→(∀ t v,bS E t=some v→au (fun w=>K0 w∧Holds w I) β v (ev t))→
  ∃ F' I',RM D w0 K0 M1 β F' I' w∧bK I I'∧∀ t v,bS E1 t=some v→au (fun w=>K0 w∧Holds w I') β v (ev t)
 | [],E,M,F,I,p,h,_,R,hs=>by
  simp only [ri,Option.some.injEq,Prod.mk.injEq] at h;obtain ⟨-,rfl,rfl⟩:=h
  exact ⟨F,I,R,bK.refl I,hs⟩
 | t::r,E,M,F,I,p,h,hp,R,hs=>by
  unfold ri at h
  split at h
  ·rename_i v n ht
   split at h
   ·rename_i T k rows hv
    split at h
    ·rename_i p' E' M' hr
     simp only [Option.some.injEq,Prod.mk.injEq] at h;obtain ⟨rfl,e1,e2⟩:=h
     rw [e1,e2] at hr
     obtain ⟨F2,I2,R2,g,hA⟩:=R.Ca hv hp.1
     suffices h9:∀ s x,bS (pa E t (.d (.ro k (cx rows)))) s=some x→au (fun w=>K0 w∧Holds w I2) β x (ev s) by
      obtain ⟨F',I',q1,q2,q3⟩:=Bw (ev:=ev) hr hp.2 R2 h9
      exact ⟨F',I',q1,g.trans q2,q3⟩
     intro s x hx
     rcases va hx with ⟨rfl,rfl,-⟩ | ⟨-,h2⟩
     ·exact hA _ (hs _ _ ht)
     ·exact (hs s x h2).mono (fun w hw=>⟨hw.1,g.holds w hw.2⟩) (Ext.refl _)
    ·cases h
   ·cases h
  ·cases h
theorem Bx:∀ {lc:List (Nat×Nat)} {M:List aj} {F:Nat→ak} {I:ak} {p:List Prop},rj lc M=some (p,M1)→aX p→RM D w0 K0 M β F I w→∃ F' I',RM D w0 K0 M1 β F' I' w∧bK I I'
 | [],M,F,I,p,h,_,R=>by
  simp only [rj,Option.some.injEq,Prod.mk.injEq] at h;obtain ⟨-,rfl⟩:=h
  exact ⟨F,I,R,bK.refl I⟩
 | (u,o)::r,M,F,I,p,h,hp,R=>by
  unfold rj at h
  split at h
  ·rename_i Tb cells hu
   split at h
   ·rename_i v n ho
    split at h
    ·rename_i T k rows hv
     split at h
     ·rename_i p' M' hr
      simp only [Option.some.injEq,Prod.mk.injEq] at h;obtain ⟨rfl,e1⟩:=h
      rw [e1] at hr
      have qS:v≠u:=fun e=>by subst e;rw [hu] at hv;cases hv
      obtain ⟨F2,I2,R2,g,hA⟩:=R.Ca hv hp.1
      have hB:=R.blk u _ hu
      obtain ⟨aI,-⟩:=List.getElem?_eq_some_iff.1 hu
      have Dv:(M.set v .dead)[u]?=some (.bx Tb cells):=by rw [List.getElem?_set,if_neg qS];exact hu
      have ji:=R2.blk u _ Dv
      have fF:bq (fun w=>K0 w∧Holds w I2) β u (.bx Tb (cells.set o (.d (.ro k (cx rows))))) (F2 u):=by
       have bj:∀ {G:ak},bq (fun w=>K0 w∧Holds w I2) β u (.bx Tb cells) G→G=F2 u→bq (fun w=>K0 w∧Holds w I) β u (.bx Tb cells) (F u)→F2 u=F u→bq (fun w=>K0 w∧Holds w I2) β u (.bx Tb (cells.set o (.d (.ro k (cx rows))))) (F2 u):=by
        intro G _ _ h3 h4
        rw [h4]
        generalize F u=Fu at h3 ⊢
        cases h3 with
        | bx hb ys hl jG=>
         refine .bx hb ys (by rw [List.length_set];exact hl) fun j c y h1 h2=>?_
         rw [List.getElem?_set] at h1
         split at h1
         ·rename_i hj;subst hj
          split at h1
          ·simp only [Option.some.injEq] at h1;subst h1
           exact hA _ (jG _ _ _ ho h2)
          ·cases h1
         ·exact (jG j c y h1 h2).mono (fun w hw=>⟨hw.1,g.holds w hw.2⟩) (Ext.refl _)
       have kE:F2 u=F u:=by
        generalize hq:F2 u=q at ji
        generalize nW:F u=q0 at hB
        cases ji with
        | bx hb ys hl jG=>
         cases hB with
         | bx aN O7 cN CA=>
          rw [hb] at aN;cases aN
          have h1:Holds w (F2 u):=R2.iu Dv
          have h2:Holds w (F u):=R.iu hu
          rw [hq] at h1;rw [nW] at h2
          have e1:=h1.one
          have e2:=h2.one
          rw [e1] at e2
          simp only [Option.some.injEq,Obj.cells.injEq] at e2
          rw [e2.1]
       exact bj ji rfl hB kE
      have R3:RM D w0 K0 ((M.set v .dead).set u (.bx Tb (cells.set o (.d (.ro k (cx rows)))))) β F2 I2 w:=by
       refine ⟨by rw [List.length_set];exact R2.len,fun x bl hx=>?_,by rw [List.length_set];exact R2.st⟩
       rw [List.getElem?_set] at hx
       split at hx
       ·rename_i e;subst e
        split at hx
        ·simp only [Option.some.injEq] at hx;subst hx;exact fF
        ·cases hx
       ·exact R2.blk x bl hx
      obtain ⟨F4,I4,R4,g4⟩:=Bx hr hp.2 R3
      exact ⟨F4,I4,R4,g.trans g4⟩
     ·cases h
    ·cases h
   ·cases h
  ·cases h
theorem ch.stay {E2:List (Nat×AV)} {M3:List aj} {p1 p2:List Prop} (r:ch mk D w0 K0 sz E M a w) (ls:List Nat) (lc:List (Nat×Nat)) (h:ri ls E M=some (p1,E1,M1)) (h2:rj lc M1=some (p2,M2)) (q1:aX p1) (q2:aX p2) (e:E1=E2) (e2:M2=M3):ch mk D w0 K0 sz E2 M3 a w:=by
 subst e e2
 obtain ⟨g1,I,g2,β,F,R,hs⟩:=r
 obtain ⟨F1,I1,R1,gI,s1⟩:=Bw (ev:=fun t=>a.eval (.tmp t)) h q1 R hs
 obtain ⟨F2,I2,R2,g⟩:=Bx h2 q2 R1
 exact ⟨g1,I2,(g2.grow gI).grow g,β,F2,R2,fun t v hv=>(s1 t v hv).mono (fun w hw=>⟨hw.1,g.holds w hw.2⟩) (Ext.refl _)⟩
end Go.Proofs.YtcnpikbbmbombaaDoor
namespace Go.Proofs.YtcnpikbbmbombaaDoor
open Go.RowKit Go.Deep
theorem zh {H:Type} {enc:TypeId×Value→H} {P:Program} (hl:laidOutB P=true) {W W':World} (g:Gr W W'):∀ {ts:List TypeId} {vs:List Value} {ds:List (DataW H)} {ps:List MemPlace},(∀ t ∈ ts,P.readableRec t=true∧t<P.types.size)→DataW.TrodAll enc P W 0 (fun _=>true) true ts vs ds ps→(∀ x ∈ ps,x.block<W.heap.size)→DataW.TrodAll enc P W' 0 (fun b=>decide (b<W.heap.size)) true ts vs ds ps
 | [],[],[],_,_,h,_=>h
 | [],_::_,_,_,_,h,_=>h.elim
 | [],[],_::_,_,_,h,_=>h.elim
 | _::_,[],_,_,_,h,_=>h.elim
 | _::_,_::_,[],_,_,h,_=>h.elim
 | t::ts,v::vs,d::ds,ps,ht,h,hp=>by
  obtain ⟨p,q,h1,h2,rfl⟩:=h
  refine ⟨p,q,Below.trod hl (ht t (by simp)).1 (ht t (by simp)).2 h1 g (fun x hx=>hp x (by simp [hx])),zh hl g (fun t' h'=>ht t' (by simp [h'])) h2 (fun x hx=>hp x (by simp [hx])),rfl⟩
theorem Hf {H:Type} {enc:TypeId×Value→H} {P:Program} {f:Func} {s:ChangeSpec} {W W':World} {args:Array Value} {ds gs:List (DataW H)} {before:List MemPlace} {tb:TypeId} (hl:laidOutB P=true)
  (hp:f.params.toList.all (fun t=>P.readableRec t&&decide (t<P.types.size))=true) (hr:f.resultTypes=#[tb]) (ht:P.underlying tb=some .bool) (hv:s.vars=[])
  (hW:DataW.Whole enc P f.params.toList s.vars false W args.toList ds gs before) (mQ:s.fn H (ds++gs)={ results:=[.lit (.bool true)],args:=ds }) (g:Gr W W'):s.post enc P f false true false false W args (.bool true) W':=by
 have yD:=hW
 have aI:=hW.lt
 obtain ⟨p,q,hA,hV,rfl,NS,fX⟩:=hW
 rw [hv] at hV
 match gs,hV with
 | [],hV=>
  cases hV
  refine ⟨ds,[],_,[],p,[],yD,?_,?_,?_,?_,fun h=>by cases h⟩
  ·rw [mQ,hr]
   exact ⟨[],[],⟨1,by simp [DataW.trod,ht,Value.cells]⟩,rfl,rfl⟩
  ·rw [mQ]
   refine zh hl g (fun t h=>?_) hA (fun x hx=>aI x (by simp [hx]))
   have:=List.all_eq_true.1 hp t h
   simpa using this
  ·rw [mQ,hv];rfl
  ·exact Below.frame g _
def TR (P:Program) (w:World) (t:TypeId) (cs:List Value):Prop:=∃ (H:Type) (enc:TypeId×Value→H) (base:Nat) (sp:Nat→Bool) (held:Bool) (fuel:Nat) (x:DataW H×List MemPlace),DataW.trod enc P w base sp held fuel t cs=some x
theorem TR.of {H:Type} {enc:TypeId×Value→H} {P:Program} {w:World} {base:Nat} {sp:Nat→Bool} {held:Bool} {t:TypeId} {v:Value} {d:DataW H} {ps:List MemPlace} (h:DataW.Trod enc P w base sp held t v d ps):TR P w t v.cells.toList:=by
 obtain ⟨n,h⟩:=h;exact ⟨H,enc,base,sp,held,n,_,h⟩
section
variable {P:Program} {w:World} {t e:TypeId} {cs:List Value}
theorem TR.int {k:IntKind} (ht:P.underlying t=some (.int k)) (h:TR P w t cs):∃ n,cs=[.int k n]∧(Lit.int k n).wf=true:=by
 obtain ⟨H,enc,base,sp,held,fuel,x,h⟩:=h
 cases fuel with
 | zero=>simp [DataW.trod] at h
 | succ fuel=>
  rw [DataW.trod_step] at h;unfold DataW.trodStep at h;simp only [ht] at h
  split at h<;>simp_all
theorem cells?_some {base:Nat} {a:Addr} {n:Nat} {X:List Value} (h:w.cells? base a n=some X):X.length=n∧∀ j (hj:j<X.length),w.cell? (a.add j)=some X[j]:=by
 obtain ⟨_,h1,h2⟩:=World.cells?_some h
 exact ⟨h1,fun j hj=>by rw [h2 j (by omega)];exact List.getElem?_eq_getElem hj⟩
theorem mapM_each {α β:Type} {f:α→Option β}:∀ {l:List α} {r:List β},l.mapM f=some r→∀ x ∈ l,∃ y,f x=some y
 | [],_,_,x,hx=>by simp at hx
 | z::l,r,h,x,hx=>by
  rw [List.mapM_cons] at h
  obtain ⟨y,h1,h2⟩:=Option.bind_eq_some_iff.1 h
  obtain ⟨ys,h3,_⟩:=Option.bind_eq_some_iff.1 h2
  rcases List.mem_cons.1 hx with rfl | hx
  ·exact ⟨y,h1⟩
  ·exact mapM_each h3 x hx
theorem uH {X:Nat→List Value} {c:Nat}:∀ {n:Nat},(∀ i,i<n→(X i).length=c)→((List.range n).flatMap X).length=n*c
 | 0,_=>by simp
 | k+1,h=>by rw [List.range_succ,List.flatMap_append,List.length_append,uH (n:=k) (fun i hi=>h i (by omega))];simp [h k (by omega),Nat.succ_mul]
theorem TR.Hg (ht:P.underlying t=some (.slice e)) (h:TR P w t cs):∃ (v:Value) (n:Nat) (X:Nat→List Value),cs=[v]∧n≤maxLen∧(∀ i,i<n→(X i).length=P.cellsOf e∧TR P w e (X i))∧Src w (P.cellsOf e) v n ((List.range n).flatMap X)∧∃ a c,v=.slice a n c∧n≤c:=by
 obtain ⟨H,enc,base,sp,held,fuel,x,h⟩:=h
 rcases open_slice ht h with ⟨rfl,_⟩ | ⟨a,len,cap,m,n,D,Pl,rfl,_,Dw,MH,hm,_,hx⟩
 ·exact ⟨_,0,fun _=>[],rfl,by simp [maxLen],fun i hi=>by omega,by simp [Src],_,_,rfl,Nat.zero_le _⟩
 ·have hle:len≤m:=by rw [hm];split<;>omega
  obtain ⟨X,hX⟩:=choose_lt (n:=len) (α:=List Value) (p:=fun i c=>w.cells? base (a.add (i*P.cellsOf e)) (P.cellsOf e)=some c∧DataW.trod enc P w base sp held n e c=some (D i,Pl i)) (fun i hi=>hx i (by omega))
  have hlen:∀ i,i<len→(X i).length=P.cellsOf e:=fun i hi=>(cells?_some (hX i hi).1).1
  refine ⟨_,len,X,rfl,by omega,fun i hi=>⟨hlen i hi,H,enc,base,sp,held,n,_,(hX i hi).2⟩,⟨?_,?_⟩,⟨a,cap,rfl,Dw⟩⟩
  ·exact uH hlen
  ·refine Or.inr ⟨a,cap,rfl,?_⟩
   have key:∀ k,k≤len→∀ j (hj:j<((List.range k).flatMap X).length),w.cell? (a.add j)=some ((List.range k).flatMap X)[j]:=by
    intro k
    induction k with
    | zero=>intro _ j hj;simp at hj
    | succ k ih=>
     intro hk j hj
     have O8:((List.range k).flatMap X).length=k*P.cellsOf e:=uH (fun i hi=>hlen i (by omega))
     have hE:(List.range (k+1)).flatMap X=(List.range k).flatMap X++X k:=by rw [List.range_succ,List.flatMap_append];simp
     have yE:j<((List.range k).flatMap X++X k).length:=by rw [← hE];exact hj
     have Lh:((List.range (k+1)).flatMap X)[j]=((List.range k).flatMap X++X k)[j]:=by congr 1
     rw [Lh]
     by_cases h1:j<((List.range k).flatMap X).length
     ·rw [List.getElem_append_left h1];exact ih (by omega) j h1
     ·rw [List.getElem_append_right (by omega)]
      have h2:=(cells?_some (hX k (by omega)).1).2 (j-((List.range k).flatMap X).length) (by rw [List.length_append] at yE;omega)
      rw [← h2,Addr.mV]
      congr 2
      omega
   exact key len (Nat.le_refl _)
theorem TR.struct {fs:Array Field} (ht:P.underlying t=some (.struct fs)) (h:TR P w t cs):cs.length=P.cellsOf t∧∀ f ∈ fs.toList,TR P w f.type ((cs.drop f.offset).take (P.cellsOf f.type)):=by
 obtain ⟨H,enc,base,sp,held,fuel,x,h⟩:=h
 cases fuel with
 | zero=>simp [DataW.trod] at h
 | succ fuel=>
  rw [DataW.trod_step] at h;unfold DataW.trodStep at h;simp only [ht] at h
  split at h
  ·rename_i hlen
   refine ⟨hlen,fun f hf=>?_⟩
   obtain ⟨xs,h1,_⟩:=Option.map_eq_some_iff.1 h
   obtain ⟨y,hy⟩:=mapM_each h1 f hf
   exact ⟨H,enc,base,sp,held,fuel,_,hy⟩
  ·simp at h
theorem TR.array {n:Nat} (ht:P.underlying t=some (.array n e)) (h:TR P w t cs):cs.length=P.cellsOf t∧∀ i,i<n→TR P w e ((cs.drop (i*P.cellsOf e)).take (P.cellsOf e)):=by
 obtain ⟨H,enc,base,sp,held,fuel,x,h⟩:=h
 cases fuel with
 | zero=>simp [DataW.trod] at h
 | succ fuel=>
  rw [DataW.trod_step] at h;unfold DataW.trodStep at h;simp only [ht] at h
  split at h
  ·rename_i hlen
   refine ⟨hlen,fun i hi=>?_⟩
   obtain ⟨xs,h1,_⟩:=Option.map_eq_some_iff.1 h
   obtain ⟨y,hy⟩:=mapM_each h1 i (by simpa using hi)
   exact ⟨H,enc,base,sp,held,fuel,_,hy⟩
  ·simp at h
end
end Go.Proofs.YtcnpikbbmbombaaDoor
namespace Go.Proofs.YtcnpikbbmbombaaDoor
open Go.RowKit Go.Deep
def jl (w:World) (l:List DV) (cs:List Value):Prop:=cs.length=l.length∧∀ (j:Nat) c v,l[j]?=some c→cs[j]?=some v→bI (Gr w) c v []
theorem jl.one {w:World} {c:DV} {v:Value} (h:bI (Gr w) c v []):jl w [c] [v]:=⟨rfl,fun j c' v' h1 h2=>by
 cases j with
 | zero=>simp at h1 h2;subst h1 h2;exact h
 | succ j=>simp at h1⟩
theorem jl.app {w:World} {l l':List DV} {cs bM:List Value} (h:jl w l cs) (h':jl w l' bM):jl w (l++l') (cs++bM):=⟨by simp [h.1,h'.1],fun j c v h1 h2=>by
 have e:=h.1
 by_cases hj:j<l.length
 ·rw [List.getElem?_append_left hj] at h1;rw [List.getElem?_append_left (by omega)] at h2;exact h.2 j c v h1 h2
 ·rw [List.getElem?_append_right (by omega)] at h1;rw [List.getElem?_append_right (by omega),e] at h2;exact h'.2 _ c v h1 h2⟩
def Rd (P:Program) (w:World) (t:TypeId) {α:Type} (row:α→List DV) (ok:α→Prop):Prop:=∀ cs,TR P w t cs→∃ x,ok x∧jl w (row x) cs
variable {P:Program} {w:World} {t e:TypeId} {α β γ:Type}
theorem Rd.u64 (h:P.underlying t=some (.int .u64)):Rd P w t (fun n:Nat=>[.u n]) fun n=>n≤18446744073709551615:=fun cs hc=>by
 obtain ⟨n,rfl,hw⟩:=hc.int h
 have dt:(0:Int)≤n∧n≤18446744073709551615:=by simpa [Lit.wf,IntKind.min,IntKind.max,IntKind.signed,IntKind.bits] using hw
 have e:n=((n.toNat:Nat):Int):=by omega
 refine ⟨n.toNat,by omega,.one ?_⟩
 show bI _ (.v (.int .u64 ((n.toNat:Nat):Int))) _ _
 rw [← e];exact .v _
theorem Rd.int (h:P.underlying t=some (.int .i64)):Rd P w t (fun n:Int=>[.z n]) fun _=>True:=fun cs hc=>by
 obtain ⟨n,rfl,hw⟩:=hc.int h
 exact ⟨n,trivial,.one (.v _)⟩
theorem Rd.byte (h:P.underlying t=some (.int .u8)):Rd P w t (fun b:UInt8=>[.v (.int .u8 (b.toNat:Int))]) fun _=>True:=fun cs hc=>by
 obtain ⟨n,rfl,hw⟩:=hc.int h
 have dt:(0:Int)≤n∧n≤255:=by simpa [Lit.wf,IntKind.min,IntKind.max,IntKind.signed,IntKind.bits] using hw
 have e:n=(((UInt8.ofNat n.toNat).toNat:Nat):Int):=by simp;omega
 refine ⟨UInt8.ofNat n.toNat,trivial,.one ?_⟩
 rw [← e];exact .v _
theorem Rd.slice [Inhabited α] {k:Nat} {row:α→List DV} {ok:α→Prop} (h:P.underlying t=some (.slice e)) (hk:P.cellsOf e=k) (hr:Rd P w e row ok):Rd P w t (fun l:List α=>[.ro k (l.map row)]) fun l=>l.length≤9223372036854775807∧∀ x ∈ l,ok x:=fun cs hc=>by
 subst hk
 obtain ⟨v,n,X,rfl,hn,hX,hs,dq⟩:=TR.Hg h hc
 obtain ⟨Y,hY⟩:=choose_lt (n:=n) (α:=α) (p:=fun i x=>ok x∧jl w (row x) (X i)) fun i hi=>hr _ (hX i hi).2
 have hg:∀ (i:Nat) r,(((List.range n).map Y).map row)[i]?=some r→i<n∧r=row (Y i):=fun i r hi=>by
  have aI:=(List.getElem?_eq_some_iff.1 hi).1
  simp at aI
  simp [aI] at hi
  exact ⟨aI,hi.symm⟩
 have hl:(((List.range n).map Y).map row).length=n:=by simp
 refine ⟨(List.range n).map Y,⟨by simp;exact Nat.le_trans hn (by decide),?_⟩,.one (.ro X (fun i r hi=>?_) ?_ (fun w' g=>?_) fun i r j c x h1 h2 h3=>?_)⟩
 ·intro x hx
  obtain ⟨i,hi,rfl⟩:=List.mem_map.1 hx
  exact (hY i (by simpa using hi)).1
 ·obtain ⟨rl,rfl⟩:=hg i r hi
  refine ⟨?_,(hX i rl).1⟩
  rw [← (hX i rl).1];exact (hY i rl).2.1.symm
 ·rw [hl];exact dq
 ·rw [hl];exact hs.gr g
 ·obtain ⟨rl,rfl⟩:=hg i r h1
  exact (hY i rl).2.2 j c x h2 h3
theorem Rd.map {row:α→List DV} {ok:α→Prop} (hr:Rd P w t row ok) (g:α→β) {xD:β→List DV} {Dx:β→Prop} (h1:∀ x,row x=xD (g x)) (h2:∀ x,ok x→Dx (g x)):Rd P w t xD Dx:=fun cs hc=>by
 obtain ⟨x,h3,h4⟩:=hr cs hc
 exact ⟨g x,h2 x h3,h1 x▸h4⟩
end Go.Proofs.YtcnpikbbmbombaaDoor
namespace Go.Proofs
open Go.Shelf
def Tryd.En:Go.Shelf.Ren:=⟨fun | 137=>68 | 217=>79 | 266=>92 | n=>n,fun | 9=>9 | 5=>5 | 3=>3 | n=>n,fun | n=>n⟩
theorem Tryd.IE:Go.Proofs.Lays.n137 Tryd.prog Tryd.En:={
 mixed:=by kernel_rfl
 f137:=Tryd.func68.trans (congrArg some (by kernel_rfl))
 f217:=Tryd.func79.trans (congrArg some (by kernel_rfl))
 f266:=Tryd.func92.trans (congrArg some (by kernel_rfl))
 t3:=Tryd.underlying3
 a3:=Tryd.isAgg3
 z3:=Tryd.sizeOf3
 v3:=Tryd.zeroValue3
 t5:=Tryd.underlying5
 a5:=Tryd.isAgg5
 z5:=Tryd.sizeOf5
 v5:=Tryd.zeroValue5
 t9:=Tryd.underlying9
 a9:=Tryd.isAgg9
 z9:=Tryd.sizeOf9
 v9:=Tryd.zeroValue9 }
open Go.RowKit in
theorem Tryd.strings_IndexByte (s:ByteArray) (c:Int) (w:World):
  Calls Tryd.prog 68 #[.string s,.int .u8 c] w fun e w'=>e=.returned (.int .i64 (Lib.indexByte s.data.toList c.toNat.toUInt8))∧w'=w:=Any.strings_IndexByte Tryd.IE s c w
def Tryd.Eo:Go.Shelf.Ren:=⟨fun | 129=>82 | n=>n,fun | 53=>43 | 3=>3 | 4=>4 | 46=>118 | 5=>5 | 9=>9 | n=>n,fun | n=>n⟩
theorem Tryd.IF:Go.Proofs.Lays.n129 Tryd.prog Tryd.Eo:={
 mixed:=by kernel_rfl
 f129:=Tryd.func82.trans (congrArg some (by kernel_rfl))
 t3:=Tryd.underlying3
 a3:=Tryd.isAgg3
 z3:=Tryd.sizeOf3
 v3:=Tryd.zeroValue3
 t4:=Tryd.underlying4
 a4:=Tryd.isAgg4
 z4:=Tryd.sizeOf4
 v4:=Tryd.zeroValue4
 t5:=Tryd.underlying5
 a5:=Tryd.isAgg5
 z5:=Tryd.sizeOf5
 v5:=Tryd.zeroValue5
 t9:=Tryd.underlying9
 a9:=Tryd.isAgg9
 z9:=Tryd.sizeOf9
 v9:=Tryd.zeroValue9
 t46:=Tryd.underlying118
 a46:=Tryd.isAgg118
 z46:=Tryd.sizeOf118
 v46:=Tryd.zeroValue118
 t53:=Tryd.underlying43
 a53:=Tryd.isAgg43
 z53:=Tryd.sizeOf43
 v53:=Tryd.zeroValue43 }
theorem Tryd.bits_Len64 (x:Int) (w:World) (h0:0≤x) (h1:x≤18446744073709551615):
  Calls Tryd.prog 82 #[.int .u64 x] w fun e w'=>e=.returned (.int .i64 (Lib.bitLen x.toNat))∧w'=w:=Any.bits_Len64 Tryd.IF x w h0 h1
def Tryd.Ep:Go.Shelf.Ren:=⟨fun | 317=>81 | n=>n,fun | 3=>3 | 46=>118 | n=>n,fun | n=>n⟩
theorem Tryd.IG:Go.Proofs.Lays.n317 Tryd.prog Tryd.Ep:={
 mixed:=by kernel_rfl
 f317:=Tryd.func81.trans (congrArg some (by kernel_rfl))
 t3:=Tryd.underlying3
 a3:=Tryd.isAgg3
 z3:=Tryd.sizeOf3
 v3:=Tryd.zeroValue3
 t46:=Tryd.underlying118
 a46:=Tryd.isAgg118
 z46:=Tryd.sizeOf118
 v46:=Tryd.zeroValue118 }
open Go.Lib in
theorem Tryd.internal_strconv_log10Pow2 (x:Nat) (h:x≤64) (w:World):
  Calls Tryd.prog 81 #[.int .i64 x] w fun e w'=>e=.returned (.int .i64 (Lib.l10 x))∧w'=w:=Any.internal_strconv_log10Pow2 Tryd.IG x h w
def Tryd.Er:Go.Shelf.Ren:=⟨fun | 318=>83 | n=>n,fun | 3=>3 | 4=>4 | n=>n,fun | n=>n⟩
theorem Tryd.IH:Go.Proofs.Lays.n318 Tryd.prog Tryd.Er:={
 mixed:=by kernel_rfl
 f318:=Tryd.func83.trans (congrArg some (by kernel_rfl))
 t3:=Tryd.underlying3
 a3:=Tryd.isAgg3
 z3:=Tryd.sizeOf3
 v3:=Tryd.zeroValue3
 t4:=Tryd.underlying4
 a4:=Tryd.isAgg4
 z4:=Tryd.sizeOf4
 v4:=Tryd.zeroValue4 }
open Go.Lib in
theorem Tryd.internal_strconv_bool2_int (b:Bool) (w:World):
  Calls Tryd.prog 83 #[.bool b] w fun e w'=>e=.returned (.int .i64 (if b then 1 else 0))∧w'=w:=Any.internal_strconv_bool2_int Tryd.IH b w
def Tryd.Es:Go.Shelf.Ren:=⟨fun | 283=>71 | n=>n,fun | 3=>3 | 9=>9 | 4=>4 | n=>n,fun | n=>n⟩
theorem Tryd.II:Go.Proofs.Lays.n283 Tryd.prog Tryd.Es:={
 mixed:=by kernel_rfl
 f283:=Tryd.func71.trans (congrArg some (by kernel_rfl))
 t3:=Tryd.underlying3
 a3:=Tryd.isAgg3
 z3:=Tryd.sizeOf3
 v3:=Tryd.zeroValue3
 t4:=Tryd.underlying4
 a4:=Tryd.isAgg4
 z4:=Tryd.sizeOf4
 v4:=Tryd.zeroValue4
 t9:=Tryd.underlying9
 a9:=Tryd.isAgg9
 z9:=Tryd.sizeOf9
 v9:=Tryd.zeroValue9 }
open Go.Lib in
theorem Tryd.internal_strconv_small (i:Nat) (h:i<100) (w:World):
  Calls Tryd.prog 71 #[.int .i64 i] w fun e w'=>e=.returned (.string ⟨(Lib.decDigits i).toArray⟩)∧w'=w:=Any.internal_strconv_small Tryd.II i h w
def Tryd.Et:Go.Shelf.Ren:=⟨fun | 285=>73 | n=>n,fun | 37=>29 | 53=>43 | 3=>3 | 4=>4 | 51=>140 | 9=>9 | 5=>5 | 0=>0 | n=>n,fun | n=>n⟩
theorem Tryd.IJ:Go.Proofs.Lays.n285 Tryd.prog Tryd.Et:={
 mixed:=by kernel_rfl
 f285:=Tryd.func73.trans (congrArg some (by kernel_rfl))
 t0:=Tryd.underlying0
 a0:=Tryd.isAgg0
 z0:=Tryd.sizeOf0
 v0:=Tryd.zeroValue0
 t3:=Tryd.underlying3
 a3:=Tryd.isAgg3
 z3:=Tryd.sizeOf3
 v3:=Tryd.zeroValue3
 t4:=Tryd.underlying4
 a4:=Tryd.isAgg4
 z4:=Tryd.sizeOf4
 v4:=Tryd.zeroValue4
 t5:=Tryd.underlying5
 a5:=Tryd.isAgg5
 z5:=Tryd.sizeOf5
 v5:=Tryd.zeroValue5
 t9:=Tryd.underlying9
 a9:=Tryd.isAgg9
 z9:=Tryd.sizeOf9
 v9:=Tryd.zeroValue9
 t37:=Tryd.underlying29
 a37:=Tryd.isAgg29
 z37:=Tryd.sizeOf29
 v37:=Tryd.zeroValue29
 t51:=Tryd.underlying140
 a51:=Tryd.isAgg140
 z51:=Tryd.sizeOf140
 v51:=Tryd.zeroValue140
 t53:=Tryd.underlying43
 a53:=Tryd.isAgg43
 z53:=Tryd.sizeOf43
 v53:=Tryd.zeroValue43 }
open Go.RowKit Go.Sort Go.Lib in
theorem Tryd.internal_strconv_formatBase10 (blk off cap:Nat) (u:Nat) (d:Array UInt8) (w:World) (hH:Holds (fun (b:UInt8)=>Value.int .u8 (b.toNat:Int)) w blk off d) (hu:u<10 ^ d.size) (lg:u<18446744073709551616) (bp:d.size<4611686018427387904):
  Calls Tryd.prog 73 #[.slice (some ⟨blk,off,none⟩) d.size cap,.int .u64 u] w fun e w'=>
   e=.returned (.tuple #[])∧∃ (n v':Nat) (dk:Array UInt8),w'=(putRow (fun (b:UInt8)=>Value.int .u8 (b.toNat:Int)) w blk off dk).drewN n∧FmtInv d.size u 0 v' dk:=Any.internal_strconv_formatBase10 Tryd.IJ blk off cap u d w hH hu lg bp
def Tryd.Eu:Go.Shelf.Ren:=⟨fun | 171=>41 | 243=>60 | 246=>69 | 283=>71 | 284=>72 | 285=>73 | 286=>74 | 129=>82 | 317=>81 | 318=>83 | 319=>84 | 320=>85 | 337=>93 | 338=>94 | n=>n,fun | 3=>3 | 9=>9 | 2=>2 | 4=>4 | 171=>128 | 0=>0 | 53=>43 | 37=>29 | 5=>5 | 173=>131 | 212=>139 | 51=>140 | 20=>20 | 213=>141 | 46=>118 | 232=>148 | 233=>149 | n=>n,fun | 17=>1 | 18=>3 | 19=>4 | n=>n⟩
theorem Tryd.IK:Go.Proofs.Lays.n171 Tryd.prog Tryd.Eu:={
 mixed:=by kernel_rfl
 f129:=Tryd.func82.trans (congrArg some (by kernel_rfl))
 f171:=Tryd.func41.trans (congrArg some (by kernel_rfl))
 f243:=Tryd.func60.trans (congrArg some (by kernel_rfl))
 f246:=Tryd.func69.trans (congrArg some (by kernel_rfl))
 f283:=Tryd.func71.trans (congrArg some (by kernel_rfl))
 f284:=Tryd.func72.trans (congrArg some (by kernel_rfl))
 f285:=Tryd.func73.trans (congrArg some (by kernel_rfl))
 f286:=Tryd.func74.trans (congrArg some (by kernel_rfl))
 f317:=Tryd.func81.trans (congrArg some (by kernel_rfl))
 f318:=Tryd.func83.trans (congrArg some (by kernel_rfl))
 f319:=Tryd.func84.trans (congrArg some (by kernel_rfl))
 f320:=Tryd.func85.trans (congrArg some (by kernel_rfl))
 f337:=Tryd.func93.trans (congrArg some (by kernel_rfl))
 f338:=Tryd.func94.trans (congrArg some (by kernel_rfl))
 t0:=Tryd.underlying0
 a0:=Tryd.isAgg0
 z0:=Tryd.sizeOf0
 v0:=Tryd.zeroValue0
 t2:=Tryd.underlying2
 a2:=Tryd.isAgg2
 z2:=Tryd.sizeOf2
 v2:=Tryd.zeroValue2
 t3:=Tryd.underlying3
 a3:=Tryd.isAgg3
 z3:=Tryd.sizeOf3
 v3:=Tryd.zeroValue3
 t4:=Tryd.underlying4
 a4:=Tryd.isAgg4
 z4:=Tryd.sizeOf4
 v4:=Tryd.zeroValue4
 t5:=Tryd.underlying5
 a5:=Tryd.isAgg5
 z5:=Tryd.sizeOf5
 v5:=Tryd.zeroValue5
 t9:=Tryd.underlying9
 a9:=Tryd.isAgg9
 z9:=Tryd.sizeOf9
 v9:=Tryd.zeroValue9
 t20:=Tryd.underlying20
 a20:=Tryd.isAgg20
 z20:=Tryd.sizeOf20
 v20:=Tryd.zeroValue20
 t37:=Tryd.underlying29
 a37:=Tryd.isAgg29
 z37:=Tryd.sizeOf29
 v37:=Tryd.zeroValue29
 t46:=Tryd.underlying118
 a46:=Tryd.isAgg118
 z46:=Tryd.sizeOf118
 v46:=Tryd.zeroValue118
 t51:=Tryd.underlying140
 a51:=Tryd.isAgg140
 z51:=Tryd.sizeOf140
 v51:=Tryd.zeroValue140
 t53:=Tryd.underlying43
 a53:=Tryd.isAgg43
 z53:=Tryd.sizeOf43
 v53:=Tryd.zeroValue43
 t171:=Tryd.underlying128
 a171:=Tryd.isAgg128
 z171:=Tryd.sizeOf128
 v171:=Tryd.zeroValue128
 t173:=Tryd.underlying131
 a173:=Tryd.isAgg131
 z173:=Tryd.sizeOf131
 v173:=Tryd.zeroValue131
 t212:=Tryd.underlying139
 a212:=Tryd.isAgg139
 z212:=Tryd.sizeOf139
 v212:=Tryd.zeroValue139
 t213:=Tryd.underlying141
 a213:=Tryd.isAgg141
 z213:=Tryd.sizeOf141
 t232:=Tryd.underlying148
 a232:=Tryd.isAgg148
 z232:=Tryd.sizeOf148
 v232:=Tryd.zeroValue148
 t233:=Tryd.underlying149
 a233:=Tryd.isAgg149
 z233:=Tryd.sizeOf149
 v233:=Tryd.zeroValue149
 g17:=by kernel_rfl
 g18:=by kernel_rfl
 g19:=by kernel_rfl }
open Go.RowKit Go.Sort Go.Lib in
theorem Tryd.strconv_Itoa_small (i:Nat) (hi:i<100) (w:World):
  Calls Tryd.prog 41 #[.int .i64 i] w fun e w'=>e=.returned (.string ⟨(Lib.decDigits i).toArray⟩)∧w'=w:=Any.strconv_Itoa_small Tryd.IK i hi w
def Tryd.Ev:Go.Shelf.Ren:=⟨fun | 219=>75 | 217=>79 | 225=>86 | 224=>87 | 267=>88 | 266=>92 | 314=>95 | n=>n,fun | 9=>9 | 3=>3 | 4=>4 | 5=>5 | 46=>118 | 146=>146 | 51=>140 | n=>n,fun | 1=>2 | n=>n⟩
theorem Tryd.IL:Go.Proofs.Lays.n219 Tryd.prog Tryd.Ev:={
 mixed:=by kernel_rfl
 f217:=Tryd.func79.trans (congrArg some (by kernel_rfl))
 f219:=Tryd.func75.trans (congrArg some (by kernel_rfl))
 f224:=Tryd.func87.trans (congrArg some (by kernel_rfl))
 f225:=Tryd.func86.trans (congrArg some (by kernel_rfl))
 f266:=Tryd.func92.trans (congrArg some (by kernel_rfl))
 f267:=Tryd.func88.trans (congrArg some (by kernel_rfl))
 f314:=Tryd.func95.trans (congrArg some (by kernel_rfl))
 t3:=Tryd.underlying3
 a3:=Tryd.isAgg3
 z3:=Tryd.sizeOf3
 v3:=Tryd.zeroValue3
 t4:=Tryd.underlying4
 a4:=Tryd.isAgg4
 z4:=Tryd.sizeOf4
 v4:=Tryd.zeroValue4
 t5:=Tryd.underlying5
 a5:=Tryd.isAgg5
 z5:=Tryd.sizeOf5
 v5:=Tryd.zeroValue5
 t9:=Tryd.underlying9
 a9:=Tryd.isAgg9
 z9:=Tryd.sizeOf9
 v9:=Tryd.zeroValue9
 t46:=Tryd.underlying118
 a46:=Tryd.isAgg118
 z46:=Tryd.sizeOf118
 v46:=Tryd.zeroValue118
 t51:=Tryd.underlying140
 a51:=Tryd.isAgg140
 z51:=Tryd.sizeOf140
 v51:=Tryd.zeroValue140
 t146:=Tryd.underlying146
 a146:=Tryd.isAgg146
 z146:=Tryd.sizeOf146
 v146:=Tryd.zeroValue146
 g1:=by kernel_rfl }
open Go.RowKit Go.Lib in
theorem Tryd.stringslite_Index_one (s:ByteArray) (c:UInt8) (w:World):
  Calls Tryd.prog 75 #[.string s,.string ⟨#[c]⟩] w fun e w'=>e=.returned (.int .i64 (Lib.indexByte s.data.toList c))∧w'=w:=Any.stringslite_Index_one Tryd.IL s c w
def Tryd.Ew:Go.Shelf.Ren:=⟨fun | 143=>78 | 219=>75 | 217=>79 | 225=>86 | 224=>87 | 267=>88 | 266=>92 | 314=>95 | n=>n,fun | 9=>9 | 3=>3 | 4=>4 | 5=>5 | 46=>118 | 146=>146 | 51=>140 | n=>n,fun | 1=>2 | n=>n⟩
theorem Tryd.IM:Go.Proofs.Lays.n143 Tryd.prog Tryd.Ew:={
 mixed:=by kernel_rfl
 f143:=Tryd.func78.trans (congrArg some (by kernel_rfl))
 f217:=Tryd.func79.trans (congrArg some (by kernel_rfl))
 f219:=Tryd.func75.trans (congrArg some (by kernel_rfl))
 f224:=Tryd.func87.trans (congrArg some (by kernel_rfl))
 f225:=Tryd.func86.trans (congrArg some (by kernel_rfl))
 f266:=Tryd.func92.trans (congrArg some (by kernel_rfl))
 f267:=Tryd.func88.trans (congrArg some (by kernel_rfl))
 f314:=Tryd.func95.trans (congrArg some (by kernel_rfl))
 t3:=Tryd.underlying3
 a3:=Tryd.isAgg3
 z3:=Tryd.sizeOf3
 v3:=Tryd.zeroValue3
 t4:=Tryd.underlying4
 a4:=Tryd.isAgg4
 z4:=Tryd.sizeOf4
 v4:=Tryd.zeroValue4
 t5:=Tryd.underlying5
 a5:=Tryd.isAgg5
 z5:=Tryd.sizeOf5
 v5:=Tryd.zeroValue5
 t9:=Tryd.underlying9
 a9:=Tryd.isAgg9
 z9:=Tryd.sizeOf9
 v9:=Tryd.zeroValue9
 t46:=Tryd.underlying118
 a46:=Tryd.isAgg118
 z46:=Tryd.sizeOf118
 v46:=Tryd.zeroValue118
 t51:=Tryd.underlying140
 a51:=Tryd.isAgg140
 z51:=Tryd.sizeOf140
 v51:=Tryd.zeroValue140
 t146:=Tryd.underlying146
 a146:=Tryd.isAgg146
 z146:=Tryd.sizeOf146
 v146:=Tryd.zeroValue146
 g1:=by kernel_rfl }
open Go.RowKit Go.Lib in
theorem Tryd.strings_Index_one (s:ByteArray) (c:UInt8) (w:World):
  Calls Tryd.prog 78 #[.string s,.string ⟨#[c]⟩] w fun e w'=>e=.returned (.int .i64 (Lib.indexByte s.data.toList c))∧w'=w:=Any.strings_Index_one Tryd.IM s c w
def Tryd.Ex:Go.Shelf.Ren:=⟨fun | 138=>77 | 195=>89 | 218=>91 | 143=>78 | 219=>75 | 217=>79 | 225=>86 | 224=>87 | 267=>88 | 266=>92 | 314=>95 | n=>n,fun | 9=>9 | 3=>3 | 4=>4 | 5=>5 | 0=>0 | 46=>118 | 146=>146 | 51=>140 | n=>n,fun | 1=>2 | n=>n⟩
theorem Tryd.IN:Go.Proofs.Lays.n138 Tryd.prog Tryd.Ex:={
 mixed:=by kernel_rfl
 f138:=Tryd.func77.trans (congrArg some (by kernel_rfl))
 f143:=Tryd.func78.trans (congrArg some (by kernel_rfl))
 f195:=Tryd.func89.trans (congrArg some (by kernel_rfl))
 f217:=Tryd.func79.trans (congrArg some (by kernel_rfl))
 f218:=Tryd.func91.trans (congrArg some (by kernel_rfl))
 f219:=Tryd.func75.trans (congrArg some (by kernel_rfl))
 f224:=Tryd.func87.trans (congrArg some (by kernel_rfl))
 f225:=Tryd.func86.trans (congrArg some (by kernel_rfl))
 f266:=Tryd.func92.trans (congrArg some (by kernel_rfl))
 f267:=Tryd.func88.trans (congrArg some (by kernel_rfl))
 f314:=Tryd.func95.trans (congrArg some (by kernel_rfl))
 t0:=Tryd.underlying0
 a0:=Tryd.isAgg0
 z0:=Tryd.sizeOf0
 v0:=Tryd.zeroValue0
 t3:=Tryd.underlying3
 a3:=Tryd.isAgg3
 z3:=Tryd.sizeOf3
 v3:=Tryd.zeroValue3
 t4:=Tryd.underlying4
 a4:=Tryd.isAgg4
 z4:=Tryd.sizeOf4
 v4:=Tryd.zeroValue4
 t5:=Tryd.underlying5
 a5:=Tryd.isAgg5
 z5:=Tryd.sizeOf5
 v5:=Tryd.zeroValue5
 t9:=Tryd.underlying9
 a9:=Tryd.isAgg9
 z9:=Tryd.sizeOf9
 v9:=Tryd.zeroValue9
 t46:=Tryd.underlying118
 a46:=Tryd.isAgg118
 z46:=Tryd.sizeOf118
 v46:=Tryd.zeroValue118
 t51:=Tryd.underlying140
 a51:=Tryd.isAgg140
 z51:=Tryd.sizeOf140
 v51:=Tryd.zeroValue140
 t146:=Tryd.underlying146
 a146:=Tryd.isAgg146
 z146:=Tryd.sizeOf146
 v146:=Tryd.zeroValue146
 g1:=by kernel_rfl }
open Go.RowKit Go.Lib in
theorem Tryd.strings_Count_one (s:ByteArray) (c:UInt8) (w:World):
  Calls Tryd.prog 77 #[.string s,.string ⟨#[c]⟩] w fun e w'=>e=.returned (.int .i64 (Lib.countByte s.data.toList c))∧w'=w:=Any.strings_Count_one Tryd.IN s c w
end Go.Proofs
namespace Go.Proofs.YtcnpikbbmbombaaDoor
open Go.RowKit
variable {mk:Bool} {P:Program} {T:aJ} {f:FuncId} {R:e7} {a:Act} {w:World} {D:List Nat} {w0:World} {K0:World→Prop} {E:List (Nat×AV)} {M:List aj} {β:Beta} {F:Nat→ak} {I:ak} {sz:Nat} {todo todo':List Item}
theorem aD.rangeFunc {g:Operand} {ps:Array Tmp} {cR body:Code} {k:List Item} {l:Nat} {mark:List Deferred} {w1 w2 wd:World} {gf:FuncId} {args:Array Value} {dd:Deferred} (lE:R.ro=none)
  (he:(Instr.enterLoop f a.tmps ps cR body none).run P w=.ok (l,mark) w1) (MI:(resolve a.eval (rangeCall g l) 0).run P w1=.ok dd wd) (hinv:(invoke dd.target dd.args).run P wd=.ok (.enter gf args) w2)
  (hc:Calls P gf args w2 fun e w3=>∃ v,e=.returned v∧∃ j w4,(Instr.endLoop l).run P w3=.ok j w4∧aD P f ((j.map Item.code).toList++k) R { a with defers:=mark++a.defers } w4):aD P f (.code (.rangeFunc g ps cR body)::k) R a w:=by
 intro b cs hb hk hr
 have NT:b.roundOf=none:=hr.trans lE
 have s1:=stepR_rangeFunc (P:=P) (b:=b) (a:=a) (k:=k) (cs:=cs) (w:=w) (by rw [hb,NT];exact he) MI hinv
 obtain ⟨e,w3,fr,⟨v,rfl,j,w4,tf,hg⟩,Li,mQ,JX⟩:=hc (b.atR { a with defers:=mark++a.defers } (.inRangeFunc l::k)::cs)
 have s2:=step_leave_returned (P:=P) (c:=b.atR { a with defers:=mark++a.defers } (.inRangeFunc l::k)) (cs:=cs) JX
 rw [finish_atR_inRangeFunc] at s2
 have s3:=stepR_endRangeFunc (P:=P) (b:=b) (a:={ a with defers:=mark++a.defers }) (k:=k) (cs:=cs) tf
 have hs:Steps P _ _:=Li
 exact (hg b cs hb hk hr).of ((Steps.one s1).trans (hs.trans ((Steps.one s2).trans (.one s3))))
def qu (E:List (Nat×AV)):List Nat→Option (List (Nat×AV))
 | []=>some []
 | t::r=>(match bS E t,qu E r with | some v,some l=>some ((t,v)::l) | _,_=>none)
theorem Ai:∀ {ts:List Nat} {E1:List (Nat×AV)},qu E ts=some E1→∀ x ∈ E1,bS E x.1=some x.2
 | [],E1,h,x,hx=>by simp only [qu,Option.some.injEq] at h;subst h;cases hx
 | t::r,E1,h,x,hx=>by
  unfold qu at h
  split at h
  ·rename_i v l h1 h2
   simp only [Option.some.injEq] at h;subst h
   rcases List.mem_cons.1 hx with rfl | hx
   ·exact h1
   ·exact Ai h2 x hx
  ·simp at h
def LS.still:LS→Bool
 | .busy=>false
 | _=>true
def LS.then:LS→List Item→List Item
 | .left,k=>.code .ret::k
 | _,k=>k
def Aj (P:Program) (T:aJ) (f:FuncId) (sz:Nat) (tb:dj) (n:Nat) (l ts:List Nat) (x:AV) (M':List aj) (cy w6:List Nat) (todo:List Item) (E:List (Nat×AV)) (M:List aj):Option (List Item×Prop×List (Nat×AV)×List aj):=
 match dr P T (walk P T 3) sz tb n todo ⟨[],E,M,[],[]⟩ with
 | some (.code (.rangeFunc (.tmp g) ps cR body)::k,s)=>(match bS s.E g,qu s.E ts with
  | some (.fn gf b8),some E1=>(match jX (l++[s.M.length]) (.yl s.M.length::b8),fH (l++[s.M.length]) (s.M++[.lp .ready f sz E1 ⟨ps,cR,body⟩]) (l++[s.M.length]) with
   | some told,some Ms=>bif nodupB (l++[s.M.length])&&Nat.ble (l++[s.M.length]).length M'.length&&gG P gf&&nodupB cy then
    (match (la (iY (s.M++[.lp .ready f sz E1 ⟨ps,cR,body⟩]) (l++[s.M.length])++(M'.drop (l++[s.M.length]).length).map (er (outer (l++[s.M.length]) (s.M.length+1)))) (l++[s.M.length]) ((M'.take (l++[s.M.length]).length).map (er (outer (l++[s.M.length]) (s.M.length+1)))))[s.M.length]? with
    | some (.lp ls _ _ _ _)=>bif ls.still then ks cy w6 (ls.then k) ⟨aA P gf told Ms x M'::s.vc,s.E,(la (iY (s.M++[.lp .ready f sz E1 ⟨ps,cR,body⟩]) (l++[s.M.length])++(M'.drop (l++[s.M.length]).length).map (er (outer (l++[s.M.length]) (s.M.length+1)))) (l++[s.M.length]) ((M'.take (l++[s.M.length]).length).map (er (outer (l++[s.M.length]) (s.M.length+1))))).set s.M.length .dead,[],[]⟩ else none
    | _=>none) else none
   | _,_=>none)
  | _,_=>none)
 | _=>none
theorem Hh {l:Nat} {r:Loop} {ls:LS} (h:w.heap[l]?=some (.loop r)) (bj:ls.still=true) (hs:r.state=ls.state) (hp:r.pending=ls.j1):(Instr.endLoop l).run P w=.ok ls.j1 (b7 w l (.loop { r with state:=.exhausted })):=by
 unfold Instr.endLoop Instr.getLoop
 simp only [Sem.run_bind,qc h rfl,Result.andThen_ok,Sem.run_pure,hs,hp]
 rw [if_neg (by cases ls<;>first | decide | simp [LS.still] at bj)]
 simp only [Sem.run_bind,rZ h rfl,Result.andThen_ok,Sem.run_pure]
theorem LS.then_eq (ls:LS) (k:List Item):(ls.j1.map Item.code).toList++k=ls.then k:=by cases ls<;>rfl
theorem A8 (hT:aU P T=true) (hm:P.follows .mixedOrders=true) (hK:∀ w,Kp D w0 w→K0 w) (lE:R.ro=none) (tb:dj) (n:Nat) (l ts:List Nat) (x:AV) (M':List aj) (cy w6:List Nat) {A:Prop} {E2:List (Nat×AV)} {M2:List aj} (r:ch true D w0 K0 sz E M a w)
  (h:Aj P T f sz tb n l ts x M' cy w6 todo E M=some (todo',A,E2,M2)) (hA:A) (k:∀ a' w',ch true D w0 K0 sz E2 M2 a' w'→aD P f todo' R a' w'):aD P f todo R a w:=by
 unfold Aj at h
 split at h
 rotate_left
 ·simp at h
 rename_i g ps cR body k0 s hr
 split at h
 rotate_left
 ·simp at h
 rename_i gf b8 E1 hg yF
 split at h
 rotate_left
 ·simp at h
 rename_i told Ms oX nO
 generalize gp:l++[s.M.length]=l2 at h oX nO
 generalize NU:(aj.lp .ready f sz E1 ⟨ps,cR,body⟩)=lp at h nO
 cases hc:(nodupB l2&&Nat.ble l2.length M'.length&&gG P gf&&nodupB cy) with
 | false=>simp only [hc,cond_false,reduceCtorEq] at h
 | true=>
  simp only [hc,cond_true] at h
  simp only [Bool.and_eq_true] at hc
  obtain ⟨⟨⟨fX,hle⟩,jY⟩,Lj⟩:=hc
  generalize NV:la (iY (s.M++[lp]) l2++(M'.drop l2.length).map (er (outer l2 (s.M.length+1)))) l2 ((M'.take l2.length).map (er (outer l2 (s.M.length+1))))=Mo at h
  split at h
  rotate_left
  ·simp at h
  rename_i ls f9 O9 E9 lG CB
  cases bj:ls.still with
  | false=>simp only [bj,cond_false,reduceCtorEq] at h
  | true=>
  simp only [bj,cond_true] at h
  obtain ⟨rfl,rfl,h3,h4⟩:=ou h
  obtain ⟨fP,qZ⟩:=hA
  refine nU hT (ir hT hm 3) hm hK n hr r qZ fun a w r=>?_
  obtain ⟨bp,I,lC,β,F,Rm,hs⟩:=r
  have jH:=hs g _ hg
  generalize hy:a.eval (.tmp g)=y at jH
  cases jH with
  | fn cs cu fV=>
   have he:=run_enterLoop_outer (P:=P) (w:=w) f a.tmps ps cR body
   refine aD.rangeFunc (wd:=(w.alloc (.deferred (some []))).alloc (.loop { state:=.ready,pending:=none,fn:=f,tmps:=a.tmps,params:=ps,assign:=cR,body,defers:=w.heap.size })) (w2:=(w.alloc (.deferred (some []))).alloc (.loop { state:=.ready,pending:=none,fn:=f,tmps:=a.tmps,params:=ps,assign:=cR,body,defers:=w.heap.size })) (gf:=gf) (args:=#[.func (.yield (w.heap.size+1)) #[] #[]]++cs.toArray) (dd:={ target:=.fn (.func gf) cs.toArray,args:=#[.func (.yield (w.heap.size+1)) #[] #[]] }) lE he (by
    simp only [resolve,hy]
    simp [go_sem]) (by simp [invoke,go_sem,zW jY]) ?_
   have R1:RM D w0 K0 s.M β F ((w.heap.size,.deferred (some []))::I) (w.alloc (.deferred (some []))):=by
    refine ⟨Rm.len,fun u b hb=>(Rm.blk u b hb).mono (fun w hw=>⟨hw.1,(Holds.app.1 (show Holds w ([_]++I) from hw.2)).2⟩) (Ext.refl _),?_⟩
    have:=Rm.st.alloc (.deferred (some []))
    exact this.perm (by classical rw [List.perm_iff_count];intro z;simp only [List.count_append,List.count_cons];omega)
   have gI:bK I ((w.heap.size,.deferred (some []))::I):=⟨[_],rfl⟩
   have nV:∀ t v,bS s.E t=some v→au (fun w'=>K0 w'∧Holds w' ((w.heap.size,.deferred (some []))::I)) β v (a.eval (.tmp t)):=fun t v hv=>(hs t v hv).mono (fun w hw=>⟨hw.1,gI.holds w hw.2⟩) (Ext.refl _)
   have R2:=R1.new (q:=(some ⟨w.heap.size+1,0,none⟩,0)) (blk:=lp) (Gr.alloc _ (.loop { state:=.ready,pending:=none,fn:=f,tmps:=a.tmps,params:=ps,assign:=cR,body,defers:=w.heap.size })) (by have:=di.alloc (w.alloc (.deferred (some []))) (.loop { state:=.ready,pending:=none,fn:=f,tmps:=a.tmps,params:=ps,assign:=cR,body,defers:=w.heap.size });rwa [World.size_alloc] at this) (by
    subst NU
    exact .lp (bz:=.ready) (iv R1 _) bp fun x hx=>(nV x.1 x.2 (Ai yF x hx)).mono (fun _ h=>h) (Ext.app _ _))
   have Lk:(s.M++[lp]).length=s.M.length+1:=by simp
   have hC:=iv R1 (some ⟨w.heap.size+1,0,none⟩,0)
   have cC:=za (vs:=.yl s.M.length::b8) (ys:=.func (.yield (w.heap.size+1)) #[] #[]::cs) R2 hK (by simp [cu]) (fun j c y e1 e2=>by
    cases j with
    | zero=>simp at e1 e2;subst e1 e2;exact .yl hC
    | succ j=>simp at e1 e2;exact ((fV j c y e1 e2).mono (fun w hw=>⟨hw.1,gI.holds w hw.2⟩) (Ext.refl _)).mono (fun _ h=>h) (Ext.app _ _)) oX nO (oe fX) (Nat.le_of_ble_eq_true hle) fP
   rw [Lk,NV] at cC
   have Ll:(#[.func (.yield (w.heap.size+1)) #[] #[]]++cs.toArray:Array Value)=(Value.func (.yield (w.heap.size+1)) #[] #[]::cs).toArray:=by simp
   rw [Ll]
   refine cC.mono ?_
   rintro e w3 ⟨v,rfl,yK,F3,I3,R3,e3,g3,-,-⟩
   refine ⟨v,rfl,?_⟩
   obtain ⟨H,hF,hB,hH⟩:=R3.at CB
   have NW:yK[s.M.length]?=some (some ⟨w.heap.size+1,0,none⟩,0):=e3 _ _ (by simp) hC
   cases hB with
   | @lp b0 c0 f0 NH nF bz E0 NI tmps hb OH Du=>
    rw [NW] at hb;cases hb
    refine ⟨_,_,Hh (ls:=ls) hH.one bj rfl rfl,?_⟩
    rw [LS.then_eq]
    have R4:=R3.x.eZ CB
    rw [List.nil_append,hF] at R4
    have R5:RM D w0 K0 (Mo.set s.M.length .dead) yK (aG F3 s.M.length []) I3 (b7 w3 (w.heap.size+1) (.loop { state:=.exhausted,pending:=ls.j1,fn:=f9,tmps,params:=lG.ps,assign:=lG.cR,body:=lG.body,defers:=nF })):=by
     refine ⟨R4.len,R4.blk,?_⟩
     have s1:=(R4.st.perm (K:=(w.heap.size+1,.loop { state:=ls.state,pending:=ls.j1,fn:=f9,tmps,params:=lG.ps,assign:=lG.cR,body:=lG.body,defers:=nF })::((List.range (Mo.set s.M.length .dead).length).flatMap (aG F3 s.M.length [])++I3)) (by classical rw [List.perm_iff_count];intro z;simp only [List.count_append,List.count_cons,List.count_nil];omega)).set (.loop { state:=.exhausted,pending:=ls.j1,fn:=f9,tmps,params:=lG.ps,assign:=lG.cR,body:=lG.body,defers:=nF })
     exact St.lO (H:=[_]) s1
    refine k _ _ (ch.lF (mk:=true) (a:={ a with defers:=[{ target:=.collected w.heap.size,args:=#[] }]++a.defers }) (E:=s.E) (M:=Mo.set s.M.length .dead) ⟨bp,I3,?_,yK,_,R5,fun t v hv=>?_⟩ Lj h3 h4)
    ·have:=Mk.grow lC (gI.trans g3)
     refine ⟨List.nodup_cons.2 ⟨fun hd=>?_,this.1⟩,fun d hd=>?_⟩
     ·obtain ⟨b,e1,e2⟩:=lC.2 _ hd
      cases e1
      have aI:=(Array.getElem?_eq_some_iff.1 ((Holds.app.1 Rm.st.holds).2 _ e2)).1
      exact absurd aI (Nat.lt_irrefl _)
     rcases List.mem_append.1 hd with hd | hd
     ·rw [List.mem_singleton] at hd;subst hd
      obtain ⟨J,hJ⟩:=g3
      exact ⟨_,rfl,by rw [hJ];exact List.mem_append_right _ List.mem_cons_self⟩
     ·exact this.2 d hd
    ·exact ((nV t v hv).mono (fun w hw=>⟨hw.1,g3.holds w hw.2⟩) (Ext.refl _)).mono (fun _ h=>h) (fun u q hq=>e3 u q (by simp) (Ext.app _ _ _ _ hq))
end Go.Proofs.YtcnpikbbmbombaaDoor
namespace Go.Proofs.YtcnpikbbmbombaaDoor
open Go.RowKit
variable {mk:Bool} {P:Program} {T:aJ} {f:FuncId} {R:e7} {Re:Ending→World→Prop} {a:Act} {w:World} {D:List Nat} {w0:World} {K0:World→Prop} {E:List (Nat×AV)} {M:List aj} {β:Beta} {F:Nat→ak} {I H:ak} {sz:Nat} {tb:dj} {todo todo':List Item}
def eu (x:AV):Prop:=∀ (K K':World→Prop) (β:Beta) (y:Value),au K β x y→au K' β x y
def gk (b:aj):Prop:=∀ (K K':World→Prop) (β:Beta) (u:Nat) (H:ak),bq K β u b H→bq K' β u b H
theorem eu.v (x:Value):eu (.d (.v x)):=fun K K' β y r=>by cases r with | d r=>cases r with | v=>exact .d (.v _)
theorem eu.pt (u o:Nat):eu (.pt u o):=fun K K' β y r=>by cases r with | pt h=>exact .pt h
theorem eu.sl (u n:Nat):eu (.sl u n):=fun K K' β y r=>by cases r with | sl h=>exact .sl h
theorem gk.bx {T:Nat} {cells:List AV} (h:∀ c ∈ cells,eu c):gk (.bx T cells):=fun K K' β u H r=>by
 cases r with | bx hb ys hl hr=>exact .bx hb ys hl (fun j c y h1 h2=>h c (List.mem_of_getElem? h1) _ _ _ _ (hr j c y h1 h2))
def tj (P:Program):List Deferred→World→World→Prop
 | [],w,w'=>w=w'
 | d::ds,w,w'=>∃ b w1,d.target=.collected b∧(Instr.takeDeferred b).run P w=.ok [] w1∧tj P ds w1 w'
theorem zi {cs:List Frame}:∀ {ds:List Deferred} {fr:Frame} {w w':World},fr.mode=.returning→fr.defers=ds→tj P ds w w'→Steps P (lone fr cs w) (lone { fr with defers:=[] } cs w')
 | [],fr,w,w',_,hd,h=>by cases h;rw [show ({ fr with defers:=[] }:Frame)=fr by cases fr;simp_all];exact Steps.refl P _
 | d::ds,fr,w,w',hm,hd,⟨b,w1,h1,h2,h3⟩=>by
  have s1:=step_collected (P:=P) (fr:=fr) (cs:=cs) (by rw [hm];simp) hd h1 h2
  have s2:=zi (cs:=cs) (ds:=ds) (fr:={ fr with defers:=[]++ds }) hm rfl h3
  exact (Steps.one s1).trans s2
theorem aD.MJ {fn:Func} {k:List Item} (hf:P.funcs[f]?=some fn) {w':World} (hm:tj P a.defers w w') {v:Value} (hr:(results fn a.tmps).run P w'=.ok v w') (h:Re (.returned v) w'):aD P f (.code .ret::k) (.ends Re) a w:=by
 intro b cs hb hk lE
 rw [Frame.atR_of_none lE]
 have s2:=zi (P:=P) (cs:=cs) (fr:={ b.at a (.code .ret::k) with mode:=.returning }) rfl rfl hm
 exact ⟨.returned v,w',{ b.at a (.code .ret::k) with mode:=.returning,defers:=[] },h,.of_steps ((Steps.one step_ret).trans s2) (Steps.refl P _),hb,rfl,rfl,hk,fn,by rw [← hb] at hf;exact hf,hr⟩
theorem Hj {b:Nat} {w:World} (h:w.heap[b]?=some (.deferred (some []))):(Instr.takeDeferred b).run P w=.ok [] (b7 w b (.deferred none)):=by
 unfold Instr.takeDeferred
 simp only [Sem.run_bind,qc h rfl,Result.andThen_ok,Sem.run_pure,rZ h rfl]
theorem Ak:∀ {ds:List Deferred} {I:ak} {w:World},ds.Nodup→(∀ d ∈ ds,∃ b,d={ target:=.collected b,args:=#[] }∧(b,Obj.deferred (some [])) ∈ I)→St D w0 w (H++I)→∃ w' I',tj P ds w w'∧St D w0 w' (H++I')
 | [],I,w,_,_,s=>⟨w,I,rfl,s⟩
 | d::ds,I,w,hn,h,s=>by
  obtain ⟨b,rfl,hb⟩:=h d List.mem_cons_self
  obtain ⟨s1,s2,rfl⟩:=List.append_of_mem hb
  rw [List.nodup_cons] at hn
  have e1:St D w0 w ((b,.deferred (some []))::(H++(s1++s2))):=s.perm (by classical rw [List.perm_iff_count];intro z;simp only [List.count_append,List.count_cons];omega)
  have e2:=e1.set (.deferred none)
  have e3:St D w0 (b7 w b (.deferred none)) (H++((b,.deferred none)::(s1++s2))):=e2.perm (by classical rw [List.perm_iff_count];intro z;simp only [List.count_append,List.count_cons];omega)
  obtain ⟨w',I',g1,g2⟩:=Ak (ds:=ds) hn.2 (fun d hd=>by
   obtain ⟨c,rfl,hc⟩:=h d (List.mem_cons_of_mem _ hd)
   refine ⟨c,rfl,?_⟩
   have jC:c≠b:=fun e=>hn.1 (e▸hd)
   rcases List.mem_append.1 hc with hc | hc
   ·exact List.mem_cons_of_mem _ (List.mem_append_left _ hc)
   ·rcases List.mem_cons.1 hc with hc | hc
    ·cases hc;exact absurd rfl jC
    ·exact List.mem_cons_of_mem _ (List.mem_append_right _ hc)) e3
  exact ⟨w',I',⟨b,_,rfl,Hj e1.holds.one,g1⟩,g2⟩
def vd (P:Program) (T:aJ) (sz:Nat) (tb:dj) (n:Nat) (cy ts:List Nat) (todo:List Item) (E:List (Nat×AV)) (M:List aj):Option (Prop×List (Nat×AV)×List aj):=
 bif nodupB cy then (match dr P T (walk P T 3) sz tb n todo ⟨[],E,M,[],[]⟩ with
 | some (.code .ret::_,s)=>(match fH cy s.M cy,jd cy s.E ts with
  | some M',some E'=>some (aX s.vc,E',M')
  | _,_=>none)
 | _=>none) else none
theorem JY (hT:aU P T=true) (hm:P.follows .mixedOrders=true) (hK:∀ w,Kp D w0 w→K0 w) {fn:Func} (hf:P.funcs[f]?=some fn) (tb:dj) (n:Nat) (cy ts:List Nat) {A:Prop} {E':List (Nat×AV)} {M':List aj} (r:ch true D w0 K0 sz E M a w)
  (h:vd P T sz tb n cy ts todo E M=some (A,E',M')) (hA:A) (hE:∀ x ∈ E',eu x.2) (hM:∀ b ∈ M',gk b)
  (k:∀ a' w',dz D w0 K0 sz E' M' a' w'→∃ v,(results fn a'.tmps).run P w'=.ok v w'∧Re (.returned v) w'):aD P f todo (.ends Re) a w:=by
 unfold vd at h
 cases hk:nodupB cy with
 | false=>simp [hk] at h
 | true=>
  simp only [hk,cond_true] at h
  split at h
  rotate_left
  ·simp at h
  rename_i k0 s hr
  split at h
  rotate_left
  ·simp at h
  rename_i M1 E1 tI yF
  simp only [Option.some.injEq,Prod.mk.injEq] at h
  obtain ⟨yB,rfl,rfl⟩:=h
  refine nU hT (ir hT hm 3) hm hK n hr r (by rw [yB];exact hA) fun a w r=>?_
  obtain ⟨bp,I,lC,β,F,Rm,hs⟩:=ch.lF r hk tI yF
  obtain ⟨w',I',g1,g2⟩:=Ak (P:=P) lC.1 lC.2 Rm.st
  have r':dz D w0 K0 sz E1 M1 { a with defers:=[] } w':=by
   refine ⟨bp,I',rfl,β,F,⟨Rm.len,fun u b hb=>hM b (List.mem_of_getElem? hb) _ _ _ _ _ (Rm.blk u b hb),g2⟩,fun t v hv=>?_⟩
   exact hE (t,v) (lP hv) _ _ _ _ (hs t v hv)
  obtain ⟨v,h1,h2⟩:=k _ _ r'
  exact aD.MJ hf g1 h1 h2
def Lm (w0:World) (K0:World→Prop) (x:AV) (M':List aj):Ending→World→Prop:=fun e w'=>∃ v,e=.returned v∧∃ ax F' I',RM [] w0 K0 M' ax F' I' w'∧au (fun w=>K0 w∧Holds w I') ax x v
abbrev xP (w0:World) (K0:World→Prop) (x:AV) (M':List aj):e7:=.ends (Lm w0 K0 x M')
def CC (T:aJ) (rs:List ResultVar) (E:List (Nat×AV)) (M:List aj):Option AV:=match iC T E M rs with | some l=>some (xN l) | none=>none
theorem oM (hT:aU P T=true) (hm:P.follows .mixedOrders=true) (hK:∀ w,Kp [] w0 w→K0 w) {fn:Func} (hf:P.funcs[f]?=some fn) (tb:dj) (n:Nat) (cy ts:List Nat) {A:Prop} {E':List (Nat×AV)} {M':List aj} {x:AV} (r:ch true [] w0 K0 sz E M a w)
  (h:vd P T sz tb n cy ts todo E M=some (A,E',M')) (h2:CC T fn.results.toList E' M'=some x) (hA:A) (hE:∀ x ∈ E',eu x.2) (hM:∀ b ∈ M',gk b):aD P f todo (xP w0 K0 x M') a w:=by
 refine JY hT hm hK hf tb n cy ts r h hA hE hM fun a' w' r'=>?_
 obtain ⟨-,I,-,β,F,Rm,hs⟩:=r'
 unfold CC at h2
 split at h2
 ·rename_i l hl
  simp only [Option.some.injEq] at h2;subst h2
  obtain ⟨ys,e1,e2,e3⟩:=oC hT Rm hs hl
  refine ⟨_,sa rfl e1,_,rfl,β,F,I,Rm,?_⟩
  match ys,l,e2,e3 with
  | [],[],_,_=>exact .tu [] rfl (by simp)
  | [y],[v],_,e3=>exact e3 0 v y rfl rfl
  | y::y'::ys,v::v'::l,e2,e3=>exact .tu _ e2 e3
 ·simp at h2
theorem ch.mark (r:ch mk D w0 K0 sz E M a w):ch true D w0 K0 sz E M a w:=by
 cases mk with
 | true=>exact r
 | false=>obtain ⟨h1,I,h2,h3⟩:=r;exact ⟨h1,I,by rw [h2];exact Mk.nil I,h3⟩
end Go.Proofs.YtcnpikbbmbombaaDoor
namespace Go.Proofs.YtcnpikbbmbombaaDoor
open Go.RowKit
variable {P:Program} {f:FuncId}
theorem aA.By {fn:Func} {c:Code} {args:List AV} {x:AV} {M':List aj} {g:Nat} {row:List DV} (jY:gG P f=true) (hf:P.funcs[f]?=some fn) (hb:fn.body=some c) (n:Nat) (hn:fn.ntmps=n) (hle:Nat.ble args.length n=true)
  (h:∀ (w0:World) (K0:World→Prop) (a:Act),(∀ w,Kp [] w0 w→K0 w)→dz [] w0 K0 n (gQ args 0) [.gw g row] a w0→aD P f [.code c] (xP w0 K0 x M') a w0):aA P f args [.gw g row] (mapA (·+1) x) (.gw g row::M'.map (er (·+1))):=by
 refine ⟨jY,?_⟩
 intro D w0 K0 β F I w ys Rm hK hl hr
 have hle:=Nat.le_of_ble_eq_true hle
 have fw:β.length=1:=Rm.len
 have lH:=Rm.blk 0 _ rfl
 have pq:F 0=[]:=by
  generalize F 0=H at lH
  cases lH;rfl
 have bj:St D w0 w ([]++I):=by
  have:=Rm.st
  simpa [List.range_succ,pq] using this
 have qY:∀ w',Kp [] w w'→K0 w'∧Holds w' I:=fun w' k=>by
  have t:St [] w w' []:=⟨k,by simp [keys],by simp [keys],Holds.nil _⟩
  have s':=St.call bj rfl t
  rw [List.nil_append] at s'
  exact ⟨hK _ s'.kp,s'.holds⟩
 rw [pq] at lH
 have hg:=h w (fun w=>K0 w∧Holds w I) { tmps:=ys.toArray++Array.replicate (fn.ntmps-ys.toArray.size) undef,defers:=[] } qY ⟨by simp;omega,[],rfl,β,fun _=>[],⟨fw,fun u b hu=>by
   cases u with
   | zero=>simp at hu;subst hu;exact lH.mono (fun w hw=>hw.1) (Ext.refl _)
   | succ u=>simp at hu,by simpa [List.range_succ] using St.none w⟩,by
  intro t v hv
  obtain ⟨y,rfl,rfl,hy⟩:∃ y:Nat×AV,y.1=t∧y.2=v∧y ∈ gQ args 0:=⟨(t,v),rfl,rfl,lP hv⟩
  obtain ⟨-,h2⟩:=p4 args 0 y hy
  simp only [Nat.sub_zero] at h2
  obtain ⟨aI,-⟩:=List.getElem?_eq_some_iff.1 h2
  have iJ:ys[y.1]?=some ys[y.1]:=List.getElem?_eq_getElem (by omega)
  have he:({ tmps:=ys.toArray++Array.replicate (fn.ntmps-ys.toArray.size) undef,defers:=[] }:Act).eval (.tmp y.1)=ys[y.1]:=by
   have:y.1<ys.length:=by omega
   simp [Act.eval,Array.getD_eq_getD_getElem?,Array.getElem?_append,this]
  rw [he]
  exact (hr y.1 y.2 _ h2 iJ).mono (fun w hw=>hw.1) (Ext.refl _)⟩
 refine (pR hf hb hg).mono ?_
 rintro e w' ⟨v,rfl,ax,F',I',R',hx⟩
 have s2:=St.call bj rfl R'.st
 have bZ:∀ w,K0 w∧Holds w (I'++I)→(K0 w∧Holds w I)∧Holds w I':=fun w hw=>⟨⟨hw.1,(Holds.app.1 hw.2).2⟩,(Holds.app.1 hw.2).1⟩
 have lL:∀ (u:Nat) q,ax[u]?=some q→(β++ax)[u+1]?=some q:=fun u q hq=>by
  rw [List.getElem?_append_right (by omega),fw,Nat.add_sub_cancel];exact hq
 refine ⟨v,rfl,β++ax,fun u=>match u with | 0=>[] | u+1=>F' u,I'++I,⟨by simp [fw,R'.len];omega,fun u b hu=>?_,?_⟩,Ext.app _ _,⟨I',rfl⟩,mZ lL (hx.mono bZ (Ext.refl _))⟩
 ·cases u with
  | zero=>
   simp at hu;subst hu
   exact lH.mono (fun w hw=>(bZ w hw).1) (Ext.app _ _)
  | succ u=>
   rw [List.getElem?_cons_succ,List.getElem?_map,Option.map_eq_some_iff] at hu
   obtain ⟨b0,dX,rfl⟩:=hu
   exact se lL ((R'.blk u b0 dX).mono bZ (Ext.refl _))
 ·rw [List.append_assoc] at s2
  rw [List.length_cons,List.length_map,List.range_succ_eq_map,List.flatMap_cons,List.nil_append,List.flatMap_map]
  exact s2
def CD:aj→Bool
 | .gw _ _=>true
 | _=>false
theorem aA.A9 {fn:Func} {c:Code} {args:List AV} {x:AV} {M' G:List aj} (hG:G.all CD=true) (jY:gG P f=true) (hf:P.funcs[f]?=some fn) (hb:fn.body=some c) (n:Nat) (hn:fn.ntmps=n) (hle:Nat.ble args.length n=true)
  (h:∀ (w0:World) (K0:World→Prop) (a:Act),(∀ w,Kp [] w0 w→K0 w)→dz [] w0 K0 n (gQ args 0) G a w0→aD P f [.code c] (xP w0 K0 x M') a w0):aA P f args G (mapA (·+G.length) x) (G++M'.map (er (·+G.length))):=by
 refine ⟨jY,?_⟩
 intro D w0 K0 β F I w ys Rm hK hl hr
 have hle:=Nat.le_of_ble_eq_true hle
 have fw:β.length=G.length:=Rm.len
 have lH:∀ (u:Nat) b,G[u]?=some b→bq (fun w=>K0 w∧Holds w I) β u b []∧F u=[]:=fun u b hu=>by
  have hg:=List.all_eq_true.1 hG b (List.mem_of_getElem? hu)
  have h:=Rm.blk u b hu
  generalize F u=H at h
  cases b<;>simp [CD] at hg
  cases h with | gw X hl hc hr=>exact ⟨.gw X hl hc hr,rfl⟩
 have dW:(List.range G.length).flatMap F=[]:=by
  rw [List.flatMap_eq_nil_iff]
  intro u hu
  exact (lH u _ (List.getElem?_eq_getElem (List.mem_range.1 hu))).2
 have bj:St D w0 w ([]++I):=by
  have:=Rm.st
  rwa [dW] at this
 have qY:∀ w',Kp [] w w'→K0 w'∧Holds w' I:=fun w' k=>by
  have t:St [] w w' []:=⟨k,by simp [keys],by simp [keys],Holds.nil _⟩
  have s':=St.call bj rfl t
  rw [List.nil_append] at s'
  exact ⟨hK _ s'.kp,s'.holds⟩
 have hg:=h w (fun w=>K0 w∧Holds w I) { tmps:=ys.toArray++Array.replicate (fn.ntmps-ys.toArray.size) undef,defers:=[] } qY ⟨by simp;omega,[],rfl,β,fun _=>[],⟨fw,fun u b hu=>(lH u b hu).1.mono (fun w hw=>hw.1) (Ext.refl _),by rw [show (List.range G.length).flatMap (fun _=>([]:ak))=[] by simp];simpa using St.none w⟩,by
  intro t v hv
  obtain ⟨y,rfl,rfl,hy⟩:∃ y:Nat×AV,y.1=t∧y.2=v∧y ∈ gQ args 0:=⟨(t,v),rfl,rfl,lP hv⟩
  obtain ⟨-,h2⟩:=p4 args 0 y hy
  simp only [Nat.sub_zero] at h2
  obtain ⟨aI,-⟩:=List.getElem?_eq_some_iff.1 h2
  have iJ:ys[y.1]?=some ys[y.1]:=List.getElem?_eq_getElem (by omega)
  have he:({ tmps:=ys.toArray++Array.replicate (fn.ntmps-ys.toArray.size) undef,defers:=[] }:Act).eval (.tmp y.1)=ys[y.1]:=by
   have:y.1<ys.length:=by omega
   simp [Act.eval,Array.getD_eq_getD_getElem?,Array.getElem?_append,this]
  rw [he]
  exact (hr y.1 y.2 _ h2 iJ).mono (fun w hw=>hw.1) (Ext.refl _)⟩
 refine (pR hf hb hg).mono ?_
 rintro e w' ⟨v,rfl,ax,F',I',R',hx⟩
 have s2:=St.call bj rfl R'.st
 have bZ:∀ w,K0 w∧Holds w (I'++I)→(K0 w∧Holds w I)∧Holds w I':=fun w hw=>⟨⟨hw.1,(Holds.app.1 hw.2).2⟩,(Holds.app.1 hw.2).1⟩
 have lL:∀ (u:Nat) q,ax[u]?=some q→(β++ax)[u+G.length]?=some q:=fun u q hq=>by
  rw [List.getElem?_append_right (by omega),fw,Nat.add_sub_cancel];exact hq
 refine ⟨v,rfl,β++ax,fun u=>if u<G.length then [] else F' (u-G.length),I'++I,⟨by simp [fw,R'.len],fun u b hu=>?_,?_⟩,Ext.app _ _,⟨I',rfl⟩,mZ lL (hx.mono bZ (Ext.refl _))⟩
 ·rcases Nat.lt_or_ge u G.length with h | h
  ·rw [List.getElem?_append_left h] at hu
   simp only [h,if_true]
   exact (lH u b hu).1.mono (fun w hw=>(bZ w hw).1) (Ext.app _ _)
  ·rw [List.getElem?_append_right h,List.getElem?_map,Option.map_eq_some_iff] at hu
   obtain ⟨b0,dX,rfl⟩:=hu
   have h':¬ u<G.length:=by omega
   simp only [h',if_false]
   have:=se lL ((R'.blk _ b0 dX).mono bZ (Ext.refl _))
   rwa [Nat.sub_add_cancel h] at this
 ·rw [List.append_assoc] at s2
  have e:(List.range (G++M'.map (er (·+G.length))).length).flatMap (fun u=>if u<G.length then [] else F' (u-G.length))=(List.range M'.length).flatMap F':=by
   rw [List.length_append,List.length_map,List.range_add,List.flatMap_append,List.flatMap_map]
   have e1:(List.range G.length).flatMap (fun u=>if u<G.length then ([]:ak) else F' (u-G.length))=[]:=by
    rw [List.flatMap_eq_nil_iff]
    intro u hu
    simp [List.mem_range.1 hu]
   rw [e1,List.nil_append]
   refine congrArg (fun q=>List.flatMap q _) ?_
   funext u;simp;intro h;omega
  rw [e];exact s2
end Go.Proofs.YtcnpikbbmbombaaDoor
namespace Go.Proofs.YtcnpikbbmbombaaDoor
open Go.RowKit
variable {mk:Bool} {P:Program} {T:aJ} {f:FuncId} {R:e7} {a:Act} {w:World} {D:List Nat} {w0:World} {K0:World→Prop} {E:List (Nat×AV)} {M M2:List aj} {β:Beta} {F:Nat→ak} {I H:ak} {sz:Nat} {tb:dj} {todo todo':List Item}
theorem ch.word (r:ch mk D w0 K0 sz E M a w) (u:Nat) {b b':aj} (hM:M[u]?=some b) (h:∀ (K:World→Prop) (β:Beta) (H:ak),bq K β u b H→bq K β u b' H):ch mk D w0 K0 sz E (M.set u b') a w:=by
 obtain ⟨h1,I,h2,β,F,Rm,hs⟩:=r
 refine ⟨h1,I,h2,β,F,⟨by rw [List.length_set];exact Rm.len,fun v c hv=>?_,by rw [List.length_set];exact Rm.st⟩,hs⟩
 rw [List.getElem?_set] at hv
 split at hv
 ·rename_i e
  subst e
  split at hv
  ·simp only [Option.some.injEq] at hv;subst hv;exact h _ _ _ (Rm.blk u b hM)
  ·simp at hv
 ·exact Rm.blk v c hv
inductive kG:List (List DV)→List (List DV)→Prop where
 | nil:kG [] []
 | cons {x x':List DV} {l l':List (List DV)} (h:cV x x') (t:kG l l'):kG (x::l) (x'::l')
theorem kG.ok {l l':List (List DV)} (h:kG l l'):l.length=l'.length∧∀ (i:Nat) r r',l[i]?=some r→l'[i]?=some r'→cV r r':=by
 induction h with
 | nil=>simp
 | cons h t ih=>
  refine ⟨by simp [ih.1],fun i r r' h1 h2=>?_⟩
  cases i with
  | zero=>simp at h1 h2;subst h1 h2;exact h
  | succ i=>exact ih.2 i r r' (by simpa using h1) (by simpa using h2)
theorem ch.less (r:ch mk D w0 K0 sz E M a w) (u:Nat) {Tm k:Nat} {rows rows':List (List DV)} (hM:M[u]?=some (.rw Tm k rows)) (h:kG rows rows'):ch mk D w0 K0 sz E (M.set u (.rw Tm k rows')) a w:=
 r.word u hM fun K β H hb=>by
  cases hb with
  | rw hb X G hl hs hr=>
   obtain ⟨e1,e2⟩:=h.ok
   rw [e1] at hs ⊢
   have key:∀ (i:Nat) r',rows'[i]?=some r'→∃ r,rows[i]?=some r∧r.length=r'.length∧∀ (j:Nat) c c',r[j]?=some c→r'[j]?=some c'→Le c c':=fun i r' hi=>by
    have aI:i<rows.length:=by rw [e1];exact (List.getElem?_eq_some_iff.1 hi).1
    have e:=List.getElem?_eq_getElem aI
    exact ⟨_,e,(e2 i _ r' e hi).ok⟩
   refine .rw hb X G (fun i r' hi=>?_) hs fun i r' j c x hi h1 h2=>?_
   ·obtain ⟨r,g1,g2,-⟩:=key i r' hi
    have:=hl i r g1;omega
   ·obtain ⟨r,g1,g2,g3⟩:=key i r' hi
    have hj:j<r.length:=by rw [g2];exact (List.getElem?_eq_some_iff.1 h1).1
    have e:=List.getElem?_eq_getElem hj
    exact g3 j _ c e h1 K x _ (hr i r j _ x g1 e h2)
def mz:Code→List Item→List (RF×List Item)
 | .seq x y,k=>mz x (.code y::k)++mz y k
 | .cond _ x y,k=>mz x k++mz y k
 | .block i c,k=>mz c (.inBlock i::k)
 | .loop c,k=>mz c (.inLoop c::k)
 | .rangeFunc _ ps cR body,k=>[(⟨ps,cR,body⟩,k)]
 | _,_=>[]
def dY (fn:Func) (n:Nat):RF:=match fn.body with | some c=>(match (mz c [])[n]? with | some x=>x.1 | none=>⟨#[],.skip,.skip⟩) | none=>⟨#[],.skip,.skip⟩
def CE (fn:Func) (n:Nat):List Item:=match fn.body with | some c=>(match (mz c [])[n]? with | some x=>x.2 | none=>[]) | none=>[]
def nB (id:Nat):Code→List (Array Oper)
 | .seq x y=>nB id x++nB id y
 | .cond _ x y=>nB id x++nB id y
 | .block _ c=>nB id c
 | .loop c=>nB id c
 | .region i ops _=>bif i.beq id then [ops] else []
 | _=>[]
def ops (fn:Func) (id:Nat):Array Oper:=match fn.body with | some c=>(match nB id c with | o::_=>o | []=>#[]) | none=>#[]
end Go.Proofs.YtcnpikbbmbombaaDoor
namespace Go.Proofs.YtcnpikbbmbombaaDoor
open Go.RowKit
def sP (G:List aj) (K:World→Prop):Prop:=∀ (u:Nat) blk,G[u]?=some blk→bq K [] u blk []
theorem sP.rm {G:List aj} {K:World→Prop} (h:sP G K) (w:World):RM [] w K G (List.replicate G.length (none,0)) (fun _=>[]) [] w:=by
 refine ⟨by simp,fun u blk hu=>(h u blk hu).mono (fun w hw=>hw.1) (fun _ _ he=>by simp at he),?_⟩
 have e:(List.range G.length).flatMap (fun _=>([]:ak))++[]=[]:=by simp
 rw [e];exact St.none w
theorem aA.JZ {P:Program} {f:FuncId} {G:List aj} {args:List AV} {w:World} (h:aA P f args G (.d (.v (.bool true))) G) {ys:List Value} (hG:sP G (Gr w)) (hl:ys.length=args.length) (hr:∀ (j:Nat) c y,args[j]?=some c→ys[j]?=some y→au (Gr w) [] c y):Calls P f ys.toArray w fun e w'=>e=.returned (.bool true)∧Gr w w':=by
 refine (h.2 ys (hG.rm w) (fun w' k=>k.sI) hl fun j c y a b=>(hr j c y a b).mono (fun w hw=>hw.1) fun _ _ he=>by simp at he).mono ?_
 rintro e w' ⟨v,rfl,ax,F',I',R',-,-,ha⟩
 cases ha with
 | d hd=>cases hd;exact ⟨rfl,R'.st.kp.sI⟩
end Go.Proofs.YtcnpikbbmbombaaDoor
namespace Go.Proofs.YtcnpikbbmbombaaDoor
open Go.RowKit
structure az where
 kind:Int
 node:Int
 peer:Int
 n:Int
 bit:Int
 inc:Nat
 body:List UInt8
deriving DecidableEq
structure bk where
 aq:Int
 ah:List (Int×Int)
 homes:List Int
deriving DecidableEq
def az.row (s:az):List DV:=[.z s.kind,.z s.node,.z s.peer,.z s.n,.z s.bit,.u s.inc,.ro 1 (af s.body)]
def steps (l:List az):List (List DV):=l.map az.row
def ah (l:List (Int×Int)):List (List DV):=l.map fun x=>[.z x.1,.z x.2]
def ints (l:List Int):List (List DV):=l.map fun n=>[.z n]
def strs (l:List (List UInt8)):List (List DV):=l.map fun s=>[.v (.string ⟨s.toArray⟩)]
theorem kP {l:List az} {i:Nat} {s:az} (h:l[i]?=some s):(steps l)[i]?=some s.row:=by simp [steps,h]
theorem iQ {l:List (Int×Int)} {i:Nat} {x:Int×Int} (h:l[i]?=some x):(ah l)[i]?=some [.z x.1,.z x.2]:=by simp [ah,h]
theorem ints_at {l:List Int} {i:Nat} {x:Int} (h:l[i]?=some x):(ints l)[i]?=some [.z x]:=by simp [ints,h]
theorem sh {l:List (List UInt8)} {i:Nat} {x:List UInt8} (h:l[i]?=some x):(strs l)[i]?=some [.v (.string ⟨x.toArray⟩)]:=by simp [strs,h]
theorem kf {l:List UInt8} {i:Nat} {b:UInt8} (h:l[i]?=some b):(af l)[i]?=some [.v (.int .u8 (b.toNat:Int))]:=by simp [af,h]
theorem yW (l:List UInt8) (n:Nat):af (l.take n)=(af l).take n:=by simp [af,List.map_take]
theorem yX (l:List UInt8) (n:Nat):af (l.drop n)=(af l).drop n:=by simp [af,List.map_drop]
theorem lN (l:List UInt8):cx (af l)=af l:=by rw [jM];unfold af;rw [List.map_map];apply List.map_congr_left;intro b _;rfl
theorem pA {t:TypeId} {xs ys:List Value} {c c':Bool} (e:jW Tryd.prog t xs ys c) (h:c=c'):jW Tryd.prog t xs ys c':=h▸e
theorem oN (a b c d:Int):jW Tryd.prog 71 [.int .i64 a,.int .i64 b] [.int .i64 c,.int .i64 d] (a==c&&b==d):=⟨by kernel_rfl,fun w=>by
 have:=Ee (P:=Tryd.prog) (w:=w) (t:=71) (e:=3) (dp:=9998) (k:=.i64) (a:=a) (b:=b) (c:=c) (d':=d) (by kernel_rfl) (by kernel_rfl) (by kernel_rfl)
 simpa [Op.equal,Op.maxDepth] using this⟩
def iE (c:bk) (n:Int):Prop:=1≤n∧n≤c.aq
structure lh (c:bk):Prop where
 head:1≤c.aq∧c.aq≤4∧c.homes.length≤6
 link:∀ (i:Nat) x,c.ah[i]?=some x→iE c x.1∧iE c x.2∧x.1≠x.2
 lone:∀ (i k:Nat) x o,c.ah[i]?=some x→k<i→c.ah[k]?=some o→¬ (o.1=x.1∧o.2=x.2)∧¬ (o.1=x.2∧o.2=x.1)
 home:∀ (i:Nat) x,c.homes[i]?=some x→iE c x
noncomputable def cf (c:bk):Bool:=@decide (lh c) (Classical.propDecidable _)
section
variable {c:bk} {i k:Nat}
theorem gR (h:cf c=true):lh c:=@of_decide_eq_true _ (Classical.propDecidable _) h
theorem w7 (h:lh c):cf c=true:=@decide_eq_true _ (Classical.propDecidable _) h
theorem sQ (h:¬ lh c):cf c=false:=@decide_eq_false _ (Classical.propDecidable _) h
theorem iR (h:c.aq<1∨4<c.aq∨6<(c.homes.length:Int)):cf c=false:=sQ fun m=>by have:=m.head;omega
theorem iS {x:Int×Int} (g:c.ah[i]?=some x) (h:x.1<1∨c.aq<x.1∨x.2<1∨c.aq<x.2∨x.1=x.2):cf c=false:=sQ fun m=>by have:=m.link i x g;unfold iE at this;omega
theorem iT {x o:Int×Int} (g:c.ah[i]?=some x) (hk:k<i) (g2:c.ah[k]?=some o) (h:(o.1=x.1∧o.2=x.2)∨(o.1=x.2∧o.2=x.1)):cf c=false:=sQ fun m=>by have:=m.lone i k x o g hk g2;omega
theorem iU {x:Int} (g:c.homes[i]?=some x) (h:x<1∨c.aq<x):cf c=false:=sQ fun m=>by have:=m.home i x g;unfold iE at this;omega
def mc (c:bk) (i:Nat):Prop:=∀ (j:Nat) x,j<i→c.ah[j]?=some x→(iE c x.1∧iE c x.2∧x.1≠x.2)∧∀ (k:Nat) o,k<j→c.ah[k]?=some o→¬ (o.1=x.1∧o.2=x.2)∧¬ (o.1=x.2∧o.2=x.1)
def me (c:bk) (x:Int×Int) (k:Nat):Prop:=∀ (j:Nat) o,j<k→c.ah[j]?=some o→¬ (o.1=x.1∧o.2=x.2)∧¬ (o.1=x.2∧o.2=x.1)
def mg (c:bk) (i:Nat):Prop:=∀ (j:Nat) x,j<i→c.homes[j]?=some x→iE c x
theorem mc.next {x:Int×Int} (h:mc c i) (g:c.ah[i]?=some x) (h1:1≤x.1∧x.1≤c.aq∧1≤x.2∧x.2≤c.aq∧x.1≠x.2) (h2:me c x i):mc c (i+1):=fun j y hj gy=>by
 rcases Nat.lt_succ_iff_lt_or_eq.1 hj with h' | rfl
 ·exact h j y h' gy
 ·rw [g] at gy;cases gy
  exact ⟨⟨⟨h1.1,h1.2.1⟩,⟨h1.2.2.1,h1.2.2.2.1⟩,h1.2.2.2.2⟩,h2⟩
theorem me.next {x o:Int×Int} (h:me c x k) (g:c.ah[k]?=some o) (h1:¬ (o.1=x.1∧o.2=x.2)∧¬ (o.1=x.2∧o.2=x.1)):me c x (k+1):=fun j y hj gy=>by
 rcases Nat.lt_succ_iff_lt_or_eq.1 hj with h' | rfl
 ·exact h j y h' gy
 ·rw [g] at gy;cases gy;exact h1
theorem me.none (x:Int×Int):me c x 0:=fun _ _ h=>absurd h (Nat.not_lt_zero _)
theorem mc.none:mc c 0:=fun _ _ h=>absurd h (Nat.not_lt_zero _)
theorem mg.none:mg c 0:=fun _ _ h=>absurd h (Nat.not_lt_zero _)
theorem mg.next {x:Int} (h:mg c i) (g:c.homes[i]?=some x) (h1:1≤x∧x≤c.aq):mg c (i+1):=fun j y hj gy=>by
 rcases Nat.lt_succ_iff_lt_or_eq.1 hj with h' | rfl
 ·exact h j y h' gy
 ·rw [g] at gy;cases gy;exact h1
theorem iV (h0:1≤c.aq∧c.aq≤4∧(c.homes.length:Int)≤6) (h1:mc c i) (hi:c.ah.length≤i) (h2:mg c k) (hk:c.homes.length≤k):cf c=true:=w7
 ⟨by omega,fun j x g=>(h1 j x (by have:=(List.getElem?_eq_some_iff.1 g).1;omega) g).1,fun j k x o g hk g2=>(h1 j x (by have:=(List.getElem?_eq_some_iff.1 g).1;omega) g).2 k o hk g2,fun j x g=>h2 j x (by have:=(List.getElem?_eq_some_iff.1 g).1;omega) g⟩
end
theorem dK {a b c d:Int}:(a==c&&b==d)=true→a=c∧b=d:=by simp
theorem Cb {a b c d:Int}:(a==c&&b==d)=false→¬ (a=c∧b=d):=by simp
set_option maxRecDepth 100000 in
theorem qv (c:bk) (hl:c.ah.length≤9223372036854775807) (hh:c.homes.length≤9223372036854775807):aB Tryd.prog 13 [.ag [.z c.aq,.d (.ro 2 (ah c.ah)),.d (.ro 1 (ints c.homes))]] (.v (.bool (cf c))):=by
 refine aB.intro (by kernel_rfl) rfl rfl 87 rfl rfl fun w0 K ac hK r=>?_
 cases h0:(decide ((c.aq:Int)<1)) with
 | false=>
  have bH:=of_decide_eq_false h0
  cases h1:(decide ((4:Int)<c.aq)) with
  | false=>
   have cm:=of_decide_eq_false h1
   have aZ:=((by first | rfl | (simp [ah];omega) | simp [af,ah,ints]):(((ints c.homes).length:Nat):Int)=((c.homes.length:Nat):Int))
   cases h2:(decide ((6:Int)<((c.homes.length:Nat):Int))) with
   | false=>
    have c8:=of_decide_eq_false h2
    refine cO (todo':=hd Tryd.f13 0) (E':=[(1,.pt 0 0),(3,.fn 33 [.pt 0 0]),(26,.d (.ro 2 (ah c.ah))),(27,.n c.ah.length),(28,.n 0)]) (M':=[.bx 25 [.z c.aq,.d (.ro 2 (ah c.ah)),.d (.ro 1 (ints c.homes))]]) tk mo hK [(1,[(2,.b false),(6,.b false),(11,.z (((c.homes.length:Nat):Int))),(12,.b false)]),(4,[(2,.z (((c.ah.length:Nat):Int)))])] 2000 [0] [1,3,26,27,28] r (by kernel_rfl) (U h0 (U h1 (U aZ (U h2 (U ((by first | rfl | (simp [ah];omega) | simp [af,ah,ints]):(((ah c.ah).length:Nat):Int)=((c.ah.length:Nat):Int)) trivial))))) fun ac wd r=>?_
    refine aD.rounds (Φ:=fun (i:Nat) ac wd=>(mc c i)∧dz [] w0 K 87 [(1,.pt 0 0),(3,.fn 33 [.pt 0 0]),(26,.d (.ro 2 (ah c.ah))),(27,.n c.ah.length),(28,.n i)] [.bx 25 [.z c.aq,.d (.ro 2 (ah c.ah)),.d (.ro 1 (ints c.homes))]] ac wd) (c.ah.length) ?_ (Nat.zero_le _) ⟨mc.none,r⟩
    clear r
    rintro i eA bP ac wd ⟨ao,r⟩
    cases h3:(decide ((((i:Nat):Int):Int)<((c.ah.length:Nat):Int))) with
    | false=>
     have dQ:=of_decide_eq_false h3
     refine cO (todo':=hd Tryd.f13 2) (E':=[(1,.pt 0 0),(3,.fn 33 [.pt 0 0]),(76,.d (.ro 1 (ints c.homes))),(77,.n c.homes.length),(78,.n 0)]) (M':=[.bx 25 [.z c.aq,.d (.ro 2 (ah c.ah)),.d (.ro 1 (ints c.homes))]]) tk mo hK [(5,[(0,.b false)]),(16,[(2,.z (((c.homes.length:Nat):Int)))])] 2000 [0] [1,3,76,77,78] r (by kernel_rfl) (U h3 (U aZ trivial)) fun ac wd r=>?_
     refine aD.rounds (Φ:=fun (i:Nat) ac wd=>(mg c i)∧dz [] w0 K 87 [(1,.pt 0 0),(3,.fn 33 [.pt 0 0]),(76,.d (.ro 1 (ints c.homes))),(77,.n c.homes.length),(78,.n i)] [.bx 25 [.z c.aq,.d (.ro 2 (ah c.ah)),.d (.ro 1 (ints c.homes))]] ac wd) (c.homes.length) ?_ (Nat.zero_le _) ⟨mg.none,r⟩
     clear r
     rintro i Pa J0 ac wd ⟨fJ,r⟩
     cases h4:(decide ((((i:Nat):Int):Int)<((c.homes.length:Nat):Int))) with
     | false=>
      have fk:=of_decide_eq_false h4
      rw [show (.v (.bool (cf c)):DV)=.v (.bool true) from (bv (by first | exact iV (by omega) ao (by omega) fJ (by omega) | exact iR (by omega) | exact iU eb (by omega) | exact iT cG (by omega) gx (by first | omega | exact .inl (dK (by assumption)) | exact .inr (dK (by assumption))) | exact iS cG (by omega)))]
      exact br tk mo hK rfl [(17,[(0,.b false)])] 2000 r (by kernel_rfl) (U h4 trivial)
     | true=>
      have fk:=of_decide_eq_true h4
      obtain ⟨fa,eb⟩:∃ x_,c.homes[i]?=some x_:=⟨_,List.getElem?_eq_getElem (by omega)⟩
      cases h5:(decide ((1:Int)≤fa)) with
      | false=>
       have fL:=of_decide_eq_false h5
       rw [show (.v (.bool (cf c)):DV)=.v (.bool false) from (bv (by first | exact iV (by omega) ao (by omega) fJ (by omega) | exact iR (by omega) | exact iU eb (by omega) | exact iT cG (by omega) gx (by first | omega | exact .inl (dK (by assumption)) | exact .inr (dK (by assumption))) | exact iS cG (by omega)))]
       exact br tk mo hK rfl [(17,[(0,.b true)]),(18,[(0,.ix (i) [.z fa])]),(19,[(2,.bG 200 [(1,[(1,.b false)])])])] 2000 r (by kernel_rfl) (U h4 (U (aP ((i:Nat):Int)) (U (ints_at eb) (U h5 trivial))))
      | true=>
       have fL:=of_decide_eq_true h5
       cases h6:(decide ((fa:Int)≤c.aq)) with
       | false=>
        have ia:=of_decide_eq_false h6
        rw [show (.v (.bool (cf c)):DV)=.v (.bool false) from (bv (by first | exact iV (by omega) ao (by omega) fJ (by omega) | exact iR (by omega) | exact iU eb (by omega) | exact iT cG (by omega) gx (by first | omega | exact .inl (dK (by assumption)) | exact .inr (dK (by assumption))) | exact iS cG (by omega)))]
        exact br tk mo hK rfl [(17,[(0,.b true)]),(18,[(0,.ix (i) [.z fa])]),(19,[(2,.bG 200 [(1,[(1,.b true),(6,.b false)])])])] 2000 r (by kernel_rfl) (U h4 (U (aP ((i:Nat):Int)) (U (ints_at eb) (U h5 (U h6 trivial)))))
       | true=>
        have ia:=of_decide_eq_true h6
        exact cO (todo':=hd Tryd.f13 2) tk mo hK [(17,[(0,.b true)]),(18,[(0,.ix (i) [.z fa])]),(19,[(2,.bG 200 [(1,[(1,.b true),(6,.b true)])])]),(21,[(0,.z (((i+1:Nat):Int)))])] 2000 [0] [1,3,76,77,78] r (by kernel_rfl) (U h4 (U (aP ((i:Nat):Int)) (U (ints_at eb) (U h5 (U h6 (U ((wi (by omega)):IntKind.i64.wrap ((((i:Nat):Int):Int)+1)=((i+1:Nat):Int)) trivial)))))) fun ac wd r=>J0 (by omega) ac wd ⟨(fJ.next eb (by omega)),r⟩
    | true=>
     have dQ:=of_decide_eq_true h3
     obtain ⟨bw,cG⟩:∃ x_,c.ah[i]?=some x_:=⟨_,List.getElem?_eq_getElem (by omega)⟩
     cases h7:(decide ((1:Int)≤bw.1)) with
     | false=>
      have eO:=of_decide_eq_false h7
      rw [show (.v (.bool (cf c)):DV)=.v (.bool false) from (bv (by first | exact iV (by omega) ao (by omega) fJ (by omega) | exact iR (by omega) | exact iU eb (by omega) | exact iT cG (by omega) gx (by first | omega | exact .inl (dK (by assumption)) | exact .inr (dK (by assumption))) | exact iS cG (by omega)))]
      exact br tk mo hK rfl [(5,[(0,.b true)]),(6,[(1,.ix (i) [.z bw.1,.z bw.2])]),(7,[(1,.n 0),(3,.bG 200 [(1,[(1,.b false)])])])] 2000 r (by kernel_rfl) (U h3 (U (aP ((i:Nat):Int)) (U (iQ cG) (U (rfl:(0)=((0:Nat):Int)) (U ((by omega):(0)<2) (U h7 trivial))))))
     | true=>
      have eO:=of_decide_eq_true h7
      cases h8:(decide ((bw.1:Int)≤c.aq)) with
      | false=>
       have ib:=of_decide_eq_false h8
       rw [show (.v (.bool (cf c)):DV)=.v (.bool false) from (bv (by first | exact iV (by omega) ao (by omega) fJ (by omega) | exact iR (by omega) | exact iU eb (by omega) | exact iT cG (by omega) gx (by first | omega | exact .inl (dK (by assumption)) | exact .inr (dK (by assumption))) | exact iS cG (by omega)))]
       exact br tk mo hK rfl [(5,[(0,.b true)]),(6,[(1,.ix (i) [.z bw.1,.z bw.2])]),(7,[(1,.n 0),(3,.bG 200 [(1,[(1,.b true),(6,.b false)])])])] 2000 r (by kernel_rfl) (U h3 (U (aP ((i:Nat):Int)) (U (iQ cG) (U (rfl:(0)=((0:Nat):Int)) (U ((by omega):(0)<2) (U h7 (U h8 trivial)))))))
      | true=>
       have ib:=of_decide_eq_true h8
       cases h9:(decide ((1:Int)≤bw.2)) with
       | false=>
        have pC:=of_decide_eq_false h9
        rw [show (.v (.bool (cf c)):DV)=.v (.bool false) from (bv (by first | exact iV (by omega) ao (by omega) fJ (by omega) | exact iR (by omega) | exact iU eb (by omega) | exact iT cG (by omega) gx (by first | omega | exact .inl (dK (by assumption)) | exact .inr (dK (by assumption))) | exact iS cG (by omega)))]
        exact br tk mo hK rfl [(5,[(0,.b true)]),(6,[(1,.ix (i) [.z bw.1,.z bw.2])]),(7,[(1,.n 0),(3,.bG 200 [(1,[(1,.b true),(6,.b true)])]),(7,.n 1),(9,.bG 200 [(1,[(1,.b false)])])])] 2000 r (by kernel_rfl) (U h3 (U (aP ((i:Nat):Int)) (U (iQ cG) (U (rfl:(0)=((0:Nat):Int)) (U ((by omega):(0)<2) (U h7 (U h8 (U (rfl:(1)=((1:Nat):Int)) (U ((by omega):(1)<2) (U h9 trivial))))))))))
       | true=>
        have pC:=of_decide_eq_true h9
        cases dm:(decide ((bw.2:Int)≤c.aq)) with
        | false=>
         have nC:=of_decide_eq_false dm
         rw [show (.v (.bool (cf c)):DV)=.v (.bool false) from (bv (by first | exact iV (by omega) ao (by omega) fJ (by omega) | exact iR (by omega) | exact iU eb (by omega) | exact iT cG (by omega) gx (by first | omega | exact .inl (dK (by assumption)) | exact .inr (dK (by assumption))) | exact iS cG (by omega)))]
         exact br tk mo hK rfl [(5,[(0,.b true)]),(6,[(1,.ix (i) [.z bw.1,.z bw.2])]),(7,[(1,.n 0),(3,.bG 200 [(1,[(1,.b true),(6,.b true)])]),(7,.n 1),(9,.bG 200 [(1,[(1,.b true),(6,.b false)])])])] 2000 r (by kernel_rfl) (U h3 (U (aP ((i:Nat):Int)) (U (iQ cG) (U (rfl:(0)=((0:Nat):Int)) (U ((by omega):(0)<2) (U h7 (U h8 (U (rfl:(1)=((1:Nat):Int)) (U ((by omega):(1)<2) (U h9 (U dm trivial)))))))))))
        | true=>
         have nC:=of_decide_eq_true dm
         cases jm:((bw.1:Int)==bw.2) with
         | false=>
          have ML:=ne_of_beq_false jm
          refine cO (todo':=hd Tryd.f13 1) (E':=[(1,.pt 0 0),(3,.fn 33 [.pt 0 0]),(26,.d (.ro 2 (ah c.ah))),(27,.n c.ah.length),(28,.n i),(55,.d (.ro 2 (List.take (i) (ah c.ah)))),(56,.n i),(57,.n 0),(5,.pt 1 0)]) (M':=[.bx 25 [.z c.aq,.d (.ro 2 (ah c.ah)),.d (.ro 1 (ints c.homes))],.bx 71 [.z bw.1,.z bw.2]]) tk mo hK [(5,[(0,.b true)]),(6,[(1,.ix (i) [.z bw.1,.z bw.2])]),(7,[(1,.n 0),(3,.bG 200 [(1,[(1,.b true),(6,.b true)])]),(7,.n 1),(9,.bG 200 [(1,[(1,.b true),(6,.b true)])]),(13,.n 0),(15,.n 1),(17,.b false)]),(9,[(3,.n2 (i) (0)),(4,.z (((i:Nat):Int)))])] 2000 [0,1] [1,3,26,27,28,55,56,57,5] r (by kernel_rfl) (U h3 (U (aP ((i:Nat):Int)) (U (iQ cG) (U (rfl:(0)=((0:Nat):Int)) (U ((by omega):(0)<2) (U h7 (U h8 (U (rfl:(1)=((1:Nat):Int)) (U ((by omega):(1)<2) (U h9 (U dm (U (rfl:(0)=((0:Nat):Int)) (U ((by omega):(0)<2) (U (rfl:(1)=((1:Nat):Int)) (U ((by omega):(1)<2) (U jm (U (aP ((i:Nat):Int)) (U ((by first | omega | (simp [af,ah,ints,steps,strs];done) | (simp [af,ah,ints,steps,strs];omega)):(i)≤(ah c.ah:List (List DV)).length) (U ((by first | rfl | (simp [ah];omega) | simp [af,ah,ints]):(((List.take (i) (ah c.ah)).length:Nat):Int)=((i:Nat):Int)) trivial))))))))))))))))))) fun ac wd r=>?_
          refine aD.rounds (Φ:=fun (k:Nat) ac wd=>(me c bw k)∧dz [] w0 K 87 [(1,.pt 0 0),(3,.fn 33 [.pt 0 0]),(26,.d (.ro 2 (ah c.ah))),(27,.n c.ah.length),(28,.n i),(55,.d (.ro 2 (List.take (i) (ah c.ah)))),(56,.n i),(57,.n k),(5,.pt 1 0)] [.bx 25 [.z c.aq,.d (.ro 2 (ah c.ah)),.d (.ro 1 (ints c.homes))],.bx 71 [.z bw.1,.z bw.2]] ac wd) (i) ?_ (Nat.zero_le _) ⟨me.none _,r⟩
          clear r
          rintro k rn jT ac wd ⟨dP,r⟩
          cases iM:(decide ((((k:Nat):Int):Int)<((i:Nat):Int))) with
          | false=>
           have MM:=of_decide_eq_false iM
           exact cO (todo':=hd Tryd.f13 0) tk mo hK [(10,[(0,.b false)]),(15,[(0,.z (((i+1:Nat):Int)))])] 2000 [0] [1,3,26,27,28] r (by kernel_rfl) (U iM (U ((wi (by omega)):IntKind.i64.wrap ((((i:Nat):Int):Int)+1)=((i+1:Nat):Int)) trivial)) fun ac wd r=>bP (by omega) ac wd ⟨(ao.next cG (by omega) (fun j o hj hx=>dP j o (by omega) hx)),r⟩
          | true=>
           have MM:=of_decide_eq_true iM
           obtain ⟨fb,gx⟩:∃ x_,c.ah[k]?=some x_:=⟨_,List.getElem?_eq_getElem (by omega)⟩
           have bO:=((by rw [List.getElem?_take,if_pos (by omega)];exact iQ gx):(List.take (i) (ah c.ah))[k]?=some [.z fb.1,.z fb.2])
           cases lI:(fb.1==bw.1&&fb.2==bw.2) with
           | false=>
            have cL:=((pA (oN _ _ _ _) lI):jW Tryd.prog 71 [(.int .i64 (fb.1)),(.int .i64 (fb.2))] [(.int .i64 (bw.1)),(.int .i64 (bw.2))] false)
            cases Dy:(fb.1==bw.2&&fb.2==bw.1) with
            | false=>
             exact cO (todo':=hd Tryd.f13 1) tk mo hK [(10,[(0,.b true)]),(11,[(0,.ix (k) [.z fb.1,.z fb.2])]),(12,[(2,.b false),(5,.n 1),(7,.n 0),(10,.b false)]),(14,[(0,.z (((k+1:Nat):Int)))])] 2000 [0,1] [1,3,26,27,28,55,56,57,5] r (by kernel_rfl) (U iM (U (aP ((k:Nat):Int)) (U bO (U cL (U (rfl:(1)=((1:Nat):Int)) (U ((by omega):(1)<2) (U (rfl:(0)=((0:Nat):Int)) (U ((by omega):(0)<2) (U ((pA (oN _ _ _ _) Dy):jW Tryd.prog 71 [(.int .i64 (fb.1)),(.int .i64 (fb.2))] [(.int .i64 (bw.2)),(.int .i64 (bw.1))] false) (U ((wi (by omega)):IntKind.i64.wrap ((((k:Nat):Int):Int)+1)=((k+1:Nat):Int)) trivial)))))))))) fun ac wd r=>jT (by omega) ac wd ⟨(dP.next gx ⟨by first | exact Cb (by assumption) | omega,by first | exact Cb (by assumption) | omega⟩),r⟩
            | true=>
             rw [show (.v (.bool (cf c)):DV)=.v (.bool false) from (bv (by first | exact iV (by omega) ao (by omega) fJ (by omega) | exact iR (by omega) | exact iU eb (by omega) | exact iT cG (by omega) gx (by first | omega | exact .inl (dK (by assumption)) | exact .inr (dK (by assumption))) | exact iS cG (by omega)))]
             exact br tk mo hK rfl [(10,[(0,.b true)]),(11,[(0,.ix (k) [.z fb.1,.z fb.2])]),(12,[(2,.b false),(5,.n 1),(7,.n 0),(10,.b true)])] 2000 r (by kernel_rfl) (U iM (U (aP ((k:Nat):Int)) (U bO (U cL (U (rfl:(1)=((1:Nat):Int)) (U ((by omega):(1)<2) (U (rfl:(0)=((0:Nat):Int)) (U ((by omega):(0)<2) (U ((pA (oN _ _ _ _) Dy):jW Tryd.prog 71 [(.int .i64 (fb.1)),(.int .i64 (fb.2))] [(.int .i64 (bw.2)),(.int .i64 (bw.1))] true) trivial)))))))))
           | true=>
            rw [show (.v (.bool (cf c)):DV)=.v (.bool false) from (bv (by first | exact iV (by omega) ao (by omega) fJ (by omega) | exact iR (by omega) | exact iU eb (by omega) | exact iT cG (by omega) gx (by first | omega | exact .inl (dK (by assumption)) | exact .inr (dK (by assumption))) | exact iS cG (by omega)))]
            exact br tk mo hK rfl [(10,[(0,.b true)]),(11,[(0,.ix (k) [.z fb.1,.z fb.2])]),(12,[(2,.b true)])] 2000 r (by kernel_rfl) (U iM (U (aP ((k:Nat):Int)) (U bO (U ((pA (oN _ _ _ _) lI):jW Tryd.prog 71 [(.int .i64 (fb.1)),(.int .i64 (fb.2))] [(.int .i64 (bw.1)),(.int .i64 (bw.2))] true) trivial))))
         | true=>
          have ML:=eq_of_beq jm
          rw [show (.v (.bool (cf c)):DV)=.v (.bool false) from (bv (by first | exact iV (by omega) ao (by omega) fJ (by omega) | exact iR (by omega) | exact iU eb (by omega) | exact iT cG (by omega) gx (by first | omega | exact .inl (dK (by assumption)) | exact .inr (dK (by assumption))) | exact iS cG (by omega)))]
          exact br tk mo hK rfl [(5,[(0,.b true)]),(6,[(1,.ix (i) [.z bw.1,.z bw.2])]),(7,[(1,.n 0),(3,.bG 200 [(1,[(1,.b true),(6,.b true)])]),(7,.n 1),(9,.bG 200 [(1,[(1,.b true),(6,.b true)])]),(13,.n 0),(15,.n 1),(17,.b true)])] 2000 r (by kernel_rfl) (U h3 (U (aP ((i:Nat):Int)) (U (iQ cG) (U (rfl:(0)=((0:Nat):Int)) (U ((by omega):(0)<2) (U h7 (U h8 (U (rfl:(1)=((1:Nat):Int)) (U ((by omega):(1)<2) (U h9 (U dm (U (rfl:(0)=((0:Nat):Int)) (U ((by omega):(0)<2) (U (rfl:(1)=((1:Nat):Int)) (U ((by omega):(1)<2) (U jm trivial))))))))))))))))
   | true=>
    have c8:=of_decide_eq_true h2
    rw [show (.v (.bool (cf c)):DV)=.v (.bool false) from (bv (by first | exact iV (by omega) ao (by omega) fJ (by omega) | exact iR (by omega) | exact iU eb (by omega) | exact iT cG (by omega) gx (by first | omega | exact .inl (dK (by assumption)) | exact .inr (dK (by assumption))) | exact iS cG (by omega)))]
    exact br tk mo hK rfl [(1,[(2,.b false),(6,.b false),(11,.z (((c.homes.length:Nat):Int))),(12,.b true)])] 2000 r (by kernel_rfl) (U h0 (U h1 (U aZ (U h2 trivial))))
  | true=>
   have cm:=of_decide_eq_true h1
   rw [show (.v (.bool (cf c)):DV)=.v (.bool false) from (bv (by first | exact iV (by omega) ao (by omega) fJ (by omega) | exact iR (by omega) | exact iU eb (by omega) | exact iT cG (by omega) gx (by first | omega | exact .inl (dK (by assumption)) | exact .inr (dK (by assumption))) | exact iS cG (by omega)))]
   exact br tk mo hK rfl [(1,[(2,.b false),(6,.b true)])] 2000 r (by kernel_rfl) (U h0 (U h1 trivial))
 | true=>
  have bH:=of_decide_eq_true h0
  rw [show (.v (.bool (cf c)):DV)=.v (.bool false) from (bv (by first | exact iV (by omega) ao (by omega) fJ (by omega) | exact iR (by omega) | exact iU eb (by omega) | exact iT cG (by omega) gx (by first | omega | exact .inl (dK (by assumption)) | exact .inr (dK (by assumption))) | exact iS cG (by omega)))]
  exact br tk mo hK rfl [(1,[(2,.b true)])] 2000 r (by kernel_rfl) (U h0 trivial)
end Go.Proofs.YtcnpikbbmbombaaDoor
namespace Go.Proofs.YtcnpikbbmbombaaDoor
open Go.RowKit
structure jI where
 word:List UInt8
 node:Bool
 peer:Bool
 n:Bool
 bit:Bool
 inc:Bool
 body:Bool
def lY:List jI:=[⟨[110,111,110,101],false,false,false,false,false,false⟩,⟨[116,105,99,107],true,false,false,false,false,false⟩,⟨[100,101,108,105,118,101,114],true,true,true,false,false,false⟩,⟨[100,114,111,112],true,true,true,false,false,false⟩,⟨[100,111,117,98,108,101],true,true,true,false,false,false⟩,⟨[115,112,111,105,108],true,true,true,true,false,false⟩,⟨[99,117,116],true,true,false,false,false,false⟩,⟨[104,101,97,108],true,true,false,false,false,false⟩,⟨[99,114,97,115,104],true,false,false,false,false,false⟩,⟨[115,116,97,114,116],true,false,false,false,true,false⟩,⟨[115,101,110,100],true,false,false,false,false,true⟩,⟨[98,108,111,99,107,111,107],true,false,false,false,false,false⟩,⟨[106,111,105,110],true,false,false,false,false,false⟩,⟨[108,101,97,118,101],true,false,false,false,false,false⟩]
def ae (k:Nat):jI:=lY.getD k ⟨[],false,false,false,false,false,false⟩
def jI.row (x:jI):List DV:=[.v (.string ⟨x.word.toArray⟩),.v (.bool x.node),.v (.bool x.peer),.v (.bool x.n),.v (.bool x.bit),.v (.bool x.inc),.v (.bool x.body)]
def ai:List DV:=lY.flatMap jI.row
theorem lZ {p:Nat→Prop} (h0:p 0) (h1:p 1) (h2:p 2) (h3:p 3) (h4:p 4) (h5:p 5) (h6:p 6) (h7:p 7) (h8:p 8) (h9:p 9) (dm:p 10) (jm:p 11) (iM:p 12) (lI:p 13) {k:Nat} (h:k<14):p k:=
 match k,h with
 | 0,_=>h0 | 1,_=>h1 | 2,_=>h2 | 3,_=>h3 | 4,_=>h4 | 5,_=>h5 | 6,_=>h6 | 7,_=>h7 | 8,_=>h8 | 9,_=>h9 | 10,_=>dm | 11,_=>jm | 12,_=>iM | 13,_=>lI
theorem mT {k:Nat} (h:k<14):List.take 7 (List.drop (k*7) ai)=(ae k).row:=lZ (p:=fun k=>List.take 7 (List.drop (k*7) ai)=(ae k).row) rfl rfl rfl rfl rfl rfl rfl rfl rfl rfl rfl rfl rfl rfl h
def cH (has:Bool) (n most:Int):Bool:=decide (n=0)||(has&&(decide (0<n)&&decide (n≤most)))
def fg (s:az) (x:jI):Bool:=cH x.node s.node 255&&(cH x.peer s.peer 255&&(cH x.n s.n 255&&(cH x.bit s.bit 65535&&(cH x.body s.body.length 255&&(x.inc||decide ((s.inc:Int)=0))))))
def hasB (s:az):Bool:=decide (0≤s.kind)&&(decide (s.kind<14)&&fg s (ae s.kind.toNat))
theorem gO {s:az} (h:s.kind<0∨14≤s.kind):hasB s=false:=by unfold hasB;simp;omega
theorem gJ {s:az} {b:Bool} (h:0≤s.kind) (h2:s.kind<14) (e:fg s (ae s.kind.toNat)=b):hasB s=b:=by unfold hasB;rw [decide_eq_true h,decide_eq_true h2,Bool.true_and,Bool.true_and,e]
set_option maxRecDepth 100000 in
theorem FR (n most:Int):aB Tryd.prog 35 [.d (.v (.bool true)),.z n,.z most] (.v (.bool (cH true n most))):=by
 refine aB.intro (by kernel_rfl) rfl rfl 21 rfl rfl fun w0 K ac hK r=>?_
 cases h0:((n:Int)==0) with
 | false=>
  have bH:=ne_of_beq_false h0
  cases h1:(decide ((0:Int)<n)) with
  | false=>
   have cm:=of_decide_eq_false h1
   rw [show (.v (.bool (cH true n most)):DV)=.v (.bool false) from (bv (by unfold cH;simp<;>omega))]
   exact br tk mo hK rfl [(1,[(1,.b false),(6,.b false)])] 2000 r (by kernel_rfl) (U h0 (U h1 trivial))
  | true=>
   have cm:=of_decide_eq_true h1
   cases h2:(decide ((n:Int)≤most)) with
   | false=>
    have c8:=of_decide_eq_false h2
    rw [show (.v (.bool (cH true n most)):DV)=.v (.bool false) from (bv (by unfold cH;simp<;>omega))]
    exact br tk mo hK rfl [(1,[(1,.b false),(6,.b true),(11,.b false)])] 2000 r (by kernel_rfl) (U h0 (U h1 (U h2 trivial)))
   | true=>
    have c8:=of_decide_eq_true h2
    rw [show (.v (.bool (cH true n most)):DV)=.v (.bool true) from (bv (by unfold cH;simp<;>omega))]
    exact br tk mo hK rfl [(1,[(1,.b false),(6,.b true),(11,.b true)])] 2000 r (by kernel_rfl) (U h0 (U h1 (U h2 trivial)))
 | true=>
  have bH:=eq_of_beq h0
  rw [show (.v (.bool (cH true n most)):DV)=.v (.bool true) from (bv (by unfold cH;simp<;>omega))]
  exact br tk mo hK rfl [(1,[(1,.b true)])] 2000 r (by kernel_rfl) (U h0 trivial)
set_option maxRecDepth 100000 in
theorem ES (n most:Int):aB Tryd.prog 35 [.d (.v (.bool false)),.z n,.z most] (.v (.bool (cH false n most))):=by
 refine aB.intro (by kernel_rfl) rfl rfl 21 rfl rfl fun w0 K ac hK r=>?_
 cases h0:((n:Int)==0) with
 | false=>
  have bH:=ne_of_beq_false h0
  rw [show (.v (.bool (cH false n most)):DV)=.v (.bool false) from (bv (by unfold cH;simp<;>omega))]
  exact br tk mo hK rfl [(1,[(1,.b false)])] 2000 r (by kernel_rfl) (U h0 trivial)
 | true=>
  have bH:=eq_of_beq h0
  rw [show (.v (.bool (cH false n most)):DV)=.v (.bool true) from (bv (by unfold cH;simp<;>omega))]
  exact br tk mo hK rfl [(1,[(1,.b true)])] 2000 r (by kernel_rfl) (U h0 trivial)
theorem fe (has:Bool) (n most:Int):aB Tryd.prog 35 [.d (.v (.bool has)),.z n,.z most] (.v (.bool (cH has n most))):=by
 cases has with
 | true=>exact FR n most
 | false=>exact ES n most
set_option maxRecDepth 100000 in
theorem w9 (s:az):aA Tryd.prog 16 [.ag [.z s.kind,.z s.node,.z s.peer,.z s.n,.z s.bit,.u s.inc,.d (.ro 1 (af s.body))]] [.gw 0 ai] (.d (.v (.bool (hasB s)))) ([.gw 0 ai]):=by
 refine aA.intro (by kernel_rfl) rfl rfl 59 rfl rfl fun D w0 K bs ac wd hK (al:bs.m=1) r=>?_
 cases h0:(decide ((s.kind:Int)<0)) with
 | false=>
  have bH:=of_decide_eq_false h0
  cases h1:(decide ((14:Int)≤s.kind)) with
  | false=>
   have cm:=of_decide_eq_false h1
   cases h2:((ae s.kind.toNat).inc) with
   | false=>
    have aZ:=((by rw [mT (by omega)];unfold jI.row;rw [h2]):List.take 7 (List.drop ((s.kind.toNat)*7) (ai:List DV))=([.v (.string ⟨((ae s.kind.toNat).word).toArray⟩),.v (.bool ((ae s.kind.toNat).node)),.v (.bool ((ae s.kind.toNat).peer)),.v (.bool ((ae s.kind.toNat).n)),.v (.bool ((ae s.kind.toNat).bit)),.v (.bool false),.v (.bool ((ae s.kind.toNat).body))]:List DV))
    cases h3:(cH ((ae s.kind.toNat).node) s.node 255) with
    | false=>
     refine a8 (y:=.d (.v (.bool false))) (N':=[.gw 0 ai]) ((congrArg (fun b=>AV.d (.v (.bool b))) (by first | exact gO (by omega) | exact gJ (by omega) (by omega) (by unfold fg;simp [h0,h1,h2,h3]<;>omega)))) (rfl) ?_
     exact a7 tk mo hK rfl al [(1,[(2,.b false),(6,.b false)]),(3,[(2,.ix (s.kind.toNat) [.v (.string ⟨((ae s.kind.toNat).word).toArray⟩),.v (.bool ((ae s.kind.toNat).node)),.v (.bool ((ae s.kind.toNat).peer)),.v (.bool ((ae s.kind.toNat).n)),.v (.bool ((ae s.kind.toNat).bit)),.v (.bool false),.v (.bool ((ae s.kind.toNat).body))])]),(4,[(4,.aO (.v (.bool false)))])] 2000 [0] r (by kernel_rfl) (U h0 (U h1 (U ((by omega):(s.kind)=((s.kind.toNat:Nat):Int)) (U ((by omega):(s.kind.toNat)<14) (U aZ (U ((by have k:=fe ((ae s.kind.toNat).node) s.node 255;rw [h3] at k;exact k):aB Tryd.prog 35 [.d (.v (.bool ((ae s.kind.toNat).node))),.z s.node,.z 255] (.v (.bool false))) trivial))))))
    | true=>
     have bO:=((by have k:=fe ((ae s.kind.toNat).node) s.node 255;rw [h3] at k;exact k):aB Tryd.prog 35 [.d (.v (.bool ((ae s.kind.toNat).node))),.z s.node,.z 255] (.v (.bool true)))
     cases h4:(cH ((ae s.kind.toNat).peer) s.peer 255) with
     | false=>
      refine a8 (y:=.d (.v (.bool false))) (N':=[.gw 0 ai]) ((congrArg (fun b=>AV.d (.v (.bool b))) (by first | exact gO (by omega) | exact gJ (by omega) (by omega) (by unfold fg;simp [h0,h1,h2,h3,h4]<;>omega)))) (rfl) ?_
      exact a7 tk mo hK rfl al [(1,[(2,.b false),(6,.b false)]),(3,[(2,.ix (s.kind.toNat) [.v (.string ⟨((ae s.kind.toNat).word).toArray⟩),.v (.bool ((ae s.kind.toNat).node)),.v (.bool ((ae s.kind.toNat).peer)),.v (.bool ((ae s.kind.toNat).n)),.v (.bool ((ae s.kind.toNat).bit)),.v (.bool false),.v (.bool ((ae s.kind.toNat).body))])]),(4,[(4,.aO (.v (.bool true))),(10,.aO (.v (.bool false)))])] 2000 [0] r (by kernel_rfl) (U h0 (U h1 (U ((by omega):(s.kind)=((s.kind.toNat:Nat):Int)) (U ((by omega):(s.kind.toNat)<14) (U aZ (U bO (U ((by have k:=fe ((ae s.kind.toNat).peer) s.peer 255;rw [h4] at k;exact k):aB Tryd.prog 35 [.d (.v (.bool ((ae s.kind.toNat).peer))),.z s.peer,.z 255] (.v (.bool false))) trivial)))))))
     | true=>
      have cL:=((by have k:=fe ((ae s.kind.toNat).peer) s.peer 255;rw [h4] at k;exact k):aB Tryd.prog 35 [.d (.v (.bool ((ae s.kind.toNat).peer))),.z s.peer,.z 255] (.v (.bool true)))
      cases h5:(cH ((ae s.kind.toNat).n) s.n 255) with
      | false=>
       refine a8 (y:=.d (.v (.bool false))) (N':=[.gw 0 ai]) ((congrArg (fun b=>AV.d (.v (.bool b))) (by first | exact gO (by omega) | exact gJ (by omega) (by omega) (by unfold fg;simp [h0,h1,h2,h3,h4,h5]<;>omega)))) (rfl) ?_
       exact a7 tk mo hK rfl al [(1,[(2,.b false),(6,.b false)]),(3,[(2,.ix (s.kind.toNat) [.v (.string ⟨((ae s.kind.toNat).word).toArray⟩),.v (.bool ((ae s.kind.toNat).node)),.v (.bool ((ae s.kind.toNat).peer)),.v (.bool ((ae s.kind.toNat).n)),.v (.bool ((ae s.kind.toNat).bit)),.v (.bool false),.v (.bool ((ae s.kind.toNat).body))])]),(4,[(4,.aO (.v (.bool true))),(10,.aO (.v (.bool true))),(17,.aO (.v (.bool false)))])] 2000 [0] r (by kernel_rfl) (U h0 (U h1 (U ((by omega):(s.kind)=((s.kind.toNat:Nat):Int)) (U ((by omega):(s.kind.toNat)<14) (U aZ (U bO (U cL (U ((by have k:=fe ((ae s.kind.toNat).n) s.n 255;rw [h5] at k;exact k):aB Tryd.prog 35 [.d (.v (.bool ((ae s.kind.toNat).n))),.z s.n,.z 255] (.v (.bool false))) trivial))))))))
      | true=>
       have dR:=((by have k:=fe ((ae s.kind.toNat).n) s.n 255;rw [h5] at k;exact k):aB Tryd.prog 35 [.d (.v (.bool ((ae s.kind.toNat).n))),.z s.n,.z 255] (.v (.bool true)))
       cases h6:(cH ((ae s.kind.toNat).bit) s.bit 65535) with
       | false=>
        refine a8 (y:=.d (.v (.bool false))) (N':=[.gw 0 ai]) ((congrArg (fun b=>AV.d (.v (.bool b))) (by first | exact gO (by omega) | exact gJ (by omega) (by omega) (by unfold fg;simp [h0,h1,h2,h3,h4,h5,h6]<;>omega)))) (rfl) ?_
        exact a7 tk mo hK rfl al [(1,[(2,.b false),(6,.b false)]),(3,[(2,.ix (s.kind.toNat) [.v (.string ⟨((ae s.kind.toNat).word).toArray⟩),.v (.bool ((ae s.kind.toNat).node)),.v (.bool ((ae s.kind.toNat).peer)),.v (.bool ((ae s.kind.toNat).n)),.v (.bool ((ae s.kind.toNat).bit)),.v (.bool false),.v (.bool ((ae s.kind.toNat).body))])]),(4,[(4,.aO (.v (.bool true))),(10,.aO (.v (.bool true))),(17,.aO (.v (.bool true))),(24,.aO (.v (.bool false)))])] 2000 [0] r (by kernel_rfl) (U h0 (U h1 (U ((by omega):(s.kind)=((s.kind.toNat:Nat):Int)) (U ((by omega):(s.kind.toNat)<14) (U aZ (U bO (U cL (U dR (U ((by have k:=fe ((ae s.kind.toNat).bit) s.bit 65535;rw [h6] at k;exact k):aB Tryd.prog 35 [.d (.v (.bool ((ae s.kind.toNat).bit))),.z s.bit,.z 65535] (.v (.bool false))) trivial)))))))))
       | true=>
        have ic:=((by have k:=fe ((ae s.kind.toNat).bit) s.bit 65535;rw [h6] at k;exact k):aB Tryd.prog 35 [.d (.v (.bool ((ae s.kind.toNat).bit))),.z s.bit,.z 65535] (.v (.bool true)))
        have ie:=((by first | rfl | simp [af,ah,ints,steps,strs]):(((af s.body).length:Nat):Int)=((s.body.length:Nat):Int))
        cases h7:(cH ((ae s.kind.toNat).body) ((s.body.length:Nat):Int) 255) with
        | false=>
         refine a8 (y:=.d (.v (.bool false))) (N':=[.gw 0 ai]) ((congrArg (fun b=>AV.d (.v (.bool b))) (by first | exact gO (by omega) | exact gJ (by omega) (by omega) (by unfold fg;simp [h0,h1,h2,h3,h4,h5,h6,h7]<;>omega)))) (rfl) ?_
         exact a7 tk mo hK rfl al [(1,[(2,.b false),(6,.b false)]),(3,[(2,.ix (s.kind.toNat) [.v (.string ⟨((ae s.kind.toNat).word).toArray⟩),.v (.bool ((ae s.kind.toNat).node)),.v (.bool ((ae s.kind.toNat).peer)),.v (.bool ((ae s.kind.toNat).n)),.v (.bool ((ae s.kind.toNat).bit)),.v (.bool false),.v (.bool ((ae s.kind.toNat).body))])]),(4,[(4,.aO (.v (.bool true))),(10,.aO (.v (.bool true))),(17,.aO (.v (.bool true))),(24,.aO (.v (.bool true))),(31,.z (((s.body.length:Nat):Int))),(32,.aO (.v (.bool false)))])] 2000 [0] r (by kernel_rfl) (U h0 (U h1 (U ((by omega):(s.kind)=((s.kind.toNat:Nat):Int)) (U ((by omega):(s.kind.toNat)<14) (U aZ (U bO (U cL (U dR (U ic (U ie (U ((by have k:=fe ((ae s.kind.toNat).body) ((s.body.length:Nat):Int) 255;rw [h7] at k;exact k):aB Tryd.prog 35 [.d (.v (.bool ((ae s.kind.toNat).body))),.n s.body.length,.z 255] (.v (.bool false))) trivial)))))))))))
        | true=>
         have eC:=((by have k:=fe ((ae s.kind.toNat).body) ((s.body.length:Nat):Int) 255;rw [h7] at k;exact k):aB Tryd.prog 35 [.d (.v (.bool ((ae s.kind.toNat).body))),.n s.body.length,.z 255] (.v (.bool true)))
         cases h8:((((s.inc:Nat):Int):Int)==0) with
         | false=>
          have ib:=ne_of_beq_false h8
          refine a8 (y:=.d (.v (.bool false))) (N':=[.gw 0 ai]) ((congrArg (fun b=>AV.d (.v (.bool b))) (by first | exact gO (by omega) | exact gJ (by omega) (by omega) (by unfold fg;simp [h0,h1,h2,h3,h4,h5,h6,h7,h8]<;>omega)))) (rfl) ?_
          exact a7 tk mo hK rfl al [(1,[(2,.b false),(6,.b false)]),(3,[(2,.ix (s.kind.toNat) [.v (.string ⟨((ae s.kind.toNat).word).toArray⟩),.v (.bool ((ae s.kind.toNat).node)),.v (.bool ((ae s.kind.toNat).peer)),.v (.bool ((ae s.kind.toNat).n)),.v (.bool ((ae s.kind.toNat).bit)),.v (.bool false),.v (.bool ((ae s.kind.toNat).body))])]),(4,[(4,.aO (.v (.bool true))),(10,.aO (.v (.bool true))),(17,.aO (.v (.bool true))),(24,.aO (.v (.bool true))),(31,.z (((s.body.length:Nat):Int))),(32,.aO (.v (.bool true))),(40,.b false)])] 2000 [0] r (by kernel_rfl) (U h0 (U h1 (U ((by omega):(s.kind)=((s.kind.toNat:Nat):Int)) (U ((by omega):(s.kind.toNat)<14) (U aZ (U bO (U cL (U dR (U ic (U ie (U eC (U h8 trivial))))))))))))
         | true=>
          have ib:=eq_of_beq h8
          refine a8 (y:=.d (.v (.bool true))) (N':=[.gw 0 ai]) ((congrArg (fun b=>AV.d (.v (.bool b))) (by first | exact gO (by omega) | exact gJ (by omega) (by omega) (by unfold fg;simp [h0,h1,h2,h3,h4,h5,h6,h7,h8]<;>omega)))) (rfl) ?_
          exact a7 tk mo hK rfl al [(1,[(2,.b false),(6,.b false)]),(3,[(2,.ix (s.kind.toNat) [.v (.string ⟨((ae s.kind.toNat).word).toArray⟩),.v (.bool ((ae s.kind.toNat).node)),.v (.bool ((ae s.kind.toNat).peer)),.v (.bool ((ae s.kind.toNat).n)),.v (.bool ((ae s.kind.toNat).bit)),.v (.bool false),.v (.bool ((ae s.kind.toNat).body))])]),(4,[(4,.aO (.v (.bool true))),(10,.aO (.v (.bool true))),(17,.aO (.v (.bool true))),(24,.aO (.v (.bool true))),(31,.z (((s.body.length:Nat):Int))),(32,.aO (.v (.bool true))),(40,.b true)])] 2000 [0] r (by kernel_rfl) (U h0 (U h1 (U ((by omega):(s.kind)=((s.kind.toNat:Nat):Int)) (U ((by omega):(s.kind.toNat)<14) (U aZ (U bO (U cL (U dR (U ic (U ie (U eC (U h8 trivial))))))))))))
   | true=>
    have fM:=((by rw [mT (by omega)];unfold jI.row;rw [h2]):List.take 7 (List.drop ((s.kind.toNat)*7) (ai:List DV))=([.v (.string ⟨((ae s.kind.toNat).word).toArray⟩),.v (.bool ((ae s.kind.toNat).node)),.v (.bool ((ae s.kind.toNat).peer)),.v (.bool ((ae s.kind.toNat).n)),.v (.bool ((ae s.kind.toNat).bit)),.v (.bool true),.v (.bool ((ae s.kind.toNat).body))]:List DV))
    cases h9:(cH ((ae s.kind.toNat).node) s.node 255) with
    | false=>
     refine a8 (y:=.d (.v (.bool false))) (N':=[.gw 0 ai]) ((congrArg (fun b=>AV.d (.v (.bool b))) (by first | exact gO (by omega) | exact gJ (by omega) (by omega) (by unfold fg;simp [h0,h1,h2,h9]<;>omega)))) (rfl) ?_
     exact a7 tk mo hK rfl al [(1,[(2,.b false),(6,.b false)]),(3,[(2,.ix (s.kind.toNat) [.v (.string ⟨((ae s.kind.toNat).word).toArray⟩),.v (.bool ((ae s.kind.toNat).node)),.v (.bool ((ae s.kind.toNat).peer)),.v (.bool ((ae s.kind.toNat).n)),.v (.bool ((ae s.kind.toNat).bit)),.v (.bool true),.v (.bool ((ae s.kind.toNat).body))])]),(4,[(4,.aO (.v (.bool false)))])] 2000 [0] r (by kernel_rfl) (U h0 (U h1 (U ((by omega):(s.kind)=((s.kind.toNat:Nat):Int)) (U ((by omega):(s.kind.toNat)<14) (U fM (U ((by have k:=fe ((ae s.kind.toNat).node) s.node 255;rw [h9] at k;exact k):aB Tryd.prog 35 [.d (.v (.bool ((ae s.kind.toNat).node))),.z s.node,.z 255] (.v (.bool false))) trivial))))))
    | true=>
     have fZ:=((by have k:=fe ((ae s.kind.toNat).node) s.node 255;rw [h9] at k;exact k):aB Tryd.prog 35 [.d (.v (.bool ((ae s.kind.toNat).node))),.z s.node,.z 255] (.v (.bool true)))
     cases dm:(cH ((ae s.kind.toNat).peer) s.peer 255) with
     | false=>
      refine a8 (y:=.d (.v (.bool false))) (N':=[.gw 0 ai]) ((congrArg (fun b=>AV.d (.v (.bool b))) (by first | exact gO (by omega) | exact gJ (by omega) (by omega) (by unfold fg;simp [h0,h1,h2,h9,dm]<;>omega)))) (rfl) ?_
      exact a7 tk mo hK rfl al [(1,[(2,.b false),(6,.b false)]),(3,[(2,.ix (s.kind.toNat) [.v (.string ⟨((ae s.kind.toNat).word).toArray⟩),.v (.bool ((ae s.kind.toNat).node)),.v (.bool ((ae s.kind.toNat).peer)),.v (.bool ((ae s.kind.toNat).n)),.v (.bool ((ae s.kind.toNat).bit)),.v (.bool true),.v (.bool ((ae s.kind.toNat).body))])]),(4,[(4,.aO (.v (.bool true))),(10,.aO (.v (.bool false)))])] 2000 [0] r (by kernel_rfl) (U h0 (U h1 (U ((by omega):(s.kind)=((s.kind.toNat:Nat):Int)) (U ((by omega):(s.kind.toNat)<14) (U fM (U fZ (U ((by have k:=fe ((ae s.kind.toNat).peer) s.peer 255;rw [dm] at k;exact k):aB Tryd.prog 35 [.d (.v (.bool ((ae s.kind.toNat).peer))),.z s.peer,.z 255] (.v (.bool false))) trivial)))))))
     | true=>
      have jJ:=((by have k:=fe ((ae s.kind.toNat).peer) s.peer 255;rw [dm] at k;exact k):aB Tryd.prog 35 [.d (.v (.bool ((ae s.kind.toNat).peer))),.z s.peer,.z 255] (.v (.bool true)))
      cases jm:(cH ((ae s.kind.toNat).n) s.n 255) with
      | false=>
       refine a8 (y:=.d (.v (.bool false))) (N':=[.gw 0 ai]) ((congrArg (fun b=>AV.d (.v (.bool b))) (by first | exact gO (by omega) | exact gJ (by omega) (by omega) (by unfold fg;simp [h0,h1,h2,h9,dm,jm]<;>omega)))) (rfl) ?_
       exact a7 tk mo hK rfl al [(1,[(2,.b false),(6,.b false)]),(3,[(2,.ix (s.kind.toNat) [.v (.string ⟨((ae s.kind.toNat).word).toArray⟩),.v (.bool ((ae s.kind.toNat).node)),.v (.bool ((ae s.kind.toNat).peer)),.v (.bool ((ae s.kind.toNat).n)),.v (.bool ((ae s.kind.toNat).bit)),.v (.bool true),.v (.bool ((ae s.kind.toNat).body))])]),(4,[(4,.aO (.v (.bool true))),(10,.aO (.v (.bool true))),(17,.aO (.v (.bool false)))])] 2000 [0] r (by kernel_rfl) (U h0 (U h1 (U ((by omega):(s.kind)=((s.kind.toNat:Nat):Int)) (U ((by omega):(s.kind.toNat)<14) (U fM (U fZ (U jJ (U ((by have k:=fe ((ae s.kind.toNat).n) s.n 255;rw [jm] at k;exact k):aB Tryd.prog 35 [.d (.v (.bool ((ae s.kind.toNat).n))),.z s.n,.z 255] (.v (.bool false))) trivial))))))))
      | true=>
       have pe:=((by have k:=fe ((ae s.kind.toNat).n) s.n 255;rw [jm] at k;exact k):aB Tryd.prog 35 [.d (.v (.bool ((ae s.kind.toNat).n))),.z s.n,.z 255] (.v (.bool true)))
       cases iM:(cH ((ae s.kind.toNat).bit) s.bit 65535) with
       | false=>
        refine a8 (y:=.d (.v (.bool false))) (N':=[.gw 0 ai]) ((congrArg (fun b=>AV.d (.v (.bool b))) (by first | exact gO (by omega) | exact gJ (by omega) (by omega) (by unfold fg;simp [h0,h1,h2,h9,dm,jm,iM]<;>omega)))) (rfl) ?_
        exact a7 tk mo hK rfl al [(1,[(2,.b false),(6,.b false)]),(3,[(2,.ix (s.kind.toNat) [.v (.string ⟨((ae s.kind.toNat).word).toArray⟩),.v (.bool ((ae s.kind.toNat).node)),.v (.bool ((ae s.kind.toNat).peer)),.v (.bool ((ae s.kind.toNat).n)),.v (.bool ((ae s.kind.toNat).bit)),.v (.bool true),.v (.bool ((ae s.kind.toNat).body))])]),(4,[(4,.aO (.v (.bool true))),(10,.aO (.v (.bool true))),(17,.aO (.v (.bool true))),(24,.aO (.v (.bool false)))])] 2000 [0] r (by kernel_rfl) (U h0 (U h1 (U ((by omega):(s.kind)=((s.kind.toNat:Nat):Int)) (U ((by omega):(s.kind.toNat)<14) (U fM (U fZ (U jJ (U pe (U ((by have k:=fe ((ae s.kind.toNat).bit) s.bit 65535;rw [iM] at k;exact k):aB Tryd.prog 35 [.d (.v (.bool ((ae s.kind.toNat).bit))),.z s.bit,.z 65535] (.v (.bool false))) trivial)))))))))
       | true=>
        have CF:=((by have k:=fe ((ae s.kind.toNat).bit) s.bit 65535;rw [iM] at k;exact k):aB Tryd.prog 35 [.d (.v (.bool ((ae s.kind.toNat).bit))),.z s.bit,.z 65535] (.v (.bool true)))
        have CG:=((by first | rfl | simp [af,ah,ints,steps,strs]):(((af s.body).length:Nat):Int)=((s.body.length:Nat):Int))
        cases lI:(cH ((ae s.kind.toNat).body) ((s.body.length:Nat):Int) 255) with
        | false=>
         refine a8 (y:=.d (.v (.bool false))) (N':=[.gw 0 ai]) ((congrArg (fun b=>AV.d (.v (.bool b))) (by first | exact gO (by omega) | exact gJ (by omega) (by omega) (by unfold fg;simp [h0,h1,h2,h9,dm,jm,iM,lI]<;>omega)))) (rfl) ?_
         exact a7 tk mo hK rfl al [(1,[(2,.b false),(6,.b false)]),(3,[(2,.ix (s.kind.toNat) [.v (.string ⟨((ae s.kind.toNat).word).toArray⟩),.v (.bool ((ae s.kind.toNat).node)),.v (.bool ((ae s.kind.toNat).peer)),.v (.bool ((ae s.kind.toNat).n)),.v (.bool ((ae s.kind.toNat).bit)),.v (.bool true),.v (.bool ((ae s.kind.toNat).body))])]),(4,[(4,.aO (.v (.bool true))),(10,.aO (.v (.bool true))),(17,.aO (.v (.bool true))),(24,.aO (.v (.bool true))),(31,.z (((s.body.length:Nat):Int))),(32,.aO (.v (.bool false)))])] 2000 [0] r (by kernel_rfl) (U h0 (U h1 (U ((by omega):(s.kind)=((s.kind.toNat:Nat):Int)) (U ((by omega):(s.kind.toNat)<14) (U fM (U fZ (U jJ (U pe (U CF (U CG (U ((by have k:=fe ((ae s.kind.toNat).body) ((s.body.length:Nat):Int) 255;rw [lI] at k;exact k):aB Tryd.prog 35 [.d (.v (.bool ((ae s.kind.toNat).body))),.n s.body.length,.z 255] (.v (.bool false))) trivial)))))))))))
        | true=>
         refine a8 (y:=.d (.v (.bool true))) (N':=[.gw 0 ai]) ((congrArg (fun b=>AV.d (.v (.bool b))) (by first | exact gO (by omega) | exact gJ (by omega) (by omega) (by unfold fg;simp [h0,h1,h2,h9,dm,jm,iM,lI]<;>omega)))) (rfl) ?_
         exact a7 tk mo hK rfl al [(1,[(2,.b false),(6,.b false)]),(3,[(2,.ix (s.kind.toNat) [.v (.string ⟨((ae s.kind.toNat).word).toArray⟩),.v (.bool ((ae s.kind.toNat).node)),.v (.bool ((ae s.kind.toNat).peer)),.v (.bool ((ae s.kind.toNat).n)),.v (.bool ((ae s.kind.toNat).bit)),.v (.bool true),.v (.bool ((ae s.kind.toNat).body))])]),(4,[(4,.aO (.v (.bool true))),(10,.aO (.v (.bool true))),(17,.aO (.v (.bool true))),(24,.aO (.v (.bool true))),(31,.z (((s.body.length:Nat):Int))),(32,.aO (.v (.bool true)))])] 2000 [0] r (by kernel_rfl) (U h0 (U h1 (U ((by omega):(s.kind)=((s.kind.toNat:Nat):Int)) (U ((by omega):(s.kind.toNat)<14) (U fM (U fZ (U jJ (U pe (U CF (U CG (U ((by have k:=fe ((ae s.kind.toNat).body) ((s.body.length:Nat):Int) 255;rw [lI] at k;exact k):aB Tryd.prog 35 [.d (.v (.bool ((ae s.kind.toNat).body))),.n s.body.length,.z 255] (.v (.bool true))) trivial)))))))))))
  | true=>
   have cm:=of_decide_eq_true h1
   refine a8 (y:=.d (.v (.bool false))) (N':=[.gw 0 ai]) ((congrArg (fun b=>AV.d (.v (.bool b))) (by first | exact gO (by omega) | exact gJ (by omega) (by omega) (by unfold fg;simp [h0,h1]<;>omega)))) (rfl) ?_
   exact a7 tk mo hK rfl al [(1,[(2,.b false),(6,.b true)])] 2000 [0] r (by kernel_rfl) (U h0 (U h1 trivial))
 | true=>
  have bH:=of_decide_eq_true h0
  refine a8 (y:=.d (.v (.bool false))) (N':=[.gw 0 ai]) ((congrArg (fun b=>AV.d (.v (.bool b))) (by first | exact gO (by omega) | exact gJ (by omega) (by omega) (by unfold fg;simp [h0]<;>omega)))) (rfl) ?_
  exact a7 tk mo hK rfl al [(1,[(2,.b true)])] 2000 [0] r (by kernel_rfl) (U h0 trivial)
end Go.Proofs.YtcnpikbbmbombaaDoor
namespace Go.Proofs.YtcnpikbbmbombaaDoor
open Go.RowKit
theorem aB.stays {P:Program} {f:FuncId} {args:List AV} {x:DV} (h:aB P f args x):aB P f args (ef x):=by
 refine ⟨h.1,fun w K ys hK hl hr=>(h.2 w K ys hK hl hr).mono ?_⟩
 rintro ed w' ⟨v,rfl,g,H,⟨Ho,Hi,rfl,hd⟩,n⟩
 exact ⟨_,rfl,g,_,⟨[],Ho++Hi,rfl,sc hd fun w hw=>⟨⟨hw.1,(Holds.app.1 hw.2).2⟩,(Holds.app.1 hw.2).1⟩⟩,n⟩
theorem jK (l:List (Int×Int)):cx (ah l)=ah l:=by rw [jM];unfold ah;rw [List.map_map];apply List.map_congr_left;intro b _;rfl
theorem jL (l:List Int):cx (ints l)=ints l:=by rw [jM];unfold ints;rw [List.map_map];apply List.map_congr_left;intro b _;rfl
def jv (n:Nat):List az→Nat
 | []=>n
 | s::r=>if n≤2000 then jv (n+(1+s.body.length / 64)) r else n
def iZ (c:bk) (l:List az):Bool:=decide ((2000:Int)<((jv (c.ah.length+c.homes.length) l:Nat):Int))
theorem Al:∀ (l:List az) (n:Nat),n≤jv n l
 | [],n=>Nat.le_refl _
 | s::r,n=>by
  unfold jv;split
  ·have:=Al r (n+(1+s.body.length / 64));omega
  ·exact Nat.le_refl _
theorem rG {l:List az} {n:Nat} (h:2000<n):jv n l=n:=by
 cases l with
 | nil=>rfl
 | cons s r=>unfold jv;rw [if_neg (by omega)]
theorem ET {l:List az} {i n:Nat} {s:az} (h:l[i]?=some s) (hn:n≤2000):jv n (l.drop i)=jv (n+(1+s.body.length / 64)) (l.drop (i+1)):=by
 obtain ⟨aI,rfl⟩:=List.getElem?_eq_some_iff.1 h
 rw [List.drop_eq_getElem_cons aI]
 show (if n≤2000 then _ else _)=_
 rw [if_pos hn]
theorem Hk {c:bk} {l:List az} (h:iZ c l=false):c.ah.length+c.homes.length+l.length≤2000∧∀ s ∈ l,s.body.length / 64≤2000:=by
 have key:∀ (l:List az) (n:Nat),jv n l≤2000→n+l.length≤2000∧∀ s ∈ l,s.body.length / 64≤2000:=by
  intro l
  induction l with
  | nil=>intro n h;exact ⟨h,by simp⟩
  | cons s r ih=>
   intro n h
   have h0:n≤2000:=Nat.le_trans (Al (s::r) n) h
   unfold jv at h;rw [if_pos h0] at h
   obtain ⟨h1,h2⟩:=ih _ h
   refine ⟨by simp only [List.length_cons];omega,fun x hx=>?_⟩
   rcases List.mem_cons.1 hx with rfl | hx
   ·omega
   ·exact h2 x hx
 unfold iZ at h
 exact key l _ (by have:=of_decide_eq_false h;omega)
structure az.Rd (s:az):Prop where
 body:s.body.length≤9223372036854775807
 inc:s.inc≤18446744073709551615
theorem J1 (n:Nat):((n:Int)).tdiv 64=((n / 64:Nat):Int):=(Int.ofNat_tdiv n 64).symm
theorem ext_get {α:Type} {a b:List α} (hl:a.length=b.length) (h:∀ (j:Nat) x y,j<a.length→a[j]?=some x→b[j]?=some y→x=y):a=b:=by
 apply List.ext_getElem hl
 intro i h1 h2
 exact h i _ _ h1 (List.getElem?_eq_getElem h1) (List.getElem?_eq_getElem h2)
theorem lj {a b:List UInt8} (h:(a==b)=false):a≠b:=by intro e;subst e;simp at h
set_option maxRecDepth 100000 in
theorem Bz (c:bk) (l:List az) (hc:c.ah.length+c.homes.length≤9223372036854775807) (hl:l.length≤9223372036854775807) (hr:∀ s ∈ l,s.Rd):aB Tryd.prog 5 [.ag [.z c.aq,.d (.ro 2 (ah c.ah)),.d (.ro 1 (ints c.homes))],.d (.ro 7 (steps l))] (.v (.bool (iZ c l))):=by
 refine aB.intro (by kernel_rfl) rfl rfl 36 rfl rfl fun w0 K ac hK r=>?_
 refine cO (todo':=hd Tryd.f5 0) (E':=[(1,.d (.ro 7 (steps l))),(5,.n (c.ah.length+c.homes.length)),(6,.n 0)]) (M':=[]) tk mo hK [(1,[(2,.z (((c.ah.length:Nat):Int))),(5,.z (((c.homes.length:Nat):Int))),(6,.z (((c.ah.length+c.homes.length:Nat):Int)))])] 2000 [] [1,5,6] r (by kernel_rfl) (U ((by first | rfl | simp [af,ah,ints,steps,strs]):(((ah c.ah).length:Nat):Int)=((c.ah.length:Nat):Int)) (U ((by first | rfl | simp [af,ah,ints,steps,strs]):(((ints c.homes).length:Nat):Int)=((c.homes.length:Nat):Int)) (U ((wi (by omega)):IntKind.i64.wrap ((((c.ah.length:Nat):Int):Int)+((c.homes.length:Nat):Int))=((c.ah.length+c.homes.length:Nat):Int)) trivial))) fun ac wd r=>?_
 refine aD.rounds (Φ:=fun (i:Nat) ac wd=>∃ n:Nat,(n≤9223372036854775807∧jv (c.ah.length+c.homes.length) l=jv n (l.drop i))∧dz [] w0 K 36 [(1,.d (.ro 7 (steps l))),(5,.n n),(6,.n i)] [] ac wd) (l.length) ?_ (Nat.zero_le _) ⟨(c.ah.length+c.homes.length),⟨hc,rfl⟩,r⟩
 clear r
 rintro i eA bP ac wd ⟨n,ao,r⟩
 obtain ⟨q4,ao⟩:=ao
 have aZ:=((by first | rfl | simp [af,ah,ints,steps,strs]):(((steps l).length:Nat):Int)=((l.length:Nat):Int))
 cases h0:(decide ((((i:Nat):Int):Int)<((l.length:Nat):Int))) with
 | false=>
  have bH:=of_decide_eq_false h0
  cases h1:(decide ((2000:Int)<((n:Nat):Int))) with
  | false=>
   have cm:=of_decide_eq_false h1
   rw [show (.v (.bool (iZ c l)):DV)=.v (.bool false) from (bv (by unfold iZ;rw [ao];first | (rw [List.drop_of_length_le (by omega)];exact h1) | (rw [rG (by omega)];exact h1)))]
   exact br tk mo hK rfl [(3,[(2,.z (((l.length:Nat):Int))),(3,.b false)]),(6,[(1,.b false)])] 2000 r (by kernel_rfl) (U aZ (U h0 (U h1 trivial)))
  | true=>
   have cm:=of_decide_eq_true h1
   rw [show (.v (.bool (iZ c l)):DV)=.v (.bool true) from (bv (by unfold iZ;rw [ao];first | (rw [List.drop_of_length_le (by omega)];exact h1) | (rw [rG (by omega)];exact h1)))]
   exact br tk mo hK rfl [(3,[(2,.z (((l.length:Nat):Int))),(3,.b false)]),(6,[(1,.b true)])] 2000 r (by kernel_rfl) (U aZ (U h0 (U h1 trivial)))
 | true=>
  have bH:=of_decide_eq_true h0
  obtain ⟨bg,dv⟩:∃ x_,l[i]?=some x_:=⟨_,List.getElem?_eq_getElem (by omega)⟩
  have hb:=(hr _ (List.mem_of_getElem? dv)).body
  cases h2:(decide ((((n:Nat):Int):Int)≤2000)) with
  | false=>
   have c8:=of_decide_eq_false h2
   cases h3:(decide ((2000:Int)<((n:Nat):Int))) with
   | false=>
    have dQ:=of_decide_eq_false h3
    rw [show (.v (.bool (iZ c l)):DV)=.v (.bool false) from (bv (by unfold iZ;rw [ao];first | (rw [List.drop_of_length_le (by omega)];exact h3) | (rw [rG (by omega)];exact h3)))]
    exact br tk mo hK rfl [(3,[(2,.z (((l.length:Nat):Int))),(3,.b true),(6,.b false)]),(6,[(1,.b false)])] 2000 r (by kernel_rfl) (U aZ (U h0 (U h2 (U h3 trivial))))
   | true=>
    have dQ:=of_decide_eq_true h3
    rw [show (.v (.bool (iZ c l)):DV)=.v (.bool true) from (bv (by unfold iZ;rw [ao];first | (rw [List.drop_of_length_le (by omega)];exact h3) | (rw [rG (by omega)];exact h3)))]
    exact br tk mo hK rfl [(3,[(2,.z (((l.length:Nat):Int))),(3,.b true),(6,.b false)]),(6,[(1,.b true)])] 2000 r (by kernel_rfl) (U aZ (U h0 (U h2 (U h3 trivial))))
  | true=>
   have c8:=of_decide_eq_true h2
   exact cO (todo':=hd Tryd.f5 0) tk mo hK [(3,[(2,.z (((l.length:Nat):Int))),(3,.b true),(6,.b true)]),(4,[(1,.z (((i+1:Nat):Int)))]),(5,[(3,.ix (i) [.z bg.kind,.z bg.node,.z bg.peer,.z bg.n,.z bg.bit,.u bg.inc,.ro 1 (af bg.body)]),(6,.z (((bg.body.length:Nat):Int))),(7,.z (((bg.body.length / 64:Nat):Int))),(8,.z (((1+bg.body.length / 64:Nat):Int))),(9,.z (((n+(1+bg.body.length / 64):Nat):Int)))])] 2000 [] [1,5,6] r (by kernel_rfl) (U aZ (U h0 (U h2 (U (aP ((i:Nat):Int)) (U (kP dv) (U ((by first | rfl | simp [af,ah,ints,steps,strs]):(((af bg.body).length:Nat):Int)=((bg.body.length:Nat):Int)) (U ((wi (by rw [J1];omega)):IntKind.i64.wrap ((((bg.body.length:Nat):Int):Int).tdiv 64)=((bg.body.length / 64:Nat):Int)) (U ((by decide):(64:Int)≠0) (U ((wi (by omega)):IntKind.i64.wrap ((1:Int)+((bg.body.length / 64:Nat):Int))=((1+bg.body.length / 64:Nat):Int)) (U ((wi (by omega)):IntKind.i64.wrap ((((n:Nat):Int):Int)+((1+bg.body.length / 64:Nat):Int))=((n+(1+bg.body.length / 64):Nat):Int)) (U ((wi (by omega)):IntKind.i64.wrap ((((i:Nat):Int):Int)+1)=((i+1:Nat):Int)) trivial))))))))))) fun ac wd r=>bP (by omega) ac wd ⟨n+(1+bg.body.length / 64),⟨by omega,by rw [ao,ET dv (by omega)]⟩,r⟩
def ku (a b:bk):Bool:=decide (a=b)
theorem fz {a b:bk} (h:a≠b):ku a b=false:=decide_eq_false h
theorem og {a b:bk} {i j:Nat} (h0:a.aq=b.aq) (h1:(a.ah.length:Int)=b.ah.length) (h2:(a.homes.length:Int)=b.homes.length) (hi:¬ (i:Int)<a.ah.length) (h3:∀ (k:Nat) x y,k<i→a.ah[k]?=some x→b.ah[k]?=some y→x=y) (hj:¬ (j:Int)<a.homes.length) (h4:∀ (k:Nat) x y,k<j→a.homes[k]?=some x→b.homes[k]?=some y→x=y):ku a b=true:=by
 refine decide_eq_true ?_
 cases a with | mk a1 a2 a3=>cases b with | mk b1 b2 b3=>
 dsimp only at *
 have e2:a2=b2:=ext_get (by omega) fun k x y hk=>h3 k x y (by omega)
 have e3:a3=b3:=ext_get (by omega) fun k x y hk=>h4 k x y (by omega)
 rw [h0,e2,e3]
def iz (a b:List az):Bool:=decide (a=b)
theorem ki {a b:List az} (h:a≠b):iz a b=false:=decide_eq_false h
theorem fA {a b:List az} {i:Nat} {x y:az} (g:a[i]?=some x) (g2:b[i]?=some y) (h:x≠y):iz a b=false:=ki fun e=>by subst e;rw [g] at g2;cases g2;exact h rfl
theorem kL {a b:List az} {i:Nat} (h1:(a.length:Int)=b.length) (hi:¬ (i:Int)<a.length) (h3:∀ (k:Nat) x y,k<i→a[k]?=some x→b[k]?=some y→x=y):iz a b=true:=decide_eq_true (ext_get (by omega) fun k x y hk=>h3 k x y (by omega))
theorem fD {x y:az} (h:x.kind≠y.kind∨x.node≠y.node∨x.peer≠y.peer∨x.n≠y.n∨x.bit≠y.bit∨(x.inc:Int)≠y.inc∨x.body≠y.body):x≠y:=by
 intro e;subst e;simp at h
theorem J2 {x y:az} (h1:x.kind=y.kind) (h2:x.node=y.node) (h3:x.peer=y.peer) (h4:x.n=y.n) (h5:x.bit=y.bit) (h6:(x.inc:Int)=y.inc) (h7:x.body=y.body):x=y:=by
 cases x;cases y;dsimp only at *;subst h1 h2 h3 h4 h5 h7;congr 1;omega
theorem IP {x y:Int×Int} (h:(x.1==y.1&&x.2==y.2)=true):x=y:=by
 obtain ⟨a,b⟩:=x;obtain ⟨c,d⟩:=y;simpa using h
theorem oE {x y:Int×Int} (h:(x.1==y.1&&x.2==y.2)=false):x≠y:=by
 intro e;subst e;simp at h
theorem at_next {α:Type} {a b:List α} {i:Nat} {x y:α} (h:∀ (k:Nat) x y,k<i→a[k]?=some x→b[k]?=some y→x=y) (g:a[i]?=some x) (g2:b[i]?=some y) (e:x=y):∀ (k:Nat) x y,k<i+1→a[k]?=some x→b[k]?=some y→x=y:=fun k u v hk hu hv=>by
 rcases Nat.lt_succ_iff_lt_or_eq.1 hk with h' | rfl
 ·exact h k u v h' hu hv
 ·rw [g] at hu;rw [g2] at hv;cases hu;cases hv;exact e
set_option maxRecDepth 100000 in
theorem IQ (a b:bk) (hl:a.ah.length≤9223372036854775807) (hh:a.homes.length≤9223372036854775807):aB Tryd.prog 10 [.ag [.z a.aq,.d (.ro 2 (ah a.ah)),.d (.ro 1 (ints a.homes))],.ag [.z b.aq,.d (.ro 2 (ah b.ah)),.d (.ro 1 (ints b.homes))]] (.v (.bool (ku a b))):=by
 refine aB.intro (by kernel_rfl) rfl rfl 66 rfl rfl fun w0 K ac hK r=>?_
 cases h0:((a.aq:Int) != b.aq) with
 | false=>
  have bH:=fx h0
  have aZ:=((by first | rfl | simp [af,ah,ints,steps,strs]):(((ah a.ah).length:Nat):Int)=((a.ah.length:Nat):Int))
  have bO:=((by first | rfl | simp [af,ah,ints,steps,strs]):(((ah b.ah).length:Nat):Int)=((b.ah.length:Nat):Int))
  cases h1:((((a.ah.length:Nat):Int):Int) != ((b.ah.length:Nat):Int)) with
  | false=>
   have cm:=fx h1
   have cL:=((by first | rfl | simp [af,ah,ints,steps,strs]):(((ints a.homes).length:Nat):Int)=((a.homes.length:Nat):Int))
   have dR:=((by first | rfl | simp [af,ah,ints,steps,strs]):(((ints b.homes).length:Nat):Int)=((b.homes.length:Nat):Int))
   cases h2:((((a.homes.length:Nat):Int):Int) != ((b.homes.length:Nat):Int)) with
   | false=>
    have c8:=fx h2
    refine cO (todo':=hd Tryd.f10 0) (E':=[(2,.pt 0 0),(3,.pt 1 0),(5,.n 0)]) (M':=[.bx 25 [.z a.aq,.d (.ro 2 (ah a.ah)),.d (.ro 1 (ints a.homes))],.bx 25 [.z b.aq,.d (.ro 2 (ah b.ah)),.d (.ro 1 (ints b.homes))]]) tk mo hK [(1,[(4,.b false),(8,.z (((a.ah.length:Nat):Int))),(11,.z (((b.ah.length:Nat):Int))),(12,.b false),(17,.z (((a.homes.length:Nat):Int))),(20,.z (((b.homes.length:Nat):Int))),(21,.b false)])] 2000 [0,1] [2,3,5] r (by kernel_rfl) (U h0 (U aZ (U bO (U h1 (U cL (U dR (U h2 trivial))))))) fun ac wd r=>?_
    refine aD.rounds (Φ:=fun (i:Nat) ac wd=>(∀ (k:Nat) x y,k<i→a.ah[k]?=some x→b.ah[k]?=some y→x=y)∧dz [] w0 K 66 [(2,.pt 0 0),(3,.pt 1 0),(5,.n i)] [.bx 25 [.z a.aq,.d (.ro 2 (ah a.ah)),.d (.ro 1 (ints a.homes))],.bx 25 [.z b.aq,.d (.ro 2 (ah b.ah)),.d (.ro 1 (ints b.homes))]] ac wd) (a.ah.length) ?_ (Nat.zero_le _) ⟨(fun k x y h=>absurd h (Nat.not_lt_zero _)),r⟩
    clear r
    rintro i eA bP ac wd ⟨ao,r⟩
    cases h3:(decide ((((i:Nat):Int):Int)<((a.ah.length:Nat):Int))) with
    | false=>
     have dQ:=of_decide_eq_false h3
     refine cO (todo':=hd Tryd.f10 1) (E':=[(2,.pt 0 0),(3,.pt 1 0),(6,.n 0)]) (M':=[.bx 25 [.z a.aq,.d (.ro 2 (ah a.ah)),.d (.ro 1 (ints a.homes))],.bx 25 [.z b.aq,.d (.ro 2 (ah b.ah)),.d (.ro 1 (ints b.homes))]]) tk mo hK [(4,[(3,.z (((a.ah.length:Nat):Int))),(4,.b false)])] 2000 [0,1] [2,3,6] r (by kernel_rfl) (U aZ (U h3 trivial)) fun ac wd r=>?_
     refine aD.rounds (Φ:=fun (i:Nat) ac wd=>(∀ (k:Nat) x y,k<i→a.homes[k]?=some x→b.homes[k]?=some y→x=y)∧dz [] w0 K 66 [(2,.pt 0 0),(3,.pt 1 0),(6,.n i)] [.bx 25 [.z a.aq,.d (.ro 2 (ah a.ah)),.d (.ro 1 (ints a.homes))],.bx 25 [.z b.aq,.d (.ro 2 (ah b.ah)),.d (.ro 1 (ints b.homes))]] ac wd) (a.homes.length) ?_ (Nat.zero_le _) ⟨(fun k x y h=>absurd h (Nat.not_lt_zero _)),r⟩
     clear r
     rintro i rn jT ac wd ⟨dP,r⟩
     cases h4:(decide ((((i:Nat):Int):Int)<((a.homes.length:Nat):Int))) with
     | false=>
      have fk:=of_decide_eq_false h4
      rw [show (.v (.bool (ku a b)):DV)=.v (.bool true) from (bv (by first | exact og (by omega) (by omega) (by omega) (by omega) ao (by omega) dP | exact fz (fun e=>by subst e;omega) | exact fz (fun e=>by subst e;rw [kI] at gA;cases gA;exact oE (by assumption) rfl) | exact fz (fun e=>by subst e;rw [kJ] at gB;cases gB;omega)))]
      exact br tk mo hK rfl [(9,[(3,.z (((a.homes.length:Nat):Int))),(4,.b false)])] 2000 r (by kernel_rfl) (U cL (U h4 trivial))
     | true=>
      have fk:=of_decide_eq_true h4
      obtain ⟨tQ,kJ⟩:∃ x_,a.homes[i]?=some x_:=⟨_,List.getElem?_eq_getElem (by omega)⟩
      obtain ⟨tR,gB⟩:∃ x_,b.homes[i]?=some x_:=⟨_,List.getElem?_eq_getElem (by omega)⟩
      cases h5:((tQ:Int) != tR) with
      | false=>
       have fL:=fx h5
       exact cO (todo':=hd Tryd.f10 1) tk mo hK [(9,[(3,.z (((a.homes.length:Nat):Int))),(4,.b true)]),(10,[(1,.z (((i+1:Nat):Int)))]),(11,[(3,.ix (i) [.z tQ]),(8,.ix (i) [.z tR]),(10,.b false)])] 2000 [0,1] [2,3,6] r (by kernel_rfl) (U cL (U h4 (U (aP ((i:Nat):Int)) (U (ints_at kJ) (U (aP ((i:Nat):Int)) (U (ints_at gB) (U h5 (U ((wi (by omega)):IntKind.i64.wrap ((((i:Nat):Int):Int)+1)=((i+1:Nat):Int)) trivial)))))))) fun ac wd r=>jT (by omega) ac wd ⟨(at_next dP kJ gB (by omega)),r⟩
      | true=>
       have fL:¬ _=_:=bne_iff_ne.1 h5
       rw [show (.v (.bool (ku a b)):DV)=.v (.bool false) from (bv (by first | exact og (by omega) (by omega) (by omega) (by omega) ao (by omega) dP | exact fz (fun e=>by subst e;omega) | exact fz (fun e=>by subst e;rw [kI] at gA;cases gA;exact oE (by assumption) rfl) | exact fz (fun e=>by subst e;rw [kJ] at gB;cases gB;omega)))]
       exact br tk mo hK rfl [(9,[(3,.z (((a.homes.length:Nat):Int))),(4,.b true)]),(11,[(3,.ix (i) [.z tQ]),(8,.ix (i) [.z tR]),(10,.b true)])] 2000 r (by kernel_rfl) (U cL (U h4 (U (aP ((i:Nat):Int)) (U (ints_at kJ) (U (aP ((i:Nat):Int)) (U (ints_at gB) (U h5 trivial)))))))
    | true=>
     have dQ:=of_decide_eq_true h3
     obtain ⟨kd,kI⟩:∃ x_,a.ah[i]?=some x_:=⟨_,List.getElem?_eq_getElem (by omega)⟩
     obtain ⟨ke,gA⟩:∃ x_,b.ah[i]?=some x_:=⟨_,List.getElem?_eq_getElem (by omega)⟩
     cases h6:(kd.1==ke.1&&kd.2==ke.2) with
     | false=>
      rw [show (.v (.bool (ku a b)):DV)=.v (.bool false) from (bv (by first | exact og (by omega) (by omega) (by omega) (by omega) ao (by omega) dP | exact fz (fun e=>by subst e;omega) | exact fz (fun e=>by subst e;rw [kI] at gA;cases gA;exact oE (by assumption) rfl) | exact fz (fun e=>by subst e;rw [kJ] at gB;cases gB;omega)))]
      exact br tk mo hK rfl [(4,[(3,.z (((a.ah.length:Nat):Int))),(4,.b true)]),(6,[(3,.ix (i) [.z kd.1,.z kd.2]),(8,.ix (i) [.z ke.1,.z ke.2]),(10,.b false)])] 2000 r (by kernel_rfl) (U aZ (U h3 (U (aP ((i:Nat):Int)) (U (iQ kI) (U (aP ((i:Nat):Int)) (U (iQ gA) (U ((pA (oN _ _ _ _) h6):jW Tryd.prog 71 [(.int .i64 (kd.1)),(.int .i64 (kd.2))] [(.int .i64 (ke.1)),(.int .i64 (ke.2))] false) trivial)))))))
     | true=>
      exact cO (todo':=hd Tryd.f10 0) tk mo hK [(4,[(3,.z (((a.ah.length:Nat):Int))),(4,.b true)]),(5,[(1,.z (((i+1:Nat):Int)))]),(6,[(3,.ix (i) [.z kd.1,.z kd.2]),(8,.ix (i) [.z ke.1,.z ke.2]),(10,.b true)])] 2000 [0,1] [2,3,5] r (by kernel_rfl) (U aZ (U h3 (U (aP ((i:Nat):Int)) (U (iQ kI) (U (aP ((i:Nat):Int)) (U (iQ gA) (U ((pA (oN _ _ _ _) h6):jW Tryd.prog 71 [(.int .i64 (kd.1)),(.int .i64 (kd.2))] [(.int .i64 (ke.1)),(.int .i64 (ke.2))] true) (U ((wi (by omega)):IntKind.i64.wrap ((((i:Nat):Int):Int)+1)=((i+1:Nat):Int)) trivial)))))))) fun ac wd r=>bP (by omega) ac wd ⟨(at_next ao kI gA (IP (by assumption))),r⟩
   | true=>
    have c8:¬ _=_:=bne_iff_ne.1 h2
    rw [show (.v (.bool (ku a b)):DV)=.v (.bool false) from (bv (by first | exact og (by omega) (by omega) (by omega) (by omega) ao (by omega) dP | exact fz (fun e=>by subst e;omega) | exact fz (fun e=>by subst e;rw [kI] at gA;cases gA;exact oE (by assumption) rfl) | exact fz (fun e=>by subst e;rw [kJ] at gB;cases gB;omega)))]
    exact br tk mo hK rfl [(1,[(4,.b false),(8,.z (((a.ah.length:Nat):Int))),(11,.z (((b.ah.length:Nat):Int))),(12,.b false),(17,.z (((a.homes.length:Nat):Int))),(20,.z (((b.homes.length:Nat):Int))),(21,.b true)])] 2000 r (by kernel_rfl) (U h0 (U aZ (U bO (U h1 (U cL (U dR (U h2 trivial)))))))
  | true=>
   have cm:¬ _=_:=bne_iff_ne.1 h1
   rw [show (.v (.bool (ku a b)):DV)=.v (.bool false) from (bv (by first | exact og (by omega) (by omega) (by omega) (by omega) ao (by omega) dP | exact fz (fun e=>by subst e;omega) | exact fz (fun e=>by subst e;rw [kI] at gA;cases gA;exact oE (by assumption) rfl) | exact fz (fun e=>by subst e;rw [kJ] at gB;cases gB;omega)))]
   exact br tk mo hK rfl [(1,[(4,.b false),(8,.z (((a.ah.length:Nat):Int))),(11,.z (((b.ah.length:Nat):Int))),(12,.b true)])] 2000 r (by kernel_rfl) (U h0 (U aZ (U bO (U h1 trivial))))
 | true=>
  have bH:¬ _=_:=bne_iff_ne.1 h0
  rw [show (.v (.bool (ku a b)):DV)=.v (.bool false) from (bv (by first | exact og (by omega) (by omega) (by omega) (by omega) ao (by omega) dP | exact fz (fun e=>by subst e;omega) | exact fz (fun e=>by subst e;rw [kI] at gA;cases gA;exact oE (by assumption) rfl) | exact fz (fun e=>by subst e;rw [kJ] at gB;cases gB;omega)))]
  exact br tk mo hK rfl [(1,[(4,.b true)])] 2000 r (by kernel_rfl) (U h0 trivial)
set_option maxRecDepth 100000 in
theorem IS (a b:List az) (hl:a.length≤9223372036854775807):aB Tryd.prog 11 [.d (.ro 7 (steps a)),.d (.ro 7 (steps b))] (.v (.bool (iz a b))):=by
 refine aB.intro (by kernel_rfl) rfl rfl 76 rfl rfl fun w0 K ac hK r=>?_
 have aZ:=((by first | rfl | simp [af,ah,ints,steps,strs]):(((steps a).length:Nat):Int)=((a.length:Nat):Int))
 have bO:=((by first | rfl | simp [af,ah,ints,steps,strs]):(((steps b).length:Nat):Int)=((b.length:Nat):Int))
 cases h0:((((a.length:Nat):Int):Int) != ((b.length:Nat):Int)) with
 | false=>
  have bH:=fx h0
  refine cO (todo':=hd Tryd.f11 0) (E':=[(0,.d (.ro 7 (steps a))),(1,.d (.ro 7 (steps b))),(5,.n 0)]) (M':=[]) tk mo hK [(1,[(1,.z (((a.length:Nat):Int))),(3,.z (((b.length:Nat):Int))),(4,.b false)])] 2000 [] [0,1,5] r (by kernel_rfl) (U aZ (U bO (U h0 trivial))) fun ac wd r=>?_
  refine aD.rounds (Φ:=fun (i:Nat) ac wd=>(∀ (k:Nat) x y,k<i→a[k]?=some x→b[k]?=some y→x=y)∧dz [] w0 K 76 [(0,.d (.ro 7 (steps a))),(1,.d (.ro 7 (steps b))),(5,.n i)] [] ac wd) (a.length) ?_ (Nat.zero_le _) ⟨(fun k x y h=>absurd h (Nat.not_lt_zero _)),r⟩
  clear r
  rintro i eA bP ac wd ⟨ao,r⟩
  cases h1:(decide ((((i:Nat):Int):Int)<((a.length:Nat):Int))) with
  | false=>
   have cm:=of_decide_eq_false h1
   rw [show (.v (.bool (iz a b)):DV)=.v (.bool true) from (bv (by first | exact kL (by omega) (by omega) ao | exact ki (fun e=>by subst e;omega) | exact fA eW eX (fD (by omega)) | exact fA eW eX (fD (.inr (.inr (.inr (.inr (.inr (.inr (lj (by assumption)))))))))))]
   exact br tk mo hK rfl [(4,[(2,.z (((a.length:Nat):Int))),(3,.b false)])] 2000 r (by kernel_rfl) (U aZ (U h1 trivial))
  | true=>
   have cm:=of_decide_eq_true h1
   obtain ⟨cq,eW⟩:∃ x_,a[i]?=some x_:=⟨_,List.getElem?_eq_getElem (by omega)⟩
   obtain ⟨cr,eX⟩:∃ x_,b[i]?=some x_:=⟨_,List.getElem?_eq_getElem (by omega)⟩
   have CH:=((by first | rfl | simp [af,ah,ints,steps,strs]):(((steps a).length:Nat):Int)=((a.length:Nat):Int))
   refine JW (todo':=aft Tryd.f11 6) (E':=[(0,.d (.ro 7 (steps a))),(1,.d (.ro 7 (steps b))),(5,.n i),(13,.n i),(14,.d (.ro 7 (steps a))),(15,.n a.length),(16,.d (.v (.bool true))),(19,.d (.ro 7 (steps a))),(20,.n i),(21,.rp [.z cq.kind,.z cq.node,.z cq.peer,.z cq.n,.z cq.bit,.u cq.inc,.ro 1 (af cq.body)] 0),(22,.ag [.z cq.kind,.z cq.node,.z cq.peer,.z cq.n,.z cq.bit,.u cq.inc,.d (.ro 1 (af cq.body))]),(23,.d (.ro 7 (steps b))),(24,.n i),(25,.rp [.z cr.kind,.z cr.node,.z cr.peer,.z cr.n,.z cr.bit,.u cr.inc,.ro 1 (af cr.body)] 0),(26,.ag [.z cr.kind,.z cr.node,.z cr.peer,.z cr.n,.z cr.bit,.u cr.inc,.d (.ro 1 (af cr.body))]),(6,.pt 0 0),(7,.pt 1 0)]) (M':=[.bx 45 [.z cq.kind,.z cq.node,.z cq.peer,.z cq.n,.z cq.bit,.u cq.inc,.d (.ro 1 (af cq.body))],.bx 45 [.z cr.kind,.z cr.node,.z cr.peer,.z cr.n,.z cr.bit,.u cr.inc,.d (.ro 1 (af cr.body))]]) tk mo hK [(4,[(2,.z (((a.length:Nat):Int))),(3,.b true)]),(6,[(2,.ix (i) [.z cq.kind,.z cq.node,.z cq.peer,.z cq.n,.z cq.bit,.u cq.inc,.ro 1 (af cq.body)]),(6,.ix (i) [.z cr.kind,.z cr.node,.z cr.peer,.z cr.n,.z cr.bit,.u cr.inc,.ro 1 (af cr.body)])])] 8 2 [] [[0,1],[1,0]] [0,1,5,13,14,15,16,19,20,21,22,23,24,25,26,6,7] r (by kernel_rfl) (U (U CH (U h1 (U (aP ((i:Nat):Int)) (U (kP eW) (U (aP ((i:Nat):Int)) (U (kP eX) trivial)))))) (U (U CH (U h1 (U (aP ((i:Nat):Int)) (U (kP eW) (U (aP ((i:Nat):Int)) (U (kP eX) trivial)))))) trivial)) fun ac wd r=>?_
   cases h2:((cq.kind:Int) != cr.kind) with
   | false=>
    have c8:=fx h2
    cases h3:((cq.node:Int) != cr.node) with
    | false=>
     have dQ:=fx h3
     cases h4:((cq.peer:Int) != cr.peer) with
     | false=>
      have fk:=fx h4
      cases h5:((cq.n:Int) != cr.n) with
      | false=>
       have fL:=fx h5
       cases h6:((cq.bit:Int) != cr.bit) with
       | false=>
        have ia:=fx h6
        cases h7:((((cq.inc:Nat):Int):Int) != ((cr.inc:Nat):Int)) with
        | false=>
         have eO:=fx h7
         cases h8:(cq.body==cr.body) with
         | false=>
          have ib:cq.body≠cr.body:=by simpa using h8
          rw [show (.v (.bool (iz a b)):DV)=.v (.bool false) from (bv (by first | exact kL (by omega) (by omega) ao | exact ki (fun e=>by subst e;omega) | exact fA eW eX (fD (by omega)) | exact fA eW eX (fD (.inr (.inr (.inr (.inr (.inr (.inr (lj (by assumption)))))))))))]
          exact br tk mo hK rfl [(7,[(4,.b false),(10,.b false),(17,.b false),(24,.b false),(31,.b false),(38,.b false),(43,.res (.v (.string ⟨(cq.body).toArray⟩))),(46,.res (.v (.string ⟨(cr.body).toArray⟩))),(47,.b true)])] 2000 r (by kernel_rfl) (U h2 (U h3 (U h4 (U h5 (U h6 (U h7 (U (rfl:af cq.body=af (cq.body)) (U (rfl:af cr.body=af (cr.body)) (U ((by simpa [bne] using h8):(cq.body != cr.body)=true) trivial)))))))))
         | true=>
          have ib:cq.body=cr.body:=by simpa using h8
          exact cO (todo':=hd Tryd.f11 0) tk mo hK [(5,[(1,.z (((i+1:Nat):Int)))]),(7,[(4,.b false),(10,.b false),(17,.b false),(24,.b false),(31,.b false),(38,.b false),(43,.res (.v (.string ⟨(cq.body).toArray⟩))),(46,.res (.v (.string ⟨(cr.body).toArray⟩))),(47,.b false)])] 2000 [] [0,1,5] r (by kernel_rfl) (U h2 (U h3 (U h4 (U h5 (U h6 (U h7 (U (rfl:af cq.body=af (cq.body)) (U (rfl:af cr.body=af (cr.body)) (U ((by simpa [bne] using h8):(cq.body != cr.body)=false) (U ((wi (by omega)):IntKind.i64.wrap ((((i:Nat):Int):Int)+1)=((i+1:Nat):Int)) trivial)))))))))) fun ac wd r=>bP (by omega) ac wd ⟨(at_next ao eW eX (J2 (by omega) (by omega) (by omega) (by omega) (by omega) (by omega) (eq_of_beq (by assumption)))),r⟩
        | true=>
         have eO:¬ _=_:=bne_iff_ne.1 h7
         rw [show (.v (.bool (iz a b)):DV)=.v (.bool false) from (bv (by first | exact kL (by omega) (by omega) ao | exact ki (fun e=>by subst e;omega) | exact fA eW eX (fD (by omega)) | exact fA eW eX (fD (.inr (.inr (.inr (.inr (.inr (.inr (lj (by assumption)))))))))))]
         exact br tk mo hK rfl [(7,[(4,.b false),(10,.b false),(17,.b false),(24,.b false),(31,.b false),(38,.b true)])] 2000 r (by kernel_rfl) (U h2 (U h3 (U h4 (U h5 (U h6 (U h7 trivial))))))
       | true=>
        have ia:¬ _=_:=bne_iff_ne.1 h6
        rw [show (.v (.bool (iz a b)):DV)=.v (.bool false) from (bv (by first | exact kL (by omega) (by omega) ao | exact ki (fun e=>by subst e;omega) | exact fA eW eX (fD (by omega)) | exact fA eW eX (fD (.inr (.inr (.inr (.inr (.inr (.inr (lj (by assumption)))))))))))]
        exact br tk mo hK rfl [(7,[(4,.b false),(10,.b false),(17,.b false),(24,.b false),(31,.b true)])] 2000 r (by kernel_rfl) (U h2 (U h3 (U h4 (U h5 (U h6 trivial)))))
      | true=>
       have fL:¬ _=_:=bne_iff_ne.1 h5
       rw [show (.v (.bool (iz a b)):DV)=.v (.bool false) from (bv (by first | exact kL (by omega) (by omega) ao | exact ki (fun e=>by subst e;omega) | exact fA eW eX (fD (by omega)) | exact fA eW eX (fD (.inr (.inr (.inr (.inr (.inr (.inr (lj (by assumption)))))))))))]
       exact br tk mo hK rfl [(7,[(4,.b false),(10,.b false),(17,.b false),(24,.b true)])] 2000 r (by kernel_rfl) (U h2 (U h3 (U h4 (U h5 trivial))))
     | true=>
      have fk:¬ _=_:=bne_iff_ne.1 h4
      rw [show (.v (.bool (iz a b)):DV)=.v (.bool false) from (bv (by first | exact kL (by omega) (by omega) ao | exact ki (fun e=>by subst e;omega) | exact fA eW eX (fD (by omega)) | exact fA eW eX (fD (.inr (.inr (.inr (.inr (.inr (.inr (lj (by assumption)))))))))))]
      exact br tk mo hK rfl [(7,[(4,.b false),(10,.b false),(17,.b true)])] 2000 r (by kernel_rfl) (U h2 (U h3 (U h4 trivial)))
    | true=>
     have dQ:¬ _=_:=bne_iff_ne.1 h3
     rw [show (.v (.bool (iz a b)):DV)=.v (.bool false) from (bv (by first | exact kL (by omega) (by omega) ao | exact ki (fun e=>by subst e;omega) | exact fA eW eX (fD (by omega)) | exact fA eW eX (fD (.inr (.inr (.inr (.inr (.inr (.inr (lj (by assumption)))))))))))]
     exact br tk mo hK rfl [(7,[(4,.b false),(10,.b true)])] 2000 r (by kernel_rfl) (U h2 (U h3 trivial))
   | true=>
    have c8:¬ _=_:=bne_iff_ne.1 h2
    rw [show (.v (.bool (iz a b)):DV)=.v (.bool false) from (bv (by first | exact kL (by omega) (by omega) ao | exact ki (fun e=>by subst e;omega) | exact fA eW eX (fD (by omega)) | exact fA eW eX (fD (.inr (.inr (.inr (.inr (.inr (.inr (lj (by assumption)))))))))))]
    exact br tk mo hK rfl [(7,[(4,.b true)])] 2000 r (by kernel_rfl) (U h2 trivial)
 | true=>
  have bH:¬ _=_:=bne_iff_ne.1 h0
  rw [show (.v (.bool (iz a b)):DV)=.v (.bool false) from (bv (by first | exact kL (by omega) (by omega) ao | exact ki (fun e=>by subst e;omega) | exact fA eW eX (fD (by omega)) | exact fA eW eX (fD (.inr (.inr (.inr (.inr (.inr (.inr (lj (by assumption)))))))))))]
  exact br tk mo hK rfl [(1,[(1,.z (((a.length:Nat):Int))),(3,.z (((b.length:Nat):Int))),(4,.b true)])] 2000 r (by kernel_rfl) (U aZ (U bO (U h0 trivial)))
end Go.Proofs.YtcnpikbbmbombaaDoor
namespace Go.Proofs.YtcnpikbbmbombaaDoor
open Go.RowKit
theorem qj:cY Tryd.prog 47:=by unfold cY;kernel_rfl
def bz (z:Int):UInt8:=UInt8.ofNat (z%256).toNat
theorem l0 (z:Int):(((bz z).toNat:Nat):Int)=z%256:=by
 unfold bz;rw [UInt8.toNat_ofNat'];omega
theorem gv (z:Int):IntKind.u8.wrap z=(((bz z).toNat:Nat):Int):=by
 rw [l0];simp [IntKind.wrap,IntKind.signed,IntKind.bits]
theorem Am (b:UInt8):bz ((b.toNat:Nat):Int)=b:=by
 apply UInt8.toNat_inj.1
 have h:=l0 ((b.toNat:Nat):Int)
 have:=b.toNat_lt
 omega
theorem xQ (x:Nat):((x:Nat):Int).fdiv (2 ^ (min (8:Int).toNat IntKind.u64.bits))=((x / 256:Nat):Int):=by
 show ((x:Nat):Int).fdiv 256=_
 rw [Int.fdiv_eq_ediv_of_nonneg _ (by omega)];omega
theorem MN (x:Nat):((x:Nat):Int).fdiv (2 ^ (min (7:Int).toNat IntKind.u64.bits))=((x / 128:Nat):Int):=by
 show ((x:Nat):Int).fdiv 128=_
 rw [Int.fdiv_eq_ediv_of_nonneg _ (by omega)];omega
theorem J3 {x:Nat} (h:x<18446744073709551616):IntKind.u64.wrap ((BitVec.ofInt IntKind.u64.bits (x:Int) &&& BitVec.ofInt IntKind.u64.bits 127).toNat:Int)=((x%128:Nat):Int):=by
 have h1:(BitVec.ofInt 64 (x:Int) &&& BitVec.ofInt 64 127).toNat=x%128:=by
  rw [BitVec.toNat_and]
  have e1:(BitVec.ofInt 64 (x:Int)).toNat=x:=by simp [BitVec.toNat_ofInt];omega
  have e2:(BitVec.ofInt 64 127).toNat=2 ^ 7-1:=by decide
  rw [e1,e2,Nat.and_two_pow_sub_one_eq_mod]
 show IntKind.u64.wrap ((BitVec.ofInt 64 (x:Int) &&& BitVec.ofInt 64 127).toNat:Int)=_
 rw [h1]
 simp [IntKind.wrap,IntKind.signed,IntKind.bits];omega
theorem Ln {x:Nat} (h:x<128):IntKind.u64.wrap ((BitVec.ofInt IntKind.u64.bits (x:Int) ||| BitVec.ofInt IntKind.u64.bits 128).toNat:Int)=((x+128:Nat):Int):=by
 have h1:(BitVec.ofInt 64 (x:Int) ||| BitVec.ofInt 64 128).toNat=x+128:=by
  rw [BitVec.toNat_or]
  have e1:(BitVec.ofInt 64 (x:Int)).toNat=x:=by simp [BitVec.toNat_ofInt];omega
  have e2:(BitVec.ofInt 64 128).toNat=2 ^ 7*1:=by decide
  rw [e1,e2,Nat.or_comm,← Nat.two_pow_add_eq_or_of_lt (i:=7) (by omega)];omega
 show IntKind.u64.wrap ((BitVec.ofInt 64 (x:Int) ||| BitVec.ofInt 64 128).toNat:Int)=_
 rw [h1]
 simp [IntKind.wrap,IntKind.signed,IntKind.bits];omega
def iN (l:List UInt8):List aj:=[.rw 81 1 [[.em 5 1 (af l)]]]
theorem CI {l l':List UInt8} {rows:List (List DV)} (h:rows=af l'):([aj.rw 81 1 (List.set (List.set [[.em 5 1 (af l)]] 0 [.jk]) 0 [.em 5 1 rows])]:List aj)=iN l':=by subst h;rfl
theorem Lo {l l':List UInt8} {r0 rows:List (List DV)} (h:rows=af l'):([aj.rw 81 1 (List.set (List.set (List.set (List.set [[.em 5 1 (af l)]] 0 [.jk]) 0 [.em 5 1 r0]) 0 [.jk]) 0 [.em 5 1 rows])]:List aj)=iN l':=by subst h;rfl
def cb (x:Nat):List UInt8:=if h:x<128 then [bz x] else bz ((x%128+128:Nat):Int)::cb (x / 128)
termination_by x
theorem kM {x:Nat} (h:x<128):cb x=[bz x]:=by rw [cb,dif_pos h]
theorem oh {x:Nat} (h:¬ x<128):cb x=bz ((x%128+128:Nat):Int)::cb (x / 128):=by rw [cb,dif_neg h]
theorem Ka {x i:Nat} (hx:x<18446744073709551616) (h:128≤x / 128 ^ i):i+1≤9:=by
 rcases Nat.lt_or_ge i 9 with h1 | h1
 ·omega
 ·have h2:128 ^ 9≤128 ^ i:=Nat.pow_le_pow_right (by omega) h1
  have h3:x / 128 ^ i≤x / 128 ^ 9:=Nat.div_le_div_left h2 (by decide)
  have:x / 128 ^ 9<128:=by rw [Nat.div_lt_iff_lt_mul (by decide)];omega
  omega
theorem An (x i:Nat):x / 128 ^ i / 128=x / 128 ^ (i+1):=by rw [Nat.div_div_eq_div_mul,Nat.pow_succ]
set_option maxRecDepth 100000 in
theorem xa (l:List UInt8) (x:Nat) (hl:l.length≤4294967296):aA Tryd.prog 58 [.ep 0 1 (0) 0,.u x,.z 1] [.rw 81 1 ([[.em 5 1 (af l)]])] (.tu []) (iN (l++[bz ((x:Nat):Int)])):=by
 refine aA.intro (by kernel_rfl) rfl rfl 25 rfl rfl fun D w0 K bs ac wd hK (al:bs.m=1) r=>?_
 refine cd (todo':=hd Tryd.f58 0) (E':=[(0,.ep 0 1 (0) 0),(1,.u x),(8,.z 1),(9,.z 0)]) (M':=[.rw 81 1 ([[.em 5 1 (af l)]])]) tk mo hK al [] 2000 [0] [0,1,8,9] r (by kernel_rfl) (U (qj:cY Tryd.prog 47) trivial) fun ac wd r=>?_
 refine cd (todo':=hd Tryd.f58 0) (E':=[(0,.ep 0 1 (0) 0),(1,.u (x / 256)),(8,.z 1),(9,.z 1)]) (M':=[.rw 81 1 (List.set (List.set ([[.em 5 1 (af l)]]) (0) [.jk]) (0) [.em 5 1 (af l++[[.v (.int .u8 ((((bz (((x:Nat):Int))).toNat:Nat):Int)))]])]),.dead,.dead]) tk mo hK al [(3,[(4,.ix 0 [.em 5 1 (af l)]),(6,.z ((((bz (((x:Nat):Int))).toNat:Nat):Int))),(11,.ix 0 [.jk])]),(4,[(1,.z (((x / 256:Nat):Int)))]),(5,[(0,.z (1))])] 2000 [0,1,2] [0,1,8,9] r (by kernel_rfl) (U (rfl:([[.em 5 1 (af l)]]:List (List DV))[0]?=some [.em 5 1 (af l)]) (U ((gv _):IntKind.u8.wrap (((x:Nat):Int))=(((bz (((x:Nat):Int))).toNat:Nat):Int)) (U (fj ((af l).length)) (U ((by first | rfl | (simp [af];done) | (simp [af];omega)):(1)=([[.v (.int .u8 ((((bz (((x:Nat):Int))).toNat:Nat):Int)))]]:List (List DV)).length) (U ((by first | omega | (simp [af];done) | (simp [af];omega)):(2*(((af l).length)+(1))+192)*1≤281474976710656) (U ((by first | omega | (simp [af];done) | (simp [af];omega)):((af l).length)+(1)<4611686018427387904) (U ((by simp [bc,AV.one,bU,af,ah,ints,steps,strs]):bc ([[.v (.int .u8 ((((bz (((x:Nat):Int))).toNat:Nat):Int)))]])) (U (rfl:(List.set ([[.em 5 1 (af l)]]) (0) [.jk]:List (List DV))[0]?=some [.jk]) (U ((by first | rfl | (simp [af];done) | (simp [af];omega)):((af l).length+(1))=(af l++[[.v (.int .u8 ((((bz (((x:Nat):Int))).toNat:Nat):Int)))]]:List (List DV)).length) (U ((xQ _):(((x:Nat):Int):Int).fdiv (2 ^ (min (8:Int).toNat IntKind.u64.bits))=((x / 256:Nat):Int)) (U ((by first | decide | omega):(0:Int)≤8) (U ((wi (by omega)):IntKind.i64.wrap ((0:Int)+1)=1) trivial)))))))))))) fun ac wd r=>?_
 refine a8 (y:=.tu []) (N':=[.rw 81 1 (List.set (List.set ([[.em 5 1 (af l)]]) (0) [.jk]) (0) [.em 5 1 (af l++[[.v (.int .u8 ((((bz (((x:Nat):Int))).toNat:Nat):Int)))]])])]) (rfl) ((CI (by simp [af])).symm) ?_
 exact a7 tk mo hK rfl al [] 2000 [0] r (by kernel_rfl) trivial
set_option maxRecDepth 100000 in
theorem Lp (l:List UInt8) (x:Nat) (hl:l.length≤4294967296):aA Tryd.prog 58 [.ep 0 1 (0) 0,.u x,.z 2] [.rw 81 1 ([[.em 5 1 (af l)]])] (.tu []) (iN (l++[bz ((x:Nat):Int),bz ((x / 256:Nat):Int)])):=by
 refine aA.intro (by kernel_rfl) rfl rfl 25 rfl rfl fun D w0 K bs ac wd hK (al:bs.m=1) r=>?_
 refine cd (todo':=hd Tryd.f58 0) (E':=[(0,.ep 0 1 (0) 0),(1,.u x),(8,.z 2),(9,.z 0)]) (M':=[.rw 81 1 ([[.em 5 1 (af l)]])]) tk mo hK al [] 2000 [0] [0,1,8,9] r (by kernel_rfl) (U (qj:cY Tryd.prog 47) trivial) fun ac wd r=>?_
 refine cd (todo':=hd Tryd.f58 0) (E':=[(0,.ep 0 1 (0) 0),(1,.u (x / 256)),(8,.z 2),(9,.z 1)]) (M':=[.rw 81 1 (List.set (List.set ([[.em 5 1 (af l)]]) (0) [.jk]) (0) [.em 5 1 (af l++[[.v (.int .u8 ((((bz (((x:Nat):Int))).toNat:Nat):Int)))]])]),.dead,.dead]) tk mo hK al [(3,[(4,.ix 0 [.em 5 1 (af l)]),(6,.z ((((bz (((x:Nat):Int))).toNat:Nat):Int))),(11,.ix 0 [.jk])]),(4,[(1,.z (((x / 256:Nat):Int)))]),(5,[(0,.z (1))])] 2000 [0,1,2] [0,1,8,9] r (by kernel_rfl) (U (rfl:([[.em 5 1 (af l)]]:List (List DV))[0]?=some [.em 5 1 (af l)]) (U ((gv _):IntKind.u8.wrap (((x:Nat):Int))=(((bz (((x:Nat):Int))).toNat:Nat):Int)) (U (fj ((af l).length)) (U ((by first | rfl | (simp [af];done) | (simp [af];omega)):(1)=([[.v (.int .u8 ((((bz (((x:Nat):Int))).toNat:Nat):Int)))]]:List (List DV)).length) (U ((by first | omega | (simp [af];done) | (simp [af];omega)):(2*(((af l).length)+(1))+192)*1≤281474976710656) (U ((by first | omega | (simp [af];done) | (simp [af];omega)):((af l).length)+(1)<4611686018427387904) (U ((by simp [bc,AV.one,bU,af,ah,ints,steps,strs]):bc ([[.v (.int .u8 ((((bz (((x:Nat):Int))).toNat:Nat):Int)))]])) (U (rfl:(List.set ([[.em 5 1 (af l)]]) (0) [.jk]:List (List DV))[0]?=some [.jk]) (U ((by first | rfl | (simp [af];done) | (simp [af];omega)):((af l).length+(1))=(af l++[[.v (.int .u8 ((((bz (((x:Nat):Int))).toNat:Nat):Int)))]]:List (List DV)).length) (U ((xQ _):(((x:Nat):Int):Int).fdiv (2 ^ (min (8:Int).toNat IntKind.u64.bits))=((x / 256:Nat):Int)) (U ((by first | decide | omega):(0:Int)≤8) (U ((wi (by omega)):IntKind.i64.wrap ((0:Int)+1)=1) trivial)))))))))))) fun ac wd r=>?_
 refine cd (todo':=hd Tryd.f58 0) (E':=[(0,.ep 0 1 (0) 0),(1,.u ((x / 256) / 256)),(8,.z 2),(9,.z 2)]) (M':=[.rw 81 1 (List.set (List.set (List.set (List.set ([[.em 5 1 (af l)]]) (0) [.jk]) (0) [.em 5 1 (af l++[[.v (.int .u8 ((((bz (((x:Nat):Int))).toNat:Nat):Int)))]])]) (0) [.jk]) (0) [.em 5 1 (af l++[[.v (.int .u8 ((((bz (((x:Nat):Int))).toNat:Nat):Int)))]]++[[.v (.int .u8 ((((bz (((x / 256:Nat):Int))).toNat:Nat):Int)))]])]),.dead,.dead,.dead,.dead]) tk mo hK al [(3,[(4,.ix 0 [.em 5 1 (af l++[[.v (.int .u8 ((((bz (((x:Nat):Int))).toNat:Nat):Int)))]])]),(6,.z ((((bz (((x / 256:Nat):Int))).toNat:Nat):Int))),(11,.ix 0 [.jk])]),(4,[(1,.z ((((x / 256) / 256:Nat):Int)))]),(5,[(0,.z (2))])] 2000 [0,1,2,3,4] [0,1,8,9] r (by kernel_rfl) (U (rfl:(List.set (List.set ([[.em 5 1 (af l)]]) (0) [.jk]) (0) [.em 5 1 (af l++[[.v (.int .u8 ((((bz (((x:Nat):Int))).toNat:Nat):Int)))]])]:List (List DV))[0]?=some [.em 5 1 (af l++[[.v (.int .u8 ((((bz (((x:Nat):Int))).toNat:Nat):Int)))]])]) (U ((gv _):IntKind.u8.wrap (((x / 256:Nat):Int))=(((bz (((x / 256:Nat):Int))).toNat:Nat):Int)) (U (fj ((af l++[[.v (.int .u8 ((((bz (((x:Nat):Int))).toNat:Nat):Int)))]]:List (List DV)).length)) (U ((by first | rfl | (simp [af];done) | (simp [af];omega)):(1)=([[.v (.int .u8 ((((bz (((x / 256:Nat):Int))).toNat:Nat):Int)))]]:List (List DV)).length) (U ((by first | omega | (simp [af];done) | (simp [af];omega)):(2*(((af l++[[.v (.int .u8 ((((bz (((x:Nat):Int))).toNat:Nat):Int)))]]:List (List DV)).length)+(1))+192)*1≤281474976710656) (U ((by first | omega | (simp [af];done) | (simp [af];omega)):((af l++[[.v (.int .u8 ((((bz (((x:Nat):Int))).toNat:Nat):Int)))]]:List (List DV)).length)+(1)<4611686018427387904) (U ((by simp [bc,AV.one,bU,af,ah,ints,steps,strs]):bc ([[.v (.int .u8 ((((bz (((x / 256:Nat):Int))).toNat:Nat):Int)))]])) (U (rfl:(List.set (List.set (List.set ([[.em 5 1 (af l)]]) (0) [.jk]) (0) [.em 5 1 (af l++[[.v (.int .u8 ((((bz (((x:Nat):Int))).toNat:Nat):Int)))]])]) (0) [.jk]:List (List DV))[0]?=some [.jk]) (U ((by first | rfl | (simp [af];done) | (simp [af];omega)):((af l++[[.v (.int .u8 ((((bz (((x:Nat):Int))).toNat:Nat):Int)))]]:List (List DV)).length+(1))=(af l++[[.v (.int .u8 ((((bz (((x:Nat):Int))).toNat:Nat):Int)))]]++[[.v (.int .u8 ((((bz (((x / 256:Nat):Int))).toNat:Nat):Int)))]]:List (List DV)).length) (U ((xQ _):(((x / 256:Nat):Int):Int).fdiv (2 ^ (min (8:Int).toNat IntKind.u64.bits))=(((x / 256) / 256:Nat):Int)) (U ((by first | decide | omega):(0:Int)≤8) (U ((wi (by omega)):IntKind.i64.wrap ((1:Int)+1)=2) trivial)))))))))))) fun ac wd r=>?_
 refine a8 (y:=.tu []) (N':=[.rw 81 1 (List.set (List.set (List.set (List.set ([[.em 5 1 (af l)]]) (0) [.jk]) (0) [.em 5 1 (af l++[[.v (.int .u8 ((((bz (((x:Nat):Int))).toNat:Nat):Int)))]])]) (0) [.jk]) (0) [.em 5 1 (af l++[[.v (.int .u8 ((((bz (((x:Nat):Int))).toNat:Nat):Int)))]]++[[.v (.int .u8 ((((bz (((x / 256:Nat):Int))).toNat:Nat):Int)))]])])]) (rfl) ((Lo (by simp [af])).symm) ?_
 exact a7 tk mo hK rfl al [] 2000 [0] r (by kernel_rfl) trivial
set_option maxRecDepth 100000 in
theorem kb (l:List UInt8) (b:UInt8) (hl:l.length≤4294967296):aA Tryd.prog 34 [.ep 0 1 (0) 0,.d (.v (.int .u8 (((b.toNat:Nat):Int))))] [.rw 81 1 ([[.em 5 1 (af l)]])] (.tu []) (iN (l++[b])):=by
 refine aA.intro (by kernel_rfl) rfl rfl 8 rfl rfl fun D w0 K bs ac wd hK (al:bs.m=1) r=>?_
 refine a8 (y:=.tu []) (N':=[.rw 81 1 ([[.em 5 1 (af (l++[bz ((b.toNat:Nat):Int)]))]])]) (rfl) ((by rw [Am];rfl)) ?_
 exact a7 tk mo hK rfl al [(0,[(2,.z (((b.toNat:Nat):Int))),(3,.mem [0] (.tu []) [.rw 81 1 ([[.em 5 1 (af (l++[bz ((b.toNat:Nat):Int)]))]])])])] 2000 [0] r (by kernel_rfl) (U ((wu ⟨rfl,by omega,by have:=b.toNat_lt;omega⟩):IntKind.u64.wrap (((b.toNat:Nat):Int))=((b.toNat:Nat):Int)) (U (xa l b.toNat (by omega)) trivial))
set_option maxRecDepth 100000 in
theorem MO (l:List UInt8) (x:Nat) (hx:x<65536) (hl:l.length≤4294967296):aA Tryd.prog 36 [.ep 0 1 (0) 0,.d (.v (.int .u16 (((x:Nat):Int))))] [.rw 81 1 ([[.em 5 1 (af l)]])] (.tu []) (iN (l++[bz ((x:Nat):Int),bz ((x / 256:Nat):Int)])):=by
 refine aA.intro (by kernel_rfl) rfl rfl 8 rfl rfl fun D w0 K bs ac wd hK (al:bs.m=1) r=>?_
 refine a8 (y:=.tu []) (N':=[.rw 81 1 ([[.em 5 1 (af (l++[bz ((x:Nat):Int),bz ((x / 256:Nat):Int)]))]])]) (rfl) (rfl) ?_
 exact a7 tk mo hK rfl al [(0,[(2,.z (((x:Nat):Int))),(3,.mem [0] (.tu []) [.rw 81 1 ([[.em 5 1 (af (l++[bz ((x:Nat):Int),bz ((x / 256:Nat):Int)]))]])])])] 2000 [0] r (by kernel_rfl) (U ((wu (by omega)):IntKind.u64.wrap (((x:Nat):Int))=((x:Nat):Int)) (U (Lp l x (by omega)) trivial))
set_option maxRecDepth 100000 in
theorem Lq (l:List UInt8) (x:Nat) (hx:x<18446744073709551616) (hl:l.length≤4294967200):aA Tryd.prog 37 [.ep 0 1 (0) 0,.u x] [.rw 81 1 ([[.em 5 1 (af l)]])] (.tu []) (iN (l++cb x)):=by
 refine aA.intro (by kernel_rfl) rfl rfl 16 rfl rfl fun D w0 K bs ac wd hK (al:bs.m=1) r=>?_
 refine cd (todo':=hd Tryd.f37 0) (E':=[(0,.ep 0 1 (0) 0),(1,.u x)]) (M':=[.rw 81 1 ([[.em 5 1 (af l)]])]) tk mo hK al [] 2000 [0] [0,1] r (by kernel_rfl) trivial fun ac wd r=>?_
 refine aD.rounds (Φ:=fun (i:Nat) ac wd=>∃ o:List UInt8,(o.length=l.length+i∧l++cb x=o++cb (x / 128 ^ i))∧RB D w0 K 16 bs [(0,.ep 0 1 (0) 0),(1,.u (x / 128 ^ i))] [.rw 81 1 ([[.em 5 1 (af o)]])] ac wd) (9) ?_ (Nat.zero_le _) ⟨l,⟨rfl,by simp⟩,(r).cast (by simp) (by simp)⟩
 clear r
 rintro i eA bP ac wd ⟨o,ao,r⟩
 obtain ⟨Pb,ao⟩:=ao
 cases h0:(decide ((128:Int)≤((x / 128 ^ i:Nat):Int))) with
 | false=>
  have bH:=of_decide_eq_false h0
  refine a8 (y:=.tu []) (N':=[.rw 81 1 ([[.em 5 1 (af (o++[bz ((x / 128 ^ i:Nat):Int)]))]])]) (rfl) ((by rw [ao,kM (by omega)];rfl)) ?_
  exact a7 tk mo hK rfl al [(0,[(1,.b false)]),(3,[(2,.mem [0] (.tu []) [.rw 81 1 ([[.em 5 1 (af (o++[bz ((x / 128 ^ i:Nat):Int)]))]])])])] 2000 [0] r (by kernel_rfl) (U h0 (U (xa o (x / 128 ^ i) (by omega)) trivial))
 | true=>
  have bH:=of_decide_eq_true h0
  exact cd (todo':=hd Tryd.f37 0) tk mo hK al [(0,[(1,.b true)]),(1,[(1,.z (((x / 128 ^ (i+1):Nat):Int)))]),(2,[(2,.z (((x / 128 ^ i%128:Nat):Int))),(3,.z (((x / 128 ^ i%128+128:Nat):Int))),(4,.mem [0] (.tu []) [.rw 81 1 ([[.em 5 1 (af (o++[bz ((x / 128 ^ i%128+128:Nat):Int)]))]])])])] 2000 [0] [0,1] r (by kernel_rfl) (U h0 (U ((J3 (by have:=Nat.div_le_self x (128 ^ i);omega)):IntKind.u64.wrap ((BitVec.ofInt IntKind.u64.bits (((x / 128 ^ i:Nat):Int)) &&& BitVec.ofInt IntKind.u64.bits (127)).toNat:Int)=((x / 128 ^ i%128:Nat):Int)) (U ((Ln (by omega)):IntKind.u64.wrap ((BitVec.ofInt IntKind.u64.bits (((x / 128 ^ i%128:Nat):Int)) ||| BitVec.ofInt IntKind.u64.bits (128)).toNat:Int)=((x / 128 ^ i%128+128:Nat):Int)) (U (xa o (x / 128 ^ i%128+128) (by omega)) (U ((by rw [MN,An]):(((x / 128 ^ i:Nat):Int):Int).fdiv (2 ^ (min (7:Int).toNat IntKind.u64.bits))=((x / 128 ^ (i+1):Nat):Int)) (U ((by first | decide | omega):(0:Int)≤7) trivial)))))) fun ac wd r=>bP (by have:=Ka (i:=i) hx (by omega);omega) ac wd ⟨(o++[bz ((x / 128 ^ i%128+128:Nat):Int)]),⟨by simp;omega,by rw [ao,oh (by omega),An,List.append_assoc];rfl⟩,r⟩
set_option maxRecDepth 100000 in
theorem MP (l b:List UInt8) (hb:b.length≤4294967296) (hl:l.length≤4294967296):aA Tryd.prog 38 [.ep 0 1 (0) 0,.d (.ro 1 (af b))] [.rw 81 1 ([[.em 5 1 (af l)]])] (.tu []) (iN (l++b)):=by
 refine aA.intro (by kernel_rfl) rfl rfl 15 rfl rfl fun D w0 K bs ac wd hK (al:bs.m=1) r=>?_
 refine a8 (y:=.tu []) (N':=[.rw 81 1 (List.set (List.set ([[.em 5 1 (af l)]]) (0) [.jk]) (0) [.em 5 1 (af l++(af b))])]) (rfl) ((CI (by simp [af])).symm) ?_
 exact a7 tk mo hK rfl al [(1,[(4,.ix 0 [.em 5 1 (af l)]),(9,.ix 0 [.jk])])] 2000 [0] r (by kernel_rfl) (U (qj:cY Tryd.prog 47) (U (rfl:([[.em 5 1 (af l)]]:List (List DV))[0]?=some [.em 5 1 (af l)]) (U (fj ((af l).length)) (U ((by first | omega | (simp [af];done) | (simp [af];omega)):(2*(((af l).length)+(af b).length)+192)*1≤281474976710656) (U ((by first | omega | (simp [af];done) | (simp [af];omega)):((af l).length)+(af b).length<4611686018427387904) (U ((by simp [bc,AV.one,bU,af,ah,ints,steps,strs]):bc (af b)) (U (rfl:(List.set ([[.em 5 1 (af l)]]) (0) [.jk]:List (List DV))[0]?=some [.jk]) (U ((by first | rfl | (simp [af];done) | (simp [af];omega)):((af l).length+(af b).length)=(af l++(af b):List (List DV)).length) trivial))))))))
set_option maxRecDepth 100000 in
theorem DZ (l:List UInt8) (h0:0<l.length) (hb:l.length<2147483648):aB Tryd.prog 39 [.d (.ro 1 (af l))] (DV.em 5 1 (af l)):=by
 refine aB.intro (by kernel_rfl) rfl rfl 8 rfl rfl fun w0 K ac hK r=>?_
 rw [show (DV.em 5 1 (af l):DV)=.em 5 1 ([]++(af l)) from rfl]
 exact br tk mo hK rfl [] 2000 r (by kernel_rfl) (U ((by simpa [af] using h0):0<(af l).length) (U ((by simp):(0)=([]:List (List DV)).length) (U ((by simp [af];omega):(2*((0)+(af l).length)+192)*1≤281474976710656) (U ((by simp [af];omega):(0)+(af l).length<4611686018427387904) (U ((by simp [bc,AV.one,bU,af]):bc (af l)) (U ((by simp):(0+(af l).length)=([]++(af l):List (List DV)).length) trivial))))))
set_option maxRecDepth 100000 in
theorem D0 (c:Nat):aB Tryd.prog 39 [.d (.v (.slice none 0 c))] (DV.v (.slice none 0 0)):=by
 refine aB.intro (by kernel_rfl) rfl rfl 8 rfl rfl fun w0 K ac hK r=>?_
 exact br tk mo hK rfl [] 2000 r (by kernel_rfl) trivial
set_option maxRecDepth 100000 in
theorem Ea (a:Addr) (c:Nat):aB Tryd.prog 39 [.d (.v (.slice (some a) 0 c))] (DV.em 5 1 ([]++[])):=by
 refine aB.intro (by kernel_rfl) rfl rfl 8 rfl rfl fun w0 K ac hK r=>?_
 exact br tk mo hK rfl [] 2000 r (by kernel_rfl) (U ((by simp):(0)=([]:List (List DV)).length) (U ((by simp):(2*((0)+0)+192)*1≤281474976710656) (U ((by simp):(0)+0<4611686018427387904) (U ((by simp [bc]):bc (([]:List (List DV)))) (U ((by simp):(0+0)=([]++([]:List (List DV)):List (List DV)).length) trivial)))))
theorem tW (l:List UInt8) (hb:l.length<2147483648):aB Tryd.prog 39 [.d (.ro 1 (af l))] (.em 5 1 (af l)):=by
 cases l with
 | nil=>
  refine aB.empty (pre:=[]) (post:=[]) fun a c=>?_
  cases a with
  | none=>exact aB.nil 5 1 (D0 c)
  | some a=>exact Ea a c
 | cons b l=>exact DZ (b::l) (by simp) hb
theorem zI (l:List UInt8) (hb:l.length<2147483648):aB Tryd.prog 39 [.d (.ro 1 (af l))] (.ro 1 (af l)):=by
 have h:=(tW l hb).stays
 simp only [ef,lN] at h
 exact h
theorem gS (x:Value):fU (.v x):=by intro K K2 y H h;cases h;exact .v _
theorem Kb {T:Nat} {rows:List (List DV)} (h:∀ (i:Nat) r (j:Nat) c,rows[i]?=some r→r[j]?=some c→fU c):fU (.em T 1 rows):=by
 intro K K' y H hd
 cases hd with
 | em X F hl hs hr=>exact .em X F hl hs fun i r j c x h1 h2 h3=>h i r j c h1 h2 _ _ _ _ (hr i r j c x h1 h2 h3)
theorem uh (T:Nat) (l:List UInt8):fU (.em T 1 (af l)):=Kb fun i r j c h1 h2=>by
 simp only [af,List.getElem?_map,Option.map_eq_some_iff] at h1
 obtain ⟨b,-,rfl⟩:=h1
 cases j with
 | zero=>simp at h2;subst h2;exact gS _
 | succ j=>simp at h2
set_option maxRecDepth 100000 in
theorem Kc (l:List UInt8) (hl:l.length<2147483648):aA Tryd.prog 19 [.ep 0 1 (0) 0] [.rw 81 1 ([[.em 5 1 (af l)]])] (.sl 1 l.length) ([.rw 81 1 (List.set [[.em 5 1 (af l)]] 0 [.jk]),.rw 5 1 (af l)]):=by
 refine aA.intro (by kernel_rfl) rfl rfl 10 rfl rfl fun D w0 K bs ac wd hK (al:bs.m=1) r=>?_
 refine a8 (y:=.sl 1 ((af l).length)) (N':=[.rw 81 1 (List.set ([[.em 5 1 (af l)]]) (0) [.jk]),.rw 5 1 (af l)]) ((by simp [af])) (rfl) ?_
 exact a7 tk mo hK rfl al [(3,[(3,.ix 0 [.em 5 1 (af l)]),(4,.call [.d (.ro 1 (af l))] (.em 5 1 (af l)))])] 2000 [0,2] r (by kernel_rfl) (U (qj:cY Tryd.prog 47) (U (rfl:([[.em 5 1 (af l)]]:List (List DV))[0]?=some [.em 5 1 (af l)]) (U (tW _ (by omega):aB Tryd.prog 39 [.d (.ro 1 (af l))] (.em 5 1 (af l))) (U ((uh _ _):fU (.em 5 1 (af l))) (U (fj (1)) (U (fj ((af l).length)) (U ((lN _):cx (af l)=af l) trivial)))))))
set_option maxRecDepth 100000 in
theorem CJ :aA Tryd.prog 14 [] [] (.pt 0 0) ([.bx 81 [.d (.v (.slice none 0 0))]]):=by
 refine aA.intro (by kernel_rfl) rfl rfl 3 rfl rfl fun D w0 K bs ac wd hK (al:bs.m=0) r=>?_
 refine a8 (y:=.pt 0 0) (N':=[.bx 81 [.d (.v (.slice none 0 0))]]) (rfl) (rfl) ?_
 exact a7 tk mo hK rfl al [] 2000 [0] r (by kernel_rfl) trivial
set_option maxRecDepth 100000 in
theorem Lr (a:Option Addr) (n c:Nat):aB Tryd.prog 17 [.rp [.v (.slice a n c)] 0] (DV.n n):=by
 refine aB.intro (by kernel_rfl) rfl rfl 10 rfl rfl fun w0 K ac hK r=>?_
 rw [show (DV.n n:DV)=.n n from rfl]
 exact br tk mo hK rfl [] 2000 r (by kernel_rfl) (U (qj:cY Tryd.prog 47) trivial)
theorem aA.MQ {P:Program} {f:FuncId} {T T2:Nat} {rows:List (List DV)} {x:DV} (h:∀ (a:Option Addr) (c:Nat),aB P f [.rp [.v (.slice a rows.length c)] 0] x) (hx:fU x) (hs:∀ {K:World→Prop} {y:Value} {H:ak},bI K x y H→bI K x y []):aA P f [.ep 0 1 0 0] [.rw T 1 [[.em T2 1 rows]]] (.d x) [.rw T 1 [[.em T2 1 rows]]]:=by
 refine ⟨(h none 0).1,fun {D w0 K0 β F I w} ys R hK hl hr=>?_⟩
 obtain ⟨y,rfl⟩:∃ y,ys=[y]:=by
  cases ys with
  | nil=>simp at hl
  | cons y r=>cases r with
   | nil=>exact ⟨y,rfl⟩
   | cons _ _=>simp at hl
 have hy:=hr 0 _ y rfl rfl
 cases hy with
 | @ep _ _ _ _ b cc hb=>
 obtain ⟨H,hF,hB,hH⟩:=R.at (u:=0) rfl
 cases hB with
 | rw aN X G mJ jD jG=>
  rw [hb] at aN;cases aN
  obtain ⟨b',cap,cs,he,rfl,cC,dq,lB⟩:=jD.block (by simp)
  simp only [Value.slice.injEq,Option.some.injEq,Addr.mk.injEq] at he
  obtain ⟨⟨rfl,-⟩,-,rfl⟩:=he
  have hX:=(mJ 0 _ rfl).2
  obtain ⟨v,hv⟩:∃ v,(X 0)[0]?=some v:=⟨(X 0)[0]'(by omega),List.getElem?_eq_getElem _⟩
  have hd:=jG 0 _ 0 _ v rfl rfl hv
  obtain ⟨a,n,c,rfl⟩:=hd.slice (.inr ⟨_,_,_,rfl⟩)
  have hn:n=rows.length:=by
   generalize G 0 0=GG at hd
   cases hd with
   | em X' F' cN eh mO=>
    obtain ⟨a',c',e⟩:=eh.len
    simp only [Value.slice.injEq] at e
    exact e.2.1
  subst hn
  have hw:w.heap[b]?=some (.cells cs T (0,0)):=(Holds.app.1 hH).1.one
  have jU:w.cell? ⟨b,0,none⟩=some (.slice a rows.length c):=by
   rw [cell_of hw]
   have NX:lay 1 X=X 0:=by simp [lay,List.range_succ]
   have e1:(cs.toList.take (1*1))[0]?=cs[0]?:=by rw [List.getElem?_take,if_pos (by omega),Array.getElem?_toList]
   rw [← e1,show (cs.toList.take (1*1))=X 0 from lB.trans NX];exact hv
  refine ((h a c).2 w (fun w'=>w'.cell? ⟨b,0,none⟩=some (.slice a rows.length c)) [.pointer (some ⟨b,0*1+0,none⟩)] (fun w' g=>g.sH jU) rfl fun j q y h1 h2=>?_).mono ?_
  ·cases j with
   | succ j=>simp at h1
   | zero=>
    simp only [List.getElem?_cons_zero,Option.some.injEq] at h1 h2
    subst h1;subst h2
    have e0:(⟨b,0*1+0,none⟩:Addr)=(⟨b,0,none⟩:Addr).add 0:=by rw [add_zero']
    rw [e0]
    refine .rp _ [.slice a rows.length c] rfl (fun w' dt j z hj=>?_) (fun j q z h1 h2=>?_)
    ·cases j with
     | succ j=>simp at hj
     | zero=>simp at hj;subst hj;rw [add_zero'];exact dt
    ·cases j with
     | succ j=>simp at h1
     | zero=>simp at h1 h2;subst h1;subst h2;exact .v _
  ·rintro e w' ⟨v,rfl,g,H2,⟨Ho,Hi,rfl,tF⟩,n2⟩
   refine ⟨v,rfl,β,F,I,⟨R.len,R.blk,R.st.gr g⟩,Ext.refl _,bK.refl _,.d (hx _ _ _ _ (hs tF))⟩
theorem tl (l:List UInt8):aA Tryd.prog 17 [.ep 0 1 0 0] (iN l) (.n l.length) (iN l):=by
 have h:=aA.MQ (T:=81) (T2:=5) (rows:=af l) (fun a c=>Lr a (af l).length c) (gS _) (fun hd=>by cases hd;exact .v _)
 rw [show (af l).length=l.length by simp [af]] at h
 exact h
end Go.Proofs.YtcnpikbbmbombaaDoor
