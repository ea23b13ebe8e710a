/-
  scriptDecodes_card, part 3 of 6: merged by program from the texts that it needs.
-/
import Derived.Test.YtcnpikbbmbombaaGreatDoorSdB
set_option linter.unusedSimpArgs false
set_option linter.unusedVariables false
set_option linter.unnecessarySimpa false
namespace Go.Proofs.YtcnpikbbmbombaaGreatDoor
open Go.RowKit
def Ca (w:World) (K:World→Prop) (x:DV):Ending→World→Prop:=CC w fun r H=>∃ Ho Hi,H=Ho++Hi∧bP (fun w=>K w∧Holds w Hi) x r Ho
abbrev pg (w:World) (K:World→Prop) (x:DV):fB:=.ends (Ca w K x)
def iE:List AV→Nat→List (Nat×AV)
 | [],_=>[]
 | v::r,i=>(i,v)::iE r (i+1)
theorem qb:∀ (vs:List AV) (i:Nat) (x:Nat×AV),x ∈ iE vs i→i≤x.1∧vs[x.1-i]?=some x.2:=by
 intro vs
 induction vs with
 | nil=>intro i x hx;simp [iE] at hx
 | cons v r ih=>
  intro i x hx
  simp only [iE,List.mem_cons] at hx
  rcases hx with e | e
  ·subst e;simp
  ·obtain ⟨h1,h2⟩:=ih (i+1) x e
   refine ⟨by omega,?_⟩
   rw [show x.1-i=(x.1-(i+1))+1 by omega];simpa using h2
variable {mk:Bool} {P:Program} {T:aJ} {cl:fQ} {f:FuncId} {R:fB} {a:Act} {w:World} {D:List Nat} {w0:World} {K0:World→Prop} {E:List (Nat×AV)} {M:List ai} {β:Beta} {F:Nat→al} {I X:al} {sz:Nat} {tb:dH} {todo todo':List Item}
theorem aB.intro {fn:Func} {c:Code} {args:List AV} {x:DV} (j6:iz P f=true) (hf:P.funcs[f]?=some fn) (hb:fn.body=some c) (n:Nat) (hn:fn.ntmps=n) (hle:Nat.ble args.length n=true)
  (h:∀ (w0:World) (K:World→Prop) (a:Act),(∀ w,Kp [] w0 w→K w)→du [] w0 K n (iE args 0) [] a w0→aC P f [.code c] (pg w0 K x) a w0):aB P f args x:=by
 refine ⟨j6,fun w K ys hK hl hr=>?_⟩
 have hle:=Nat.le_of_ble_eq_true hle
 refine pY hf hb (h w K _ (fun w' k=>hK w' k.sU) ⟨by simp;omega,[],rfl,[],fun _=>[],⟨rfl,by simp,by simpa using St.none w⟩,?_⟩)
 intro t v hv
 obtain ⟨y,rfl,rfl,hy⟩:∃ y:Nat×AV,y.1=t∧y.2=v∧y ∈ iE args 0:=⟨(t,v),rfl,rfl,l3 hv⟩
 obtain ⟨-,h2⟩:=qb args 0 y hy
 simp only [Nat.sub_zero] at h2
 obtain ⟨aI,-⟩:=List.getElem?_eq_some_iff.1 h2
 have iZ:ys[y.1]?=some ys[y.1]:=List.getElem?_eq_getElem (by omega)
 have he:({ tmps:=ys.toArray++Array.replicate (fn.ntmps-ys.toArray.size) undef,defers:=[] }:Act).eval (.tmp y.1)=ys[y.1]:=by
  have:y.1<ys.length:=by omega
  simp [Act.eval,Array.getD_eq_getD_getElem?,Array.getElem?_append,this]
 rw [he]
 exact (hr y.1 y.2 _ h2 iZ).mono (fun w hw=>hw.1) (Ext.refl _)
def iU (T:aJ) (E:List (Nat×AV)) (M:List ai):List ResultVar→Option (List AV)
 | []=>some []
 | .tmp t::r=>(match bZ E t,iU T E M r with | some v,some l=>some (v::l) | _,_=>none)
 | .cell t ty::r=>(match bZ E t,iU T E M r with
  | some (.pt u o),some l=>(match M[u]? with | some (.bx _ cells)=>(match kN T ty cells o with | some v=>some (v::l) | none=>none) | _=>none)
  | _,_=>none)
theorem oL (hT:bc P T=true) (R:RM D w0 K0 M β F I w) (hs:∀ t v,bZ E t=some v→ax (fun w=>K0 w∧Holds w I) β v (a.eval (.tmp t))):∀ {rs:List ResultVar} {l:List AV},iU T E M rs=some l→∃ ys,qE P w a rs ys∧ys.length=l.length∧∀ (j:Nat) c y,l[j]?=some c→ys[j]?=some y→ax (fun w=>K0 w∧Holds w I) β c y
 | [],l,h=>by simp only [iU,Option.some.injEq] at h;subst h;exact ⟨[],trivial,rfl,by simp⟩
 | .tmp t::r,l,h=>by
  unfold iU at h
  split at h
  ·rename_i v l' h1 h2
   simp only [Option.some.injEq] at h;subst h
   obtain ⟨ys,e1,e2,e3⟩:=oL hT R hs h2
   refine ⟨a.eval (.tmp t)::ys,⟨rfl,e1⟩,by simp [e2],?_⟩
   intro j c y h3 h4
   cases j with
   | zero=>simp at h3 h4;subst h3 h4;exact hs _ _ h1
   | succ j=>simp at h3 h4;exact e3 j c y h3 h4
  ·simp at h
 | .cell t ty::r,l,h=>by
  unfold iU at h
  split at h
  ·rename_i u o l' h1 h2
   split at h
   ·rename_i T0 cells hM
    split at h
    ·rename_i v jv
     simp only [Option.some.injEq] at h;subst h
     obtain ⟨ys,e1,e2,e3⟩:=oL hT R hs h2
     have hr:=hs _ _ h1
     generalize hy:a.eval (.tmp t)=y0 at hr
     cases hr with
     | pt hb=>
      obtain ⟨H,hF,hB,hH⟩:=R.at hM
      cases hB with
      | bx aS zs hl hr=>
       rw [hb] at aS;cases aS
       obtain ⟨y',g1,g2⟩:=oS (d:=none) (ty:=0) (pos := "") (aft:=#[]) (gd:=none) hT (x:=.tmp t) (ρ:=a.eval) (a:=⟨_,0,none⟩) (R:=ax (fun w=>K0 w∧Holds w I) β) (fun l ys=>ax.ag ys) jv (hy.trans (by rw [add_eq,Nat.zero_add])) hl hr
       have g3:=g2 w fun j z hj=>by rw [add_eq,cell_of hH.one,Nat.zero_add];simpa using hj
       refine ⟨y'::ys,⟨⟨_,hy,?_⟩,e1⟩,by simp [e2],?_⟩
       ·simp only [execOp,hy,Sem.run_bind,Instr.loadAt,Instr.sureAddr] at g3
        cases hv:(loadVar ty _).run P w with
        | ok q w'=>rw [Sem.run_pure,Result.andThen_ok,hv] at g3;simp at g3;obtain ⟨rfl,rfl⟩:=g3;rfl
        | halt q w'=>rw [Sem.run_pure,Result.andThen_ok,hv] at g3;simp [Result.andThen] at g3
       ·intro j c y h3 h4
        cases j with
        | zero=>simp at h3 h4;subst h3 h4;exact g1
        | succ j=>simp at h3 h4;exact e3 j c y h3 h4
    ·simp at h
   ·simp at h
  ·simp at h
def ph:List DV→DV
 | [x]=>x
 | l=>.tu l
theorem back (hT:bc P T=true) {fn:Func} (hf:P.funcs[f]?=some fn) (r:du [] w0 K0 sz E M a w) {l:List AV} {vc:List Prop} {xs:List DV} {M':List ai} {x:DV} (h1:iU T E M fn.results.toList=some l) (h2:lb M l=some (vc,xs,M')) (hv:bg vc) (hx:ph xs=x):
  ∃ v,(results fn a.tmps).run P w=.ok v w∧Ca w0 K0 x (.returned v) w:=by
 obtain ⟨-,I,-,β,F,Rm,hs⟩:=r
 obtain ⟨ys,e1,e2,e3⟩:=oL hT Rm hs h1
 obtain ⟨F',H,R',d⟩:=zV Rm.x h2 hv e2 e3
 refine ⟨_,sk rfl e1,_,rfl,R'.st.kp.sU,H++I,⟨H,I,rfl,?_⟩,?_⟩
 ·subst hx
  have hl:=d.len
  cases d with
  | nil=>exact .tu [] (fun _=>[]) rfl (by simp)
  | cons h r=>
   cases r with
   | nil=>simpa [ph] using h
   | cons h' r'=>
    have dd:=fR.cons h (fR.cons h' r')
    obtain ⟨F2,hF,hG⟩:=dd.to
    rw [hF]
    exact .tu _ F2 dd.len hG
 ·have:=R'.st.l0
  exact (this.perm (by classical rw [List.perm_iff_count];intro z;simp only [List.count_append,List.count_nil];omega)).Mg
theorem G7 (hT:bc P T=true) {fn:Func} (hf:P.funcs[f]?=some fn) {k:List Item} (r:du [] w0 K0 sz E M a w) {l:List AV} {vc:List Prop} {xs:List DV} {M':List ai} {x:DV} (h1:iU T E M fn.results.toList=some l) (h2:lb M l=some (vc,xs,M')) (hv:bg vc) (hx:ph xs=x):aC P f (.code .ret::k) (pg w0 K0 x) a w:=
 let ⟨_,h3,h4⟩:=back hT hf r h1 h2 hv hx
 aC.ret hf (cD.nF r) h3 h4
theorem G8 (hT:bc P T=true) {fn:Func} (hf:P.funcs[f]?=some fn) (r:du [] w0 K0 sz E M a w) {l:List AV} {vc:List Prop} {xs:List DV} {M':List ai} {x:DV} (h1:iU T E M fn.results.toList=some l) (h2:lb M l=some (vc,xs,M')) (hv:bg vc) (hx:ph xs=x):aC P f [] (pg w0 K0 x) a w:=
 let ⟨_,h3,h4⟩:=back hT hf r h1 h2 hv hx
 aC.fin hf (cD.nF r) h3 h4
def yd:List AV→AV
 | [v]=>v
 | l=>.tu l
def nL (T:aJ) (rs:List ResultVar) (s:RS):Option Out:=
 match iU T s.E s.M rs with
 | some l=>some ⟨s.vc,yd l,s.M,s.tc,s.mv,none⟩
 | none=>none
def qY:List Item→Option LS
 | []=>some .ready
 | .code .ret::_=>some .left
 | _=>none
theorem Ea {l:Nat} {tmps:Array Value} {da body c2:Code} {Φ:Value→World→Prop} {k2:List Item} {s2:LS} (fq:qY k2=some s2)
  (h:aC P f [.code da,.beginRound,.code body] (.arr l [.beginRound,.code c2] fun a1 w1=>∃ w2,(Instr.beginRound l).run P w1=.ok () w2∧aC P f [.code c2] (.arr l k2 fun _ w3=>∃ v w4,(Instr.endRound l s2.j8).run P w3=.ok v w4∧Φ v w4) a1 w2) { tmps:=tmps,defers:=[] } w):
  RoundIn Fence.wide 0 P l f tmps da body w fun e w'=>∃ v,e=.returned v∧Φ v w':=by
 refine ⟨trivial,fun c cs hr=>?_⟩
 let b:Frame:={ (default:Frame) with fn:=f,kind:=.normal,roundOf:=some l }
 have eK:Frame.round l f tmps da body .normal=b.atR { tmps:=tmps,defers:=[] } [.code da,.beginRound,.code body]:=by simp [Frame.round,Frame.atR,b]
 obtain ⟨a1,w1,⟨w2,NJ,hg⟩,st⟩:=h b (c::cs) rfl rfl rfl
 obtain ⟨a2,w3,⟨v,w4,tA,aD⟩,NK⟩:=hg b (c::cs) rfl rfl rfl
 have s1:Steps P (lone (b.atR a1 [.beginRound,.code c2]) (c::cs) w1) (lone (b.atR a1 [.code c2]) (c::cs) w2):=.one (stepR_beginRound rfl NJ)
 have s3:Steps P (lone (b.atR a2 k2) (c::cs) w3) (lone (c.finish v) cs w4):=by
  unfold qY at fq
  split at fq
  ·simp only [Option.some.injEq] at fq;subst fq;exact .one (stepR_round_end rfl rfl tA)
  ·simp only [Option.some.injEq] at fq;subst fq;exact .one (stepR_round_ret rfl rfl tA)
  ·simp at fq
 rw [eK]
 exact ⟨.returned v,w4,⟨v,rfl,aD⟩,stepsIn_wide.2 (((st.trans s1).trans NK).trans s3)⟩
theorem FL {l:Nat} {r:Loop} (h:w.heap[l]?=some (.loop r)) (hs:r.state=.ready):(Instr.beginRound l).run P w=.ok () (cn w l (.loop { r with state:=.busy })):=by
 unfold Instr.beginRound Instr.getLoop
 simp only [Sem.run_bind,qh h rfl,Result.andThen_ok,Sem.run_pure,sh h rfl,hs]
def LS.on:LS→Bool
 | .left=>false
 | _=>true
theorem G9 {l:Nat} {r:Loop} {k2:List Item} {s2:LS} (fq:qY k2=some s2) (h:w.heap[l]?=some (.loop r)):(Instr.endRound l s2.j8).run P w=.ok (.bool s2.on) (cn w l (.loop { r with state:=s2.state,pending:=s2.j8 })):=by
 unfold Instr.endRound Instr.getLoop
 simp only [Sem.run_bind,qh h rfl,Result.andThen_ok,Sem.run_pure,sh h rfl]
 unfold qY at fq
 split at fq
 ·simp only [Option.some.injEq] at fq;subst fq;rfl
 ·simp only [Option.some.injEq] at fq;subst fq;rfl
 ·simp at fq
def j7:List (Tmp×Value)→Array Value→Array Value
 | [],tm=>tm
 | (t,v)::r,tm=>j7 r (tm.setIfInBounds t v)
theorem zD:∀ (l:List (Tmp×Value)) (tm:Array Value),(j7 l tm).size=tm.size
 | [],_=>rfl
 | (t,v)::r,tm=>by rw [j7,zD r];simp
theorem uj:∀ (l:List (Tmp×Value)) (tm:Array Value) (t:Nat),t ∉ l.map (·.1)→(j7 l tm).getD t undef=tm.getD t undef
 | [],_,_,_=>rfl
 | (s,v)::r,tm,t,h=>by
  simp only [List.map_cons,List.mem_cons,not_or] at h
  rw [j7,uj r _ t h.2]
  simp only [Array.getD_eq_getD_getElem?,Array.getElem?_setIfInBounds]
  rw [if_neg (fun e=>h.1 e.symm)]
theorem At:∀ (l:List (Tmp×Value)) (tm:Array Value) (t:Nat) (v:Value),(l.map (·.1)).Nodup→(∀ x ∈ l,x.1<tm.size)→(t,v) ∈ l→(j7 l tm).getD t undef=v
 | (s,u)::r,tm,t,v,hn,aI,h=>by
  simp only [List.map_cons,List.nodup_cons] at hn
  rw [j7]
  rcases List.mem_cons.1 h with e | h
  ·cases e
   rw [uj r _ _ hn.1]
   have hs:=aI (s,u) (by simp)
   simp only at hs
   simp [Array.getD_eq_getD_getElem?,hs]
  ·exact At r _ t v hn.2 (fun x hx=>by simpa using aI x (List.mem_cons_of_mem _ hx)) h
def wz (P:Program) (T:aJ) (cl:fQ) (n:Nat) (tb:dH) (u:Nat) (args:List AV) (M:List ai):Option Out:=
 match M[u]? with
 | some (.lp .ready f sz E rf)=>bif args.length.beq rf.ps.toList.length&&rf.ps.toList.all (·.blt sz)&&nodupB rf.ps.toList then
  (match dN P T cl sz tb n [.code rf.da,.beginRound,.code rf.body] ⟨[],rf.ps.toList.zip args++E,M,[],[]⟩ with
  | some ([.beginRound,.code c2],s1)=>(match s1.M[u]? with
   | some (.lp .ready f2 pD E2 kg)=>bif f2.beq f&&!(s1.mv.elem u) then (match dN P T cl sz tb n [.code c2] ⟨s1.vc,s1.E,s1.M.set u (.lp .busy f2 pD E2 kg),u::s1.tc,s1.mv⟩ with
    | some (k2,s2)=>(match qY k2,s2.M[u]? with
     | some ls,some (.lp .busy f3 tY E3 pE)=>bif !(s2.mv.elem u) then some ⟨s2.vc,.d (.v (.bool ls.on)),s2.M.set u (.lp ls f3 tY E3 pE),u::s2.tc,s2.mv,none⟩ else none
     | _,_=>none)
    | _=>none) else none
   | _=>none)
  | _=>none) else none
 | _=>none
def walk (P:Program) (T:aJ):Nat→fQ
 | 0=>fun _ _ _ _=>none
 | d+1=>fun c args M o=>match c,o with
  | .yl u,.bV n tb=>wz P T (walk P T d) n tb u args M
  | .fn f,.bV n tb=>(bif iz P f then (match P.funcs[f]? with
   | some fn=>(bif Nat.ble args.length fn.ntmps then (match fn.body with
    | some c=>(match dN P T (walk P T d) fn.ntmps tb n [.code c] ⟨[],iE args 0,M,[],[]⟩ with
     | some (.code .ret::_,s)=>nL T fn.results.toList s
     | some ([],s)=>nL T fn.results.toList s
     | _=>none)
    | none=>none) else none)
   | none=>none) else none)
  | _,_=>none
theorem Iq (hT:bc P T=true) {fn:Func} {s:RS} {out:Out} (h:nL T fn.results.toList s=some out) {b:eT} (r:dr mk D w0 K0 sz b s a w):
  out.vc=s.vc∧out.rd=none∧∃ v,(results fn a.tmps).run P w=.ok v w∧∃ ay F' I',RM D w0 K0 out.M ay F' I' w∧gv out.mv b.β ay∧bR b.I I'∧(∀ u,u<b.m→u ∉ out.tc→F' u=b.F u)∧ax (fun w=>K0 w∧Holds w I') ay out.av v:=by
 unfold nL at h
 split at h
 ·rename_i l hl
  simp only [Option.some.injEq] at h;subst h
  obtain ⟨-,I,-,-,β,F,Rm,b9,hs⟩:=r
  obtain ⟨ys,e1,e2,e3⟩:=oL hT Rm hs hl
  refine ⟨rfl,rfl,_,sk rfl e1,β,F,I,Rm,b9.1,b9.2.1,b9.2.2,?_⟩
  match ys,l,e2,e3 with
  | [],[],_,_=>exact .tu [] rfl (by simp)
  | [y],[v],_,e3=>exact e3 0 v y rfl rfl
  | y::y'::ys,v::v'::l,e2,e3=>exact .tu _ e2 e3
 ·simp at h
theorem zg:∀ {A E:List (Nat×AV)} {t:Nat} {v:AV},bZ (A++E) t=some v→t ∈ A.map (·.1)→(t,v) ∈ A
 | [],_,_,_,_,h=>by simp at h
 | (k,u)::r,E,t,v,h,hm=>by
  rw [List.cons_append] at h
  unfold bZ at h
  cases hk:k.beq t with
  | true=>simp only [hk,cond_true,Option.some.injEq] at h;subst h;rw [Nat.eq_of_beq_eq_true hk];exact List.mem_cons_self
  | false=>
   simp only [hk,cond_false] at h
   refine List.mem_cons_of_mem _ (zg h ?_)
   rcases List.mem_cons.1 hm with e | e
   ·exfalso;simp only at e;rw [e] at hk;simp at hk
   ·exact e
theorem ES {ps:List Nat} {args:List AV} {ys:List Value} {t:Nat} {v:AV} (h:(t,v) ∈ ps.zip args) (hl:ys.length=args.length) (hr:∀ (j:Nat) c y,args[j]?=some c→ys[j]?=some y→ax (fun w=>K0 w∧Holds w I) β c y):∃ y,(t,y) ∈ ps.zip ys∧ax (fun w=>K0 w∧Holds w I) β v y:=by
 obtain ⟨j,hj,e⟩:=List.getElem_of_mem h
 have h1:(ps.zip args)[j]?=some (t,v):=by rw [List.getElem?_eq_getElem hj,e]
 obtain ⟨a1,a2⟩:=List.getElem?_zip_eq_some.1 h1
 have aI:=(List.getElem?_eq_some_iff.1 a2).1
 have hy:ys[j]?=some ys[j]:=List.getElem?_eq_getElem (by omega)
 exact ⟨ys[j],List.mem_of_getElem? (List.getElem?_zip_eq_some.2 ⟨a1,hy⟩),hr j v _ a2 hy⟩
theorem zo:∀ (l:List (Tmp×Value)) (tm:Array Value),l.foldl (fun tmps (x:Tmp×Value)=>tmps.setIfInBounds x.1 x.2) tm=j7 l tm
 | [],_=>rfl
 | (t,v)::r,tm=>by rw [List.foldl_cons,zo r];rfl
theorem FM (hT:bc P T=true) (hm:P.follows .mixedOrders=true) (cQ:js P cl) {n:Nat} {tb:dH} {u:Nat} {args:List AV} {M:List ai} {out:Out} (h:wz P T cl n tb u args M=some out):out.rd=none∧A7 P u args M out:=by
 unfold wz at h
 split at h
 rotate_left
 ·simp at h
 rename_i f sz E rf hM
 cases hc:(args.length.beq rf.ps.toList.length&&rf.ps.toList.all (·.blt sz)&&nodupB rf.ps.toList) with
 | false=>simp only [hc,cond_false,reduceCtorEq] at h
 | true=>
  simp only [hc,cond_true] at h
  simp only [Bool.and_eq_true] at hc
  obtain ⟨⟨nZ,lK⟩,yW⟩:=hc
  have nZ:=Nat.eq_of_beq_eq_true nZ
  split at h
  rotate_left
  ·simp at h
  rename_i c2 s1 NL
  split at h
  rotate_left
  ·simp at h
  rename_i f2 pD E2 kg tZ
  cases hf:(f2.beq f&&!(s1.mv.elem u)) with
  | false=>simp only [hf,cond_false,reduceCtorEq] at h
  | true=>
   simp only [hf,cond_true] at h
   simp only [Bool.and_eq_true,Bool.not_eq_true'] at hf
   obtain ⟨NM,My⟩:=hf
   obtain rfl:=Nat.eq_of_beq_eq_true NM
   split at h
   rotate_left
   ·simp at h
   rename_i k2 s2 jd
   split at h
   rotate_left
   ·simp at h
   rename_i ls f3 tY E3 pE fq kc
   cases ye:(!(s2.mv.elem u)) with
   | false=>simp only [ye,cond_false,reduceCtorEq] at h
   | true=>
    simp only [ye,cond_true,Option.some.injEq] at h;subst h
    refine ⟨rfl,?_⟩
    intro D w0 K0 β F I w ys l c Rm hK hv hl ly rR
    have dt:bg s1.vc:=A9 n [.code c2] ⟨s1.vc,s1.E,s1.M.set u (.lp .busy f2 pD E2 kg),u::s1.tc,s1.mv⟩ jd hv
    obtain ⟨H,hF,hB,hH⟩:=Rm.at hM
    cases hB with
    | @lp b0 cc f0 NN nR bz E0 NO tmps hb bE hr=>
     rw [rR] at hb;cases hb
     have K3:=hH.one
     have hlen:rf.ps.size=ys.toArray.size:=by
      have e:rf.ps.toList.length=rf.ps.size:=Array.length_toList
      have e2:ys.toArray.size=ys.length:=by simp
      omega
     have hy:(Instr.yield l ys.toArray).run P w=.ok (.round l f2 ((rf.ps.zip ys.toArray).foldl (fun tmps (x:Tmp×Value)=>tmps.setIfInBounds x.1 x.2) tmps) rf.da rf.body) w:=by
      unfold Instr.yield Instr.getLoop
      simp only [Sem.run_bind,qh K3 rfl,Result.andThen_ok,Sem.run_pure]
      rw [if_neg (by simp [hlen])]
      rfl
     refine ⟨f2,_,rf.da,rf.body,hy,?_⟩
     have K4:(rf.ps.zip ys.toArray).foldl (fun tmps (x:Tmp×Value)=>tmps.setIfInBounds x.1 x.2) tmps=j7 (rf.ps.toList.zip ys) tmps:=by
      rw [← zo,← Array.foldl_toList];simp
     rw [K4]
     have xu:(rf.ps.toList.zip ys).map (·.1)=rf.ps.toList:=List.map_fst_zip (by rw [hl,nZ];exact Nat.le_refl _)
     have r0:dr false D w0 K0 sz ⟨β,F,I,M.length⟩ ⟨[],rf.ps.toList.zip args++E,M,[],[]⟩ { tmps:=j7 (rf.ps.toList.zip ys) tmps,defers:=[] } w:=by
      refine ⟨by rw [zD,bE],I,rfl,Nat.le_refl _,β,F,Rm,⟨fun _ _ _ h=>h,bR.refl _,fun _ _ _=>rfl⟩,?_⟩
      intro t v im
      have CI:=l3 im
      show ax _ β v ((j7 (rf.ps.toList.zip ys) tmps).getD t undef)
      by_cases ht:t ∈ rf.ps.toList
      ·have hz:(t,v) ∈ rf.ps.toList.zip args:=by
        rcases List.mem_append.1 CI with h1 | h1
        ·exact h1
        ·exact zg im (by
          rw [List.map_fst_zip (by omega)];exact ht)
       obtain ⟨y,NP,NQ⟩:=ES hz hl ly
       rw [At _ _ t y (by rw [xu];exact oA yW) (fun x hx=>by
        have:x.1 ∈ rf.ps.toList:=by rw [← xu];exact List.mem_map_of_mem hx
        have:=List.all_eq_true.1 lK _ this
        rw [bE];simpa [Nat.blt_eq] using this) NP]
       exact NQ
      ·rcases List.mem_append.1 CI with h1 | h1
       ·exact absurd (by have:=List.mem_map_of_mem (f:=fun x:Nat×AV=>x.1) h1;rwa [List.map_fst_zip (by omega)] at this) ht
       ·rw [uj _ _ _ (by rw [xu];exact ht)]
        exact hr (t,v) h1
     refine Ea (c2:=c2) fq (kJ hT cQ hm hK n NL r0 dt fun a1 w1 r1=>aC.Bz ?_)
     obtain ⟨z1,I1,z2,z3,pX,F1,Dy,ua,n9⟩:=r1
     obtain ⟨H1,rr,NR,NS⟩:=Dy.at tZ
     have Dz:pX[u]?=some (some ⟨l,0,none⟩,c):=ua.1 u _ (by simpa using My) rR
     cases NR with
     | @lp b1 O5 f1 O6 CJ O7 E1 O8 Cb gn Mz MA=>
      rw [Dz] at gn;cases gn
      refine ⟨_,FL NS.one rfl,?_⟩
      have MB:=Dy.set tZ rr (o':=.loop { state:=.busy,pending:=none,fn:=f2,tmps:=Cb,params:=kg.ps,assign:=kg.da,body:=kg.body,defers:=CJ }) (blk':=.lp .busy f2 pD E2 kg) (.lp (bz:=.busy) (sz:=pD) Dz Mz MA)
      have NT:dr false D w0 K0 sz ⟨β,F,I,M.length⟩ ⟨s1.vc,s1.E,s1.M.set u (.lp .busy f2 pD E2 kg),u::s1.tc,s1.mv⟩ a1 (cn w1 l (.loop { state:=.busy,pending:=none,fn:=f2,tmps:=Cb,params:=kg.ps,assign:=kg.da,body:=kg.body,defers:=CJ })):=by
       refine ⟨z1,I1,z2,by rw [List.length_set];exact z3,pX,_,MB,⟨ua.1,ua.2.1,fun v im hn=>?_⟩,n9⟩
       simp only [List.mem_cons,not_or] at hn
       simp only [aH];rw [if_neg hn.1];exact ua.2.2 v im hn.2
      refine kJ hT cQ hm hK n jd NT hv fun a2 w2 r2=>aC.Bz ?_
      obtain ⟨y1,I2,y2,y3,jg,F2,DA,ub,jw⟩:=r2
      obtain ⟨H2,kO,NU,rl⟩:=DA.at kc
      have DB:jg[u]?=some (some ⟨l,0,none⟩,c):=ub.1 u _ (by simpa using ye) rR
      cases NU with
      | @lp b2 O9 Pa OL MC Pb Pc OM K5 fN ti CK=>
       rw [DB] at fN;cases fN
       have MD:=DA.set kc kO (o':=.loop { state:=ls.state,pending:=ls.j8,fn:=f3,tmps:=K5,params:=pE.ps,assign:=pE.da,body:=pE.body,defers:=MC }) (blk':=.lp ls f3 tY E3 pE) (.lp (bz:=ls) (sz:=tY) DB ti CK)
       refine ⟨_,_,G9 fq rl.one,jg,_,I2,MD,ub.1,ub.2.1,fun v im hn=>?_,.d (.v _)⟩
       simp only [List.mem_cons,not_or] at hn
       simp only [aH];rw [if_neg hn.1];exact ub.2.2 v im hn.2
theorem iN (hT:bc P T=true) (hm:P.follows .mixedOrders=true):∀ d,js P (walk P T d):=by
 intro d
 induction d with
 | zero=>intro f args M o out h;simp [walk] at h
 | succ d ih=>
  intro f args M o out h
  unfold walk at h
  split at h
  ·exact FM hT hm ih h
  ·rename_i f n tb
   cases hc:iz P f with
   | false=>simp [hc] at h
   | true=>
    simp only [hc,cond_true] at h
    split at h
    ·rename_i fn hf
     cases hb:Nat.ble args.length fn.ntmps with
     | false=>simp [hb] at h
     | true=>
      simp only [hb,cond_true] at h
      have hle:=Nat.le_of_ble_eq_true hb
      split at h
      ·rename_i c K6
       have key:∀ {todo':List Item} {s:RS},dN P T (walk P T d) fn.ntmps tb n [.code c] ⟨[],iE args 0,M,[],[]⟩=some (todo',s)→nL T fn.results.toList s=some out→(todo'=[]∨∃ k,todo'=.code .ret::k)→out.rd=none∧Bx P f args M out:=by
        intro todo' s hr he K7
        have eu:out.rd=none:=by
         unfold nL at he
         split at he
         ·simp only [Option.some.injEq] at he;subst he;rfl
         ·simp at he
        refine ⟨eu,hc,?_⟩
        intro D w0 K0 β F I w ys Rm hK hv hl ly
        have rv:bg s.vc:=by
         unfold nL at he
         split at he
         ·simp only [Option.some.injEq] at he;subst he;exact hv
         ·simp at he
        refine pY hf K6 ?_
        have r0:dr false D w0 K0 fn.ntmps ⟨β,F,I,M.length⟩ ⟨[],iE args 0,M,[],[]⟩ { tmps:=ys.toArray++Array.replicate (fn.ntmps-ys.toArray.size) undef,defers:=[] } w:=by
         refine ⟨by simp;omega,I,rfl,Nat.le_refl _,β,F,Rm,⟨fun _ _ _ h=>h,bR.refl _,fun _ _ _=>rfl⟩,?_⟩
         intro t v im
         obtain ⟨-,h2⟩:=qb args 0 (t,v) (l3 im)
         simp only [Nat.sub_zero] at h2
         obtain ⟨aI,-⟩:=List.getElem?_eq_some_iff.1 h2
         have iZ:ys[t]?=some ys[t]:=List.getElem?_eq_getElem (by omega)
         have he:({ tmps:=ys.toArray++Array.replicate (fn.ntmps-ys.toArray.size) undef,defers:=[] }:Act).eval (.tmp t)=ys[t]:=by
          have:t<ys.length:=by omega
          simp [Act.eval,Array.getD_eq_getD_getElem?,Array.getElem?_append,this]
         rw [he]
         exact ly t v _ h2 iZ
        refine kJ hT ih hm hK n hr r0 rv fun a' w' r'=>?_
        obtain ⟨-,-,v,h3,h4⟩:=Iq hT he r'
        rcases K7 with rfl | ⟨k,rfl⟩
        ·exact aC.fin hf (dr.nF r') h3 ⟨v,rfl,h4⟩
        ·exact aC.ret hf (dr.nF r') h3 ⟨v,rfl,h4⟩
       split at h
       ·rename_i k s hr;exact key hr h (Or.inr ⟨k,rfl⟩)
       ·rename_i s hr;exact key hr h (Or.inl rfl)
       ·simp at h
      ·simp at h
    ·simp at h
  ·simp at h
def xv (T:aJ) (E:List (Nat×AV)) (M:List ai) (rs:List ResultVar) (x:DV):Prop:=∃ l vc xs M',iU T E M rs=some l∧lb M l=some (vc,xs,M')∧bg vc∧ph xs=x
theorem ret (hT:bc P T=true) {fn:Func} (hf:P.funcs[f]?=some fn) {k:List Item} {x:DV} (r:du [] w0 K0 sz E M a w) (h:xv T E M fn.results.toList x):aC P f (.code .ret::k) (pg w0 K0 x) a w:=
 let ⟨_,_,_,_,h1,h2,h3,h4⟩:=h
 G7 hT hf r h1 h2 h3 h4
theorem fin (hT:bc P T=true) {fn:Func} (hf:P.funcs[f]?=some fn) {x:DV} (r:du [] w0 K0 sz E M a w) (h:xv T E M fn.results.toList x):aC P f [] (pg w0 K0 x) a w:=
 let ⟨_,_,_,_,h1,h2,h3,h4⟩:=h
 G8 hT hf r h1 h2 h3 h4
theorem aB.empty {k:Nat} {x:DV} {pre post:List AV} (h:∀ a c,aB P f (pre++.d (.v (.slice a 0 c))::post) x):aB P f (pre++.d (.ro k [])::post) x:=by
 refine ⟨(h none 0).1,fun w K ys hK hl hr=>?_⟩
 have hy:∃ a c,ys[pre.length]?=some (.slice a 0 c):=by
  have aI:pre.length<ys.length:=by rw [hl];simp
  have h1:=hr pre.length _ _ (by rw [List.getElem?_append_right (Nat.le_refl _),Nat.sub_self];rfl) (List.getElem?_eq_getElem aI)
  rw [List.getElem?_eq_getElem aI]
  generalize ys[pre.length]=y at h1
  cases h1 with | d h1=>cases h1 with | ro X hl hy hs hr=>obtain ⟨a,c,rfl,-⟩:=hy;exact ⟨a,c,rfl⟩
 obtain ⟨a,c,hy⟩:=hy
 refine (h a c).2 w K ys hK (by rw [hl];simp) fun j v y h1 h2=>?_
 rcases Nat.lt_trichotomy j pre.length with hj | hj | hj
 ·rw [List.getElem?_append_left hj] at h1
  exact hr j v y (by rw [List.getElem?_append_left hj];exact h1) h2
 ·subst hj
  rw [List.getElem?_append_right (Nat.le_refl _),Nat.sub_self] at h1
  simp only [List.getElem?_cons_zero,Option.some.injEq] at h1;subst h1
  rw [hy,Option.some.injEq] at h2;subst h2
  exact .d (.v _)
 ·rw [List.getElem?_append_right (by omega)] at h1
  have e:j-pre.length=(j-pre.length-1)+1:=by omega
  rw [e,List.getElem?_cons_succ] at h1
  exact hr j v y (by rw [List.getElem?_append_right (by omega),e,List.getElem?_cons_succ];exact h1) h2
theorem aB.nil {args:List AV} (T k:Nat) (h:aB P f args (.v (.slice none 0 0))):aB P f args (.em T k []):=by
 refine ⟨h.1,fun w K ys hK hl hr=>(h.2 w K ys hK hl hr).mono ?_⟩
 rintro e w' ⟨v,rfl,g,H,⟨Ho,Hi,rfl,hd⟩,n⟩
 cases hd
 refine ⟨_,rfl,g,_,⟨[],Hi,rfl,?_⟩,n⟩
 have:=bP.em (K:=fun w=>K w∧Holds w Hi) (T:=T) (k:=k) (rows:=[]) (H0:=[]) (fun _=>[]) (fun _ _=>[]) (by simp) (by simpa [lay] using ei.nil T k none) (by simp)
 simpa [bB] using this
end Go.Proofs.YtcnpikbbmbombaaGreatDoor
namespace Go.Proofs.YtcnpikbbmbombaaGreatDoor
open Go.RowKit
variable {mk:Bool} {P:Program} {T:aJ} {f:FuncId} {R:fB} {a:Act} {w:World} {D:List Nat} {w0:World} {K0:World→Prop} {E:List (Nat×AV)} {M:List ai} {β:Beta} {F:Nat→al} {I X:al} {sz:Nat} {tb:dH} {todo todo':List Item}
def tB (T:aJ) (rs:List ResultVar) (s:RS):Option (Prop×DV):=
 match iU T s.E s.M rs with
 | some l=>(match lb s.M l with | some (vc,xs,_)=>some (bg (s.vc++vc),ph xs) | none=>none)
 | none=>none
def BA (P:Program) (T:aJ) (sz:Nat) (rs:List ResultVar) (tb:dH) (n:Nat) (todo:List Item) (E:List (Nat×AV)) (M:List ai):Option (Prop×DV):=
 match dN P T (walk P T 3) sz tb n todo ⟨[],E,M,[],[]⟩ with
 | some (.code .ret::_,s)=>tB T rs s
 | some ([],s)=>tB T rs s
 | _=>none
theorem Ba {rs:List ResultVar} {s:RS} {A:Prop} {x:DV} (h:tB T rs s=some (A,x)) (hA:A):bg s.vc∧xv T s.E s.M rs x:=by
 unfold tB at h
 split at h
 ·rename_i l hl
  split at h
  ·rename_i vc xs M' hp
   simp only [Option.some.injEq,Prod.mk.injEq] at h
   obtain ⟨rfl,hx⟩:=h
   rw [bg.app] at hA
   exact ⟨hA.1,l,vc,xs,M',hl,hp,hA.2,hx⟩
  ·simp at h
 ·simp at h
theorem bj (hT:bc P T=true) (hm:P.follows .mixedOrders=true) (hK:∀ w,Kp [] w0 w→K0 w) {fn:Func} (hf:P.funcs[f]?=some fn) (tb:dH) (n:Nat) {x:DV} {A:Prop} (r:du [] w0 K0 sz E M a w)
  (h:BA P T sz fn.results.toList tb n todo E M=some (A,x)) (hA:A):aC P f todo (pg w0 K0 x) a w:=by
 unfold BA at h
 split at h
 ·rename_i k s hr
  obtain ⟨h1,h2⟩:=Ba h hA
  exact n8 hT (iN hT hm 3) hm hK n hr r h1 fun a' w' r'=>ret hT hf r' h2
 ·rename_i s hr
  obtain ⟨h1,h2⟩:=Ba h hA
  exact n8 hT (iN hT hm 3) hm hK n hr r h1 fun a' w' r'=>fin hT hf r' h2
 ·simp at h
theorem cD.lR (r:cD mk D w0 K0 sz E M a w) {l ts:List Nat} {M':List ai} {E':List (Nat×AV)} (hn:nodupB l=true) (hM:gk l M l=some M') (hE:jq l E ts=some E'):cD mk D w0 K0 sz E' M' a w:=by
 obtain ⟨h1,I,h2,β,F,Rm,hs⟩:=r
 obtain ⟨e1,e2⟩:=qn hM
 have aI:∀ u ∈ l,u<M.length:=by
  intro u hu
  obtain ⟨i,hi,rfl⟩:=List.getElem_of_mem hu
  obtain ⟨u',b0,g1,g2,-⟩:=e2 i M'[i] (List.getElem?_eq_getElem (by omega))
  rw [List.getElem?_eq_getElem hi,Option.some.injEq] at g1
  rw [g1];exact fe g2
 obtain ⟨rest,br⟩:=uV (oA hn) aI Rm.x
 refine ⟨h1,I,h2,fg β l,mz F l,⟨by rw [ui,e1],?_,?_⟩,vn hs hE⟩
 ·intro i b hb
  obtain ⟨u,b0,g1,g2,g3⟩:=e2 i b hb
  rw [uW g1];exact vk g1 g3 (Rm.blk u b0 g2)
 ·rw [e1,se]
  have:=br.l0
  exact this.perm (by classical rw [List.perm_iff_count];intro z;simp only [List.count_append,List.count_nil];omega)
def nv:Code→List Item→List (List Item)
 | .seq x y,k=>nv x (.code y::k)++nv y k
 | .cond _ x y,k=>nv x k++nv y k
 | .block id c,k=>nv c (.inBlock id::k)
 | .loop c,k=>(.code c::.inLoop c::k)::nv c (.inLoop c::k)
 | _,_=>[]
def hd (fn:Func) (n:Nat):List Item:=
 match fn.body with
 | some c=>(match (nv c [])[n]? with | some t=>t | none=>[])
 | none=>[]
def kz (l ts:List Nat) (t:List Item) (s:RS):Option (List Item×Prop×List (Nat×AV)×List ai):=
 match gk l s.M l,jq l s.E ts with
 | some M',some E'=>some (t,bg s.vc,E',M')
 | _,_=>none
def Cc (P:Program) (T:aJ) (sz:Nat) (tb:dH) (n:Nat) (l ts:List Nat) (todo:List Item) (E:List (Nat×AV)) (M:List ai):Option (List Item×Prop×List (Nat×AV)×List ai):=
 bif nodupB l then (match dN P T (walk P T 3) sz tb n todo ⟨[],E,M,[],[]⟩ with
 | some (.code (.loop c)::k,s)=>kz l ts (.code c::.inLoop c::k) s
 | some (.inLoop c::k,s)=>kz l ts (.code c::.inLoop c::k) s
 | _=>none) else none
theorem oE {l ts:List Nat} {t t':List Item} {s:RS} {A:Prop} {E':List (Nat×AV)} {M':List ai} (h:kz l ts t s=some (t',A,E',M')):t=t'∧bg s.vc=A∧gk l s.M l=some M'∧jq l s.E ts=some E':=by
 unfold kz at h
 split at h
 ·rename_i h1 h2
  simp only [Option.some.injEq,Prod.mk.injEq] at h
  obtain ⟨rfl,hA,rfl,rfl⟩:=h
  exact ⟨rfl,hA,h1,h2⟩
 ·simp at h
theorem cy (hT:bc P T=true) (hm:P.follows .mixedOrders=true) (hK:∀ w,Kp D w0 w→K0 w) (tb:dH) (n:Nat) (l ts:List Nat) {A:Prop} {E':List (Nat×AV)} {M':List ai} (r:cD mk D w0 K0 sz E M a w)
  (h:Cc P T sz tb n l ts todo E M=some (todo',A,E',M')) (hA:A) (k:∀ a' w',cD mk D w0 K0 sz E' M' a' w'→aC P f todo' R a' w'):aC P f todo R a w:=by
 unfold Cc at h
 cases hn:nodupB l with
 | false=>simp [hn] at h
 | true=>
  simp only [hn,cond_true] at h
  split at h
  ·rename_i c k' s hr
   obtain ⟨rfl,rfl,h3,h4⟩:=oE h
   exact n8 hT (iN hT hm 3) hm hK n hr r hA fun a' w' r'=>aC.loop (k a' w' (r'.lR hn h3 h4))
  ·rename_i c k' s hr
   obtain ⟨rfl,rfl,h3,h4⟩:=oE h
   exact n8 hT (iN hT hm 3) hm hK n hr r hA fun a' w' r'=>aC.again (k a' w' (r'.lR hn h3 h4))
  ·simp at h
end Go.Proofs.YtcnpikbbmbombaaGreatDoor
namespace Go.Proofs.YtcnpikbbmbombaaGreatDoor
open Go.RowKit
variable {mk:Bool} {P:Program} {T:aJ} {f:FuncId} {R:fB} {a:Act} {w:World} {D:List Nat} {w0:World} {K0:World→Prop} {E:List (Nat×AV)} {M:List ai} {β:Beta} {F:Nat→al} {I X:al} {sz:Nat} {tb:dH} {todo todo':List Item} {b:eT}
def dQ (mk:Bool) (D:List Nat) (w0:World) (K0:World→Prop) (sz:Nat) (b:eT) (E:List (Nat×AV)) (M:List ai) (a:Act) (w:World):Prop:=
 b.β.length=b.m∧∃ tc,dr mk D w0 K0 sz b ⟨[],E,M,tc,[]⟩ a w
abbrev RB (D:List Nat) (w0:World) (K0:World→Prop) (sz:Nat) (b:eT) (E:List (Nat×AV)) (M:List ai) (a:Act) (w:World):Prop:=dQ false D w0 K0 sz b E M a w
def Cd (D:List Nat) (w0:World) (K0:World→Prop) (b:eT) (x:AV) (M':List ai):Ending→World→Prop:=
 fun e w'=>∃ v,e=.returned v∧∃ ay F' I',RM D w0 K0 M' ay F' I' w'∧Ext b.β ay∧bR b.I I'∧ax (fun w=>K0 w∧Holds w I') ay x v
abbrev eX (D:List Nat) (w0:World) (K0:World→Prop) (b:eT) (x:AV) (M':List ai):fB:=.ends (Cd D w0 K0 b x M')
theorem aq.intro {fn:Func} {c:Code} {args:List AV} {x:AV} {M':List ai} (j6:iz P f=true) (hf:P.funcs[f]?=some fn) (hb:fn.body=some c) (n:Nat) (hn:fn.ntmps=n) (hle:Nat.ble args.length n=true)
  (h:∀ (D:List Nat) (w0:World) (K0:World→Prop) (b:eT) (a:Act) (w:World),(∀ w,Kp D w0 w→K0 w)→b.m=M.length→RB D w0 K0 n b (iE args 0) M a w→aC P f [.code c] (eX D w0 K0 b x M') a w):aq P f args M x M':=by
 refine ⟨j6,?_⟩
 intro D w0 K0 β F I w ys Rm hK hl hr
 have hle:=Nat.le_of_ble_eq_true hle
 refine pY hf hb (h D w0 K0 ⟨β,F,I,M.length⟩ _ w hK rfl ⟨Rm.len,[],by simp;omega,I,rfl,Nat.le_refl _,β,F,Rm,⟨fun _ _ _ h=>h,bR.refl _,fun _ _ _=>rfl⟩,?_⟩)
 intro t v hv
 obtain ⟨y,rfl,rfl,hy⟩:∃ y:Nat×AV,y.1=t∧y.2=v∧y ∈ iE args 0:=⟨(t,v),rfl,rfl,l3 hv⟩
 obtain ⟨-,h2⟩:=qb args 0 y hy
 simp only [Nat.sub_zero] at h2
 obtain ⟨aI,-⟩:=List.getElem?_eq_some_iff.1 h2
 have iZ:ys[y.1]?=some ys[y.1]:=List.getElem?_eq_getElem (by omega)
 have he:({ tmps:=ys.toArray++Array.replicate (fn.ntmps-ys.toArray.size) undef,defers:=[] }:Act).eval (.tmp y.1)=ys[y.1]:=by
  have:y.1<ys.length:=by omega
  simp [Act.eval,Array.getD_eq_getD_getElem?,Array.getElem?_append,this]
 rw [he]
 exact hr y.1 y.2 _ h2 iZ
def jW (m:Nat) (l:List Nat):Bool:=(List.range m).all fun i=>match l[i]? with | some u=>u.beq i | none=>false
theorem zE {m:Nat} {l:List Nat} (h:jW m l=true) {i:Nat} (hi:i<m):l[i]?=some i:=by
 have:=List.all_eq_true.1 h i (List.mem_range.2 hi)
 split at this
 ·rename_i u hu;rw [hu,Nat.eq_of_beq_eq_true this]
 ·simp at this
def iV (m:Nat) (mv:List Nat):Bool:=mv.all fun u=>Nat.ble m u
theorem Ir {m:Nat} {mv:List Nat} (h:iV m mv=true) {u:Nat} (hu:u<m):u ∉ mv:=fun hm=>by
 have:=Nat.le_of_ble_eq_true (List.all_eq_true.1 h u hm);omega
theorem z6 {l:List Nat} {M':List ai} (hn:nodupB l=true) (hM:gk l M l=some M') (Rm:RM D w0 K0 M β F I w):RM D w0 K0 M' (fg β l) (mz F l) I w:=by
 obtain ⟨e1,e2⟩:=qn hM
 have aI:∀ u ∈ l,u<M.length:=by
  intro u hu
  obtain ⟨i,hi,rfl⟩:=List.getElem_of_mem hu
  obtain ⟨u',b0,g1,g2,-⟩:=e2 i M'[i] (List.getElem?_eq_getElem (by omega))
  rw [List.getElem?_eq_getElem hi,Option.some.injEq] at g1
  rw [g1];exact fe g2
 obtain ⟨rest,br⟩:=uV (oA hn) aI Rm.x
 refine ⟨by rw [ui,e1],?_,?_⟩
 ·intro i b hb
  obtain ⟨u,b0,g1,g2,g3⟩:=e2 i b hb
  rw [uW g1];exact vk g1 g3 (Rm.blk u b0 g2)
 ·rw [e1,se]
  have:=br.l0
  exact this.perm (by classical rw [List.perm_iff_count];intro z;simp only [List.count_append,List.count_nil];omega)
theorem Bb {l mv tc:List Nat} (hb:b.β.length=b.m) (hs:jW b.m l=true) (hf:iV b.m mv=true) (h:Since b mv tc β F I):Ext b.β (fg β l):=by
 intro u x hx
 have hu:u<b.m:=by rw [← hb];exact (List.getElem?_eq_some_iff.1 hx).1
 exact ft (zE hs hu) (h.1 u x (Ir hf hu) hx)
theorem dr.lR {s:RS} (hb:b.β.length=b.m) (r:dr mk D w0 K0 sz b s a w) {l ts:List Nat} {M':List ai} {E':List (Nat×AV)} (hn:nodupB l=true) (hs:jW b.m l=true) (hf:iV b.m s.mv=true) (hM:gk l s.M l=some M') (hE:jq l s.E ts=some E'):dQ mk D w0 K0 sz b E' M' a w:=by
 obtain ⟨h1,I,h2,h3,β,F,Rm,b9,dY⟩:=r
 refine ⟨hb,List.range b.m,h1,I,h2,?_,fg β l,mz F l,z6 hn hM Rm,⟨(Bb hb hs hf b9).b _,b9.2.1,fun u hu hn=>absurd (List.mem_range.2 hu) hn⟩,vn dY hE⟩
 rw [(qn hM).1]
 rcases Nat.lt_or_ge l.length b.m with hl | hl
 ·have:=zE hs (i:=l.length) hl
  rw [List.getElem?_eq_none (Nat.le_refl _)] at this;cases this
 ·exact hl
def BB (P:Program) (T:aJ) (sz:Nat) (m:Nat) (tb:dH) (n:Nat) (l ts:List Nat) (todo:List Item) (E:List (Nat×AV)) (M:List ai):Option (List Item×Prop×List (Nat×AV)×List ai):=
 bif nodupB l&&jW m l then (match dN P T (walk P T 3) sz tb n todo ⟨[],E,M,[],[]⟩ with
 | some (.code (.loop c)::k,s)=>bif iV m s.mv then kz l ts (.code c::.inLoop c::k) s else none
 | some (.inLoop c::k,s)=>bif iV m s.mv then kz l ts (.code c::.inLoop c::k) s else none
 | _=>none) else none
theorem dQ.re (r:dQ mk D w0 K0 sz b E M a w):∃ b',dr mk D w0 K0 sz b' ⟨[],E,M,[],[]⟩ a w∧b'.β.length=b.m∧Ext b.β b'.β∧bR b.I b'.I∧b'.m=b.m:=by
 obtain ⟨hb,tc,h1,I,h2,h3,β,F,Rm,b9,dY⟩:=r
 refine ⟨⟨β.take b.m,F,I,b.m⟩,⟨h1,I,h2,h3,β,F,Rm,⟨fun u x _ hx=>?_,bR.refl _,fun _ _ _=>rfl⟩,dY⟩,?_,fun u x hx=>?_,b9.2.1,rfl⟩
 ·rw [List.getElem?_take] at hx
  split at hx
  ·exact hx
  ·simp at hx
 ·rw [List.length_take,Rm.len];have Pd:b.m≤M.length:=h3;omega
 ·have hu:u<b.m:=by rw [← hb];exact (List.getElem?_eq_some_iff.1 hx).1
  rw [List.getElem?_take,if_pos hu]
  exact b9.1 u x (by simp) hx
theorem dQ.from {b':eT} (ak:b'.m=b.m) (hb:b.β.length=b.m) (hE:Ext b.β b'.β) (hG:bR b.I b'.I) (r:dQ mk D w0 K0 sz b' E M a w):dQ mk D w0 K0 sz b E M a w:=by
 obtain ⟨-,tc,h1,I,h2,h3,β,F,Rm,b9,dY⟩:=r
 refine ⟨hb,List.range b.m,h1,I,h2,by rw [← ak];exact h3,β,F,Rm,⟨fun u x _ hx=>b9.1 u x (by simp) (hE u x hx),hG.trans b9.2.1,fun u hu hn=>absurd (List.mem_range.2 hu) hn⟩,dY⟩
theorem bT (hT:bc P T=true) (hm:P.follows .mixedOrders=true) (hK:∀ w,Kp D w0 w→K0 w) {m:Nat} (ak:b.m=m) (tb:dH) (n:Nat) (l ts:List Nat) {A:Prop} {E':List (Nat×AV)} {M':List ai} (r:dQ mk D w0 K0 sz b E M a w)
  (h:BB P T sz m tb n l ts todo E M=some (todo',A,E',M')) (hA:A) (k:∀ a' w',dQ mk D w0 K0 sz b E' M' a' w'→aC P f todo' R a' w'):aC P f todo R a w:=by
 subst ak
 have hb:=r.1
 obtain ⟨b',rb,aS,hE,hG,gP⟩:=r.re
 unfold BB at h
 cases hn:(nodupB l&&jW b.m l) with
 | false=>simp [hn] at h
 | true=>
  simp only [hn,cond_true] at h
  simp only [Bool.and_eq_true] at hn
  have key:∀ {s:RS} {a':Act} {w':World} {M':List ai} {E':List (Nat×AV)},iV b.m s.mv=true→gk l s.M l=some M'→jq l s.E ts=some E'→dr mk D w0 K0 sz b' s a' w'→dQ mk D w0 K0 sz b E' M' a' w':=fun hf h3 h4 r'=>
   dQ.from gP hb hE hG (r'.lR (by rw [aS,gP]) hn.1 (by rw [gP];exact hn.2) (by rw [gP];exact hf) h3 h4)
  split at h
  ·rename_i c k' s hr
   cases hf:iV b.m s.mv with
   | false=>simp [hf] at h
   | true=>
    simp only [hf,cond_true] at h
    obtain ⟨rfl,rfl,h3,h4⟩:=oE h
    exact kJ hT (iN hT hm 3) hm hK n hr rb hA fun a' w' r'=>aC.loop (k a' w' (key hf h3 h4 r'))
  ·rename_i c k' s hr
   cases hf:iV b.m s.mv with
   | false=>simp [hf] at h
   | true=>
    simp only [hf,cond_true] at h
    obtain ⟨rfl,rfl,h3,h4⟩:=oE h
    exact kJ hT (iN hT hm 3) hm hK n hr rb hA fun a' w' r'=>aC.again (k a' w' (key hf h3 h4 r'))
  ·simp at h
def pj (T:aJ) (m:Nat) (cJ:List Nat) (rs:List ResultVar) (s:RS):Option (Prop×AV×List ai):=
 bif nodupB cJ&&jW m cJ&&iV m s.mv then (match iU T s.E s.M rs with
 | some l=>(match gk cJ s.M cJ,tt cJ (yd l) with
  | some M',some x=>some (bg s.vc,x,M')
  | _,_=>none)
 | none=>none) else none
def Bc (P:Program) (T:aJ) (sz:Nat) (m:Nat) (rs:List ResultVar) (tb:dH) (n:Nat) (cJ:List Nat) (todo:List Item) (E:List (Nat×AV)) (M:List ai):Option (Prop×AV×List ai):=
 match dN P T (walk P T 3) sz tb n todo ⟨[],E,M,[],[]⟩ with
 | some (.code .ret::_,s)=>pj T m cJ rs s
 | some ([],s)=>pj T m cJ rs s
 | _=>none
theorem aP (hT:bc P T=true) (hm:P.follows .mixedOrders=true) (hK:∀ w,Kp D w0 w→K0 w) {fn:Func} (hf:P.funcs[f]?=some fn) {m:Nat} (ak:b.m=m) (tb:dH) (n:Nat) (cJ:List Nat) {x:AV} {M':List ai} {A:Prop} (r:RB D w0 K0 sz b E M a w)
  (h:Bc P T sz m fn.results.toList tb n cJ todo E M=some (A,x,M')) (hA:A):aC P f todo (eX D w0 K0 b x M') a w:=by
 subst ak
 have hb:=r.1
 obtain ⟨b',rb,aS,hE,hG,gP⟩:=r.re
 have key:∀ {s:RS} {a':Act} {w':World},pj T b.m cJ fn.results.toList s=some (A,x,M')→dr false D w0 K0 sz b' s a' w'→bg s.vc=A∧∃ v,(results fn a'.tmps).run P w'=.ok v w'∧Cd D w0 K0 b x M' (.returned v) w':=by
  intro s a' w' fk r'
  unfold pj at fk
  cases hc:(nodupB cJ&&jW b.m cJ&&iV b.m s.mv) with
  | false=>simp only [hc,cond_false,reduceCtorEq] at fk
  | true=>
   simp only [hc,cond_true] at fk
   simp only [Bool.and_eq_true] at hc
   split at fk
   ·rename_i l hl
    split at fk
    ·rename_i M1 x1 hM hx
     simp only [Option.some.injEq,Prod.mk.injEq] at fk
     obtain ⟨yX,rfl,rfl⟩:=fk
     refine ⟨yX,?_⟩
     obtain ⟨-,I,-,-,β,F,Rm,b9,hs⟩:=r'
     obtain ⟨ys,e1,e2,e3⟩:=oL hT Rm hs hl
     refine ⟨_,sk rfl e1,_,rfl,fg β cJ,mz F cJ,I,z6 hc.1.1 hM Rm,?_,hG.trans b9.2.1,A0 hx ?_⟩
     ·have:=Bb (b:=b') (by rw [aS,gP]) (by rw [gP];exact hc.1.2) (by rw [gP];exact hc.2) b9
      exact fun u q hq=>this u q (hE u q hq)
     ·match ys,l,e2,e3 with
      | [],[],_,_=>exact .tu [] rfl (by simp)
      | [y],[v],_,e3=>exact e3 0 v y rfl rfl
      | y::y'::ys,v::v'::l,e2,e3=>exact .tu _ e2 e3
    ·simp at fk
   ·simp at fk
 unfold Bc at h
 have dq:∀ {s:RS},pj T b.m cJ fn.results.toList s=some (A,x,M')→bg s.vc:=by
  intro s fk
  unfold pj at fk
  cases hc:(nodupB cJ&&jW b.m cJ&&iV b.m s.mv) with
  | false=>simp only [hc,cond_false,reduceCtorEq] at fk
  | true=>
   simp only [hc,cond_true] at fk
   split at fk
   ·split at fk
    ·simp only [Option.some.injEq,Prod.mk.injEq] at fk
     rw [fk.1];exact hA
    ·simp at fk
   ·simp at fk
 split at h
 ·rename_i k s hr
  refine kJ hT (iN hT hm 3) hm hK n hr rb (dq h) fun a' w' r'=>?_
  obtain ⟨-,v,h1,h2⟩:=key h r'
  exact aC.ret hf (dr.nF r') h1 h2
 ·rename_i s hr
  refine kJ hT (iN hT hm 3) hm hK n hr rb (dq h) fun a' w' r'=>?_
  obtain ⟨-,v,h1,h2⟩:=key h r'
  exact aC.fin hf (dr.nF r') h1 h2
 ·simp at h
theorem aQ {x y:AV} {N N':List ai} {todo:List Item} (e1:x=y) (e2:N=N') (h:aC P f todo (eX D w0 K0 b y N') a w):aC P f todo (eX D w0 K0 b x N) a w:=e1▸e2▸h
end Go.Proofs.YtcnpikbbmbombaaGreatDoor
namespace Go.Proofs.YtcnpikbbmbombaaGreatDoor
open Go.RowKit
def tb:aJ:=[
 (3,⟨.it .i64,1,8,[.int .i64 0]⟩),
 (5,⟨.it .u8,1,1,[.int .u8 0]⟩),
 (9,⟨.st,1,16,[.string .empty]⟩),
 (31,⟨.sl 5,1,24,[.slice none 0 0]⟩),
 (42,⟨.sr [0,1,2,3,4,5,6] [3,3,3,3,3,40,31],7,72,[.int .i64 0,.int .i64 0,.int .i64 0,.int .i64 0,.int .i64 0,.int .u64 0,.slice none 0 0]⟩),
 (25,⟨.sr [0,1,2] [3,22,23],3,56,[.int .i64 0,.slice none 0 0,.slice none 0 0]⟩),
 (40,⟨.it .u64,1,8,[.int .u64 0]⟩),
 (60,⟨.ar 2 3,2,16,[.int .i64 0,.int .i64 0]⟩),
 (87,⟨.sl 9,1,24,[.slice none 0 0]⟩),
 (23,⟨.sl 3,1,24,[.slice none 0 0]⟩),
 (22,⟨.sl 60,1,24,[.slice none 0 0]⟩),
 (4,⟨.pl,1,1,[.bool false]⟩),
 (94,⟨.sr [0,1,2,3,4,5,6] [9,4,4,4,4,4,4],7,24,[.string .empty,.bool false,.bool false,.bool false,.bool false,.bool false,.bool false]⟩),
 (26,⟨.sl 42,1,24,[.slice none 0 0]⟩),
 (71,⟨.sr [0,1] [69,31],2,32,[.pointer none,.slice none 0 0]⟩),
 (51,⟨.pl,1,8,[.pointer none]⟩),
 (61,⟨.pl,1,8,[.pointer none]⟩),
 (106,⟨.sr [0,1] [31,4],2,32,[.slice none 0 0,.bool false]⟩),
 (115,⟨.sr [0,1] [31,4],2,32,[.slice none 0 0,.bool false]⟩),
 (171,⟨.sr [0,1] [5,5],2,2,[.int .u8 0,.int .u8 0]⟩),
 (21,⟨.it .i32,1,4,[.int .i32 0]⟩),
 (113,⟨.pl,1,8,[.pointer none]⟩),
 (108,⟨.sr [0] [106],2,32,[.slice none 0 0,.bool false]⟩),
 (69,⟨.pl,1,8,[.pointer none]⟩),
 (159,⟨.it .u32,1,4,[.int .u32 0]⟩),
 (91,⟨.sr [0] [31],1,24,[.slice none 0 0]⟩),
 (95,⟨.ar 14 94,98,336,[.string .empty,.bool false,.bool false,.bool false,.bool false,.bool false,.bool false,.string .empty,.bool false,.bool false,.bool false,.bool false,.bool false,.bool false,.string .empty,.bool false,.bool false,.bool false,.bool false,.bool false,.bool false,.string .empty,.bool false,.bool false,.bool false,.bool false,.bool false,.bool false,.string .empty,.bool false,.bool false,.bool false,.bool false,.bool false,.bool false,.string .empty,.bool false,.bool false,.bool false,.bool false,.bool false,.bool false,.string .empty,.bool false,.bool false,.bool false,.bool false,.bool false,.bool false,.string .empty,.bool false,.bool false,.bool false,.bool false,.bool false,.bool false,.string .empty,.bool false,.bool false,.bool false,.bool false,.bool false,.bool false,.string .empty,.bool false,.bool false,.bool false,.bool false,.bool false,.bool false,.string .empty,.bool false,.bool false,.bool false,.bool false,.bool false,.bool false,.string .empty,.bool false,.bool false,.bool false,.bool false,.bool false,.bool false,.string .empty,.bool false,.bool false,.bool false,.bool false,.bool false,.bool false,.string .empty,.bool false,.bool false,.bool false,.bool false,.bool false,.bool false]⟩),
 (149,⟨.ar 24 5,24,24,List.replicate 24 (.int .u8 0)⟩),
 (160,⟨.ar 65 5,65,65,List.replicate 65 (.int .u8 0)⟩),
 (135,⟨.sl 40,1,24,[.slice none 0 0]⟩),
 (32,⟨.it .i64,1,8,[.int .i64 0]⟩),
 (98,⟨.it .u16,1,2,[.int .u16 0]⟩),
 (134,⟨.it .u64,1,8,[.int .u64 0]⟩),
 (79,⟨.pl,1,8,[.nilFunc]⟩),
 (146,⟨.ar 8 5,8,8,[.int .u8 0,.int .u8 0,.int .u8 0,.int .u8 0,.int .u8 0,.int .u8 0,.int .u8 0,.int .u8 0]⟩),
 (2,⟨.it .i64,1,8,[.int .i64 0]⟩),
 (158,⟨.ar 20 40,20,160,List.replicate 20 (.int .u64 0)⟩),
 (167,⟨.ar 32 5,32,32,List.replicate 32 (.int .u8 0)⟩),
 (168,⟨.ar 64 5,64,64,List.replicate 64 (.int .u8 0)⟩),
 (172,⟨.ar 16 171,32,32,List.replicate 32 (.int .u8 0)⟩),
 (121,⟨.pl,1,8,[.pointer none]⟩)]
theorem mo:bc Tryz.prog tb=true:=by kernel_rfl
theorem tq:Tryz.prog.follows .mixedOrders=true:=by kernel_rfl
end Go.Proofs.YtcnpikbbmbombaaGreatDoor
namespace Go.Proofs.YtcnpikbbmbombaaGreatDoor
open Go.RowKit
variable {P:Program}
theorem U {a b:Prop} (h:a) (k:b):a∧b:=⟨h,k⟩
theorem bv {a b:Bool} (h:a=b):DV.v (.bool a)=.v (.bool b):=by rw [h]
theorem wi {x y:Int} (h:x=y ∧ -9223372036854775808≤y∧y<9223372036854775808):IntKind.i64.wrap x=y:=by
 obtain ⟨rfl,h1,h2⟩:=h;simp [IntKind.wrap,IntKind.signed,IntKind.bits];omega
theorem wu {x y:Int} (h:x=y∧0≤y∧y<18446744073709551616):IntKind.u64.wrap x=y:=by
 obtain ⟨rfl,h1,h2⟩:=h;simp [IntKind.wrap,IntKind.signed,IntKind.bits];omega
theorem ne_of_beq_false {a b:Int} (h:(a==b)=false):a≠b:=by intro e;subst e;simp at h
theorem fY {a b:Int} (h:(a != b)=false):a=b:=by simpa [bne] using h
theorem pF (c:Bool):(jZ (Value.bool c)==some true)=c:=by cases c<;>rfl
theorem o6 (a b:Bool):∃ b0:Bool,(Value.bool a)=.bool b0∧(bif b0 then (bif a then Value.bool b else undef) else Value.bool false)=.bool (a&&b):=⟨a,rfl,by cases a<;>rfl⟩
theorem iq (x:DV):x=x:=rfl
theorem cR (n:Nat):n=n:=rfl
theorem aA (n:Int):n=n:=rfl
end Go.Proofs.YtcnpikbbmbombaaGreatDoor
namespace Go.Proofs.YtcnpikbbmbombaaGreatDoor
open Go.RowKit
variable {mk:Bool} {P:Program} {T:aJ} {f:FuncId} {R:fB} {a:Act} {w:World} {D:List Nat} {w0:World} {K0:World→Prop} {E E1:List (Nat×AV)} {M M1 M2:List ai} {β:Beta} {F:Nat→al} {I X:al} {sz:Nat} {b:eT}
theorem RM.nil (h:RM D w0 K0 M β F I w) (T k:Nat):RM D w0 K0 (M++[.rw T k []]) (β++[(none,0)]) (aH F M.length []) I w:=by
 refine h.new (Gr.refl w) (dE.nil w w) ?_
 have:bq (fun w=>K0 w∧Holds w I) (β++[(none,0)]) M.length (.rw T k []) ([]++bB ([]:List (List DV)).length k fun _ _=>[]):=
  .rw (c:=0) (a:=none) (by rw [List.getElem?_append_right (by rw [h.len];exact Nat.le_refl _),h.len];simp) (fun _=>[]) (fun _ _=>[]) (by simp) (by simpa [lay] using ei.nil T k none) (by simp)
 simpa [bB] using this
theorem RM.cells (h:RM D w0 K0 M β F I w) {u Tb:Nat} {cells cells':List AV} (hu:M[u]?=some (.bx Tb cells)) (hl:cells'.length=cells.length)
  (hc:∀ (j:Nat) c c0 y,cells'[j]?=some c→cells[j]?=some c0→ax (fun w=>K0 w∧Holds w I) β c0 y→ax (fun w=>K0 w∧Holds w I) β c y):RM D w0 K0 (M.set u (.bx Tb cells')) β F I w where
 len:=by rw [h.len,List.length_set]
 blk:=by
  intro v bl hv
  rw [List.getElem?_set] at hv
  split at hv
  ·rename_i NV;subst NV
   split at hv
   ·simp only [Option.some.injEq] at hv;subst hv
    have hr:=h.blk _ _ hu
    generalize F _=H at hr ⊢
    cases hr with
    | bx hb ys cN hr=>
     refine .bx hb ys (by omega) fun j c y h1 h2=>?_
     have hj:j<cells.length:=by rw [← hl];exact (List.getElem?_eq_some_iff.1 h1).1
     exact hc j c _ y h1 (List.getElem?_eq_getElem hj) (hr j _ y (List.getElem?_eq_getElem hj) h2)
   ·cases hv
  ·exact h.blk v bl hv
 st:=by rw [List.length_set];exact h.st
def pk (E:List (Nat×AV)) (t:Nat) (v:AV):List (Nat×AV):=E.map fun x=>bif x.1.beq t then (x.1,v) else x
theorem vw {t:Nat} {v:AV}:∀ {E:List (Nat×AV)} {s:Nat} {u:AV},bZ (pk E t v) s=some u→(s=t∧u=v∧∃ u0,bZ E t=some u0)∨(s≠t∧bZ E s=some u)
 | [],s,u,h=>by simp [pk,bZ] at h
 | (k,x)::r,s,u,h=>by
  have ih:=vw (t:=t) (v:=v) (E:=r) (s:=s) (u:=u)
  unfold pk at ih h
  rw [List.map_cons] at h
  cases hk:k.beq t with
  | true=>
   have NW:=Nat.eq_of_beq_eq_true hk;subst NW
   simp only [Nat.beq_refl,cond_true,bZ] at h ⊢
   cases hs:k.beq s with
   | true=>
    have:=Nat.eq_of_beq_eq_true hs;subst this
    rw [hs,cond_true,Option.some.injEq] at h
    exact Or.inl ⟨rfl,h.symm,x,rfl⟩
   | false=>
    rw [hs,cond_false] at h
    rcases ih h with ⟨rfl,-,-⟩ | h2
    ·rw [Nat.beq_refl] at hs;cases hs
    ·exact Or.inr h2
  | false=>
   simp only [hk,cond_false,bZ] at h ⊢
   cases hs:k.beq s with
   | true=>
    have:=Nat.eq_of_beq_eq_true hs;subst this
    rw [hs,cond_true] at h
    refine Or.inr ⟨?_,h⟩
    rintro rfl;rw [Nat.beq_refl] at hk;cases hk
   | false=>
    rw [hs,cond_false] at h
    exact ih h
def pG:List (Nat×Nat×Nat)→List (Nat×AV)→List ai→Option (List (Nat×AV)×List ai)
 | [],E,M=>some (E,M)
 | (t,T,k)::r,E,M=>match bZ E t with
  | some (.d (.v (.slice none 0 0)))=>pG r (pk E t (.sl M.length 0)) (M++[.rw T k []])
  | _=>none
def pH:List (Nat×Nat×Nat×Nat)→List ai→Option (List ai)
 | [],M=>some M
 | (u,o,T,k)::r,M=>match M[u]? with
  | some (.bx Tb cells)=>(match cells[o]? with
   | some (.d (.v (.slice none 0 0)))=>pH r ((M++[ai.rw T k []]).set u (.bx Tb (cells.set o (.sl M.length 0))))
   | _=>none)
  | _=>none
theorem BC (h:RM D w0 K0 M β F I w):(β++[((none:Option Addr),0)])[M.length]?=some (none,0):=by rw [List.getElem?_append_right (by rw [h.len];exact Nat.le_refl _),h.len];simp
theorem wA {ev:Nat→Value} {n:Nat}:∀ {ls:List (Nat×Nat×Nat)} {E:List (Nat×AV)} {M:List ai} {β:Beta} {F:Nat→al},pG ls E M=some (E1,M1)→n≤M.length→RM D w0 K0 M β F I w→(∀ t v,bZ E t=some v→ax (fun w=>K0 w∧Holds w I) β v (ev t))→
  ∃ ay F',RM D w0 K0 M1 ay F' I w∧Ext β ay∧(∀ u,u<n→F' u=F u)∧n≤M1.length∧∀ t v,bZ E1 t=some v→ax (fun w=>K0 w∧Holds w I) ay v (ev t)
 | [],E,M,β,F,h,hn,hR,hs=>by
  simp only [pG,Option.some.injEq,Prod.mk.injEq] at h;obtain ⟨rfl,rfl⟩:=h
  exact ⟨β,F,hR,fun _ _ h=>h,fun _ _=>rfl,hn,hs⟩
 | (t,T,k)::r,E,M,β,F,h,hn,hR,hs=>by
  unfold pG at h
  split at h
  ·rename_i ht
   obtain ⟨ay,F',h1,h2,h3,h4,h5⟩:=wA h (n:=n) (ev:=ev) (by simp;omega) (hR.nil T k) fun s v hv=>by
    rcases vw hv with ⟨rfl,rfl,-⟩ | ⟨-,h2⟩
    ·have:=hs s _ ht
     generalize ev s=y at this
     cases this with | d h=>cases h;exact .sl (BC hR)
    ·exact (hs s v h2).mono (fun _ h=>h) (Ext.app β [((none:Option Addr),0)])
   exact ⟨ay,F',h1,fun u x hx=>h2 u x (Ext.app β [((none:Option Addr),0)] u x hx),fun u hu=>(h3 u hu).trans (mb (tc:=[]) F [] u (by omega) (by simp)),h4,h5⟩
  ·cases h
theorem wB {ev:Nat→Value} {n:Nat}:∀ {lc:List (Nat×Nat×Nat×Nat)} {M:List ai} {β:Beta} {F:Nat→al},pH lc M=some M1→n≤M.length→RM D w0 K0 M β F I w→(∀ t v,bZ E t=some v→ax (fun w=>K0 w∧Holds w I) β v (ev t))→
  ∃ ay F',RM D w0 K0 M1 ay F' I w∧Ext β ay∧(∀ u,u<n→F' u=F u)∧n≤M1.length∧∀ t v,bZ E t=some v→ax (fun w=>K0 w∧Holds w I) ay v (ev t)
 | [],M,β,F,h,hn,hR,hs=>by
  simp only [pH,Option.some.injEq] at h;subst h
  exact ⟨β,F,hR,fun _ _ h=>h,fun _ _=>rfl,hn,hs⟩
 | (u,o,T,k)::r,M,β,F,h,hn,hR,hs=>by
  unfold pH at h
  split at h
  ·rename_i Tb cells hu
   split at h
   ·rename_i ho
    have NX:=hR.nil T k
    have NY:=NX.cells (cells':=cells.set o (.sl M.length 0)) (by rw [List.getElem?_append_left (List.getElem?_eq_some_iff.1 hu).1];exact hu) (by simp) fun j c c0 y h1 h2 h3=>by
     rw [List.getElem?_set] at h1
     split at h1
     ·rename_i hj;subst hj
      split at h1
      ·simp only [Option.some.injEq] at h1;subst h1
       rw [ho,Option.some.injEq] at h2;subst h2
       cases h3 with | d h=>cases h;exact .sl (BC hR)
      ·cases h1
     ·rw [h1,Option.some.injEq] at h2;subst h2;exact h3
    obtain ⟨ay,F',h1,h2,h3,h4,h5⟩:=wB h (n:=n) (ev:=ev) (by simp;omega) NY fun s v hv=>(hs s v hv).mono (fun _ h=>h) (Ext.app β [((none:Option Addr),0)])
    exact ⟨ay,F',h1,fun u x hx=>h2 u x (Ext.app β [((none:Option Addr),0)] u x hx),fun u hu=>(h3 u hu).trans (mb (tc:=[]) F [] u (by omega) (by simp)),h4,h5⟩
   ·cases h
  ·cases h
theorem cD.de (r:cD mk D w0 K0 sz E M a w) (ls:List (Nat×Nat×Nat)) (lc:List (Nat×Nat×Nat×Nat)) (h:pG ls E M=some (E1,M1)) (h2:pH lc M1=some M2):cD mk D w0 K0 sz E1 M2 a w:=by
 obtain ⟨g1,I,g2,β,F,hR,hs⟩:=r
 obtain ⟨pX,F1,r1,-,-,-,s1⟩:=wA (ev:=fun t=>a.eval (.tmp t)) (n:=0) h (Nat.zero_le _) hR hs
 obtain ⟨jg,F2,r2,-,-,-,s2⟩:=wB (ev:=fun t=>a.eval (.tmp t)) (n:=0) h2 (Nat.zero_le _) r1 s1
 exact ⟨g1,I,g2,jg,F2,r2,s2⟩
theorem cD.cast {E':List (Nat×AV)} {M':List ai} (r:cD mk D w0 K0 sz E M a w) (hE:E=E') (hM:M=M'):cD mk D w0 K0 sz E' M' a w:=hE▸hM▸r
theorem dQ.cast {E':List (Nat×AV)} {M':List ai} (r:dQ mk D w0 K0 sz b E M a w) (hE:E=E') (hM:M=M'):dQ mk D w0 K0 sz b E' M' a w:=hE▸hM▸r
theorem dQ.de (r:dQ mk D w0 K0 sz b E M a w) (ls:List (Nat×Nat×Nat)) (lc:List (Nat×Nat×Nat×Nat)) (h:pG ls E M=some (E1,M1)) (h2:pH lc M1=some M2):dQ mk D w0 K0 sz b E1 M2 a w:=by
 obtain ⟨hb,tc,g1,I,g2,g3,β,F,hR,b9,hs⟩:=r
 obtain ⟨pX,F1,r1,e1,f1,l1,s1⟩:=wA (ev:=fun t=>a.eval (.tmp t)) (n:=b.m) h g3 hR hs
 obtain ⟨jg,F2,r2,e2,f2,l2,s2⟩:=wB (ev:=fun t=>a.eval (.tmp t)) (n:=b.m) h2 l1 r1 s1
 exact ⟨hb,tc,g1,I,g2,l2,jg,F2,r2,⟨fun u x hu hx=>e2 u x (e1 u x (b9.1 u x hu hx)),b9.2.1,fun u hu hn=>(f2 u hu).trans ((f1 u hu).trans (b9.2.2 u hu hn))⟩,s2⟩
end Go.Proofs.YtcnpikbbmbombaaGreatDoor
namespace Go.Proofs.YtcnpikbbmbombaaGreatDoor
open Go.RowKit
variable {mk:Bool} {ro:Option Nat} {P:Program} {T:aJ} {cl:fQ} {f:FuncId} {R:fB} {a:Act} {w:World} {D:List Nat} {w0:World} {K0:World→Prop} {E:List (Nat×AV)} {M:List ai} {sz:Nat} {tb:dH} {todo todo':List Item} {ops:Array Oper} {Q:Exit→Act→World→Prop}
def s4 (P:Program) (T:aJ) (cl:fQ) (sz:Nat) (ops:Array Oper) (oc:List (Nat×aX)) (rd:List Nat) (i:Nat):RS→Option (List Nat×RS)
 | ⟨vc,E,M,tc,mv⟩=>match ops[i]? with
  | some o=>(bif gF sz o.dst then (match mA sz ops E o.guard with
   | some true=>(match step P T cl E M (mJ oc i) o.op with
    | some ⟨mY,av,_,_,_,some kf⟩=>some (kf++rd,⟨vc++mY,iF E o.dst av,M,tc,mv⟩)
    | _=>none)
   | some false=>some (rd,⟨vc,iF E o.dst (.d (.v undef)),M,tc,mv⟩)
   | none=>none) else none)
  | none=>none
def tC (P:Program) (T:aJ) (cl:fQ) (sz:Nat) (ops:Array Oper) (oc:List (Nat×aX)) (rd:List Nat) (i:Nat):RS→Option RS
 | ⟨vc,E,M,tc,mv⟩=>match ops[i]? with
  | some o=>(bif gF sz o.dst then (match mA sz ops E o.guard with
   | some true=>(match step P T cl E M (mJ oc i) o.op with
    | some out=>(bif ya rd out.tc&&Nat.ble M.length out.M.length then some ⟨vc++out.vc,iF (o5 out.mv E) o.dst out.av,out.M,out.tc++tc,out.mv++mv⟩ else none)
    | none=>none)
   | some false=>some ⟨vc,iF E o.dst (.d (.v undef)),M,tc,mv⟩
   | none=>none) else none)
  | none=>none
def tD (g:Nat→Option (List RS)):List Nat→Option (List RS)
 | []=>some []
 | j::r=>match g j,tD g r with | some l,some l'=>some (l++l') | _,_=>none
theorem vz {g:Nat→Option (List RS)}:∀ {r:List Nat} {l:List RS},tD g r=some l→∀ j ∈ r,∃ l',g j=some l'∧∀ s ∈ l',s ∈ l
 | [],_,_,j,hj=>by cases hj
 | i::r,l,h,j,hj=>by
  unfold tD at h
  split at h
  ·rename_i l1 l2 h1 h2
   simp only [Option.some.injEq] at h;subst h
   rcases List.mem_cons.1 hj with rfl | hj
   ·exact ⟨l1,h1,fun s hs=>List.mem_append_left _ hs⟩
   ·obtain ⟨l',h3,h4⟩:=vz h2 j hj
    exact ⟨l',h3,fun s hs=>List.mem_append_right _ (h4 s hs)⟩
  ·cases h
def mL (ops:Array Oper) (nl:List Nat) (L:Array Bool):rC:=match Region.ready .any ops L with
 | []=>.fin
 | i::r=>match l5 ops L ((i::r).filter fun j=>!(nl.elem j)) with
  | some j=>.look j
  | none=>.bad
theorem Au {nl:List Nat} {L:Array Bool} (h:mL ops nl L=.fin):Region.ready .any ops L=[]:=by
 unfold mL at h
 split at h
 ·assumption
 ·split at h<;>cases h
theorem FN {nl:List Nat} {L:Array Bool} {i:Nat} (h:mL ops nl L=.look i):i ∈ Region.ready .any ops L∧∃ o,ops[i]?=some o∧Region.free .any ops L i=true:=by
 unfold mL at h
 split at h
 ·cases h
 ·rename_i k r hr
  split at h
  ·rename_i j hj
   simp only [rC.look.injEq] at h;subst h
   obtain ⟨h1,h2⟩:=ov hj
   exact ⟨by rw [hr];exact (List.mem_filter.1 h1).1,h2⟩
  ·cases h
def kA (P:Program) (T:aJ) (cl:fQ) (sz:Nat) (ops:Array Oper) (oc:List (Nat×aX)) (nl:List Nat):Nat→Array Bool→List Nat→RS→Option (List RS)
 | 0,L,_,s=>(match mL ops nl L with | .fin=>some [s] | _=>none)
 | fuel+1,L,rd,s=>match mL ops nl L with
  | .fin=>some [s]
  | .look i=>(match s4 P T cl sz ops oc rd i s with
   | some (kf,s1)=>kA P T cl sz ops oc nl fuel (L.setIfInBounds i true) kf s1
   | none=>none)
  | _=>tD (fun j=>match tC P T cl sz ops oc rd j s with
   | some s1=>kA P T cl sz ops oc nl fuel (L.setIfInBounds j true) rd s1
   | none=>none) (Region.ready .any ops L)
theorem Ha {oc:List (Nat×aX)} {rd kf:List Nat} {i:Nat} {s s1:RS} (h:s4 P T cl sz ops oc rd i s=some (kf,s1)) (hv:bg s1.vc):bg s.vc:=by
 obtain ⟨vc,E,M,tc,mv⟩:=s
 unfold s4 at h
 dsimp only at h
 split at h
 ·rename_i o ho
  cases hd:gF sz o.dst with
  | false=>simp [hd] at h
  | true=>
   simp only [hd,cond_true] at h
   split at h
   ·split at h
    ·simp only [Option.some.injEq,Prod.mk.injEq] at h;obtain ⟨-,rfl⟩:=h;exact (bg.app.1 hv).1
    ·cases h
   ·simp only [Option.some.injEq,Prod.mk.injEq] at h;obtain ⟨-,rfl⟩:=h;exact hv
   ·cases h
 ·cases h
theorem Is {oc:List (Nat×aX)} {rd:List Nat} {i:Nat} {s s1:RS} (h:tC P T cl sz ops oc rd i s=some s1) (hv:bg s1.vc):bg s.vc:=by
 obtain ⟨vc,E,M,tc,mv⟩:=s
 unfold tC at h
 dsimp only at h
 split at h
 ·rename_i o ho
  cases hd:gF sz o.dst with
  | false=>simp [hd] at h
  | true=>
   simp only [hd,cond_true] at h
   split at h
   ·split at h
    ·rename_i out _
     cases hc:(ya rd out.tc&&Nat.ble M.length out.M.length) with
     | false=>simp [hc] at h
     | true=>simp only [hc,cond_true,Option.some.injEq] at h;subst h;exact (bg.app.1 hv).1
    ·cases h
   ·simp only [Option.some.injEq] at h;subst h;exact hv
   ·cases h
 ·cases h
theorem zF {nl:List Nat} {L:Array Bool} (h:mL ops nl L≠.fin):∃ j r,Region.ready .any ops L=j::r:=by
 unfold mL at h
 cases hr:Region.ready .any ops L with
 | nil=>rw [hr] at h;exact absurd rfl h
 | cons j r=>exact ⟨j,r,rfl⟩
theorem uZ {oc:List (Nat×aX)} {nl:List Nat}:∀ (fuel:Nat) (L:Array Bool) (rd:List Nat) (s:RS) {l:List RS},kA P T cl sz ops oc nl fuel L rd s=some l→∃ s' ∈ l,bg s'.vc→bg s.vc:=by
 intro fuel
 induction fuel with
 | zero=>
  intro L rd s l h
  unfold kA at h
  split at h
  ·simp only [Option.some.injEq] at h;subst h;exact ⟨s,by simp,id⟩
  ·cases h
 | succ fuel ih=>
  intro L rd s l h
  unfold kA at h
  split at h
  ·simp only [Option.some.injEq] at h;subst h;exact ⟨s,by simp,id⟩
  ·split at h
   ·rename_i hl
    obtain ⟨s',h1,h2⟩:=ih _ _ _ h
    exact ⟨s',h1,fun hv=>Ha hl (h2 hv)⟩
   ·cases h
  ·rename_i hn _
   obtain ⟨j,r,hr⟩:=zF (ops:=ops) (nl:=nl) (L:=L) (by intro hf;exact hn hf)
   obtain ⟨l',h1,h2⟩:=vz h j (by rw [hr];exact List.mem_cons_self)
   split at h1
   ·rename_i ho
    obtain ⟨s',h3,h4⟩:=ih _ _ _ h1
    exact ⟨s',h2 s' h3,fun hv=>Is ho (h4 hv)⟩
   ·cases h1
theorem Hb (hT:bc P T=true) (cQ:js P cl) {b:eT} (hK:∀ w,Kp D w0 w→K0 w) (iG:Region.noSelect ops=true) (hQ:∀ d v c a w,Q (.panic c) (Act.put a d v) w→Q (.panic c) a w) {oc:List (Nat×aX)} {nl:List Nat}:
  ∀ (fuel:Nat) (L:Array Bool) (rd:List Nat) (s:RS) {l:List RS} (Rk:World→Prop) (β:Beta) (F:Nat→al) (I:al) (a:Act) (w:World),kA P T cl sz ops oc nl fuel L rd s=some l→a.tmps.size=sz→Mk mk a.defers I→b.m≤s.M.length→RM D w0 K0 s.M β F I w→Since b s.mv s.tc β F I→
   (∀ t v,bZ s.E t=some v→ax (fun w=>K0 w∧Holds w I) β v (a.eval (.tmp t)))→(∀ u ∈ rd,u<s.M.length)→(∀ w,iT K0 I F rd w→Rk w)→(∀ s' ∈ l,bg s'.vc∧∀ a' w',dr mk D w0 K0 sz b s' a' w'→Q .normal a' w')→jX ro P ops Q Rk fuel L a w:=by
 intro fuel
 induction fuel with
 | zero=>
  intro L rd s l Rk β F I a w h size defers hm Rm b9 hs eu gm k
  have C:Ctx D w0 K0 s.E s.M β F I a.eval w:=⟨Rm,hs,fun _=>rfl,fun _=>rfl,fun _=>rfl,hK⟩
  have hR:=gm w (C.xI eu)
  unfold kA at h
  split at h
  ·rename_i hn
   simp only [Option.some.injEq] at h;subst h
   exact ⟨hR,Au hn,(k s (by simp)).2 a w ⟨size,I,defers,hm,β,F,Rm,b9,hs⟩⟩
  ·cases h
 | succ fuel ih=>
  intro L rd s l Rk β F I a w h size defers hm Rm b9 hs eu gm k
  have C:Ctx D w0 K0 s.E s.M β F I a.eval w:=⟨Rm,hs,fun _=>rfl,fun _=>rfl,fun _=>rfl,hK⟩
  have hR:=gm w (C.xI eu)
  unfold kA at h
  split at h
  ·rename_i hn
   simp only [Option.some.injEq] at h;subst h
   have hn:=Au hn
   exact ⟨hR,fun _=>(k s (by simp)).2 a w ⟨size,I,defers,hm,β,F,Rm,b9,hs⟩,fun i hi=>by rw [hn] at hi;cases hi⟩
  ·rename_i i hn
   obtain ⟨rE,o',NI,ln⟩:=FN hn
   split at h
   ·rename_i Pe s1 hl
    obtain ⟨s',eU,dq⟩:=uZ _ _ _ _ h
    have dt:=dq (k s' eU).1
    obtain ⟨vc,E,M,tc,mv⟩:=s
    dsimp only at hm Rm b9 hs eu gm C
    unfold s4 at hl
    dsimp only at hl
    split at hl
    ·rename_i o ho
     cases hd:gF sz o.dst with
     | false=>simp [hd] at hl
     | true=>
      simp only [hd,cond_true] at hl
      have nT:=fun j oj hj jL lP jy=>Region.free_spec ho ln j oj hj jL lP jy
      split at hl
      ·rename_i hw
       have fi:=kn (ops:=ops) size hs hw
       split at hl
       ·rename_i mY av _ _ _ kf br
        simp only [Option.some.injEq,Prod.mk.injEq] at hl;obtain ⟨rfl,rfl⟩:=hl
        have n7:=oK (P:=P) hT cQ (d:=o.dst) (ty:=o.type) (pos:=o.pos) (aft:=o.after) (gd:=o.guard) br
        obtain ⟨yb,rfl,-,aI⟩:=n7
        have lA:=(bg.app.1 dt).2
        obtain ⟨v,ly,mE⟩:=yb C lA
        obtain ⟨e1,e2,e3⟩:=RE.put (E:=E) size defers hs hd ly
        have kx:=ih (L.setIfInBounds i true) _ _ (fun w=>Rk w∧iT K0 I F kf w) β F I (a.put o.dst v) w h e1 e2 hm Rm b9 e3 (fun u hu=>by rcases List.mem_append.1 hu with e | e;exact aI u e;exact eu u e)
         (fun w hw=>⟨gm w ⟨hw.1,fun u hu=>hw.2 u (List.mem_append_right _ hu)⟩,hw.1,fun u hu=>hw.2 u (List.mem_append_left _ hu)⟩) k
        exact zl (fun w hw=>hw.1) (zi ho (Region.noSelect_spec iG) (hQ o.dst v) _ L a w nT rE (Or.inl ⟨fi,fun w' dX=>mE w' dX.2⟩) kx)
       ·cases hl
      ·rename_i hw
       simp only [Option.some.injEq,Prod.mk.injEq] at hl;obtain ⟨rfl,rfl⟩:=hl
       have fi:=kn (ops:=ops) size hs hw
       obtain ⟨e1,e2,e3⟩:=RE.put (E:=E) size defers hs hd (.d (.v undef))
       have kx:=ih (L.setIfInBounds i true) _ _ Rk β F I (a.put o.dst undef) w h e1 e2 hm Rm b9 e3 eu gm k
       exact zi ho (Region.noSelect_spec iG) (hQ o.dst undef) _ L a w nT rE (Or.inr ⟨fi,rfl⟩) kx
      ·cases hl
    ·cases hl
   ·cases h
  ·rename_i hn _
   obtain ⟨j0,r0,DC⟩:=zF (ops:=ops) (nl:=nl) (L:=L) (by intro hf;exact hn hf)
   refine ⟨hR,fun h0=>(by rw [DC] at h0;cases h0),fun j hj=>?_⟩
   obtain ⟨l',h1,h2⟩:=vz h j hj
   split at h1
   ·rename_i s1 iJ
    obtain ⟨s',eU,dq⟩:=uZ _ _ _ _ h1
    have dt:=dq (k s' (h2 s' eU)).1
    obtain ⟨vc,E,M,tc,mv⟩:=s
    dsimp only at hm Rm b9 hs eu gm C
    unfold tC at iJ
    dsimp only at iJ
    unfold wpOpIn
    split at iJ
    ·rename_i o ho
     simp only [ho]
     cases hd:gF sz o.dst with
     | false=>simp [hd] at iJ
     | true=>
      simp only [hd,cond_true] at iJ
      split at iJ
      ·rename_i hw
       have fi:=kn (ops:=ops) size hs hw
       simp only [fi,if_true]
       split at iJ
       ·rename_i out br
        cases hc:(ya rd out.tc&&Nat.ble M.length out.M.length) with
        | false=>simp [hc] at iJ
        | true=>
         simp only [hc,cond_true,Option.some.injEq] at iJ;subst iJ
         simp only [Bool.and_eq_true] at hc
         have hlen:=Nat.le_of_ble_eq_true hc.2
         have lA:=(bg.app.1 dt).2
         have n7:=(oK (P:=P) hT cQ (d:=o.dst) (ty:=o.type) (pos:=o.pos) (aft:=o.after) (gd:=o.guard) br).px C lA
         refine aY.wp n7 ?_
         rintro v w' ⟨ay,F',I',R',e,hI,hF,mZ⟩
         have hk:=uY (ρ:=a.eval) e hs
         obtain ⟨e1,e2,e3⟩:=RE.put size (defers.grow hI) (fun t v hx=>(hk t v hx).mono (fun w hw=>⟨hw.1,hI.holds w hw.2⟩) (Ext.refl _)) hd mZ
         refine ih (L.setIfInBounds j true) _ _ Rk ay F' I' (a.put o.dst v) w' h1 e1 e2 (Nat.le_trans hm hlen) R' (b9.step hm e hI hF) e3 (fun u hu=>Nat.lt_of_lt_of_le (eu u hu) hlen) (fun w hw=>gm w ⟨⟨hw.1.1,hI.holds w hw.1.2⟩,fun u hu=>?_⟩) fun s' eU=>k s' (h2 s' eU)
         have yV:u ∉ out.tc:=by
          have:=List.all_eq_true.1 hc.1 u hu
          simpa using this
         rw [← hF u (eu u hu) yV];exact hw.2 u hu
       ·cases iJ
      ·rename_i hw
       simp only [Option.some.injEq] at iJ;subst iJ
       have fi:=kn (ops:=ops) size hs hw
       simp only [fi,Bool.false_eq_true,if_false]
       obtain ⟨e1,e2,e3⟩:=RE.put (E:=E) size defers hs hd (.d (.v undef))
       exact ⟨fun _ _=>trivial,ih (L.setIfInBounds j true) _ _ Rk β F I (a.put o.dst undef) w h1 e1 e2 hm Rm b9 e3 eu gm fun s' eU=>k s' (h2 s' eU)⟩
      ·cases iJ
    ·cases iJ
   ·cases h1
theorem ME (hT:bc P T=true) (cQ:js P cl) (hm:P.follows .mixedOrders=true) (hK:∀ w,Kp D w0 w→K0 w) (hQ:∀ d v c a w,Q (.panic c) (Act.put a d v) w→Q (.panic c) a w) {b:eT} {s:RS} (R:dr mk D w0 K0 sz b s a w) (oc:List (Nat×aX)) {nl:List Nat} {id:Nat} {l:List RS} (iG:Region.noSelect ops=true)
  (h:kA P T cl sz ops oc nl ops.size (Array.replicate ops.size false) [] s=some l) (k:∀ s' ∈ l,bg s'.vc∧∀ a' w',dr mk D w0 K0 sz b s' a' w'→Q .normal a' w'):(Code.region id ops true).wpIn (Fl ro) 0 P Q a w:=by
 refine wpIn_region_any hm ?_
 obtain ⟨size,I,defers,hb,β,F,Rm,b9,hs⟩:=R
 have hg:=Gr.drew w
 exact (Hb hT cQ hK iG hQ ops.size _ [] s (fun _=>True) β F I a w.drew h size defers hb (Rm.gr hg) b9 hs (by simp) (fun _ _=>trivial) k).to
def oM (ts:List Nat):List (List Nat)→List RS→Option (List Prop×List (List (Nat×AV)×List ai))
 | [],[]=>some ([],[])
 | l::ls,s::r=>bif nodupB l then (match gk l s.M l,jq l s.E ts,oM ts ls r with
  | some M',some E',some (A,r')=>some (bg s.vc::A,(E',M')::r')
  | _,_,_=>none) else none
 | _,_=>none
theorem zG {ts:List Nat} {E':List (Nat×AV)} {M':List ai}:∀ {ls:List (List Nat)} {r:List RS} {A:List Prop} {o:List (List (Nat×AV)×List ai)},oM ts ls r=some (A,o)→(∀ x ∈ o,x=(E',M'))→bg A→∀ s ∈ r,bg s.vc∧∃ l,nodupB l=true∧gk l s.M l=some M'∧jq l s.E ts=some E'
 | [],[],_,_,_,_,_,s,hs=>by cases hs
 | [],_::_,_,_,h,_,_,_,_=>by simp [oM] at h
 | _::_,[],_,_,h,_,_,_,_=>by simp [oM] at h
 | l::ls,s::r,A,o,h,ho,hA,s',eU=>by
  unfold oM at h
  cases hn:nodupB l with
  | false=>simp [hn] at h
  | true=>
   simp only [hn,cond_true] at h
   split at h
   ·rename_i M1 E1 A1 r1 h1 h2 h3
    simp only [Option.some.injEq,Prod.mk.injEq] at h;obtain ⟨rfl,rfl⟩:=h
    have e:=ho _ List.mem_cons_self
    simp only [Prod.mk.injEq] at e;obtain ⟨rfl,rfl⟩:=e
    rcases List.mem_cons.1 eU with rfl | eU
    ·exact ⟨hA.1,l,hn,h1,h2⟩
    ·exact zG h3 (fun x hx=>ho x (List.mem_cons_of_mem _ hx)) hA.2 s' eU
   ·cases h
def Bd (P:Program) (T:aJ) (sz:Nat) (tb:dH) (n:Nat) (nl:List Nat) (yY:List (List Nat)) (ts:List Nat) (todo:List Item) (E:List (Nat×AV)) (M:List ai):Option (List Item×Prop×List (List (Nat×AV)×List ai)):=
 match dN P T (walk P T 3) sz tb n todo ⟨[],E,M,[],[]⟩ with
 | some (.code (.region id ops true)::k,s)=>bif Region.noSelect ops then (match kA P T (walk P T 3) sz ops (yc tb id) nl ops.size (Array.replicate ops.size false) [] s with
  | some Ls=>(match oM ts yY Ls with | some (A,o)=>some (k,bg A,o) | none=>none)
  | none=>none) else none
 | _=>none
theorem JM (hT:bc P T=true) (hm:P.follows .mixedOrders=true) (hK:∀ w,Kp D w0 w→K0 w) (tb:dH) (n m:Nat) (nl:List Nat) (yY:List (List Nat)) (ts:List Nat) {A:Prop} {E':List (Nat×AV)} {M':List ai} (r:cD mk D w0 K0 sz E M a w)
  (h:Bd P T sz tb n nl yY ts todo E M=some (todo',A,List.replicate m (E',M'))) (hA:A) (k:∀ a' w',cD mk D w0 K0 sz E' M' a' w'→aC P f todo' R a' w'):aC P f todo R a w:=by
 unfold Bd at h
 split at h
 ·rename_i id ops k0 s hr
  cases hs:Region.noSelect ops with
  | false=>simp [hs] at h
  | true=>
   simp only [hs,cond_true] at h
   split at h
   ·rename_i Ls hL
    split at h
    ·rename_i A1 o ho
     simp only [Option.some.injEq,Prod.mk.injEq] at h;obtain ⟨rfl,rfl,rfl⟩:=h
     have hl:=zG ho (fun x hx=>List.eq_of_mem_replicate hx) hA
     obtain ⟨s1,h1,h2⟩:=uZ _ _ _ _ hL
     obtain ⟨b,rb⟩:=r.b []
     refine kJ hT (iN hT hm 3) hm hK n hr rb (h2 (hl s1 h1).1) fun a1 w1 r1=>aC.code ?_
     refine ME hT (iN hT hm 3) hm hK (by rintro d v c a w ⟨h,-⟩;cases h) r1 _ hs hL fun s' eU=>⟨(hl s' eU).1,fun a' w' r'=>⟨rfl,?_⟩⟩
     obtain ⟨-,l,g1,g2,g3⟩:=hl s' eU
     exact k a' w' (r'.re.lR g1 g2 g3)
    ·cases h
   ·cases h
 ·cases h
def Ce (P:Program) (T:aJ) (sz:Nat) (tb:dH) (n:Nat) (l ts:List Nat) (todo:List Item) (E:List (Nat×AV)) (M:List ai):Option (List Item×Prop×List (Nat×AV)×List ai):=
 bif nodupB l then (match dN P T (walk P T 3) sz tb n todo ⟨[],E,M,[],[]⟩ with
 | some (t,s)=>kz l ts t s
 | none=>none) else none
theorem CL (hT:bc P T=true) (hm:P.follows .mixedOrders=true) (hK:∀ w,Kp D w0 w→K0 w) (tb:dH) (n:Nat) (l ts:List Nat) {A:Prop} {E':List (Nat×AV)} {M':List ai} (r:cD mk D w0 K0 sz E M a w)
  (h:Ce P T sz tb n l ts todo E M=some (todo',A,E',M')) (hA:A) (k:∀ a' w',cD mk D w0 K0 sz E' M' a' w'→aC P f todo' R a' w'):aC P f todo R a w:=by
 unfold Ce at h
 cases hn:nodupB l with
 | false=>simp [hn] at h
 | true=>
  simp only [hn,cond_true] at h
  split at h
  ·rename_i t s hr
   unfold kz at h
   split at h
   ·rename_i M1 E1 hM hE
    simp only [Option.some.injEq,Prod.mk.injEq] at h
    obtain ⟨rfl,rfl,rfl,rfl⟩:=h
    exact n8 hT (iN hT hm 3) hm hK n hr r hA fun a' w' r'=>k a' w' (r'.lR hn hM hE)
   ·cases h
  ·cases h
def nM (id:Nat):Code→List Item→List (List Item)
 | .seq x y,k=>nM id x (.code y::k)++nM id y k
 | .cond _ x y,k=>nM id x k++nM id y k
 | .block i c,k=>nM id c (.inBlock i::k)
 | .loop c,k=>nM id c (.inLoop c::k)
 | .region i _ _,k=>bif i.beq id then [k] else []
 | _,_=>[]
def aft (fn:Func) (id:Nat):List Item:=
 match fn.body with
 | some c=>(match nM id c [] with | t::_=>t | []=>[])
 | none=>[]
end Go.Proofs.YtcnpikbbmbombaaGreatDoor
namespace Go.Proofs.YtcnpikbbmbombaaGreatDoor
open Go.RowKit
variable {mk:Bool} {P:Program} {T:aJ} {f:FuncId} {R:fB} {a:Act} {w:World} {D:List Nat} {w0:World} {K0:World→Prop} {E:List (Nat×AV)} {M:List ai} {sz:Nat} {todo todo':List Item} {b:eT}
theorem dQ.key (r:dQ mk D w0 K0 sz b E M a w):∃ b',dr mk D w0 K0 sz b' ⟨[],E,M,[],[]⟩ a w∧∀ {s:RS} {a':Act} {w':World} {M':List ai} {E':List (Nat×AV)} {l ts:List Nat},nodupB l=true→jW b.m l=true→iV b.m s.mv=true→gk l s.M l=some M'→jq l s.E ts=some E'→dr mk D w0 K0 sz b' s a' w'→dQ mk D w0 K0 sz b E' M' a' w':=by
 have hb:=r.1
 obtain ⟨b',rb,aS,hE,hG,gP⟩:=r.re
 exact ⟨b',rb,fun hn hs hf h3 h4 r'=>dQ.from gP hb hE hG (r'.lR (by rw [aS,gP]) hn (by rw [gP];exact hs) (by rw [gP];exact hf) h3 h4)⟩
def BD (P:Program) (T:aJ) (sz m:Nat) (tb:dH) (n:Nat) (l ts:List Nat) (todo:List Item) (E:List (Nat×AV)) (M:List ai):Option (List Item×Prop×List (Nat×AV)×List ai):=
 bif nodupB l&&jW m l then (match dN P T (walk P T 3) sz tb n todo ⟨[],E,M,[],[]⟩ with
 | some (t,s)=>bif iV m s.mv then kz l ts t s else none
 | none=>none) else none
theorem bC (hT:bc P T=true) (hm:P.follows .mixedOrders=true) (hK:∀ w,Kp D w0 w→K0 w) {m:Nat} (ak:b.m=m) (tb:dH) (n:Nat) (l ts:List Nat) {A:Prop} {E':List (Nat×AV)} {M':List ai} (r:dQ mk D w0 K0 sz b E M a w)
  (h:BD P T sz m tb n l ts todo E M=some (todo',A,E',M')) (hA:A) (k:∀ a' w',dQ mk D w0 K0 sz b E' M' a' w'→aC P f todo' R a' w'):aC P f todo R a w:=by
 subst ak
 obtain ⟨b',rb,key⟩:=r.key
 unfold BD at h
 cases hn:(nodupB l&&jW b.m l) with
 | false=>simp [hn] at h
 | true=>
  simp only [hn,cond_true] at h
  simp only [Bool.and_eq_true] at hn
  split at h
  ·rename_i t s hr
   cases hf:iV b.m s.mv with
   | false=>simp [hf] at h
   | true=>
    simp only [hf,cond_true] at h
    obtain ⟨rfl,rfl,hM,hE⟩:=oE h
    exact kJ hT (iN hT hm 3) hm hK n hr rb hA fun a' w' r'=>k a' w' (key hn.1 hn.2 hf hM hE r')
  ·cases h
end Go.Proofs.YtcnpikbbmbombaaGreatDoor
namespace Go.Proofs.YtcnpikbbmbombaaGreatDoor
open Go.RowKit
variable {mk:Bool} {P:Program} {f:FuncId}
def Le (x x':DV):Prop:=∀ (K:World→Prop) (y:Value) (H:al),bP K x y H→bP K x' y H
theorem Le.refl (x:DV):Le x x:=fun _ _ _ h=>h
theorem Le.Cf (T k:Nat):Le (.v (.slice none 0 0)) (.em T k []):=by
 intro K y H h
 cases h
 have:bP K (.em T k []) (.slice none 0 0) ([]++bB ([]:List (List DV)).length k fun _ _=>[]):=.em (fun _=>[]) (fun _ _=>[]) (by simp) (by simpa [lay] using ei.nil T k none) (by simp)
 simpa [bB] using this
theorem Le.Cg (k:Nat):Le (.v (.slice none 0 0)) (.ro k []):=by
 intro K y H h
 cases h
 exact .ro (fun _=>[]) (by simp) ⟨none,0,rfl,Nat.le_refl _⟩ (fun w _=>by simpa [lay] using (ei.nil 0 k none).src (Holds.nil w)) (by simp)
theorem Le.ag {l l':List DV} (hl:l.length=l'.length) (h:∀ (j:Nat) c c',l[j]?=some c→l'[j]?=some c'→Le c c'):Le (.ag l) (.ag l'):=by
 intro K y H r
 cases r with
 | ag ys F kP hr=>
  rw [hl]
  refine .ag ys F (by omega) fun j c z h1 h2=>?_
  have hj:j<l.length:=by rw [hl];exact (List.getElem?_eq_some_iff.1 h1).1
  exact h j _ c (List.getElem?_eq_getElem hj) h1 K z _ (hr j _ z (List.getElem?_eq_getElem hj) h2)
theorem Le.tu {l l':List DV} (hl:l.length=l'.length) (h:∀ (j:Nat) c c',l[j]?=some c→l'[j]?=some c'→Le c c'):Le (.tu l) (.tu l'):=by
 intro K y H r
 cases r with
 | tu ys F kP hr=>
  rw [hl]
  refine .tu ys F (by omega) fun j c z h1 h2=>?_
  have hj:j<l.length:=by rw [hl];exact (List.getElem?_eq_some_iff.1 h1).1
  exact h j _ c (List.getElem?_eq_getElem hj) h1 K z _ (hr j _ z (List.getElem?_eq_getElem hj) h2)
theorem aB.le {args:List AV} {x x':DV} (h:aB P f args x) (e:Le x x'):aB P f args x':=by
 refine ⟨h.1,fun w K ys hK hl hr=>(h.2 w K ys hK hl hr).mono ?_⟩
 rintro ed w' ⟨v,rfl,g,H,⟨Ho,Hi,rfl,hd⟩,n⟩
 exact ⟨_,rfl,g,_,⟨Ho,Hi,rfl,e _ _ _ hd⟩,n⟩
inductive dh:List DV→List DV→Prop where
 | nil:dh [] []
 | cons {x x':DV} {l l':List DV} (h:Le x x') (t:dh l l'):dh (x::l) (x'::l')
theorem dh.ok {l l':List DV} (h:dh l l'):l.length=l'.length∧∀ (j:Nat) c c',l[j]?=some c→l'[j]?=some c'→Le c c':=by
 induction h with
 | nil=>simp
 | cons h t ih=>
  refine ⟨by simp [ih.1],fun j c c' h1 h2=>?_⟩
  cases j with
  | zero=>simp at h1 h2;subst h1 h2;exact h
  | succ j=>exact ih.2 j c c' (by simpa using h1) (by simpa using h2)
theorem dh.tu {l l':List DV} (h:dh l l'):Le (.tu l) (.tu l'):=Le.tu h.ok.1 h.ok.2
end Go.Proofs.YtcnpikbbmbombaaGreatDoor
namespace Go.Proofs.YtcnpikbbmbombaaGreatDoor
open Go.RowKit
variable {mk:Bool} {P:Program} {T:aJ} {f:FuncId} {a:Act} {w:World} {D:List Nat} {w0:World} {K0:World→Prop} {E E1:List (Nat×AV)} {M M1 M2:List ai} {β:Beta} {F:Nat→al} {I X:al} {sz:Nat} {b:eT}
def MF:List Nat→List ai→Option (List ai)
 | [],M=>some M
 | u::r,M=>match M[u]? with
  | some (.rw T k rows)=>MF r (M.set u (.rw T k (cb rows)))
  | _=>none
theorem RM.Ch (R:RM D w0 K0 M β F I w) {v n T k:Nat} {rows:List (List DV)} (hv:M[v]?=some (.rw T k rows)) (hn:n=rows.length):∃ F' I',RM D w0 K0 (M.set v .dead) β F' I' w∧bR I I'∧∀ y,ax (fun w=>K0 w∧Holds w I) β (.sl v n) y→ax (fun w=>K0 w∧Holds w I') β (.d (.ro k (cb rows))) y:=by
 have R1:=R.x.fj hv
 rw [List.nil_append] at R1
 have hB:=R.blk v _ hv
 refine ⟨aH F v [],F v++I,⟨R1.len,fun u bl hu=>(R1.blk u bl hu).mono (fun w hw=>⟨hw.1,(Holds.app.1 hw.2).2⟩) (Ext.refl _),R1.st.perm (List.Perm.append_left _ List.perm_append_comm)⟩,⟨F v,rfl⟩,fun y r=>?_⟩
 generalize F v=Fv at hB ⊢
 cases r with
 | sl hb=>
  cases hB with
  | rw aS X G hl hs hr=>
   rw [hb] at aS;cases aS
   have hd:=bP.em (K:=fun w=>K0 w∧Holds w I) X G hl hs hr
   have:=sn (K':=fun w=>K0 w∧Holds w (_++I)) hd fun w hw=>⟨⟨hw.1,(Holds.app.1 hw.2).2⟩,(Holds.app.1 hw.2).1⟩
   rw [eR] at this
   rw [hn]
   exact .d this
def rG:List Nat→List (Nat×AV)→List ai→Option (List Prop×List (Nat×AV)×List ai)
 | [],E,M=>some ([],E,M)
 | t::r,E,M=>match bZ E t with
  | some (.sl v n)=>(match M[v]? with
   | some (.rw _ k rows)=>(match rG r (pk E t (.d (.ro k (cb rows)))) (M.set v .dead) with | some (p,E',M')=>some ((n=rows.length)::p,E',M') | none=>none)
   | _=>none)
  | _=>none
def rH:List (Nat×Nat)→List ai→Option (List Prop×List ai)
 | [],M=>some ([],M)
 | (u,o)::r,M=>match M[u]? with
  | some (.bx Tb cells)=>(match cells[o]? with
   | some (.sl v n)=>(match M[v]? with
    | some (.rw _ k rows)=>(match rH r ((M.set v .dead).set u (.bx Tb (cells.set o (.d (.ro k (cb rows)))))) with | some (p,M')=>some ((n=rows.length)::p,M') | none=>none)
    | _=>none)
   | _=>none)
  | _=>none
theorem BE {ev:Nat→Value}:∀ {ls:List Nat} {E:List (Nat×AV)} {M:List ai} {F:Nat→al} {I:al} {p:List Prop},rG ls E M=some (p,E1,M1)→bg p→RM D w0 K0 M β F I w→(∀ t v,bZ E t=some v→ax (fun w=>K0 w∧Holds w I) β v (ev t))→
  ∃ F' I',RM D w0 K0 M1 β F' I' w∧bR I I'∧∀ t v,bZ E1 t=some v→ax (fun w=>K0 w∧Holds w I') β v (ev t)
 | [],E,M,F,I,p,h,_,R,hs=>by
  simp only [rG,Option.some.injEq,Prod.mk.injEq] at h;obtain ⟨-,rfl,rfl⟩:=h
  exact ⟨F,I,R,bR.refl I,hs⟩
 | t::r,E,M,F,I,p,h,hp,R,hs=>by
  unfold rG at h
  split at h
  ·rename_i v n ht
   split at h
   ·rename_i T k rows hv
    split at h
    ·rename_i p' E' M' hr
     simp only [Option.some.injEq,Prod.mk.injEq] at h;obtain ⟨rfl,e1,e2⟩:=h
     rw [e1,e2] at hr
     obtain ⟨F2,I2,R2,g,hA⟩:=R.Ch hv hp.1
     suffices h9:∀ s x,bZ (pk E t (.d (.ro k (cb rows)))) s=some x→ax (fun w=>K0 w∧Holds w I2) β x (ev s) by
      obtain ⟨F',I',q1,q2,q3⟩:=BE (ev:=ev) hr hp.2 R2 h9
      exact ⟨F',I',q1,g.trans q2,q3⟩
     intro s x hx
     rcases vw hx with ⟨rfl,rfl,-⟩ | ⟨-,h2⟩
     ·exact hA _ (hs _ _ ht)
     ·exact (hs s x h2).mono (fun w hw=>⟨hw.1,g.holds w hw.2⟩) (Ext.refl _)
    ·cases h
   ·cases h
  ·cases h
theorem BF:∀ {lc:List (Nat×Nat)} {M:List ai} {F:Nat→al} {I:al} {p:List Prop},rH lc M=some (p,M1)→bg p→RM D w0 K0 M β F I w→∃ F' I',RM D w0 K0 M1 β F' I' w∧bR I I'
 | [],M,F,I,p,h,_,R=>by
  simp only [rH,Option.some.injEq,Prod.mk.injEq] at h;obtain ⟨-,rfl⟩:=h
  exact ⟨F,I,R,bR.refl I⟩
 | (u,o)::r,M,F,I,p,h,hp,R=>by
  unfold rH at h
  split at h
  ·rename_i Tb cells hu
   split at h
   ·rename_i v n ho
    split at h
    ·rename_i T k rows hv
     split at h
     ·rename_i p' M' hr
      simp only [Option.some.injEq,Prod.mk.injEq] at h;obtain ⟨rfl,e1⟩:=h
      rw [e1] at hr
      have rj:v≠u:=fun e=>by subst e;rw [hu] at hv;cases hv
      obtain ⟨F2,I2,R2,g,hA⟩:=R.Ch hv hp.1
      have hB:=R.blk u _ hu
      obtain ⟨aI,-⟩:=List.getElem?_eq_some_iff.1 hu
      have DD:(M.set v .dead)[u]?=some (.bx Tb cells):=by rw [List.getElem?_set,if_neg rj];exact hu
      have jc:=R2.blk u _ DD
      have fJ:bq (fun w=>K0 w∧Holds w I2) β u (.bx Tb (cells.set o (.d (.ro k (cb rows))))) (F2 u):=by
       have br:∀ {G:al},bq (fun w=>K0 w∧Holds w I2) β u (.bx Tb cells) G→G=F2 u→bq (fun w=>K0 w∧Holds w I) β u (.bx Tb cells) (F u)→F2 u=F u→bq (fun w=>K0 w∧Holds w I2) β u (.bx Tb (cells.set o (.d (.ro k (cb rows))))) (F2 u):=by
        intro G _ _ h3 h4
        rw [h4]
        generalize F u=Fu at h3 ⊢
        cases h3 with
        | bx hb ys hl jd=>
         refine .bx hb ys (by rw [List.length_set];exact hl) fun j c y h1 h2=>?_
         rw [List.getElem?_set] at h1
         split at h1
         ·rename_i hj;subst hj
          split at h1
          ·simp only [Option.some.injEq] at h1;subst h1
           exact hA _ (jd _ _ _ ho h2)
          ·cases h1
         ·exact (jd j c y h1 h2).mono (fun w hw=>⟨hw.1,g.holds w hw.2⟩) (Ext.refl _)
       have kO:F2 u=F u:=by
        generalize hq:F2 u=q at jc
        generalize NZ:F u=q0 at hB
        cases jc with
        | bx hb ys hl jd=>
         cases hB with
         | bx aS Pf cN CK=>
          rw [hb] at aS;cases aS
          have h1:Holds w (F2 u):=R2.iD DD
          have h2:Holds w (F u):=R.iD hu
          rw [hq] at h1;rw [NZ] at h2
          have e1:=h1.one
          have e2:=h2.one
          rw [e1] at e2
          simp only [Option.some.injEq,Obj.cells.injEq] at e2
          rw [e2.1]
       exact br jc rfl hB kO
      have R3:RM D w0 K0 ((M.set v .dead).set u (.bx Tb (cells.set o (.d (.ro k (cb rows)))))) β F2 I2 w:=by
       refine ⟨by rw [List.length_set];exact R2.len,fun x bl hx=>?_,by rw [List.length_set];exact R2.st⟩
       rw [List.getElem?_set] at hx
       split at hx
       ·rename_i e;subst e
        split at hx
        ·simp only [Option.some.injEq] at hx;subst hx;exact fJ
        ·cases hx
       ·exact R2.blk x bl hx
      obtain ⟨F4,I4,R4,g4⟩:=BF hr hp.2 R3
      exact ⟨F4,I4,R4,g.trans g4⟩
     ·cases h
    ·cases h
   ·cases h
  ·cases h
theorem cD.stay {E2:List (Nat×AV)} {M3:List ai} {p1 p2:List Prop} (r:cD mk D w0 K0 sz E M a w) (ls:List Nat) (lc:List (Nat×Nat)) (h:rG ls E M=some (p1,E1,M1)) (h2:rH lc M1=some (p2,M2)) (q1:bg p1) (q2:bg p2) (e:E1=E2) (e2:M2=M3):cD mk D w0 K0 sz E2 M3 a w:=by
 subst e e2
 obtain ⟨g1,I,g2,β,F,R,hs⟩:=r
 obtain ⟨F1,I1,R1,gI,s1⟩:=BE (ev:=fun t=>a.eval (.tmp t)) h q1 R hs
 obtain ⟨F2,I2,R2,g⟩:=BF h2 q2 R1
 exact ⟨g1,I2,(g2.grow gI).grow g,β,F2,R2,fun t v hv=>(s1 t v hv).mono (fun w hw=>⟨hw.1,g.holds w hw.2⟩) (Ext.refl _)⟩
end Go.Proofs.YtcnpikbbmbombaaGreatDoor
namespace Go.Proofs.YtcnpikbbmbombaaGreatDoor
open Go.RowKit Go.Deep
theorem zH {H:Type} {enc:TypeId×Value→H} {P:Program} (hl:laidOutB P=true) {W W':World} (g:Gr W W'):∀ {ts:List TypeId} {vs:List Value} {ds:List (DataW H)} {ps:List MemPlace},(∀ t ∈ ts,P.readableRec t=true∧t<P.types.size)→DataW.TrodAll enc P W 0 (fun _=>true) true ts vs ds ps→(∀ x ∈ ps,x.block<W.heap.size)→DataW.TrodAll enc P W' 0 (fun b=>decide (b<W.heap.size)) true ts vs ds ps
 | [],[],[],_,_,h,_=>h
 | [],_::_,_,_,_,h,_=>h.elim
 | [],[],_::_,_,_,h,_=>h.elim
 | _::_,[],_,_,_,h,_=>h.elim
 | _::_,_::_,[],_,_,h,_=>h.elim
 | t::ts,v::vs,d::ds,ps,ht,h,hp=>by
  obtain ⟨p,q,h1,h2,rfl⟩:=h
  refine ⟨p,q,Below.trod hl (ht t (by simp)).1 (ht t (by simp)).2 h1 g (fun x hx=>hp x (by simp [hx])),zH hl g (fun t' h'=>ht t' (by simp [h'])) h2 (fun x hx=>hp x (by simp [hx])),rfl⟩
theorem Hc {H:Type} {enc:TypeId×Value→H} {P:Program} {f:Func} {s:ChangeSpec} {W W':World} {args:Array Value} {ds gs:List (DataW H)} {before:List MemPlace} {tb:TypeId} (hl:laidOutB P=true)
  (hp:f.params.toList.all (fun t=>P.readableRec t&&decide (t<P.types.size))=true) (hr:f.resultTypes=#[tb]) (ht:P.underlying tb=some .bool) (hv:s.vars=[])
  (hW:DataW.Whole enc P f.params.toList s.vars false W args.toList ds gs before) (nb:s.fn H (ds++gs)={ results:=[.lit (.bool true)],args:=ds }) (g:Gr W W'):s.post enc P f false true false false W args (.bool true) W':=by
 have yZ:=hW
 have aI:=hW.lt
 obtain ⟨p,q,hA,hV,rfl,N0,gR⟩:=hW
 rw [hv] at hV
 match gs,hV with
 | [],hV=>
  cases hV
  refine ⟨ds,[],_,[],p,[],yZ,?_,?_,?_,?_,fun h=>by cases h⟩
  ·rw [nb,hr]
   exact ⟨[],[],⟨1,by simp [DataW.trod,ht,Value.cells]⟩,rfl,rfl⟩
  ·rw [nb]
   refine zH hl g (fun t h=>?_) hA (fun x hx=>aI x (by simp [hx]))
   have:=List.all_eq_true.1 hp t h
   simpa using this
  ·rw [nb,hv];rfl
  ·exact Below.frame g _
def TR (P:Program) (w:World) (t:TypeId) (cs:List Value):Prop:=∃ (H:Type) (enc:TypeId×Value→H) (base:Nat) (sp:Nat→Bool) (held:Bool) (fuel:Nat) (x:DataW H×List MemPlace),DataW.trod enc P w base sp held fuel t cs=some x
theorem TR.of {H:Type} {enc:TypeId×Value→H} {P:Program} {w:World} {base:Nat} {sp:Nat→Bool} {held:Bool} {t:TypeId} {v:Value} {d:DataW H} {ps:List MemPlace} (h:DataW.Trod enc P w base sp held t v d ps):TR P w t v.cells.toList:=by
 obtain ⟨n,h⟩:=h;exact ⟨H,enc,base,sp,held,n,_,h⟩
section
variable {P:Program} {w:World} {t e:TypeId} {cs:List Value}
theorem TR.int {k:IntKind} (ht:P.underlying t=some (.int k)) (h:TR P w t cs):∃ n,cs=[.int k n]∧(Lit.int k n).wf=true:=by
 obtain ⟨H,enc,base,sp,held,fuel,x,h⟩:=h
 cases fuel with
 | zero=>simp [DataW.trod] at h
 | succ fuel=>
  rw [DataW.trod_step] at h;unfold DataW.trodStep at h;simp only [ht] at h
  split at h<;>simp_all
theorem cells?_some {base:Nat} {a:Addr} {n:Nat} {X:List Value} (h:w.cells? base a n=some X):X.length=n∧∀ j (hj:j<X.length),w.cell? (a.add j)=some X[j]:=by
 obtain ⟨_,h1,h2⟩:=World.cells?_some h
 exact ⟨h1,fun j hj=>by rw [h2 j (by omega)];exact List.getElem?_eq_getElem hj⟩
theorem u1 {X:Nat→List Value} {c:Nat}:∀ {n:Nat},(∀ i,i<n→(X i).length=c)→((List.range n).flatMap X).length=n*c
 | 0,_=>by simp
 | k+1,h=>by rw [List.range_succ,List.flatMap_append,List.length_append,u1 (n:=k) (fun i hi=>h i (by omega))];simp [h k (by omega),Nat.succ_mul]
theorem TR.Hd (ht:P.underlying t=some (.slice e)) (h:TR P w t cs):∃ (v:Value) (n:Nat) (X:Nat→List Value),cs=[v]∧n≤maxLen∧(∀ i,i<n→(X i).length=P.cellsOf e∧TR P w e (X i))∧Src w (P.cellsOf e) v n ((List.range n).flatMap X)∧∃ a c,v=.slice a n c∧n≤c:=by
 obtain ⟨H,enc,base,sp,held,fuel,x,h⟩:=h
 rcases open_slice ht h with ⟨rfl,_⟩ | ⟨a,len,cap,m,n,D,Pl,rfl,_,N1,ON,hm,_,hx⟩
 ·exact ⟨_,0,fun _=>[],rfl,by simp [maxLen],fun i hi=>by omega,by simp [Src],_,_,rfl,Nat.zero_le _⟩
 ·have hle:len≤m:=by rw [hm];split<;>omega
  obtain ⟨X,hX⟩:=choose_lt (n:=len) (α:=List Value) (p:=fun i c=>w.cells? base (a.add (i*P.cellsOf e)) (P.cellsOf e)=some c∧DataW.trod enc P w base sp held n e c=some (D i,Pl i)) (fun i hi=>hx i (by omega))
  have hlen:∀ i,i<len→(X i).length=P.cellsOf e:=fun i hi=>(cells?_some (hX i hi).1).1
  refine ⟨_,len,X,rfl,by omega,fun i hi=>⟨hlen i hi,H,enc,base,sp,held,n,_,(hX i hi).2⟩,⟨?_,?_⟩,⟨a,cap,rfl,N1⟩⟩
  ·exact u1 hlen
  ·refine Or.inr ⟨a,cap,rfl,?_⟩
   have key:∀ k,k≤len→∀ j (hj:j<((List.range k).flatMap X).length),w.cell? (a.add j)=some ((List.range k).flatMap X)[j]:=by
    intro k
    induction k with
    | zero=>intro _ j hj;simp at hj
    | succ k ih=>
     intro hk j hj
     have Pg:((List.range k).flatMap X).length=k*P.cellsOf e:=u1 (fun i hi=>hlen i (by omega))
     have hE:(List.range (k+1)).flatMap X=(List.range k).flatMap X++X k:=by rw [List.range_succ,List.flatMap_append];simp
     have y4:j<((List.range k).flatMap X++X k).length:=by rw [← hE];exact hj
     have K8:((List.range (k+1)).flatMap X)[j]=((List.range k).flatMap X++X k)[j]:=by congr 1
     rw [K8]
     by_cases h1:j<((List.range k).flatMap X).length
     ·rw [List.getElem_append_left h1];exact ih (by omega) j h1
     ·rw [List.getElem_append_right (by omega)]
      have h2:=(cells?_some (hX k (by omega)).1).2 (j-((List.range k).flatMap X).length) (by rw [List.length_append] at y4;omega)
      rw [← h2,Addr.nr]
      congr 2
      omega
   exact key len (Nat.le_refl _)
end
end Go.Proofs.YtcnpikbbmbombaaGreatDoor
namespace Go.Proofs.YtcnpikbbmbombaaGreatDoor
open Go.RowKit Go.Deep
def rI (w:World) (l:List DV) (cs:List Value):Prop:=cs.length=l.length∧∀ (j:Nat) c v,l[j]?=some c→cs[j]?=some v→bP (Gr w) c v []
theorem rI.one {w:World} {c:DV} {v:Value} (h:bP (Gr w) c v []):rI w [c] [v]:=⟨rfl,fun j c' v' h1 h2=>by
 cases j with
 | zero=>simp at h1 h2;subst h1 h2;exact h
 | succ j=>simp at h1⟩
def Rd (P:Program) (w:World) (t:TypeId) {α:Type} (row:α→List DV) (ok:α→Prop):Prop:=∀ cs,TR P w t cs→∃ x,ok x∧rI w (row x) cs
variable {P:Program} {w:World} {t e:TypeId} {α β γ:Type}
theorem Rd.byte (h:P.underlying t=some (.int .u8)):Rd P w t (fun b:UInt8=>[.v (.int .u8 (b.toNat:Int))]) fun _=>True:=fun cs hc=>by
 obtain ⟨n,rfl,hw⟩:=hc.int h
 have dX:(0:Int)≤n∧n≤255:=by simpa [Lit.wf,IntKind.min,IntKind.max,IntKind.signed,IntKind.bits] using hw
 have e:n=(((UInt8.ofNat n.toNat).toNat:Nat):Int):=by simp;omega
 refine ⟨UInt8.ofNat n.toNat,trivial,.one ?_⟩
 rw [← e];exact .v _
theorem Rd.slice [Inhabited α] {k:Nat} {row:α→List DV} {ok:α→Prop} (h:P.underlying t=some (.slice e)) (hk:P.cellsOf e=k) (hr:Rd P w e row ok):Rd P w t (fun l:List α=>[.ro k (l.map row)]) fun l=>l.length≤9223372036854775807∧∀ x ∈ l,ok x:=fun cs hc=>by
 subst hk
 obtain ⟨v,n,X,rfl,hn,hX,hs,dC⟩:=TR.Hd h hc
 obtain ⟨Y,hY⟩:=choose_lt (n:=n) (α:=α) (p:=fun i x=>ok x∧rI w (row x) (X i)) fun i hi=>hr _ (hX i hi).2
 have hg:∀ (i:Nat) r,(((List.range n).map Y).map row)[i]?=some r→i<n∧r=row (Y i):=fun i r hi=>by
  have aI:=(List.getElem?_eq_some_iff.1 hi).1
  simp at aI
  simp [aI] at hi
  exact ⟨aI,hi.symm⟩
 have hl:(((List.range n).map Y).map row).length=n:=by simp
 refine ⟨(List.range n).map Y,⟨by simp;exact Nat.le_trans hn (by decide),?_⟩,.one (.ro X (fun i r hi=>?_) ?_ (fun w' g=>?_) fun i r j c x h1 h2 h3=>?_)⟩
 ·intro x hx
  obtain ⟨i,hi,rfl⟩:=List.mem_map.1 hx
  exact (hY i (by simpa using hi)).1
 ·obtain ⟨rJ,rfl⟩:=hg i r hi
  refine ⟨?_,(hX i rJ).1⟩
  rw [← (hX i rJ).1];exact (hY i rJ).2.1.symm
 ·rw [hl];exact dC
 ·rw [hl];exact hs.gr g
 ·obtain ⟨rJ,rfl⟩:=hg i r h1
  exact (hY i rJ).2.2 j c x h2 h3
end Go.Proofs.YtcnpikbbmbombaaGreatDoor
namespace Go.Proofs
open Go.Shelf
def Tryz.Ep:Go.Shelf.Ren:=⟨fun | 137=>102 | 217=>113 | 266=>126 | n=>n,fun | 9=>9 | 5=>5 | 3=>3 | n=>n,fun | n=>n⟩
theorem Tryz.It:Go.Proofs.Lays.n137 Tryz.prog Tryz.Ep:={
 mixed:=by kernel_rfl
 f137:=Tryz.func102.trans (congrArg some (by kernel_rfl))
 f217:=Tryz.func113.trans (congrArg some (by kernel_rfl))
 f266:=Tryz.func126.trans (congrArg some (by kernel_rfl))
 t3:=Tryz.underlying3
 a3:=Tryz.isAgg3
 z3:=Tryz.sizeOf3
 v3:=Tryz.zeroValue3
 t5:=Tryz.underlying5
 a5:=Tryz.isAgg5
 z5:=Tryz.sizeOf5
 v5:=Tryz.zeroValue5
 t9:=Tryz.underlying9
 a9:=Tryz.isAgg9
 z9:=Tryz.sizeOf9
 v9:=Tryz.zeroValue9 }
open Go.RowKit in
theorem Tryz.strings_IndexByte (s:ByteArray) (c:Int) (w:World):
  Calls Tryz.prog 102 #[.string s,.int .u8 c] w fun e w'=>e=.returned (.int .i64 (Lib.indexByte s.data.toList c.toNat.toUInt8))∧w'=w:=Any.strings_IndexByte Tryz.It s c w
def Tryz.Er:Go.Shelf.Ren:=⟨fun | 129=>116 | n=>n,fun | 53=>40 | 3=>3 | 4=>4 | 46=>134 | 5=>5 | 9=>9 | n=>n,fun | n=>n⟩
theorem Tryz.Iu:Go.Proofs.Lays.n129 Tryz.prog Tryz.Er:={
 mixed:=by kernel_rfl
 f129:=Tryz.func116.trans (congrArg some (by kernel_rfl))
 t3:=Tryz.underlying3
 a3:=Tryz.isAgg3
 z3:=Tryz.sizeOf3
 v3:=Tryz.zeroValue3
 t4:=Tryz.underlying4
 a4:=Tryz.isAgg4
 z4:=Tryz.sizeOf4
 v4:=Tryz.zeroValue4
 t5:=Tryz.underlying5
 a5:=Tryz.isAgg5
 z5:=Tryz.sizeOf5
 v5:=Tryz.zeroValue5
 t9:=Tryz.underlying9
 a9:=Tryz.isAgg9
 z9:=Tryz.sizeOf9
 v9:=Tryz.zeroValue9
 t46:=Tryz.underlying134
 a46:=Tryz.isAgg134
 z46:=Tryz.sizeOf134
 v46:=Tryz.zeroValue134
 t53:=Tryz.underlying40
 a53:=Tryz.isAgg40
 z53:=Tryz.sizeOf40
 v53:=Tryz.zeroValue40 }
theorem Tryz.bits_Len64 (x:Int) (w:World) (h0:0≤x) (h1:x≤18446744073709551615):
  Calls Tryz.prog 116 #[.int .u64 x] w fun e w'=>e=.returned (.int .i64 (Lib.bitLen x.toNat))∧w'=w:=Any.bits_Len64 Tryz.Iu x w h0 h1
def Tryz.Es:Go.Shelf.Ren:=⟨fun | 317=>115 | n=>n,fun | 3=>3 | 46=>134 | n=>n,fun | n=>n⟩
theorem Tryz.Iv:Go.Proofs.Lays.n317 Tryz.prog Tryz.Es:={
 mixed:=by kernel_rfl
 f317:=Tryz.func115.trans (congrArg some (by kernel_rfl))
 t3:=Tryz.underlying3
 a3:=Tryz.isAgg3
 z3:=Tryz.sizeOf3
 v3:=Tryz.zeroValue3
 t46:=Tryz.underlying134
 a46:=Tryz.isAgg134
 z46:=Tryz.sizeOf134
 v46:=Tryz.zeroValue134 }
open Go.Lib in
theorem Tryz.internal_strconv_log10Pow2 (x:Nat) (h:x≤64) (w:World):
  Calls Tryz.prog 115 #[.int .i64 x] w fun e w'=>e=.returned (.int .i64 (Lib.l10 x))∧w'=w:=Any.internal_strconv_log10Pow2 Tryz.Iv x h w
def Tryz.Et:Go.Shelf.Ren:=⟨fun | 318=>117 | n=>n,fun | 3=>3 | 4=>4 | n=>n,fun | n=>n⟩
theorem Tryz.Iw:Go.Proofs.Lays.n318 Tryz.prog Tryz.Et:={
 mixed:=by kernel_rfl
 f318:=Tryz.func117.trans (congrArg some (by kernel_rfl))
 t3:=Tryz.underlying3
 a3:=Tryz.isAgg3
 z3:=Tryz.sizeOf3
 v3:=Tryz.zeroValue3
 t4:=Tryz.underlying4
 a4:=Tryz.isAgg4
 z4:=Tryz.sizeOf4
 v4:=Tryz.zeroValue4 }
open Go.Lib in
theorem Tryz.internal_strconv_bool2_int (b:Bool) (w:World):
  Calls Tryz.prog 117 #[.bool b] w fun e w'=>e=.returned (.int .i64 (if b then 1 else 0))∧w'=w:=Any.internal_strconv_bool2_int Tryz.Iw b w
def Tryz.Eu:Go.Shelf.Ren:=⟨fun | 283=>105 | n=>n,fun | 3=>3 | 9=>9 | 4=>4 | n=>n,fun | n=>n⟩
theorem Tryz.Ix:Go.Proofs.Lays.n283 Tryz.prog Tryz.Eu:={
 mixed:=by kernel_rfl
 f283:=Tryz.func105.trans (congrArg some (by kernel_rfl))
 t3:=Tryz.underlying3
 a3:=Tryz.isAgg3
 z3:=Tryz.sizeOf3
 v3:=Tryz.zeroValue3
 t4:=Tryz.underlying4
 a4:=Tryz.isAgg4
 z4:=Tryz.sizeOf4
 v4:=Tryz.zeroValue4
 t9:=Tryz.underlying9
 a9:=Tryz.isAgg9
 z9:=Tryz.sizeOf9
 v9:=Tryz.zeroValue9 }
open Go.Lib in
theorem Tryz.internal_strconv_small (i:Nat) (h:i<100) (w:World):
  Calls Tryz.prog 105 #[.int .i64 i] w fun e w'=>e=.returned (.string ⟨(Lib.decDigits i).toArray⟩)∧w'=w:=Any.internal_strconv_small Tryz.Ix i h w
def Tryz.Ev:Go.Shelf.Ren:=⟨fun | 285=>107 | n=>n,fun | 37=>31 | 53=>40 | 3=>3 | 4=>4 | 51=>159 | 9=>9 | 5=>5 | 0=>0 | n=>n,fun | n=>n⟩
theorem Tryz.Iy:Go.Proofs.Lays.n285 Tryz.prog Tryz.Ev:={
 mixed:=by kernel_rfl
 f285:=Tryz.func107.trans (congrArg some (by kernel_rfl))
 t0:=Tryz.underlying0
 a0:=Tryz.isAgg0
 z0:=Tryz.sizeOf0
 v0:=Tryz.zeroValue0
 t3:=Tryz.underlying3
 a3:=Tryz.isAgg3
 z3:=Tryz.sizeOf3
 v3:=Tryz.zeroValue3
 t4:=Tryz.underlying4
 a4:=Tryz.isAgg4
 z4:=Tryz.sizeOf4
 v4:=Tryz.zeroValue4
 t5:=Tryz.underlying5
 a5:=Tryz.isAgg5
 z5:=Tryz.sizeOf5
 v5:=Tryz.zeroValue5
 t9:=Tryz.underlying9
 a9:=Tryz.isAgg9
 z9:=Tryz.sizeOf9
 v9:=Tryz.zeroValue9
 t37:=Tryz.underlying31
 a37:=Tryz.isAgg31
 z37:=Tryz.sizeOf31
 v37:=Tryz.zeroValue31
 t51:=Tryz.underlying159
 a51:=Tryz.isAgg159
 z51:=Tryz.sizeOf159
 v51:=Tryz.zeroValue159
 t53:=Tryz.underlying40
 a53:=Tryz.isAgg40
 z53:=Tryz.sizeOf40
 v53:=Tryz.zeroValue40 }
open Go.RowKit Go.Sort Go.Lib in
theorem Tryz.internal_strconv_formatBase10 (blk off cap:Nat) (u:Nat) (d:Array UInt8) (w:World) (hH:Holds (fun (b:UInt8)=>Value.int .u8 (b.toNat:Int)) w blk off d) (hu:u<10 ^ d.size) (lB:u<18446744073709551616) (bE:d.size<4611686018427387904):
  Calls Tryz.prog 107 #[.slice (some ⟨blk,off,none⟩) d.size cap,.int .u64 u] w fun e w'=>
   e=.returned (.tuple #[])∧∃ (n v':Nat) (dk:Array UInt8),w'=(putRow (fun (b:UInt8)=>Value.int .u8 (b.toNat:Int)) w blk off dk).drewN n∧FmtInv d.size u 0 v' dk:=Any.internal_strconv_formatBase10 Tryz.Iy blk off cap u d w hH hu lB bE
def Tryz.Ew:Go.Shelf.Ren:=⟨fun | 171=>70 | 243=>96 | 246=>103 | 283=>105 | 284=>106 | 285=>107 | 286=>108 | 129=>116 | 317=>115 | 318=>117 | 319=>118 | 320=>119 | 337=>127 | 338=>128 | n=>n,fun | 3=>3 | 9=>9 | 2=>2 | 4=>4 | 171=>149 | 0=>0 | 53=>40 | 37=>31 | 5=>5 | 173=>152 | 212=>158 | 51=>159 | 20=>20 | 213=>160 | 46=>134 | 232=>167 | 233=>168 | n=>n,fun | 17=>1 | 18=>3 | 19=>4 | n=>n⟩
theorem Tryz.Iz:Go.Proofs.Lays.n171 Tryz.prog Tryz.Ew:={
 mixed:=by kernel_rfl
 f129:=Tryz.func116.trans (congrArg some (by kernel_rfl))
 f171:=Tryz.func70.trans (congrArg some (by kernel_rfl))
 f243:=Tryz.func96.trans (congrArg some (by kernel_rfl))
 f246:=Tryz.func103.trans (congrArg some (by kernel_rfl))
 f283:=Tryz.func105.trans (congrArg some (by kernel_rfl))
 f284:=Tryz.func106.trans (congrArg some (by kernel_rfl))
 f285:=Tryz.func107.trans (congrArg some (by kernel_rfl))
 f286:=Tryz.func108.trans (congrArg some (by kernel_rfl))
 f317:=Tryz.func115.trans (congrArg some (by kernel_rfl))
 f318:=Tryz.func117.trans (congrArg some (by kernel_rfl))
 f319:=Tryz.func118.trans (congrArg some (by kernel_rfl))
 f320:=Tryz.func119.trans (congrArg some (by kernel_rfl))
 f337:=Tryz.func127.trans (congrArg some (by kernel_rfl))
 f338:=Tryz.func128.trans (congrArg some (by kernel_rfl))
 t0:=Tryz.underlying0
 a0:=Tryz.isAgg0
 z0:=Tryz.sizeOf0
 v0:=Tryz.zeroValue0
 t2:=Tryz.underlying2
 a2:=Tryz.isAgg2
 z2:=Tryz.sizeOf2
 v2:=Tryz.zeroValue2
 t3:=Tryz.underlying3
 a3:=Tryz.isAgg3
 z3:=Tryz.sizeOf3
 v3:=Tryz.zeroValue3
 t4:=Tryz.underlying4
 a4:=Tryz.isAgg4
 z4:=Tryz.sizeOf4
 v4:=Tryz.zeroValue4
 t5:=Tryz.underlying5
 a5:=Tryz.isAgg5
 z5:=Tryz.sizeOf5
 v5:=Tryz.zeroValue5
 t9:=Tryz.underlying9
 a9:=Tryz.isAgg9
 z9:=Tryz.sizeOf9
 v9:=Tryz.zeroValue9
 t20:=Tryz.underlying20
 a20:=Tryz.isAgg20
 z20:=Tryz.sizeOf20
 v20:=Tryz.zeroValue20
 t37:=Tryz.underlying31
 a37:=Tryz.isAgg31
 z37:=Tryz.sizeOf31
 v37:=Tryz.zeroValue31
 t46:=Tryz.underlying134
 a46:=Tryz.isAgg134
 z46:=Tryz.sizeOf134
 v46:=Tryz.zeroValue134
 t51:=Tryz.underlying159
 a51:=Tryz.isAgg159
 z51:=Tryz.sizeOf159
 v51:=Tryz.zeroValue159
 t53:=Tryz.underlying40
 a53:=Tryz.isAgg40
 z53:=Tryz.sizeOf40
 v53:=Tryz.zeroValue40
 t171:=Tryz.underlying149
 a171:=Tryz.isAgg149
 z171:=Tryz.sizeOf149
 v171:=Tryz.zeroValue149
 t173:=Tryz.underlying152
 a173:=Tryz.isAgg152
 z173:=Tryz.sizeOf152
 v173:=Tryz.zeroValue152
 t212:=Tryz.underlying158
 a212:=Tryz.isAgg158
 z212:=Tryz.sizeOf158
 v212:=Tryz.zeroValue158
 t213:=Tryz.underlying160
 a213:=Tryz.isAgg160
 z213:=Tryz.sizeOf160
 t232:=Tryz.underlying167
 a232:=Tryz.isAgg167
 z232:=Tryz.sizeOf167
 v232:=Tryz.zeroValue167
 t233:=Tryz.underlying168
 a233:=Tryz.isAgg168
 z233:=Tryz.sizeOf168
 v233:=Tryz.zeroValue168
 g17:=by kernel_rfl
 g18:=by kernel_rfl
 g19:=by kernel_rfl }
open Go.RowKit Go.Sort Go.Lib in
theorem Tryz.strconv_Itoa_small (i:Nat) (hi:i<100) (w:World):
  Calls Tryz.prog 70 #[.int .i64 i] w fun e w'=>e=.returned (.string ⟨(Lib.decDigits i).toArray⟩)∧w'=w:=Any.strconv_Itoa_small Tryz.Iz i hi w
def Tryz.Ex:Go.Shelf.Ren:=⟨fun | 219=>109 | 217=>113 | 225=>120 | 224=>121 | 267=>122 | 266=>126 | 314=>129 | n=>n,fun | 9=>9 | 3=>3 | 4=>4 | 5=>5 | 46=>134 | 146=>165 | 51=>159 | n=>n,fun | 1=>2 | n=>n⟩
theorem Tryz.IA:Go.Proofs.Lays.n219 Tryz.prog Tryz.Ex:={
 mixed:=by kernel_rfl
 f217:=Tryz.func113.trans (congrArg some (by kernel_rfl))
 f219:=Tryz.func109.trans (congrArg some (by kernel_rfl))
 f224:=Tryz.func121.trans (congrArg some (by kernel_rfl))
 f225:=Tryz.func120.trans (congrArg some (by kernel_rfl))
 f266:=Tryz.func126.trans (congrArg some (by kernel_rfl))
 f267:=Tryz.func122.trans (congrArg some (by kernel_rfl))
 f314:=Tryz.func129.trans (congrArg some (by kernel_rfl))
 t3:=Tryz.underlying3
 a3:=Tryz.isAgg3
 z3:=Tryz.sizeOf3
 v3:=Tryz.zeroValue3
 t4:=Tryz.underlying4
 a4:=Tryz.isAgg4
 z4:=Tryz.sizeOf4
 v4:=Tryz.zeroValue4
 t5:=Tryz.underlying5
 a5:=Tryz.isAgg5
 z5:=Tryz.sizeOf5
 v5:=Tryz.zeroValue5
 t9:=Tryz.underlying9
 a9:=Tryz.isAgg9
 z9:=Tryz.sizeOf9
 v9:=Tryz.zeroValue9
 t46:=Tryz.underlying134
 a46:=Tryz.isAgg134
 z46:=Tryz.sizeOf134
 v46:=Tryz.zeroValue134
 t51:=Tryz.underlying159
 a51:=Tryz.isAgg159
 z51:=Tryz.sizeOf159
 v51:=Tryz.zeroValue159
 t146:=Tryz.underlying165
 a146:=Tryz.isAgg165
 z146:=Tryz.sizeOf165
 v146:=Tryz.zeroValue165
 g1:=by kernel_rfl }
open Go.RowKit Go.Lib in
theorem Tryz.stringslite_Index_one (s:ByteArray) (c:UInt8) (w:World):
  Calls Tryz.prog 109 #[.string s,.string ⟨#[c]⟩] w fun e w'=>e=.returned (.int .i64 (Lib.indexByte s.data.toList c))∧w'=w:=Any.stringslite_Index_one Tryz.IA s c w
def Tryz.Ey:Go.Shelf.Ren:=⟨fun | 143=>112 | 219=>109 | 217=>113 | 225=>120 | 224=>121 | 267=>122 | 266=>126 | 314=>129 | n=>n,fun | 9=>9 | 3=>3 | 4=>4 | 5=>5 | 46=>134 | 146=>165 | 51=>159 | n=>n,fun | 1=>2 | n=>n⟩
theorem Tryz.IB:Go.Proofs.Lays.n143 Tryz.prog Tryz.Ey:={
 mixed:=by kernel_rfl
 f143:=Tryz.func112.trans (congrArg some (by kernel_rfl))
 f217:=Tryz.func113.trans (congrArg some (by kernel_rfl))
 f219:=Tryz.func109.trans (congrArg some (by kernel_rfl))
 f224:=Tryz.func121.trans (congrArg some (by kernel_rfl))
 f225:=Tryz.func120.trans (congrArg some (by kernel_rfl))
 f266:=Tryz.func126.trans (congrArg some (by kernel_rfl))
 f267:=Tryz.func122.trans (congrArg some (by kernel_rfl))
 f314:=Tryz.func129.trans (congrArg some (by kernel_rfl))
 t3:=Tryz.underlying3
 a3:=Tryz.isAgg3
 z3:=Tryz.sizeOf3
 v3:=Tryz.zeroValue3
 t4:=Tryz.underlying4
 a4:=Tryz.isAgg4
 z4:=Tryz.sizeOf4
 v4:=Tryz.zeroValue4
 t5:=Tryz.underlying5
 a5:=Tryz.isAgg5
 z5:=Tryz.sizeOf5
 v5:=Tryz.zeroValue5
 t9:=Tryz.underlying9
 a9:=Tryz.isAgg9
 z9:=Tryz.sizeOf9
 v9:=Tryz.zeroValue9
 t46:=Tryz.underlying134
 a46:=Tryz.isAgg134
 z46:=Tryz.sizeOf134
 v46:=Tryz.zeroValue134
 t51:=Tryz.underlying159
 a51:=Tryz.isAgg159
 z51:=Tryz.sizeOf159
 v51:=Tryz.zeroValue159
 t146:=Tryz.underlying165
 a146:=Tryz.isAgg165
 z146:=Tryz.sizeOf165
 v146:=Tryz.zeroValue165
 g1:=by kernel_rfl }
open Go.RowKit Go.Lib in
theorem Tryz.strings_Index_one (s:ByteArray) (c:UInt8) (w:World):
  Calls Tryz.prog 112 #[.string s,.string ⟨#[c]⟩] w fun e w'=>e=.returned (.int .i64 (Lib.indexByte s.data.toList c))∧w'=w:=Any.strings_Index_one Tryz.IB s c w
def Tryz.Ez:Go.Shelf.Ren:=⟨fun | 138=>111 | 195=>123 | 218=>125 | 143=>112 | 219=>109 | 217=>113 | 225=>120 | 224=>121 | 267=>122 | 266=>126 | 314=>129 | n=>n,fun | 9=>9 | 3=>3 | 4=>4 | 5=>5 | 0=>0 | 46=>134 | 146=>165 | 51=>159 | n=>n,fun | 1=>2 | n=>n⟩
theorem Tryz.IC:Go.Proofs.Lays.n138 Tryz.prog Tryz.Ez:={
 mixed:=by kernel_rfl
 f138:=Tryz.func111.trans (congrArg some (by kernel_rfl))
 f143:=Tryz.func112.trans (congrArg some (by kernel_rfl))
 f195:=Tryz.func123.trans (congrArg some (by kernel_rfl))
 f217:=Tryz.func113.trans (congrArg some (by kernel_rfl))
 f218:=Tryz.func125.trans (congrArg some (by kernel_rfl))
 f219:=Tryz.func109.trans (congrArg some (by kernel_rfl))
 f224:=Tryz.func121.trans (congrArg some (by kernel_rfl))
 f225:=Tryz.func120.trans (congrArg some (by kernel_rfl))
 f266:=Tryz.func126.trans (congrArg some (by kernel_rfl))
 f267:=Tryz.func122.trans (congrArg some (by kernel_rfl))
 f314:=Tryz.func129.trans (congrArg some (by kernel_rfl))
 t0:=Tryz.underlying0
 a0:=Tryz.isAgg0
 z0:=Tryz.sizeOf0
 v0:=Tryz.zeroValue0
 t3:=Tryz.underlying3
 a3:=Tryz.isAgg3
 z3:=Tryz.sizeOf3
 v3:=Tryz.zeroValue3
 t4:=Tryz.underlying4
 a4:=Tryz.isAgg4
 z4:=Tryz.sizeOf4
 v4:=Tryz.zeroValue4
 t5:=Tryz.underlying5
 a5:=Tryz.isAgg5
 z5:=Tryz.sizeOf5
 v5:=Tryz.zeroValue5
 t9:=Tryz.underlying9
 a9:=Tryz.isAgg9
 z9:=Tryz.sizeOf9
 v9:=Tryz.zeroValue9
 t46:=Tryz.underlying134
 a46:=Tryz.isAgg134
 z46:=Tryz.sizeOf134
 v46:=Tryz.zeroValue134
 t51:=Tryz.underlying159
 a51:=Tryz.isAgg159
 z51:=Tryz.sizeOf159
 v51:=Tryz.zeroValue159
 t146:=Tryz.underlying165
 a146:=Tryz.isAgg165
 z146:=Tryz.sizeOf165
 v146:=Tryz.zeroValue165
 g1:=by kernel_rfl }
open Go.RowKit Go.Lib in
theorem Tryz.strings_Count_one (s:ByteArray) (c:UInt8) (w:World):
  Calls Tryz.prog 111 #[.string s,.string ⟨#[c]⟩] w fun e w'=>e=.returned (.int .i64 (Lib.countByte s.data.toList c))∧w'=w:=Any.strings_Count_one Tryz.IC s c w
end Go.Proofs
namespace Go.Proofs.YtcnpikbbmbombaaGreatDoor
open Go.RowKit
variable {mk:Bool} {P:Program} {T:aJ} {f:FuncId} {R:fB} {a:Act} {w:World} {D:List Nat} {w0:World} {K0:World→Prop} {E:List (Nat×AV)} {M:List ai} {β:Beta} {F:Nat→al} {I:al} {sz:Nat} {todo todo':List Item}
theorem aC.rangeFunc {g:Operand} {ps:Array Tmp} {da body:Code} {k:List Item} {l:Nat} {mark:List Deferred} {w1 w2 wd:World} {gf:FuncId} {args:Array Value} {dd:Deferred} (lQ:R.ro=none)
  (he:(Instr.enterLoop f a.tmps ps da body none).run P w=.ok (l,mark) w1) (MG:(resolve a.eval (rangeCall g l) 0).run P w1=.ok dd wd) (hinv:(invoke dd.target dd.args).run P wd=.ok (.enter gf args) w2)
  (hc:Calls P gf args w2 fun e w3=>∃ v,e=.returned v∧∃ j w4,(Instr.endLoop l).run P w3=.ok j w4∧aC P f ((j.map Item.code).toList++k) R { a with defers:=mark++a.defers } w4):aC P f (.code (.rangeFunc g ps da body)::k) R a w:=by
 intro b cs hb hk hr
 have N2:b.roundOf=none:=hr.trans lQ
 have s1:=stepR_rangeFunc (P:=P) (b:=b) (a:=a) (k:=k) (cs:=cs) (w:=w) (by rw [hb,N2];exact he) MG hinv
 obtain ⟨e,w3,fr,⟨v,rfl,j,w4,tA,hg⟩,K9,nb,JN⟩:=hc (b.atR { a with defers:=mark++a.defers } (.inRangeFunc l::k)::cs)
 have s2:=step_leave_returned (P:=P) (c:=b.atR { a with defers:=mark++a.defers } (.inRangeFunc l::k)) (cs:=cs) JN
 rw [finish_atR_inRangeFunc] at s2
 have s3:=stepR_endRangeFunc (P:=P) (b:=b) (a:={ a with defers:=mark++a.defers }) (k:=k) (cs:=cs) tA
 have hs:Steps P _ _:=K9
 exact (hg b cs hb hk hr).of ((Steps.one s1).trans (hs.trans ((Steps.one s2).trans (.one s3))))
def qI (E:List (Nat×AV)):List Nat→Option (List (Nat×AV))
 | []=>some []
 | t::r=>(match bZ E t,qI E r with | some v,some l=>some ((t,v)::l) | _,_=>none)
theorem Av:∀ {ts:List Nat} {E1:List (Nat×AV)},qI E ts=some E1→∀ x ∈ E1,bZ E x.1=some x.2
 | [],E1,h,x,hx=>by simp only [qI,Option.some.injEq] at h;subst h;cases hx
 | t::r,E1,h,x,hx=>by
  unfold qI at h
  split at h
  ·rename_i v l h1 h2
   simp only [Option.some.injEq] at h;subst h
   rcases List.mem_cons.1 hx with rfl | hx
   ·exact h1
   ·exact Av h2 x hx
  ·simp at h
def LS.still:LS→Bool
 | .busy=>false
 | _=>true
def LS.then:LS→List Item→List Item
 | .left,k=>.code .ret::k
 | _,k=>k
def Aw (P:Program) (T:aJ) (f:FuncId) (sz:Nat) (tb:dH) (n:Nat) (l ts:List Nat) (x:AV) (M':List ai) (cJ xw:List Nat) (todo:List Item) (E:List (Nat×AV)) (M:List ai):Option (List Item×Prop×List (Nat×AV)×List ai):=
 match dN P T (walk P T 3) sz tb n todo ⟨[],E,M,[],[]⟩ with
 | some (.code (.rangeFunc (.tmp g) ps da body)::k,s)=>(match bZ s.E g,qI s.E ts with
  | some (.fn gf cq),some E1=>(match j5 (l++[s.M.length]) (.yl s.M.length::cq),gk (l++[s.M.length]) (s.M++[.lp .ready f sz E1 ⟨ps,da,body⟩]) (l++[s.M.length]) with
   | some told,some Ms=>bif nodupB (l++[s.M.length])&&Nat.ble (l++[s.M.length]).length M'.length&&iz P gf&&nodupB cJ then
    (match (lx (jj (s.M++[.lp .ready f sz E1 ⟨ps,da,body⟩]) (l++[s.M.length])++(M'.drop (l++[s.M.length]).length).map (fy (outer (l++[s.M.length]) (s.M.length+1)))) (l++[s.M.length]) ((M'.take (l++[s.M.length]).length).map (fy (outer (l++[s.M.length]) (s.M.length+1)))))[s.M.length]? with
    | some (.lp ls _ _ _ _)=>bif ls.still then kz cJ xw (ls.then k) ⟨aq P gf told Ms x M'::s.vc,s.E,(lx (jj (s.M++[.lp .ready f sz E1 ⟨ps,da,body⟩]) (l++[s.M.length])++(M'.drop (l++[s.M.length]).length).map (fy (outer (l++[s.M.length]) (s.M.length+1)))) (l++[s.M.length]) ((M'.take (l++[s.M.length]).length).map (fy (outer (l++[s.M.length]) (s.M.length+1))))).set s.M.length .dead,[],[]⟩ else none
    | _=>none) else none
   | _,_=>none)
  | _,_=>none)
 | _=>none
theorem He {l:Nat} {r:Loop} {ls:LS} (h:w.heap[l]?=some (.loop r)) (br:ls.still=true) (hs:r.state=ls.state) (hp:r.pending=ls.j8):(Instr.endLoop l).run P w=.ok ls.j8 (cn w l (.loop { r with state:=.exhausted })):=by
 unfold Instr.endLoop Instr.getLoop
 simp only [Sem.run_bind,qh h rfl,Result.andThen_ok,Sem.run_pure,hs,hp]
 rw [if_neg (by cases ls<;>first | decide | simp [LS.still] at br)]
 simp only [Sem.run_bind,sh h rfl,Result.andThen_ok,Sem.run_pure]
theorem LS.then_eq (ls:LS) (k:List Item):(ls.j8.map Item.code).toList++k=ls.then k:=by cases ls<;>rfl
theorem ID (hT:bc P T=true) (hm:P.follows .mixedOrders=true) (hK:∀ w,Kp D w0 w→K0 w) (lQ:R.ro=none) (tb:dH) (n:Nat) (l ts:List Nat) (x:AV) (M':List ai) (cJ xw:List Nat) {A:Prop} {E2:List (Nat×AV)} {M2:List ai} (r:cD true D w0 K0 sz E M a w)
  (h:Aw P T f sz tb n l ts x M' cJ xw todo E M=some (todo',A,E2,M2)) (hA:A) (k:∀ a' w',cD true D w0 K0 sz E2 M2 a' w'→aC P f todo' R a' w'):aC P f todo R a w:=by
 unfold Aw at h
 split at h
 rotate_left
 ·simp at h
 rename_i g ps da body k0 s hr
 split at h
 rotate_left
 ·simp at h
 rename_i gf cq E1 hg y5
 split at h
 rotate_left
 ·simp at h
 rename_i told Ms o3 n1
 generalize ik:l++[s.M.length]=l2 at h o3 n1
 generalize N3:(ai.lp .ready f sz E1 ⟨ps,da,body⟩)=lp at h n1
 cases hc:(nodupB l2&&Nat.ble l2.length M'.length&&iz P gf&&nodupB cJ) with
 | false=>simp only [hc,cond_false,reduceCtorEq] at h
 | true=>
  simp only [hc,cond_true] at h
  simp only [Bool.and_eq_true] at hc
  obtain ⟨⟨⟨gR,hle⟩,j6⟩,La⟩:=hc
  generalize N4:lx (jj (s.M++[lp]) l2++(M'.drop l2.length).map (fy (outer l2 (s.M.length+1)))) l2 ((M'.take l2.length).map (fy (outer l2 (s.M.length+1))))=Mo at h
  split at h
  rotate_left
  ·simp at h
  rename_i ls f9 Ph E9 lS CM
  cases br:ls.still with
  | false=>simp only [br,cond_false,reduceCtorEq] at h
  | true=>
  simp only [br,cond_true] at h
  obtain ⟨rfl,rfl,h3,h4⟩:=oE h
  obtain ⟨gA,rv⟩:=hA
  refine n8 hT (iN hT hm 3) hm hK n hr r rv fun a w r=>?_
  obtain ⟨bE,I,lN,β,F,Rm,hs⟩:=r
  have jP:=hs g _ hg
  generalize hy:a.eval (.tmp g)=y at jP
  cases jP with
  | fn cs cQ gO=>
   have he:=run_enterLoop_outer (P:=P) (w:=w) f a.tmps ps da body
   refine aC.rangeFunc (wd:=(w.alloc (.deferred (some []))).alloc (.loop { state:=.ready,pending:=none,fn:=f,tmps:=a.tmps,params:=ps,assign:=da,body,defers:=w.heap.size })) (w2:=(w.alloc (.deferred (some []))).alloc (.loop { state:=.ready,pending:=none,fn:=f,tmps:=a.tmps,params:=ps,assign:=da,body,defers:=w.heap.size })) (gf:=gf) (args:=#[.func (.yield (w.heap.size+1)) #[] #[]]++cs.toArray) (dd:={ target:=.fn (.func gf) cs.toArray,args:=#[.func (.yield (w.heap.size+1)) #[] #[]] }) lQ he (by
    simp only [resolve,hy]
    simp [go_sem]) (by simp [invoke,go_sem,Ag j6]) ?_
   have R1:RM D w0 K0 s.M β F ((w.heap.size,.deferred (some []))::I) (w.alloc (.deferred (some []))):=by
    refine ⟨Rm.len,fun u b hb=>(Rm.blk u b hb).mono (fun w hw=>⟨hw.1,(Holds.app.1 (show Holds w ([_]++I) from hw.2)).2⟩) (Ext.refl _),?_⟩
    have:=Rm.st.alloc (.deferred (some []))
    exact this.perm (by classical rw [List.perm_iff_count];intro z;simp only [List.count_append,List.count_cons];omega)
   have gI:bR I ((w.heap.size,.deferred (some []))::I):=⟨[_],rfl⟩
   have n9:∀ t v,bZ s.E t=some v→ax (fun w'=>K0 w'∧Holds w' ((w.heap.size,.deferred (some []))::I)) β v (a.eval (.tmp t)):=fun t v hv=>(hs t v hv).mono (fun w hw=>⟨hw.1,gI.holds w hw.2⟩) (Ext.refl _)
   have R2:=R1.new (q:=(some ⟨w.heap.size+1,0,none⟩,0)) (blk:=lp) (Gr.alloc _ (.loop { state:=.ready,pending:=none,fn:=f,tmps:=a.tmps,params:=ps,assign:=da,body,defers:=w.heap.size })) (by have:=dE.alloc (w.alloc (.deferred (some []))) (.loop { state:=.ready,pending:=none,fn:=f,tmps:=a.tmps,params:=ps,assign:=da,body,defers:=w.heap.size });rwa [World.size_alloc] at this) (by
    subst N3
    exact .lp (bz:=.ready) (iO R1 _) bE fun x hx=>(n9 x.1 x.2 (Av y5 x hx)).mono (fun _ h=>h) (Ext.app _ _))
   have Lb:(s.M++[lp]).length=s.M.length+1:=by simp
   have fN:=iO R1 (some ⟨w.heap.size+1,0,none⟩,0)
   have cG:=zA (vs:=.yl s.M.length::cq) (ys:=.func (.yield (w.heap.size+1)) #[] #[]::cs) R2 hK (by simp [cQ]) (fun j c y e1 e2=>by
    cases j with
    | zero=>simp at e1 e2;subst e1 e2;exact .yl fN
    | succ j=>simp at e1 e2;exact ((gO j c y e1 e2).mono (fun w hw=>⟨hw.1,gI.holds w hw.2⟩) (Ext.refl _)).mono (fun _ h=>h) (Ext.app _ _)) o3 n1 (oA gR) (Nat.le_of_ble_eq_true hle) gA
   rw [Lb,N4] at cG
   have Lc:(#[.func (.yield (w.heap.size+1)) #[] #[]]++cs.toArray:Array Value)=(Value.func (.yield (w.heap.size+1)) #[] #[]::cs).toArray:=by simp
   rw [Lc]
   refine cG.mono ?_
   rintro e w3 ⟨v,rfl,ze,F3,I3,R3,e3,g3,-,-⟩
   refine ⟨v,rfl,?_⟩
   obtain ⟨H,hF,hB,hH⟩:=R3.at CM
   have N5:ze[s.M.length]?=some (some ⟨w.heap.size+1,0,none⟩,0):=e3 _ _ (by simp) fN
   cases hB with
   | @lp b0 c0 f0 NN nR bz E0 NO tmps hb OO DC=>
    rw [N5] at hb;cases hb
    refine ⟨_,_,He (ls:=ls) hH.one br rfl rfl,?_⟩
    rw [LS.then_eq]
    have R4:=R3.x.fj CM
    rw [List.nil_append,hF] at R4
    have R5:RM D w0 K0 (Mo.set s.M.length .dead) ze (aH F3 s.M.length []) I3 (cn w3 (w.heap.size+1) (.loop { state:=.exhausted,pending:=ls.j8,fn:=f9,tmps,params:=lS.ps,assign:=lS.da,body:=lS.body,defers:=nR })):=by
     refine ⟨R4.len,R4.blk,?_⟩
     have s1:=(R4.st.perm (K:=(w.heap.size+1,.loop { state:=ls.state,pending:=ls.j8,fn:=f9,tmps,params:=lS.ps,assign:=lS.da,body:=lS.body,defers:=nR })::((List.range (Mo.set s.M.length .dead).length).flatMap (aH F3 s.M.length [])++I3)) (by classical rw [List.perm_iff_count];intro z;simp only [List.count_append,List.count_cons,List.count_nil];omega)).set (.loop { state:=.exhausted,pending:=ls.j8,fn:=f9,tmps,params:=lS.ps,assign:=lS.da,body:=lS.body,defers:=nR })
     exact St.l0 (H:=[_]) s1
    refine k _ _ (cD.lR (mk:=true) (a:={ a with defers:=[{ target:=.collected w.heap.size,args:=#[] }]++a.defers }) (E:=s.E) (M:=Mo.set s.M.length .dead) ⟨bE,I3,?_,ze,_,R5,fun t v hv=>?_⟩ La h3 h4)
    ·have:=Mk.grow lN (gI.trans g3)
     refine ⟨List.nodup_cons.2 ⟨fun hd=>?_,this.1⟩,fun d hd=>?_⟩
     ·obtain ⟨b,e1,e2⟩:=lN.2 _ hd
      cases e1
      have aI:=(Array.getElem?_eq_some_iff.1 ((Holds.app.1 Rm.st.holds).2 _ e2)).1
      exact absurd aI (Nat.lt_irrefl _)
     rcases List.mem_append.1 hd with hd | hd
     ·rw [List.mem_singleton] at hd;subst hd
      obtain ⟨J,hJ⟩:=g3
      exact ⟨_,rfl,by rw [hJ];exact List.mem_append_right _ List.mem_cons_self⟩
     ·exact this.2 d hd
    ·exact ((n9 t v hv).mono (fun w hw=>⟨hw.1,g3.holds w hw.2⟩) (Ext.refl _)).mono (fun _ h=>h) (fun u q hq=>e3 u q (by simp) (Ext.app _ _ _ _ hq))
end Go.Proofs.YtcnpikbbmbombaaGreatDoor
namespace Go.Proofs.YtcnpikbbmbombaaGreatDoor
open Go.RowKit
variable {mk:Bool} {P:Program} {T:aJ} {f:FuncId} {R:fB} {Re:Ending→World→Prop} {a:Act} {w:World} {D:List Nat} {w0:World} {K0:World→Prop} {E:List (Nat×AV)} {M:List ai} {β:Beta} {F:Nat→al} {I H:al} {sz:Nat} {tb:dH} {todo todo':List Item}
def iH (x:AV):Prop:=∀ (K K':World→Prop) (β:Beta) (y:Value),ax K β x y→ax K' β x y
def jt (b:ai):Prop:=∀ (K K':World→Prop) (β:Beta) (u:Nat) (H:al),bq K β u b H→bq K' β u b H
theorem iH.v (x:Value):iH (.d (.v x)):=fun K K' β y r=>by cases r with | d r=>cases r with | v=>exact .d (.v _)
theorem iH.pt (u o:Nat):iH (.pt u o):=fun K K' β y r=>by cases r with | pt h=>exact .pt h
theorem iH.sl (u n:Nat):iH (.sl u n):=fun K K' β y r=>by cases r with | sl h=>exact .sl h
theorem jt.bx {T:Nat} {cells:List AV} (h:∀ c ∈ cells,iH c):jt (.bx T cells):=fun K K' β u H r=>by
 cases r with | bx hb ys hl hr=>exact .bx hb ys hl (fun j c y h1 h2=>h c (List.mem_of_getElem? h1) _ _ _ _ (hr j c y h1 h2))
def tE (P:Program):List Deferred→World→World→Prop
 | [],w,w'=>w=w'
 | d::ds,w,w'=>∃ b w1,d.target=.collected b∧(Instr.takeDeferred b).run P w=.ok [] w1∧tE P ds w1 w'
theorem zI {cs:List Frame}:∀ {ds:List Deferred} {fr:Frame} {w w':World},fr.mode=.returning→fr.defers=ds→tE P ds w w'→Steps P (lone fr cs w) (lone { fr with defers:=[] } cs w')
 | [],fr,w,w',_,hd,h=>by cases h;rw [show ({ fr with defers:=[] }:Frame)=fr by cases fr;simp_all];exact Steps.refl P _
 | d::ds,fr,w,w',hm,hd,⟨b,w1,h1,h2,h3⟩=>by
  have s1:=step_collected (P:=P) (fr:=fr) (cs:=cs) (by rw [hm];simp) hd h1 h2
  have s2:=zI (cs:=cs) (ds:=ds) (fr:={ fr with defers:=[]++ds }) hm rfl h3
  exact (Steps.one s1).trans s2
theorem aC.MH {fn:Func} {k:List Item} (hf:P.funcs[f]?=some fn) {w':World} (hm:tE P a.defers w w') {v:Value} (hr:(results fn a.tmps).run P w'=.ok v w') (h:Re (.returned v) w'):aC P f (.code .ret::k) (.ends Re) a w:=by
 intro b cs hb hk lQ
 rw [Frame.atR_of_none lQ]
 have s2:=zI (P:=P) (cs:=cs) (fr:={ b.at a (.code .ret::k) with mode:=.returning }) rfl rfl hm
 exact ⟨.returned v,w',{ b.at a (.code .ret::k) with mode:=.returning,defers:=[] },h,.of_steps ((Steps.one step_ret).trans s2) (Steps.refl P _),hb,rfl,rfl,hk,fn,by rw [← hb] at hf;exact hf,hr⟩
theorem Hf {b:Nat} {w:World} (h:w.heap[b]?=some (.deferred (some []))):(Instr.takeDeferred b).run P w=.ok [] (cn w b (.deferred none)):=by
 unfold Instr.takeDeferred
 simp only [Sem.run_bind,qh h rfl,Result.andThen_ok,Sem.run_pure,sh h rfl]
theorem Ax:∀ {ds:List Deferred} {I:al} {w:World},ds.Nodup→(∀ d ∈ ds,∃ b,d={ target:=.collected b,args:=#[] }∧(b,Obj.deferred (some [])) ∈ I)→St D w0 w (H++I)→∃ w' I',tE P ds w w'∧St D w0 w' (H++I')
 | [],I,w,_,_,s=>⟨w,I,rfl,s⟩
 | d::ds,I,w,hn,h,s=>by
  obtain ⟨b,rfl,hb⟩:=h d List.mem_cons_self
  obtain ⟨s1,s2,rfl⟩:=List.append_of_mem hb
  rw [List.nodup_cons] at hn
  have e1:St D w0 w ((b,.deferred (some []))::(H++(s1++s2))):=s.perm (by classical rw [List.perm_iff_count];intro z;simp only [List.count_append,List.count_cons];omega)
  have e2:=e1.set (.deferred none)
  have e3:St D w0 (cn w b (.deferred none)) (H++((b,.deferred none)::(s1++s2))):=e2.perm (by classical rw [List.perm_iff_count];intro z;simp only [List.count_append,List.count_cons];omega)
  obtain ⟨w',I',g1,g2⟩:=Ax (ds:=ds) hn.2 (fun d hd=>by
   obtain ⟨c,rfl,hc⟩:=h d (List.mem_cons_of_mem _ hd)
   refine ⟨c,rfl,?_⟩
   have jL:c≠b:=fun e=>hn.1 (e▸hd)
   rcases List.mem_append.1 hc with hc | hc
   ·exact List.mem_cons_of_mem _ (List.mem_append_left _ hc)
   ·rcases List.mem_cons.1 hc with hc | hc
    ·cases hc;exact absurd rfl jL
    ·exact List.mem_cons_of_mem _ (List.mem_append_right _ hc)) e3
  exact ⟨w',I',⟨b,_,rfl,Hf e1.holds.one,g1⟩,g2⟩
def vA (P:Program) (T:aJ) (sz:Nat) (tb:dH) (n:Nat) (cJ ts:List Nat) (todo:List Item) (E:List (Nat×AV)) (M:List ai):Option (Prop×List (Nat×AV)×List ai):=
 bif nodupB cJ then (match dN P T (walk P T 3) sz tb n todo ⟨[],E,M,[],[]⟩ with
 | some (.code .ret::_,s)=>(match gk cJ s.M cJ,jq cJ s.E ts with
  | some M',some E'=>some (bg s.vc,E',M')
  | _,_=>none)
 | _=>none) else none
theorem JO (hT:bc P T=true) (hm:P.follows .mixedOrders=true) (hK:∀ w,Kp D w0 w→K0 w) {fn:Func} (hf:P.funcs[f]?=some fn) (tb:dH) (n:Nat) (cJ ts:List Nat) {A:Prop} {E':List (Nat×AV)} {M':List ai} (r:cD true D w0 K0 sz E M a w)
  (h:vA P T sz tb n cJ ts todo E M=some (A,E',M')) (hA:A) (hE:∀ x ∈ E',iH x.2) (hM:∀ b ∈ M',jt b)
  (k:∀ a' w',du D w0 K0 sz E' M' a' w'→∃ v,(results fn a'.tmps).run P w'=.ok v w'∧Re (.returned v) w'):aC P f todo (.ends Re) a w:=by
 unfold vA at h
 cases hk:nodupB cJ with
 | false=>simp [hk] at h
 | true=>
  simp only [hk,cond_true] at h
  split at h
  rotate_left
  ·simp at h
  rename_i k0 s hr
  split at h
  rotate_left
  ·simp at h
  rename_i M1 E1 tZ y5
  simp only [Option.some.injEq,Prod.mk.injEq] at h
  obtain ⟨yX,rfl,rfl⟩:=h
  refine n8 hT (iN hT hm 3) hm hK n hr r (by rw [yX];exact hA) fun a w r=>?_
  obtain ⟨bE,I,lN,β,F,Rm,hs⟩:=cD.lR r hk tZ y5
  obtain ⟨w',I',g1,g2⟩:=Ax (P:=P) lN.1 lN.2 Rm.st
  have r':du D w0 K0 sz E1 M1 { a with defers:=[] } w':=by
   refine ⟨bE,I',rfl,β,F,⟨Rm.len,fun u b hb=>hM b (List.mem_of_getElem? hb) _ _ _ _ _ (Rm.blk u b hb),g2⟩,fun t v hv=>?_⟩
   exact hE (t,v) (l3 hv) _ _ _ _ (hs t v hv)
  obtain ⟨v,h1,h2⟩:=k _ _ r'
  exact aC.MH hf g1 h1 h2
def Ld (w0:World) (K0:World→Prop) (x:AV) (M':List ai):Ending→World→Prop:=fun e w'=>∃ v,e=.returned v∧∃ ay F' I',RM [] w0 K0 M' ay F' I' w'∧ax (fun w=>K0 w∧Holds w I') ay x v
abbrev yf (w0:World) (K0:World→Prop) (x:AV) (M':List ai):fB:=.ends (Ld w0 K0 x M')
def CN (T:aJ) (rs:List ResultVar) (E:List (Nat×AV)) (M:List ai):Option AV:=match iU T E M rs with | some l=>some (yd l) | none=>none
theorem BG (hT:bc P T=true) (hm:P.follows .mixedOrders=true) (hK:∀ w,Kp [] w0 w→K0 w) {fn:Func} (hf:P.funcs[f]?=some fn) (tb:dH) (n:Nat) (cJ ts:List Nat) {A:Prop} {E':List (Nat×AV)} {M':List ai} {x:AV} (r:cD true [] w0 K0 sz E M a w)
  (h:vA P T sz tb n cJ ts todo E M=some (A,E',M')) (h2:CN T fn.results.toList E' M'=some x) (hA:A) (hE:∀ x ∈ E',iH x.2) (hM:∀ b ∈ M',jt b):aC P f todo (yf w0 K0 x M') a w:=by
 refine JO hT hm hK hf tb n cJ ts r h hA hE hM fun a' w' r'=>?_
 obtain ⟨-,I,-,β,F,Rm,hs⟩:=r'
 unfold CN at h2
 split at h2
 ·rename_i l hl
  simp only [Option.some.injEq] at h2;subst h2
  obtain ⟨ys,e1,e2,e3⟩:=oL hT Rm hs hl
  refine ⟨_,sk rfl e1,_,rfl,β,F,I,Rm,?_⟩
  match ys,l,e2,e3 with
  | [],[],_,_=>exact .tu [] rfl (by simp)
  | [y],[v],_,e3=>exact e3 0 v y rfl rfl
  | y::y'::ys,v::v'::l,e2,e3=>exact .tu _ e2 e3
 ·simp at h2
theorem cD.mark (r:cD mk D w0 K0 sz E M a w):cD true D w0 K0 sz E M a w:=by
 cases mk with
 | true=>exact r
 | false=>obtain ⟨h1,I,h2,h3⟩:=r;exact ⟨h1,I,by rw [h2];exact Mk.nil I,h3⟩
end Go.Proofs.YtcnpikbbmbombaaGreatDoor
namespace Go.Proofs.YtcnpikbbmbombaaGreatDoor
open Go.RowKit
variable {P:Program} {f:FuncId}
theorem aq.JP {fn:Func} {c:Code} {args:List AV} {x:AV} {M':List ai} {g:Nat} {row:List DV} (j6:iz P f=true) (hf:P.funcs[f]?=some fn) (hb:fn.body=some c) (n:Nat) (hn:fn.ntmps=n) (hle:Nat.ble args.length n=true)
  (h:∀ (w0:World) (K0:World→Prop) (a:Act),(∀ w,Kp [] w0 w→K0 w)→du [] w0 K0 n (iE args 0) [.gw g row] a w0→aC P f [.code c] (yf w0 K0 x M') a w0):aq P f args [.gw g row] (mapA (·+1) x) (.gw g row::M'.map (fy (·+1))):=by
 refine ⟨j6,?_⟩
 intro D w0 K0 β F I w ys Rm hK hl hr
 have hle:=Nat.le_of_ble_eq_true hle
 have gn:β.length=1:=Rm.len
 have lT:=Rm.blk 0 _ rfl
 have pC:F 0=[]:=by
  generalize F 0=H at lT
  cases lT;rfl
 have br:St D w0 w ([]++I):=by
  have:=Rm.st
  simpa [List.range_succ,pC] using this
 have ru:∀ w',Kp [] w w'→K0 w'∧Holds w' I:=fun w' k=>by
  have t:St [] w w' []:=⟨k,by simp [keys],by simp [keys],Holds.nil _⟩
  have s':=St.call br rfl t
  rw [List.nil_append] at s'
  exact ⟨hK _ s'.kp,s'.holds⟩
 rw [pC] at lT
 have hg:=h w (fun w=>K0 w∧Holds w I) { tmps:=ys.toArray++Array.replicate (fn.ntmps-ys.toArray.size) undef,defers:=[] } ru ⟨by simp;omega,[],rfl,β,fun _=>[],⟨gn,fun u b hu=>by
   cases u with
   | zero=>simp at hu;subst hu;exact lT.mono (fun w hw=>hw.1) (Ext.refl _)
   | succ u=>simp at hu,by simpa [List.range_succ] using St.none w⟩,by
  intro t v hv
  obtain ⟨y,rfl,rfl,hy⟩:∃ y:Nat×AV,y.1=t∧y.2=v∧y ∈ iE args 0:=⟨(t,v),rfl,rfl,l3 hv⟩
  obtain ⟨-,h2⟩:=qb args 0 y hy
  simp only [Nat.sub_zero] at h2
  obtain ⟨aI,-⟩:=List.getElem?_eq_some_iff.1 h2
  have iZ:ys[y.1]?=some ys[y.1]:=List.getElem?_eq_getElem (by omega)
  have he:({ tmps:=ys.toArray++Array.replicate (fn.ntmps-ys.toArray.size) undef,defers:=[] }:Act).eval (.tmp y.1)=ys[y.1]:=by
   have:y.1<ys.length:=by omega
   simp [Act.eval,Array.getD_eq_getD_getElem?,Array.getElem?_append,this]
  rw [he]
  exact (hr y.1 y.2 _ h2 iZ).mono (fun w hw=>hw.1) (Ext.refl _)⟩
 refine (pY hf hb hg).mono ?_
 rintro e w' ⟨v,rfl,ay,F',I',R',hx⟩
 have s2:=St.call br rfl R'.st
 have cf:∀ w,K0 w∧Holds w (I'++I)→(K0 w∧Holds w I)∧Holds w I':=fun w hw=>⟨⟨hw.1,(Holds.app.1 hw.2).2⟩,(Holds.app.1 hw.2).1⟩
 have lZ:∀ (u:Nat) q,ay[u]?=some q→(β++ay)[u+1]?=some q:=fun u q hq=>by
  rw [List.getElem?_append_right (by omega),gn,Nat.add_sub_cancel];exact hq
 refine ⟨v,rfl,β++ay,fun u=>match u with | 0=>[] | u+1=>F' u,I'++I,⟨by simp [gn,R'.len];omega,fun u b hu=>?_,?_⟩,Ext.app _ _,⟨I',rfl⟩,nu lZ (hx.mono cf (Ext.refl _))⟩
 ·cases u with
  | zero=>
   simp at hu;subst hu
   exact lT.mono (fun w hw=>(cf w hw).1) (Ext.app _ _)
  | succ u=>
   rw [List.getElem?_cons_succ,List.getElem?_map,Option.map_eq_some_iff] at hu
   obtain ⟨b0,eK,rfl⟩:=hu
   exact ss lZ ((R'.blk u b0 eK).mono cf (Ext.refl _))
 ·rw [List.append_assoc] at s2
  rw [List.length_cons,List.length_map,List.range_succ_eq_map,List.flatMap_cons,List.nil_append,List.flatMap_map]
  exact s2
def CO:ai→Bool
 | .gw _ _=>true
 | _=>false
theorem aq.IE {fn:Func} {c:Code} {args:List AV} {x:AV} {M' G:List ai} (hG:G.all CO=true) (j6:iz P f=true) (hf:P.funcs[f]?=some fn) (hb:fn.body=some c) (n:Nat) (hn:fn.ntmps=n) (hle:Nat.ble args.length n=true)
  (h:∀ (w0:World) (K0:World→Prop) (a:Act),(∀ w,Kp [] w0 w→K0 w)→du [] w0 K0 n (iE args 0) G a w0→aC P f [.code c] (yf w0 K0 x M') a w0):aq P f args G (mapA (·+G.length) x) (G++M'.map (fy (·+G.length))):=by
 refine ⟨j6,?_⟩
 intro D w0 K0 β F I w ys Rm hK hl hr
 have hle:=Nat.le_of_ble_eq_true hle
 have gn:β.length=G.length:=Rm.len
 have lT:∀ (u:Nat) b,G[u]?=some b→bq (fun w=>K0 w∧Holds w I) β u b []∧F u=[]:=fun u b hu=>by
  have hg:=List.all_eq_true.1 hG b (List.mem_of_getElem? hu)
  have h:=Rm.blk u b hu
  generalize F u=H at h
  cases b<;>simp [CO] at hg
  cases h with | gw X hl hc hr=>exact ⟨.gw X hl hc hr,rfl⟩
 have eI:(List.range G.length).flatMap F=[]:=by
  rw [List.flatMap_eq_nil_iff]
  intro u hu
  exact (lT u _ (List.getElem?_eq_getElem (List.mem_range.1 hu))).2
 have br:St D w0 w ([]++I):=by
  have:=Rm.st
  rwa [eI] at this
 have ru:∀ w',Kp [] w w'→K0 w'∧Holds w' I:=fun w' k=>by
  have t:St [] w w' []:=⟨k,by simp [keys],by simp [keys],Holds.nil _⟩
  have s':=St.call br rfl t
  rw [List.nil_append] at s'
  exact ⟨hK _ s'.kp,s'.holds⟩
 have hg:=h w (fun w=>K0 w∧Holds w I) { tmps:=ys.toArray++Array.replicate (fn.ntmps-ys.toArray.size) undef,defers:=[] } ru ⟨by simp;omega,[],rfl,β,fun _=>[],⟨gn,fun u b hu=>(lT u b hu).1.mono (fun w hw=>hw.1) (Ext.refl _),by rw [show (List.range G.length).flatMap (fun _=>([]:al))=[] by simp];simpa using St.none w⟩,by
  intro t v hv
  obtain ⟨y,rfl,rfl,hy⟩:∃ y:Nat×AV,y.1=t∧y.2=v∧y ∈ iE args 0:=⟨(t,v),rfl,rfl,l3 hv⟩
  obtain ⟨-,h2⟩:=qb args 0 y hy
  simp only [Nat.sub_zero] at h2
  obtain ⟨aI,-⟩:=List.getElem?_eq_some_iff.1 h2
  have iZ:ys[y.1]?=some ys[y.1]:=List.getElem?_eq_getElem (by omega)
  have he:({ tmps:=ys.toArray++Array.replicate (fn.ntmps-ys.toArray.size) undef,defers:=[] }:Act).eval (.tmp y.1)=ys[y.1]:=by
   have:y.1<ys.length:=by omega
   simp [Act.eval,Array.getD_eq_getD_getElem?,Array.getElem?_append,this]
  rw [he]
  exact (hr y.1 y.2 _ h2 iZ).mono (fun w hw=>hw.1) (Ext.refl _)⟩
 refine (pY hf hb hg).mono ?_
 rintro e w' ⟨v,rfl,ay,F',I',R',hx⟩
 have s2:=St.call br rfl R'.st
 have cf:∀ w,K0 w∧Holds w (I'++I)→(K0 w∧Holds w I)∧Holds w I':=fun w hw=>⟨⟨hw.1,(Holds.app.1 hw.2).2⟩,(Holds.app.1 hw.2).1⟩
 have lZ:∀ (u:Nat) q,ay[u]?=some q→(β++ay)[u+G.length]?=some q:=fun u q hq=>by
  rw [List.getElem?_append_right (by omega),gn,Nat.add_sub_cancel];exact hq
 refine ⟨v,rfl,β++ay,fun u=>if u<G.length then [] else F' (u-G.length),I'++I,⟨by simp [gn,R'.len],fun u b hu=>?_,?_⟩,Ext.app _ _,⟨I',rfl⟩,nu lZ (hx.mono cf (Ext.refl _))⟩
 ·rcases Nat.lt_or_ge u G.length with h | h
  ·rw [List.getElem?_append_left h] at hu
   simp only [h,if_true]
   exact (lT u b hu).1.mono (fun w hw=>(cf w hw).1) (Ext.app _ _)
  ·rw [List.getElem?_append_right h,List.getElem?_map,Option.map_eq_some_iff] at hu
   obtain ⟨b0,eK,rfl⟩:=hu
   have h':¬ u<G.length:=by omega
   simp only [h',if_false]
   have:=ss lZ ((R'.blk _ b0 eK).mono cf (Ext.refl _))
   rwa [Nat.sub_add_cancel h] at this
 ·rw [List.append_assoc] at s2
  have e:(List.range (G++M'.map (fy (·+G.length))).length).flatMap (fun u=>if u<G.length then [] else F' (u-G.length))=(List.range M'.length).flatMap F':=by
   rw [List.length_append,List.length_map,List.range_add,List.flatMap_append,List.flatMap_map]
   have e1:(List.range G.length).flatMap (fun u=>if u<G.length then ([]:al) else F' (u-G.length))=[]:=by
    rw [List.flatMap_eq_nil_iff]
    intro u hu
    simp [List.mem_range.1 hu]
   rw [e1,List.nil_append]
   refine congrArg (fun q=>List.flatMap q _) ?_
   funext u;simp;intro h;omega
  rw [e];exact s2
end Go.Proofs.YtcnpikbbmbombaaGreatDoor
namespace Go.Proofs.YtcnpikbbmbombaaGreatDoor
open Go.RowKit
variable {mk:Bool} {P:Program} {T:aJ} {f:FuncId} {R:fB} {a:Act} {w:World} {D:List Nat} {w0:World} {K0:World→Prop} {E:List (Nat×AV)} {M M2:List ai} {β:Beta} {F:Nat→al} {I H:al} {sz:Nat} {tb:dH} {todo todo':List Item}
theorem cD.word (r:cD mk D w0 K0 sz E M a w) (u:Nat) {b b':ai} (hM:M[u]?=some b) (h:∀ (K:World→Prop) (β:Beta) (H:al),bq K β u b H→bq K β u b' H):cD mk D w0 K0 sz E (M.set u b') a w:=by
 obtain ⟨h1,I,h2,β,F,Rm,hs⟩:=r
 refine ⟨h1,I,h2,β,F,⟨by rw [List.length_set];exact Rm.len,fun v c hv=>?_,by rw [List.length_set];exact Rm.st⟩,hs⟩
 rw [List.getElem?_set] at hv
 split at hv
 ·rename_i e
  subst e
  split at hv
  ·simp only [Option.some.injEq] at hv;subst hv;exact h _ _ _ (Rm.blk u b hM)
  ·simp at hv
 ·exact Rm.blk v c hv
inductive kQ:List (List DV)→List (List DV)→Prop where
 | nil:kQ [] []
 | cons {x x':List DV} {l l':List (List DV)} (h:dh x x') (t:kQ l l'):kQ (x::l) (x'::l')
theorem kQ.ok {l l':List (List DV)} (h:kQ l l'):l.length=l'.length∧∀ (i:Nat) r r',l[i]?=some r→l'[i]?=some r'→dh r r':=by
 induction h with
 | nil=>simp
 | cons h t ih=>
  refine ⟨by simp [ih.1],fun i r r' h1 h2=>?_⟩
  cases i with
  | zero=>simp at h1 h2;subst h1 h2;exact h
  | succ i=>exact ih.2 i r r' (by simpa using h1) (by simpa using h2)
theorem cD.less (r:cD mk D w0 K0 sz E M a w) (u:Nat) {Tm k:Nat} {rows rows':List (List DV)} (hM:M[u]?=some (.rw Tm k rows)) (h:kQ rows rows'):cD mk D w0 K0 sz E (M.set u (.rw Tm k rows')) a w:=
 r.word u hM fun K β H hb=>by
  cases hb with
  | rw hb X G hl hs hr=>
   obtain ⟨e1,e2⟩:=h.ok
   rw [e1] at hs ⊢
   have key:∀ (i:Nat) r',rows'[i]?=some r'→∃ r,rows[i]?=some r∧r.length=r'.length∧∀ (j:Nat) c c',r[j]?=some c→r'[j]?=some c'→Le c c':=fun i r' hi=>by
    have aI:i<rows.length:=by rw [e1];exact (List.getElem?_eq_some_iff.1 hi).1
    have e:=List.getElem?_eq_getElem aI
    exact ⟨_,e,(e2 i _ r' e hi).ok⟩
   refine .rw hb X G (fun i r' hi=>?_) hs fun i r' j c x hi h1 h2=>?_
   ·obtain ⟨r,g1,g2,-⟩:=key i r' hi
    have:=hl i r g1;omega
   ·obtain ⟨r,g1,g2,g3⟩:=key i r' hi
    have hj:j<r.length:=by rw [g2];exact (List.getElem?_eq_some_iff.1 h1).1
    have e:=List.getElem?_eq_getElem hj
    exact g3 j _ c e h1 K x _ (hr i r j _ x g1 e h2)
def mM:Code→List Item→List (RF×List Item)
 | .seq x y,k=>mM x (.code y::k)++mM y k
 | .cond _ x y,k=>mM x k++mM y k
 | .block i c,k=>mM c (.inBlock i::k)
 | .loop c,k=>mM c (.inLoop c::k)
 | .rangeFunc _ ps da body,k=>[(⟨ps,da,body⟩,k)]
 | _,_=>[]
def lU (fn:Func) (n:Nat):RF:=match fn.body with | some c=>(match (mM c [])[n]? with | some x=>x.1 | none=>⟨#[],.skip,.skip⟩) | none=>⟨#[],.skip,.skip⟩
def MI (fn:Func) (n:Nat):List Item:=match fn.body with | some c=>(match (mM c [])[n]? with | some x=>x.2 | none=>[]) | none=>[]
def nN (id:Nat):Code→List (Array Oper)
 | .seq x y=>nN id x++nN id y
 | .cond _ x y=>nN id x++nN id y
 | .block _ c=>nN id c
 | .loop c=>nN id c
 | .region i ops _=>bif i.beq id then [ops] else []
 | _=>[]
def ops (fn:Func) (id:Nat):Array Oper:=match fn.body with | some c=>(match nN id c with | o::_=>o | []=>#[]) | none=>#[]
end Go.Proofs.YtcnpikbbmbombaaGreatDoor
namespace Go.Proofs.YtcnpikbbmbombaaGreatDoor
open Go.RowKit
variable {mk:Bool} {P:Program} {T:aJ} {a:Act} {w:World} {D:List Nat} {w0:World} {K0:World→Prop} {E:List (Nat×AV)} {M M2:List ai} {β:Beta} {F:Nat→al} {I X:al} {sz:Nat}
theorem RM.open (Rm:RM D w0 K0 M β F I w) {u e k i o T2 k2:Nat} {rows bA:List (List DV)} {row:List DV} (hM:M[u]?=some (.rw e k rows)) (bQ:rows[i]?=some row) (ib:row[o]?=some (.em T2 k2 bA)):
  ∃ a2 c2 ay F',RM D w0 K0 (M.set u (.rw e k (rows.set i (row.take o++([.v (.slice a2 bA.length c2)]++row.drop (o+1)))))++[.tw a2 c2 T2 k2 bA]) ay F' I w∧Ext β ay:=by
 have R:=Rm.x
 have hB:=R.blk u _ hM
 have hH:=R.iD hM
 have R1:=R.fj hM
 have aI:=fe hM
 generalize jc:F u=Fu at hB hH R1
 cases hB with
 | rw hb X G cN hs hr=>
  obtain ⟨hi,-⟩:=List.getElem?_eq_some_iff.1 bQ
  obtain ⟨ho,-⟩:=List.getElem?_eq_some_iff.1 ib
  obtain ⟨tM,tN⟩:=cN i row bQ
  obtain ⟨b0,cap,cs,he,rfl,cG,dC,ht⟩:=hs.block (by omega)
  cases he
  have hX:∀ a,a<rows.length→(X a).length=k:=fun a ha=>(cN a _ (List.getElem?_eq_getElem ha)).2
  obtain ⟨y,hy⟩:∃ y,(X i)[o]?=some y:=⟨_,List.getElem?_eq_getElem (by omega)⟩
  have hd:=hr i row o _ y bQ ib hy
  generalize MJ:G i o=Nt at hd
  cases hd with
  | em X2 F2 kP jw jd=>
   rename_i H2
   obtain ⟨a2,c2,rfl⟩:=jw.len
   refine ⟨a2,c2,?_⟩
   have ra:dz (fun w=>K0 w∧Holds w I) k rows X G:=⟨cN,hr⟩
   have fT:=ra.put (o:=o) (zs:=[.slice a2 bA.length c2]) (xs:=[.v (.slice a2 bA.length c2)]) (Gx:=fun _=>[]) bQ (by simp;omega) rfl (fun j c z g1 g2=>by
    cases j with
    | zero=>simp at g1 g2;subst g1 g2;exact .v _
    | succ j=>simp at g1)
   have jH:=sc (n:=rows.length) (k:=k) (i:=i) (o:=o) (m:=1) hi (by omega) G (fun _=>[])
   have dF:(List.range 1).flatMap (fun _=>([]:al))=[]:=by simp
   have xa:(List.range' o 1).flatMap (G i)=G i o:=by simp
   rw [dF,xa,List.append_nil,MJ] at jH
   have R2:=R1.perm (Y:=([(b0,.cells cs e (0,0))]++bB rows.length k (dB G i o 1 fun _=>[]))++(H2++bB bA.length k2 F2)) (by
    classical
    have hc:=List.perm_iff_count.1 jH
    rw [List.perm_iff_count];intro z
    have:=hc z
    simp only [List.count_append,List.count_nil] at this ⊢
    omega)
   have wb:lay rows.length (gD X i o [.slice a2 bA.length c2])=lay rows.length X:=by
    refine so fun a ha=>?_
    unfold gD;split
    ·rename_i e;subst e
     apply List.ext_getElem?;intro j
     rw [mc (by simp;omega)]
     split
     ·rename_i h1;simp at h1
      obtain rfl:j=o:=by omega
      rw [hy];simp
     ·rfl
    ·rfl
   have fJ:bq (fun w=>K0 w∧Holds w I) β u (.rw e k (rows.set i (row.take o++([.v (.slice a2 bA.length c2)]++row.drop (o+1))))) ([(b0,.cells cs e (0,0))]++bB rows.length k (dB G i o 1 fun _=>[])):=by
    have:=bq.rw (K:=fun w=>K0 w∧Holds w I) (u:=u) (T:=e) (k:=k) (rows:=rows.set i (row.take o++([.v (.slice a2 bA.length c2)]++row.drop (o+1)))) (H0:=[(b0,.cells cs e (0,0))]) hb (gD X i o [.slice a2 bA.length c2]) (dB G i o 1 fun _=>[]) fT.hl (by
     rw [List.length_set,wb]
     exact ⟨eD hX,Or.inr ⟨_,_,_,rfl,rfl,cG,dC,ht⟩⟩) fT.hr
    rw [List.length_set] at this;exact this
   have R3:=R2.back (by rw [List.length_set];exact aI) (by simp [aH]) fJ
   rw [List.set_set] at R3
   have tQ:(M.set u (ai.rw e k (rows.set i (row.take o++([.v (.slice a2 bA.length c2)]++row.drop (o+1)))))).length=M.length:=by rw [List.length_set]
   have hq:(β++[(a2,c2)])[M.length]?=some (a2,c2):=by rw [← R.len];simp
   have fN:=bq.tw (K:=fun w=>K0 w∧Holds w I) (T:=T2) (k:=k2) (rows:=bA) hq X2 F2 kP jw jd
   rw [← tQ] at fN
   have R4:=((R3.perm (Y:=_++[]) (by rw [List.append_nil])).take fN).nil rfl
   exact ⟨_,_,R4,Ext.app _ _⟩
end Go.Proofs.YtcnpikbbmbombaaGreatDoor
namespace Go.Proofs.YtcnpikbbmbombaaGreatDoor
open Go.RowKit
variable {mk:Bool} {P:Program} {T:aJ} {a:Act} {w:World} {D:List Nat} {w0:World} {K0:World→Prop} {E E1 E2:List (Nat×AV)} {M M1 M2 M3:List ai} {β:Beta} {F:Nat→al} {I X:al} {sz:Nat} {b:eT}
theorem dQ.via {ι:Type} {N:ι→List ai} (r:dQ mk D w0 K0 sz b E M a w) (h:∀ β F I,RM D w0 K0 M β F I w→∃ x ay F' I',RM D w0 K0 (N x) ay F' I' w∧Ext β ay∧bR I I'∧M.length≤(N x).length):∃ x,dQ mk D w0 K0 sz b E (N x) a w:=by
 obtain ⟨hb,tc,h1,I,h2,h3,β,F,R,b9,hs⟩:=r
 obtain ⟨x,ay,F',I',R',e,g,hl⟩:=h β F I R
 exact ⟨x,hb,List.range b.m,h1,I',h2.grow g,Nat.le_trans h3 hl,ay,F',R',⟨fun u x hu hx=>e u x (b9.1 u x hu hx),b9.2.1.trans g,fun u hu hn=>absurd (List.mem_range.2 hu) hn⟩,fun t v hv=>(hs t v hv).mono (fun w hw=>⟨hw.1,g.holds w hw.2⟩) e⟩
theorem dQ.Lf {M3:Option Addr→Nat→List ai} (r:dQ mk D w0 K0 sz b E M a w) {u e k i o T2 k2:Nat} {rows bA:List (List DV)} {row:List DV} (hM:M[u]?=some (.rw e k rows)) (bQ:rows[i]?=some row) (ib:row[o]?=some (.em T2 k2 bA)) (kc:∀ a2 c2,M.set u (.rw e k (rows.set i (row.take o++([.v (.slice a2 bA.length c2)]++row.drop (o+1)))))++[.tw a2 c2 T2 k2 bA]=M3 a2 c2):
  ∃ a2 c2,dQ mk D w0 K0 sz b E (M3 a2 c2) a w:=by
 obtain ⟨x,h⟩:=r.via (ι:=Option Addr×Nat) (N:=fun x=>M3 x.1 x.2) fun β F I R=>by
  obtain ⟨a2,c2,ay,F',R',hE⟩:=R.open hM bQ ib
  rw [kc a2 c2] at R'
  exact ⟨(a2,c2),ay,F',I,R',hE,bR.refl _,by rw [← kc a2 c2];simp⟩
 exact ⟨x.1,x.2,h⟩
end Go.Proofs.YtcnpikbbmbombaaGreatDoor
namespace Go.Proofs.YtcnpikbbmbombaaGreatDoor
open Go.RowKit
def s5 (G:List ai) (K:World→Prop):Prop:=∀ (u:Nat) blk,G[u]?=some blk→bq K [] u blk []
theorem s5.rm {G:List ai} {K:World→Prop} (h:s5 G K) (w:World):RM [] w K G (List.replicate G.length (none,0)) (fun _=>[]) [] w:=by
 refine ⟨by simp,fun u blk hu=>(h u blk hu).mono (fun w hw=>hw.1) (fun _ _ he=>by simp at he),?_⟩
 have e:(List.range G.length).flatMap (fun _=>([]:al))++[]=[]:=by simp
 rw [e];exact St.none w
theorem aq.JQ {P:Program} {f:FuncId} {G:List ai} {args:List AV} {w:World} (h:aq P f args G (.d (.v (.bool true))) G) {ys:List Value} (hG:s5 G (Gr w)) (hl:ys.length=args.length) (hr:∀ (j:Nat) c y,args[j]?=some c→ys[j]?=some y→ax (Gr w) [] c y):Calls P f ys.toArray w fun e w'=>e=.returned (.bool true)∧Gr w w':=by
 refine (h.2 ys (hG.rm w) (fun w' k=>k.sU) hl fun j c y a b=>(hr j c y a b).mono (fun w hw=>hw.1) fun _ _ he=>by simp at he).mono ?_
 rintro e w' ⟨v,rfl,ay,F',I',R',-,-,ha⟩
 cases ha with
 | d hd=>cases hd;exact ⟨rfl,R'.st.kp.sU⟩
end Go.Proofs.YtcnpikbbmbombaaGreatDoor
namespace Go.Proofs.YtcnpikbbmbombaaGreatDoor
open Go.RowKit
structure aM where
 kind:Int
 node:Int
 peer:Int
 n:Int
 bit:Int
 inc:Nat
 body:List UInt8
deriving DecidableEq
structure cE where
 aL:Int
 ah:List (Int×Int)
 homes:List Int
deriving DecidableEq
def aM.row (s:aM):List DV:=[.z s.kind,.z s.node,.z s.peer,.z s.n,.z s.bit,.u s.inc,.ro 1 (ae s.body)]
def steps (l:List aM):List (List DV):=l.map aM.row
def ah (l:List (Int×Int)):List (List DV):=l.map fun x=>[.z x.1,.z x.2]
def ints (l:List Int):List (List DV):=l.map fun n=>[.z n]
def strs (l:List (List UInt8)):List (List DV):=l.map fun s=>[.v (.string ⟨s.toArray⟩)]
theorem l9 {l:List aM} {i:Nat} {s:aM} (h:l[i]?=some s):(steps l)[i]?=some s.row:=by simp [steps,h]
theorem cU {l:List (Int×Int)} {i:Nat} {x:Int×Int} (h:l[i]?=some x):(ah l)[i]?=some [.z x.1,.z x.2]:=by simp [ah,h]
theorem ints_at {l:List Int} {i:Nat} {x:Int} (h:l[i]?=some x):(ints l)[i]?=some [.z x]:=by simp [ints,h]
theorem sw {l:List (List UInt8)} {i:Nat} {x:List UInt8} (h:l[i]?=some x):(strs l)[i]?=some [.v (.string ⟨x.toArray⟩)]:=by simp [strs,h]
theorem dM {l:List UInt8} {i:Nat} {b:UInt8} (h:l[i]?=some b):(ae l)[i]?=some [.v (.int .u8 (b.toNat:Int))]:=by simp [ae,h]
theorem uo (l:List UInt8) (n:Nat):ae (l.take n)=(ae l).take n:=by simp [ae,List.map_take]
theorem nk (l:List UInt8) (n:Nat):ae (l.drop n)=(ae l).drop n:=by simp [ae,List.map_drop]
theorem ow (l:List UInt8):cb (ae l)=ae l:=by rw [jU];unfold ae;rw [List.map_map];apply List.map_congr_left;intro b _;rfl
theorem pI {t:TypeId} {xs ys:List Value} {c c':Bool} (e:j4 Tryz.prog t xs ys c) (h:c=c'):j4 Tryz.prog t xs ys c':=h▸e
theorem oT (a b c d:Int):j4 Tryz.prog 60 [.int .i64 a,.int .i64 b] [.int .i64 c,.int .i64 d] (a==c&&b==d):=⟨by kernel_rfl,fun w=>by
 have:=Eg (P:=Tryz.prog) (w:=w) (t:=60) (e:=3) (dp:=9998) (k:=.i64) (a:=a) (b:=b) (c:=c) (d':=d) (by kernel_rfl) (by kernel_rfl) (by kernel_rfl)
 simpa [Op.equal,Op.maxDepth] using this⟩
def kK (c:cE) (n:Int):Prop:=1≤n∧n≤c.aL
structure tF (c:cE):Prop where
 head:1≤c.aL∧c.aL≤4∧c.homes.length≤6
 link:∀ (i:Nat) x,c.ah[i]?=some x→kK c x.1∧kK c x.2∧x.1≠x.2
 lone:∀ (i k:Nat) x o,c.ah[i]?=some x→k<i→c.ah[k]?=some o→¬ (o.1=x.1∧o.2=x.2)∧¬ (o.1=x.2∧o.2=x.1)
 home:∀ (i:Nat) x,c.homes[i]?=some x→kK c x
noncomputable def bI (c:cE):Bool:=@decide (tF c) (Classical.propDecidable _)
section
variable {c:cE} {i k:Nat}
theorem jE (h:bI c=true):tF c:=@of_decide_eq_true _ (Classical.propDecidable _) h
theorem xx (h:tF c):bI c=true:=@decide_eq_true _ (Classical.propDecidable _) h
theorem s6 (h:¬ tF c):bI c=false:=@decide_eq_false _ (Classical.propDecidable _) h
theorem ea (h:c.aL<1∨4<c.aL∨6<(c.homes.length:Int)):bI c=false:=s6 fun m=>by have:=m.head;omega
theorem eb {x:Int×Int} (g:c.ah[i]?=some x) (h:x.1<1∨c.aL<x.1∨x.2<1∨c.aL<x.2∨x.1=x.2):bI c=false:=s6 fun m=>by have:=m.link i x g;unfold kK at this;omega
theorem ec {x o:Int×Int} (g:c.ah[i]?=some x) (hk:k<i) (g2:c.ah[k]?=some o) (h:(o.1=x.1∧o.2=x.2)∨(o.1=x.2∧o.2=x.1)):bI c=false:=s6 fun m=>by have:=m.lone i k x o g hk g2;omega
theorem ef {x:Int} (g:c.homes[i]?=some x) (h:x<1∨c.aL<x):bI c=false:=s6 fun m=>by have:=m.home i x g;unfold kK at this;omega
def kB (c:cE) (i:Nat):Prop:=∀ (j:Nat) x,j<i→c.ah[j]?=some x→(kK c x.1∧kK c x.2∧x.1≠x.2)∧∀ (k:Nat) o,k<j→c.ah[k]?=some o→¬ (o.1=x.1∧o.2=x.2)∧¬ (o.1=x.2∧o.2=x.1)
def kC (c:cE) (x:Int×Int) (k:Nat):Prop:=∀ (j:Nat) o,j<k→c.ah[j]?=some o→¬ (o.1=x.1∧o.2=x.2)∧¬ (o.1=x.2∧o.2=x.1)
def kD (c:cE) (i:Nat):Prop:=∀ (j:Nat) x,j<i→c.homes[j]?=some x→kK c x
theorem kB.next {x:Int×Int} (h:kB c i) (g:c.ah[i]?=some x) (h1:1≤x.1∧x.1≤c.aL∧1≤x.2∧x.2≤c.aL∧x.1≠x.2) (h2:kC c x i):kB c (i+1):=fun j y hj gy=>by
 rcases Nat.lt_succ_iff_lt_or_eq.1 hj with h' | rfl
 ·exact h j y h' gy
 ·rw [g] at gy;cases gy
  exact ⟨⟨⟨h1.1,h1.2.1⟩,⟨h1.2.2.1,h1.2.2.2.1⟩,h1.2.2.2.2⟩,h2⟩
theorem kC.next {x o:Int×Int} (h:kC c x k) (g:c.ah[k]?=some o) (h1:¬ (o.1=x.1∧o.2=x.2)∧¬ (o.1=x.2∧o.2=x.1)):kC c x (k+1):=fun j y hj gy=>by
 rcases Nat.lt_succ_iff_lt_or_eq.1 hj with h' | rfl
 ·exact h j y h' gy
 ·rw [g] at gy;cases gy;exact h1
theorem kC.none (x:Int×Int):kC c x 0:=fun _ _ h=>absurd h (Nat.not_lt_zero _)
theorem kB.none:kB c 0:=fun _ _ h=>absurd h (Nat.not_lt_zero _)
theorem kD.none:kD c 0:=fun _ _ h=>absurd h (Nat.not_lt_zero _)
theorem kD.next {x:Int} (h:kD c i) (g:c.homes[i]?=some x) (h1:1≤x∧x≤c.aL):kD c (i+1):=fun j y hj gy=>by
 rcases Nat.lt_succ_iff_lt_or_eq.1 hj with h' | rfl
 ·exact h j y h' gy
 ·rw [g] at gy;cases gy;exact h1
theorem eh (h0:1≤c.aL∧c.aL≤4∧(c.homes.length:Int)≤6) (h1:kB c i) (hi:c.ah.length≤i) (h2:kD c k) (hk:c.homes.length≤k):bI c=true:=xx
 ⟨by omega,fun j x g=>(h1 j x (by have:=(List.getElem?_eq_some_iff.1 g).1;omega) g).1,fun j k x o g hk g2=>(h1 j x (by have:=(List.getElem?_eq_some_iff.1 g).1;omega) g).2 k o hk g2,fun j x g=>h2 j x (by have:=(List.getElem?_eq_some_iff.1 g).1;omega) g⟩
end
theorem eo {a b c d:Int}:(a==c&&b==d)=true→a=c∧b=d:=by simp
theorem Ci {a b c d:Int}:(a==c&&b==d)=false→¬ (a=c∧b=d):=by simp
set_option maxRecDepth 100000 in
theorem o7 (c:cE) (hl:c.ah.length≤9223372036854775807) (hh:c.homes.length≤9223372036854775807):aB Tryz.prog 21 [.ag [.z c.aL,.d (.ro 2 (ah c.ah)),.d (.ro 1 (ints c.homes))]] (.v (.bool (bI c))):=by
 refine aB.intro (by kernel_rfl) rfl rfl 87 rfl rfl fun w0 K ac hK r=>?_
 cases h0:(decide ((c.aL:Int)<1)) with
 | false=>
  have aK:=of_decide_eq_false h0
  cases h1:(decide ((4:Int)<c.aL)) with
  | false=>
   have bF:=of_decide_eq_false h1
   have aE:=((by first | rfl | (simp [ah];omega) | simp [ae,ah,ints]):(((ints c.homes).length:Nat):Int)=((c.homes.length:Nat):Int))
   cases h2:(decide ((6:Int)<((c.homes.length:Nat):Int))) with
   | false=>
    have cW:=of_decide_eq_false h2
    refine cy (todo':=hd Tryz.f21 0) (E':=[(1,.pt 0 0),(3,.fn 52 [.pt 0 0]),(26,.d (.ro 2 (ah c.ah))),(27,.n c.ah.length),(28,.n 0)]) (M':=[.bx 25 [.z c.aL,.d (.ro 2 (ah c.ah)),.d (.ro 1 (ints c.homes))]]) mo tq hK [(1,[(2,.b false),(6,.b false),(11,.z (((c.homes.length:Nat):Int))),(12,.b false)]),(4,[(2,.z (((c.ah.length:Nat):Int)))])] 2000 [0] [1,3,26,27,28] r (by kernel_rfl) (U h0 (U h1 (U aE (U h2 (U ((by first | rfl | (simp [ah];omega) | simp [ae,ah,ints]):(((ah c.ah).length:Nat):Int)=((c.ah.length:Nat):Int)) trivial))))) fun ac wd r=>?_
    refine aC.rounds (Φ:=fun (i:Nat) ac wd=>(kB c i)∧du [] w0 K 87 [(1,.pt 0 0),(3,.fn 52 [.pt 0 0]),(26,.d (.ro 2 (ah c.ah))),(27,.n c.ah.length),(28,.n i)] [.bx 25 [.z c.aL,.d (.ro 2 (ah c.ah)),.d (.ro 1 (ints c.homes))]] ac wd) (c.ah.length) ?_ (Nat.zero_le _) ⟨kB.none,r⟩
    clear r
    rintro i dI bH ac wd ⟨ao,r⟩
    cases h3:(decide ((((i:Nat):Int):Int)<((c.ah.length:Nat):Int))) with
    | false=>
     have di:=of_decide_eq_false h3
     refine cy (todo':=hd Tryz.f21 2) (E':=[(1,.pt 0 0),(3,.fn 52 [.pt 0 0]),(76,.d (.ro 1 (ints c.homes))),(77,.n c.homes.length),(78,.n 0)]) (M':=[.bx 25 [.z c.aL,.d (.ro 2 (ah c.ah)),.d (.ro 1 (ints c.homes))]]) mo tq hK [(5,[(0,.b false)]),(16,[(2,.z (((c.homes.length:Nat):Int)))])] 2000 [0] [1,3,76,77,78] r (by kernel_rfl) (U h3 (U aE trivial)) fun ac wd r=>?_
     refine aC.rounds (Φ:=fun (i:Nat) ac wd=>(kD c i)∧du [] w0 K 87 [(1,.pt 0 0),(3,.fn 52 [.pt 0 0]),(76,.d (.ro 1 (ints c.homes))),(77,.n c.homes.length),(78,.n i)] [.bx 25 [.z c.aL,.d (.ro 2 (ah c.ah)),.d (.ro 1 (ints c.homes))]] ac wd) (c.homes.length) ?_ (Nat.zero_le _) ⟨kD.none,r⟩
     clear r
     rintro i N6 wC ac wd ⟨dv,r⟩
     cases h4:(decide ((((i:Nat):Int):Int)<((c.homes.length:Nat):Int))) with
     | false=>
      have dD:=of_decide_eq_false h4
      rw [show (.v (.bool (bI c)):DV)=.v (.bool true) from (bv (by first | exact eh (by omega) ao (by omega) dv (by omega) | exact ea (by omega) | exact ef cA (by omega) | exact ec bn (by omega) cm (by first | omega | exact .inl (eo (by assumption)) | exact .inr (eo (by assumption))) | exact eb bn (by omega)))]
      exact bj mo tq hK rfl [(17,[(0,.b false)])] 2000 r (by kernel_rfl) (U h4 trivial)
     | true=>
      have dD:=of_decide_eq_true h4
      obtain ⟨dS,cA⟩:∃ x_,c.homes[i]?=some x_:=⟨_,List.getElem?_eq_getElem (by omega)⟩
      cases h5:(decide ((1:Int)≤dS)) with
      | false=>
       have ew:=of_decide_eq_false h5
       rw [show (.v (.bool (bI c)):DV)=.v (.bool false) from (bv (by first | exact eh (by omega) ao (by omega) dv (by omega) | exact ea (by omega) | exact ef cA (by omega) | exact ec bn (by omega) cm (by first | omega | exact .inl (eo (by assumption)) | exact .inr (eo (by assumption))) | exact eb bn (by omega)))]
       exact bj mo tq hK rfl [(17,[(0,.b true)]),(18,[(0,.ix (i) [.z dS])]),(19,[(2,.bV 200 [(1,[(1,.b false)])])])] 2000 r (by kernel_rfl) (U h4 (U (aA ((i:Nat):Int)) (U (ints_at cA) (U h5 trivial))))
      | true=>
       have ew:=of_decide_eq_true h5
       cases h6:(decide ((dS:Int)≤c.aL)) with
       | false=>
        have eV:=of_decide_eq_false h6
        rw [show (.v (.bool (bI c)):DV)=.v (.bool false) from (bv (by first | exact eh (by omega) ao (by omega) dv (by omega) | exact ea (by omega) | exact ef cA (by omega) | exact ec bn (by omega) cm (by first | omega | exact .inl (eo (by assumption)) | exact .inr (eo (by assumption))) | exact eb bn (by omega)))]
        exact bj mo tq hK rfl [(17,[(0,.b true)]),(18,[(0,.ix (i) [.z dS])]),(19,[(2,.bV 200 [(1,[(1,.b true),(6,.b false)])])])] 2000 r (by kernel_rfl) (U h4 (U (aA ((i:Nat):Int)) (U (ints_at cA) (U h5 (U h6 trivial)))))
       | true=>
        have eV:=of_decide_eq_true h6
        exact cy (todo':=hd Tryz.f21 2) mo tq hK [(17,[(0,.b true)]),(18,[(0,.ix (i) [.z dS])]),(19,[(2,.bV 200 [(1,[(1,.b true),(6,.b true)])])]),(21,[(0,.z (((i+1:Nat):Int)))])] 2000 [0] [1,3,76,77,78] r (by kernel_rfl) (U h4 (U (aA ((i:Nat):Int)) (U (ints_at cA) (U h5 (U h6 (U ((wi (by omega)):IntKind.i64.wrap ((((i:Nat):Int):Int)+1)=((i+1:Nat):Int)) trivial)))))) fun ac wd r=>wC (by omega) ac wd ⟨(dv.next cA (by omega)),r⟩
    | true=>
     have di:=of_decide_eq_true h3
     obtain ⟨aR,bn⟩:∃ x_,c.ah[i]?=some x_:=⟨_,List.getElem?_eq_getElem (by omega)⟩
     cases h7:(decide ((1:Int)≤aR.1)) with
     | false=>
      have dZ:=of_decide_eq_false h7
      rw [show (.v (.bool (bI c)):DV)=.v (.bool false) from (bv (by first | exact eh (by omega) ao (by omega) dv (by omega) | exact ea (by omega) | exact ef cA (by omega) | exact ec bn (by omega) cm (by first | omega | exact .inl (eo (by assumption)) | exact .inr (eo (by assumption))) | exact eb bn (by omega)))]
      exact bj mo tq hK rfl [(5,[(0,.b true)]),(6,[(1,.ix (i) [.z aR.1,.z aR.2])]),(7,[(1,.n 0),(3,.bV 200 [(1,[(1,.b false)])])])] 2000 r (by kernel_rfl) (U h3 (U (aA ((i:Nat):Int)) (U (cU bn) (U (rfl:(0)=((0:Nat):Int)) (U ((by omega):(0)<2) (U h7 trivial))))))
     | true=>
      have dZ:=of_decide_eq_true h7
      cases h8:(decide ((aR.1:Int)≤c.aL)) with
      | false=>
       have e6:=of_decide_eq_false h8
       rw [show (.v (.bool (bI c)):DV)=.v (.bool false) from (bv (by first | exact eh (by omega) ao (by omega) dv (by omega) | exact ea (by omega) | exact ef cA (by omega) | exact ec bn (by omega) cm (by first | omega | exact .inl (eo (by assumption)) | exact .inr (eo (by assumption))) | exact eb bn (by omega)))]
       exact bj mo tq hK rfl [(5,[(0,.b true)]),(6,[(1,.ix (i) [.z aR.1,.z aR.2])]),(7,[(1,.n 0),(3,.bV 200 [(1,[(1,.b true),(6,.b false)])])])] 2000 r (by kernel_rfl) (U h3 (U (aA ((i:Nat):Int)) (U (cU bn) (U (rfl:(0)=((0:Nat):Int)) (U ((by omega):(0)<2) (U h7 (U h8 trivial)))))))
      | true=>
       have e6:=of_decide_eq_true h8
       cases h9:(decide ((1:Int)≤aR.2)) with
       | false=>
        have kR:=of_decide_eq_false h9
        rw [show (.v (.bool (bI c)):DV)=.v (.bool false) from (bv (by first | exact eh (by omega) ao (by omega) dv (by omega) | exact ea (by omega) | exact ef cA (by omega) | exact ec bn (by omega) cm (by first | omega | exact .inl (eo (by assumption)) | exact .inr (eo (by assumption))) | exact eb bn (by omega)))]
        exact bj mo tq hK rfl [(5,[(0,.b true)]),(6,[(1,.ix (i) [.z aR.1,.z aR.2])]),(7,[(1,.n 0),(3,.bV 200 [(1,[(1,.b true),(6,.b true)])]),(7,.n 1),(9,.bV 200 [(1,[(1,.b false)])])])] 2000 r (by kernel_rfl) (U h3 (U (aA ((i:Nat):Int)) (U (cU bn) (U (rfl:(0)=((0:Nat):Int)) (U ((by omega):(0)<2) (U h7 (U h8 (U (rfl:(1)=((1:Nat):Int)) (U ((by omega):(1)<2) (U h9 trivial))))))))))
       | true=>
        have kR:=of_decide_eq_true h9
        cases cX:(decide ((aR.2:Int)≤c.aL)) with
        | false=>
         have lC:=of_decide_eq_false cX
         rw [show (.v (.bool (bI c)):DV)=.v (.bool false) from (bv (by first | exact eh (by omega) ao (by omega) dv (by omega) | exact ea (by omega) | exact ef cA (by omega) | exact ec bn (by omega) cm (by first | omega | exact .inl (eo (by assumption)) | exact .inr (eo (by assumption))) | exact eb bn (by omega)))]
         exact bj mo tq hK rfl [(5,[(0,.b true)]),(6,[(1,.ix (i) [.z aR.1,.z aR.2])]),(7,[(1,.n 0),(3,.bV 200 [(1,[(1,.b true),(6,.b true)])]),(7,.n 1),(9,.bV 200 [(1,[(1,.b true),(6,.b false)])])])] 2000 r (by kernel_rfl) (U h3 (U (aA ((i:Nat):Int)) (U (cU bn) (U (rfl:(0)=((0:Nat):Int)) (U ((by omega):(0)<2) (U h7 (U h8 (U (rfl:(1)=((1:Nat):Int)) (U ((by omega):(1)<2) (U h9 (U cX trivial)))))))))))
        | true=>
         have lC:=of_decide_eq_true cX
         cases gp:((aR.1:Int)==aR.2) with
         | false=>
          have yh:=ne_of_beq_false gp
          refine cy (todo':=hd Tryz.f21 1) (E':=[(1,.pt 0 0),(3,.fn 52 [.pt 0 0]),(26,.d (.ro 2 (ah c.ah))),(27,.n c.ah.length),(28,.n i),(55,.d (.ro 2 (List.take (i) (ah c.ah)))),(56,.n i),(57,.n 0),(5,.pt 1 0)]) (M':=[.bx 25 [.z c.aL,.d (.ro 2 (ah c.ah)),.d (.ro 1 (ints c.homes))],.bx 60 [.z aR.1,.z aR.2]]) mo tq hK [(5,[(0,.b true)]),(6,[(1,.ix (i) [.z aR.1,.z aR.2])]),(7,[(1,.n 0),(3,.bV 200 [(1,[(1,.b true),(6,.b true)])]),(7,.n 1),(9,.bV 200 [(1,[(1,.b true),(6,.b true)])]),(13,.n 0),(15,.n 1),(17,.b false)]),(9,[(3,.n2 (i) (0)),(4,.z (((i:Nat):Int)))])] 2000 [0,1] [1,3,26,27,28,55,56,57,5] r (by kernel_rfl) (U h3 (U (aA ((i:Nat):Int)) (U (cU bn) (U (rfl:(0)=((0:Nat):Int)) (U ((by omega):(0)<2) (U h7 (U h8 (U (rfl:(1)=((1:Nat):Int)) (U ((by omega):(1)<2) (U h9 (U cX (U (rfl:(0)=((0:Nat):Int)) (U ((by omega):(0)<2) (U (rfl:(1)=((1:Nat):Int)) (U ((by omega):(1)<2) (U gp (U (aA ((i:Nat):Int)) (U ((by first | omega | (simp [ae,ah,ints,steps,strs];done) | (simp [ae,ah,ints,steps,strs];omega)):(i)≤(ah c.ah:List (List DV)).length) (U ((by first | rfl | (simp [ah];omega) | simp [ae,ah,ints]):(((List.take (i) (ah c.ah)).length:Nat):Int)=((i:Nat):Int)) trivial))))))))))))))))))) fun ac wd r=>?_
          refine aC.rounds (Φ:=fun (k:Nat) ac wd=>(kC c aR k)∧du [] w0 K 87 [(1,.pt 0 0),(3,.fn 52 [.pt 0 0]),(26,.d (.ro 2 (ah c.ah))),(27,.n c.ah.length),(28,.n i),(55,.d (.ro 2 (List.take (i) (ah c.ah)))),(56,.n i),(57,.n k),(5,.pt 1 0)] [.bx 25 [.z c.aL,.d (.ro 2 (ah c.ah)),.d (.ro 1 (ints c.homes))],.bx 60 [.z aR.1,.z aR.2]] ac wd) (i) ?_ (Nat.zero_le _) ⟨kC.none _,r⟩
          clear r
          rintro k lV fG ac wd ⟨dt,r⟩
          cases eM:(decide ((((k:Nat):Int):Int)<((i:Nat):Int))) with
          | false=>
           have yi:=of_decide_eq_false eM
           exact cy (todo':=hd Tryz.f21 0) mo tq hK [(10,[(0,.b false)]),(15,[(0,.z (((i+1:Nat):Int)))])] 2000 [0] [1,3,26,27,28] r (by kernel_rfl) (U eM (U ((wi (by omega)):IntKind.i64.wrap ((((i:Nat):Int):Int)+1)=((i+1:Nat):Int)) trivial)) fun ac wd r=>bH (by omega) ac wd ⟨(ao.next bn (by omega) (fun j o hj hx=>dt j o (by omega) hx)),r⟩
          | true=>
           have yi:=of_decide_eq_true eM
           obtain ⟨b6,cm⟩:∃ x_,c.ah[k]?=some x_:=⟨_,List.getElem?_eq_getElem (by omega)⟩
           have aZ:=((by rw [List.getElem?_take,if_pos (by omega)];exact cU cm):(List.take (i) (ah c.ah))[k]?=some [.z b6.1,.z b6.2])
           cases fU:(b6.1==aR.1&&b6.2==aR.2) with
           | false=>
            have cd:=((pI (oT _ _ _ _) fU):j4 Tryz.prog 60 [(.int .i64 (b6.1)),(.int .i64 (b6.2))] [(.int .i64 (aR.1)),(.int .i64 (aR.2))] false)
            cases nc:(b6.1==aR.2&&b6.2==aR.1) with
            | false=>
             exact cy (todo':=hd Tryz.f21 1) mo tq hK [(10,[(0,.b true)]),(11,[(0,.ix (k) [.z b6.1,.z b6.2])]),(12,[(2,.b false),(5,.n 1),(7,.n 0),(10,.b false)]),(14,[(0,.z (((k+1:Nat):Int)))])] 2000 [0,1] [1,3,26,27,28,55,56,57,5] r (by kernel_rfl) (U eM (U (aA ((k:Nat):Int)) (U aZ (U cd (U (rfl:(1)=((1:Nat):Int)) (U ((by omega):(1)<2) (U (rfl:(0)=((0:Nat):Int)) (U ((by omega):(0)<2) (U ((pI (oT _ _ _ _) nc):j4 Tryz.prog 60 [(.int .i64 (b6.1)),(.int .i64 (b6.2))] [(.int .i64 (aR.2)),(.int .i64 (aR.1))] false) (U ((wi (by omega)):IntKind.i64.wrap ((((k:Nat):Int):Int)+1)=((k+1:Nat):Int)) trivial)))))))))) fun ac wd r=>fG (by omega) ac wd ⟨(dt.next cm ⟨by first | exact Ci (by assumption) | omega,by first | exact Ci (by assumption) | omega⟩),r⟩
            | true=>
             rw [show (.v (.bool (bI c)):DV)=.v (.bool false) from (bv (by first | exact eh (by omega) ao (by omega) dv (by omega) | exact ea (by omega) | exact ef cA (by omega) | exact ec bn (by omega) cm (by first | omega | exact .inl (eo (by assumption)) | exact .inr (eo (by assumption))) | exact eb bn (by omega)))]
             exact bj mo tq hK rfl [(10,[(0,.b true)]),(11,[(0,.ix (k) [.z b6.1,.z b6.2])]),(12,[(2,.b false),(5,.n 1),(7,.n 0),(10,.b true)])] 2000 r (by kernel_rfl) (U eM (U (aA ((k:Nat):Int)) (U aZ (U cd (U (rfl:(1)=((1:Nat):Int)) (U ((by omega):(1)<2) (U (rfl:(0)=((0:Nat):Int)) (U ((by omega):(0)<2) (U ((pI (oT _ _ _ _) nc):j4 Tryz.prog 60 [(.int .i64 (b6.1)),(.int .i64 (b6.2))] [(.int .i64 (aR.2)),(.int .i64 (aR.1))] true) trivial)))))))))
           | true=>
            rw [show (.v (.bool (bI c)):DV)=.v (.bool false) from (bv (by first | exact eh (by omega) ao (by omega) dv (by omega) | exact ea (by omega) | exact ef cA (by omega) | exact ec bn (by omega) cm (by first | omega | exact .inl (eo (by assumption)) | exact .inr (eo (by assumption))) | exact eb bn (by omega)))]
            exact bj mo tq hK rfl [(10,[(0,.b true)]),(11,[(0,.ix (k) [.z b6.1,.z b6.2])]),(12,[(2,.b true)])] 2000 r (by kernel_rfl) (U eM (U (aA ((k:Nat):Int)) (U aZ (U ((pI (oT _ _ _ _) fU):j4 Tryz.prog 60 [(.int .i64 (b6.1)),(.int .i64 (b6.2))] [(.int .i64 (aR.1)),(.int .i64 (aR.2))] true) trivial))))
         | true=>
          have yh:=eq_of_beq gp
          rw [show (.v (.bool (bI c)):DV)=.v (.bool false) from (bv (by first | exact eh (by omega) ao (by omega) dv (by omega) | exact ea (by omega) | exact ef cA (by omega) | exact ec bn (by omega) cm (by first | omega | exact .inl (eo (by assumption)) | exact .inr (eo (by assumption))) | exact eb bn (by omega)))]
          exact bj mo tq hK rfl [(5,[(0,.b true)]),(6,[(1,.ix (i) [.z aR.1,.z aR.2])]),(7,[(1,.n 0),(3,.bV 200 [(1,[(1,.b true),(6,.b true)])]),(7,.n 1),(9,.bV 200 [(1,[(1,.b true),(6,.b true)])]),(13,.n 0),(15,.n 1),(17,.b true)])] 2000 r (by kernel_rfl) (U h3 (U (aA ((i:Nat):Int)) (U (cU bn) (U (rfl:(0)=((0:Nat):Int)) (U ((by omega):(0)<2) (U h7 (U h8 (U (rfl:(1)=((1:Nat):Int)) (U ((by omega):(1)<2) (U h9 (U cX (U (rfl:(0)=((0:Nat):Int)) (U ((by omega):(0)<2) (U (rfl:(1)=((1:Nat):Int)) (U ((by omega):(1)<2) (U gp trivial))))))))))))))))
   | true=>
    have cW:=of_decide_eq_true h2
    rw [show (.v (.bool (bI c)):DV)=.v (.bool false) from (bv (by first | exact eh (by omega) ao (by omega) dv (by omega) | exact ea (by omega) | exact ef cA (by omega) | exact ec bn (by omega) cm (by first | omega | exact .inl (eo (by assumption)) | exact .inr (eo (by assumption))) | exact eb bn (by omega)))]
    exact bj mo tq hK rfl [(1,[(2,.b false),(6,.b false),(11,.z (((c.homes.length:Nat):Int))),(12,.b true)])] 2000 r (by kernel_rfl) (U h0 (U h1 (U aE (U h2 trivial))))
  | true=>
   have bF:=of_decide_eq_true h1
   rw [show (.v (.bool (bI c)):DV)=.v (.bool false) from (bv (by first | exact eh (by omega) ao (by omega) dv (by omega) | exact ea (by omega) | exact ef cA (by omega) | exact ec bn (by omega) cm (by first | omega | exact .inl (eo (by assumption)) | exact .inr (eo (by assumption))) | exact eb bn (by omega)))]
   exact bj mo tq hK rfl [(1,[(2,.b false),(6,.b true)])] 2000 r (by kernel_rfl) (U h0 (U h1 trivial))
 | true=>
  have aK:=of_decide_eq_true h0
  rw [show (.v (.bool (bI c)):DV)=.v (.bool false) from (bv (by first | exact eh (by omega) ao (by omega) dv (by omega) | exact ea (by omega) | exact ef cA (by omega) | exact ec bn (by omega) cm (by first | omega | exact .inl (eo (by assumption)) | exact .inr (eo (by assumption))) | exact eb bn (by omega)))]
  exact bj mo tq hK rfl [(1,[(2,.b true)])] 2000 r (by kernel_rfl) (U h0 trivial)
end Go.Proofs.YtcnpikbbmbombaaGreatDoor
namespace Go.Proofs.YtcnpikbbmbombaaGreatDoor
open Go.RowKit
set_option maxRecDepth 100000 in
theorem Ay (c:cE) (hl:c.ah.length≤9223372036854775807) (hh:c.homes.length≤9223372036854775807):aB Tryz.prog 28 [.ag [.z c.aL,.d (.ro 2 (ah c.ah)),.d (.ro 1 (ints c.homes))]] (.v (.bool (bI c))):=by
 refine aB.intro (by kernel_rfl) rfl rfl 124 rfl rfl fun w0 K ac hK r=>?_
 cases h0:(decide ((c.aL:Int)<1)) with
 | false=>
  have aK:=of_decide_eq_false h0
  cases h1:(decide ((4:Int)<c.aL)) with
  | false=>
   have bF:=of_decide_eq_false h1
   have aE:=((by first | rfl | simp [ae,ah,ints,steps,strs]):(((ints c.homes).length:Nat):Int)=((c.homes.length:Nat):Int))
   cases h2:(decide ((6:Int)<((c.homes.length:Nat):Int))) with
   | false=>
    have cW:=of_decide_eq_false h2
    refine cy (todo':=hd Tryz.f28 0) (E':=[(1,.pt 0 0),(3,.n 0)]) (M':=[.bx 25 [.z c.aL,.d (.ro 2 (ah c.ah)),.d (.ro 1 (ints c.homes))]]) mo tq hK [(1,[(2,.b false),(6,.b false),(11,.z (((c.homes.length:Nat):Int))),(12,.b false)])] 2000 [0] [1,3] r (by kernel_rfl) (U h0 (U h1 (U aE (U h2 trivial)))) fun ac wd r=>?_
    refine aC.rounds (Φ:=fun (i:Nat) ac wd=>(kB c i)∧du [] w0 K 124 [(1,.pt 0 0),(3,.n i)] [.bx 25 [.z c.aL,.d (.ro 2 (ah c.ah)),.d (.ro 1 (ints c.homes))]] ac wd) (c.ah.length) ?_ (Nat.zero_le _) ⟨kB.none,r⟩
    clear r
    rintro i dI bH ac wd ⟨ao,r⟩
    have aZ:=((by first | rfl | simp [ae,ah,ints,steps,strs]):(((ah c.ah).length:Nat):Int)=((c.ah.length:Nat):Int))
    cases h3:(decide ((((i:Nat):Int):Int)<((c.ah.length:Nat):Int))) with
    | false=>
     have di:=of_decide_eq_false h3
     refine cy (todo':=hd Tryz.f28 2) (E':=[(1,.pt 0 0),(9,.n 0)]) (M':=[.bx 25 [.z c.aL,.d (.ro 2 (ah c.ah)),.d (.ro 1 (ints c.homes))]]) mo tq hK [(4,[(3,.z (((c.ah.length:Nat):Int))),(4,.b false)])] 2000 [0] [1,9] r (by kernel_rfl) (U aZ (U h3 trivial)) fun ac wd r=>?_
     refine aC.rounds (Φ:=fun (i:Nat) ac wd=>(kD c i)∧du [] w0 K 124 [(1,.pt 0 0),(9,.n i)] [.bx 25 [.z c.aL,.d (.ro 2 (ah c.ah)),.d (.ro 1 (ints c.homes))]] ac wd) (c.homes.length) ?_ (Nat.zero_le _) ⟨kD.none,r⟩
     clear r
     rintro i N6 wC ac wd ⟨dv,r⟩
     cases h4:(decide ((((i:Nat):Int):Int)<((c.homes.length:Nat):Int))) with
     | false=>
      have dD:=of_decide_eq_false h4
      rw [show (.v (.bool (bI c)):DV)=.v (.bool true) from (bv (by first | exact eh (by omega) ao (by omega) dv (by omega) | exact ea (by omega) | exact ef cA (by omega) | exact ec bn (by omega) cm (by omega) | exact eb bn (by omega)))]
      exact bj mo tq hK rfl [(16,[(3,.z (((c.homes.length:Nat):Int))),(4,.b false)])] 2000 r (by kernel_rfl) (U aE (U h4 trivial))
     | true=>
      have dD:=of_decide_eq_true h4
      obtain ⟨dS,cA⟩:∃ x_,c.homes[i]?=some x_:=⟨_,List.getElem?_eq_getElem (by omega)⟩
      cases h5:(decide ((dS:Int)<1)) with
      | false=>
       have ew:=of_decide_eq_false h5
       cases h6:(decide ((c.aL:Int)<dS)) with
       | false=>
        have eV:=of_decide_eq_false h6
        exact cy (todo':=hd Tryz.f28 2) mo tq hK [(16,[(3,.z (((c.homes.length:Nat):Int))),(4,.b true)]),(17,[(1,.z (((i+1:Nat):Int)))]),(18,[(3,.ix (i) [.z dS]),(5,.b false),(10,.ix (i) [.z dS]),(14,.b false)])] 2000 [0] [1,9] r (by kernel_rfl) (U aE (U h4 (U (aA ((i:Nat):Int)) (U (ints_at cA) (U h5 (U (aA ((i:Nat):Int)) (U (ints_at cA) (U h6 (U ((wi (by omega)):IntKind.i64.wrap ((((i:Nat):Int):Int)+1)=((i+1:Nat):Int)) trivial))))))))) fun ac wd r=>wC (by omega) ac wd ⟨(dv.next cA (by omega)),r⟩
       | true=>
        have eV:=of_decide_eq_true h6
        rw [show (.v (.bool (bI c)):DV)=.v (.bool false) from (bv (by first | exact eh (by omega) ao (by omega) dv (by omega) | exact ea (by omega) | exact ef cA (by omega) | exact ec bn (by omega) cm (by omega) | exact eb bn (by omega)))]
        exact bj mo tq hK rfl [(16,[(3,.z (((c.homes.length:Nat):Int))),(4,.b true)]),(18,[(3,.ix (i) [.z dS]),(5,.b false),(10,.ix (i) [.z dS]),(14,.b true)])] 2000 r (by kernel_rfl) (U aE (U h4 (U (aA ((i:Nat):Int)) (U (ints_at cA) (U h5 (U (aA ((i:Nat):Int)) (U (ints_at cA) (U h6 trivial))))))))
      | true=>
       have ew:=of_decide_eq_true h5
       rw [show (.v (.bool (bI c)):DV)=.v (.bool false) from (bv (by first | exact eh (by omega) ao (by omega) dv (by omega) | exact ea (by omega) | exact ef cA (by omega) | exact ec bn (by omega) cm (by omega) | exact eb bn (by omega)))]
       exact bj mo tq hK rfl [(16,[(3,.z (((c.homes.length:Nat):Int))),(4,.b true)]),(18,[(3,.ix (i) [.z dS]),(5,.b true)])] 2000 r (by kernel_rfl) (U aE (U h4 (U (aA ((i:Nat):Int)) (U (ints_at cA) (U h5 trivial)))))
    | true=>
     have di:=of_decide_eq_true h3
     obtain ⟨aR,bn⟩:∃ x_,c.ah[i]?=some x_:=⟨_,List.getElem?_eq_getElem (by omega)⟩
     cases h7:(decide ((aR.1:Int)<1)) with
     | false=>
      have dZ:=of_decide_eq_false h7
      cases h8:(decide ((aR.2:Int)<1)) with
      | false=>
       have e6:=of_decide_eq_false h8
       cases h9:(decide ((c.aL:Int)<aR.1)) with
       | false=>
        have kR:=of_decide_eq_false h9
        cases cX:(decide ((c.aL:Int)<aR.2)) with
        | false=>
         have lC:=of_decide_eq_false cX
         cases gp:((aR.1:Int)==aR.2) with
         | false=>
          have yh:=ne_of_beq_false gp
          refine cy (todo':=hd Tryz.f28 1) (E':=[(1,.pt 0 0),(3,.n i),(4,.z aR.1),(5,.z aR.2),(6,.n 0)]) (M':=[.bx 25 [.z c.aL,.d (.ro 2 (ah c.ah)),.d (.ro 1 (ints c.homes))]]) mo tq hK [(4,[(3,.z (((c.ah.length:Nat):Int))),(4,.b true)]),(6,[(3,.ix (i) [.z aR.1,.z aR.2]),(4,.n 0),(9,.ix (i) [.z aR.1,.z aR.2]),(10,.n 1)]),(7,[(1,.b false),(4,.b false),(10,.b false),(16,.b false),(21,.b false)])] 2000 [0] [1,3,4,5,6] r (by kernel_rfl) (U aZ (U h3 (U (aA ((i:Nat):Int)) (U (cU bn) (U (rfl:(0)=((0:Nat):Int)) (U ((by omega):(0)<2) (U (aA ((i:Nat):Int)) (U (cU bn) (U (rfl:(1)=((1:Nat):Int)) (U ((by omega):(1)<2) (U h7 (U h8 (U h9 (U cX (U gp trivial))))))))))))))) fun ac wd r=>?_
          refine aC.rounds (Φ:=fun (k:Nat) ac wd=>(kC c aR k)∧du [] w0 K 124 [(1,.pt 0 0),(3,.n i),(4,.z aR.1),(5,.z aR.2),(6,.n k)] [.bx 25 [.z c.aL,.d (.ro 2 (ah c.ah)),.d (.ro 1 (ints c.homes))]] ac wd) (i) ?_ (Nat.zero_le _) ⟨kC.none _,r⟩
          clear r
          rintro k lV fG ac wd ⟨dt,r⟩
          cases eM:(decide ((((k:Nat):Int):Int)<((i:Nat):Int))) with
          | false=>
           have yi:=of_decide_eq_false eM
           exact cy (todo':=hd Tryz.f28 0) mo tq hK [(5,[(1,.z (((i+1:Nat):Int)))]),(10,[(2,.b false)])] 2000 [0] [1,3] r (by kernel_rfl) (U eM (U ((wi (by omega)):IntKind.i64.wrap ((((i:Nat):Int):Int)+1)=((i+1:Nat):Int)) trivial)) fun ac wd r=>bH (by omega) ac wd ⟨(ao.next bn (by omega) (fun j o hj hx=>dt j o (by omega) hx)),r⟩
          | true=>
           have yi:=of_decide_eq_true eM
           obtain ⟨b6,cm⟩:∃ x_,c.ah[k]?=some x_:=⟨_,List.getElem?_eq_getElem (by omega)⟩
           cases fU:((b6.1:Int)==aR.1) with
           | false=>
            have ML:=ne_of_beq_false fU
            cases nc:((b6.1:Int)==aR.2) with
            | false=>
             have MM:=ne_of_beq_false nc
             exact cy (todo':=hd Tryz.f28 1) mo tq hK [(10,[(2,.b true)]),(11,[(1,.z (((k+1:Nat):Int)))]),(12,[(3,.ix (k) [.z b6.1,.z b6.2]),(4,.n 0),(9,.ix (k) [.z b6.1,.z b6.2]),(10,.n 1)]),(13,[(2,.b false),(11,.b false)])] 2000 [0] [1,3,4,5,6] r (by kernel_rfl) (U eM (U (aA ((k:Nat):Int)) (U (cU cm) (U (rfl:(0)=((0:Nat):Int)) (U ((by omega):(0)<2) (U (aA ((k:Nat):Int)) (U (cU cm) (U (rfl:(1)=((1:Nat):Int)) (U ((by omega):(1)<2) (U fU (U nc (U ((wi (by omega)):IntKind.i64.wrap ((((k:Nat):Int):Int)+1)=((k+1:Nat):Int)) trivial)))))))))))) fun ac wd r=>fG (by omega) ac wd ⟨(dt.next cm (by omega)),r⟩
            | true=>
             have MM:=eq_of_beq nc
             cases uc:((b6.2:Int)==aR.1) with
             | false=>
              have MN:=ne_of_beq_false uc
              exact cy (todo':=hd Tryz.f28 1) mo tq hK [(10,[(2,.b true)]),(11,[(1,.z (((k+1:Nat):Int)))]),(12,[(3,.ix (k) [.z b6.1,.z b6.2]),(4,.n 0),(9,.ix (k) [.z b6.1,.z b6.2]),(10,.n 1)]),(13,[(2,.b false),(11,.b true),(15,.b false)])] 2000 [0] [1,3,4,5,6] r (by kernel_rfl) (U eM (U (aA ((k:Nat):Int)) (U (cU cm) (U (rfl:(0)=((0:Nat):Int)) (U ((by omega):(0)<2) (U (aA ((k:Nat):Int)) (U (cU cm) (U (rfl:(1)=((1:Nat):Int)) (U ((by omega):(1)<2) (U fU (U nc (U uc (U ((wi (by omega)):IntKind.i64.wrap ((((k:Nat):Int):Int)+1)=((k+1:Nat):Int)) trivial))))))))))))) fun ac wd r=>fG (by omega) ac wd ⟨(dt.next cm (by omega)),r⟩
             | true=>
              have MN:=eq_of_beq uc
              rw [show (.v (.bool (bI c)):DV)=.v (.bool false) from (bv (by first | exact eh (by omega) ao (by omega) dv (by omega) | exact ea (by omega) | exact ef cA (by omega) | exact ec bn (by omega) cm (by omega) | exact eb bn (by omega)))]
              exact bj mo tq hK rfl [(10,[(2,.b true)]),(12,[(3,.ix (k) [.z b6.1,.z b6.2]),(4,.n 0),(9,.ix (k) [.z b6.1,.z b6.2]),(10,.n 1)]),(13,[(2,.b false),(11,.b true),(15,.b true)])] 2000 r (by kernel_rfl) (U eM (U (aA ((k:Nat):Int)) (U (cU cm) (U (rfl:(0)=((0:Nat):Int)) (U ((by omega):(0)<2) (U (aA ((k:Nat):Int)) (U (cU cm) (U (rfl:(1)=((1:Nat):Int)) (U ((by omega):(1)<2) (U fU (U nc (U uc trivial))))))))))))
           | true=>
            have ML:=eq_of_beq fU
            cases pJ:((b6.2:Int)==aR.2) with
            | false=>
             have MO:=ne_of_beq_false pJ
             cases rK:((b6.1:Int)==aR.2) with
             | false=>
              have MP:=ne_of_beq_false rK
              exact cy (todo':=hd Tryz.f28 1) mo tq hK [(10,[(2,.b true)]),(11,[(1,.z (((k+1:Nat):Int)))]),(12,[(3,.ix (k) [.z b6.1,.z b6.2]),(4,.n 0),(9,.ix (k) [.z b6.1,.z b6.2]),(10,.n 1)]),(13,[(2,.b true),(6,.b false),(11,.b false)])] 2000 [0] [1,3,4,5,6] r (by kernel_rfl) (U eM (U (aA ((k:Nat):Int)) (U (cU cm) (U (rfl:(0)=((0:Nat):Int)) (U ((by omega):(0)<2) (U (aA ((k:Nat):Int)) (U (cU cm) (U (rfl:(1)=((1:Nat):Int)) (U ((by omega):(1)<2) (U fU (U pJ (U rK (U ((wi (by omega)):IntKind.i64.wrap ((((k:Nat):Int):Int)+1)=((k+1:Nat):Int)) trivial))))))))))))) fun ac wd r=>fG (by omega) ac wd ⟨(dt.next cm (by omega)),r⟩
             | true=>
              have MP:=eq_of_beq rK
              cases ud:((b6.2:Int)==aR.1) with
              | false=>
               have MQ:=ne_of_beq_false ud
               exact cy (todo':=hd Tryz.f28 1) mo tq hK [(10,[(2,.b true)]),(11,[(1,.z (((k+1:Nat):Int)))]),(12,[(3,.ix (k) [.z b6.1,.z b6.2]),(4,.n 0),(9,.ix (k) [.z b6.1,.z b6.2]),(10,.n 1)]),(13,[(2,.b true),(6,.b false),(11,.b true),(15,.b false)])] 2000 [0] [1,3,4,5,6] r (by kernel_rfl) (U eM (U (aA ((k:Nat):Int)) (U (cU cm) (U (rfl:(0)=((0:Nat):Int)) (U ((by omega):(0)<2) (U (aA ((k:Nat):Int)) (U (cU cm) (U (rfl:(1)=((1:Nat):Int)) (U ((by omega):(1)<2) (U fU (U pJ (U rK (U ud (U ((wi (by omega)):IntKind.i64.wrap ((((k:Nat):Int):Int)+1)=((k+1:Nat):Int)) trivial)))))))))))))) fun ac wd r=>fG (by omega) ac wd ⟨(dt.next cm (by omega)),r⟩
              | true=>
               have MQ:=eq_of_beq ud
               rw [show (.v (.bool (bI c)):DV)=.v (.bool false) from (bv (by first | exact eh (by omega) ao (by omega) dv (by omega) | exact ea (by omega) | exact ef cA (by omega) | exact ec bn (by omega) cm (by omega) | exact eb bn (by omega)))]
               exact bj mo tq hK rfl [(10,[(2,.b true)]),(12,[(3,.ix (k) [.z b6.1,.z b6.2]),(4,.n 0),(9,.ix (k) [.z b6.1,.z b6.2]),(10,.n 1)]),(13,[(2,.b true),(6,.b false),(11,.b true),(15,.b true)])] 2000 r (by kernel_rfl) (U eM (U (aA ((k:Nat):Int)) (U (cU cm) (U (rfl:(0)=((0:Nat):Int)) (U ((by omega):(0)<2) (U (aA ((k:Nat):Int)) (U (cU cm) (U (rfl:(1)=((1:Nat):Int)) (U ((by omega):(1)<2) (U fU (U pJ (U rK (U ud trivial)))))))))))))
            | true=>
             have MO:=eq_of_beq pJ
             rw [show (.v (.bool (bI c)):DV)=.v (.bool false) from (bv (by first | exact eh (by omega) ao (by omega) dv (by omega) | exact ea (by omega) | exact ef cA (by omega) | exact ec bn (by omega) cm (by omega) | exact eb bn (by omega)))]
             exact bj mo tq hK rfl [(10,[(2,.b true)]),(12,[(3,.ix (k) [.z b6.1,.z b6.2]),(4,.n 0),(9,.ix (k) [.z b6.1,.z b6.2]),(10,.n 1)]),(13,[(2,.b true),(6,.b true)])] 2000 r (by kernel_rfl) (U eM (U (aA ((k:Nat):Int)) (U (cU cm) (U (rfl:(0)=((0:Nat):Int)) (U ((by omega):(0)<2) (U (aA ((k:Nat):Int)) (U (cU cm) (U (rfl:(1)=((1:Nat):Int)) (U ((by omega):(1)<2) (U fU (U pJ trivial)))))))))))
         | true=>
          have yh:=eq_of_beq gp
          rw [show (.v (.bool (bI c)):DV)=.v (.bool false) from (bv (by first | exact eh (by omega) ao (by omega) dv (by omega) | exact ea (by omega) | exact ef cA (by omega) | exact ec bn (by omega) cm (by omega) | exact eb bn (by omega)))]
          exact bj mo tq hK rfl [(4,[(3,.z (((c.ah.length:Nat):Int))),(4,.b true)]),(6,[(3,.ix (i) [.z aR.1,.z aR.2]),(4,.n 0),(9,.ix (i) [.z aR.1,.z aR.2]),(10,.n 1)]),(7,[(1,.b false),(4,.b false),(10,.b false),(16,.b false),(21,.b true)])] 2000 r (by kernel_rfl) (U aZ (U h3 (U (aA ((i:Nat):Int)) (U (cU bn) (U (rfl:(0)=((0:Nat):Int)) (U ((by omega):(0)<2) (U (aA ((i:Nat):Int)) (U (cU bn) (U (rfl:(1)=((1:Nat):Int)) (U ((by omega):(1)<2) (U h7 (U h8 (U h9 (U cX (U gp trivial)))))))))))))))
        | true=>
         have lC:=of_decide_eq_true cX
         rw [show (.v (.bool (bI c)):DV)=.v (.bool false) from (bv (by first | exact eh (by omega) ao (by omega) dv (by omega) | exact ea (by omega) | exact ef cA (by omega) | exact ec bn (by omega) cm (by omega) | exact eb bn (by omega)))]
         exact bj mo tq hK rfl [(4,[(3,.z (((c.ah.length:Nat):Int))),(4,.b true)]),(6,[(3,.ix (i) [.z aR.1,.z aR.2]),(4,.n 0),(9,.ix (i) [.z aR.1,.z aR.2]),(10,.n 1)]),(7,[(1,.b false),(4,.b false),(10,.b false),(16,.b true)])] 2000 r (by kernel_rfl) (U aZ (U h3 (U (aA ((i:Nat):Int)) (U (cU bn) (U (rfl:(0)=((0:Nat):Int)) (U ((by omega):(0)<2) (U (aA ((i:Nat):Int)) (U (cU bn) (U (rfl:(1)=((1:Nat):Int)) (U ((by omega):(1)<2) (U h7 (U h8 (U h9 (U cX trivial))))))))))))))
       | true=>
        have kR:=of_decide_eq_true h9
        rw [show (.v (.bool (bI c)):DV)=.v (.bool false) from (bv (by first | exact eh (by omega) ao (by omega) dv (by omega) | exact ea (by omega) | exact ef cA (by omega) | exact ec bn (by omega) cm (by omega) | exact eb bn (by omega)))]
        exact bj mo tq hK rfl [(4,[(3,.z (((c.ah.length:Nat):Int))),(4,.b true)]),(6,[(3,.ix (i) [.z aR.1,.z aR.2]),(4,.n 0),(9,.ix (i) [.z aR.1,.z aR.2]),(10,.n 1)]),(7,[(1,.b false),(4,.b false),(10,.b true)])] 2000 r (by kernel_rfl) (U aZ (U h3 (U (aA ((i:Nat):Int)) (U (cU bn) (U (rfl:(0)=((0:Nat):Int)) (U ((by omega):(0)<2) (U (aA ((i:Nat):Int)) (U (cU bn) (U (rfl:(1)=((1:Nat):Int)) (U ((by omega):(1)<2) (U h7 (U h8 (U h9 trivial)))))))))))))
      | true=>
       have e6:=of_decide_eq_true h8
       rw [show (.v (.bool (bI c)):DV)=.v (.bool false) from (bv (by first | exact eh (by omega) ao (by omega) dv (by omega) | exact ea (by omega) | exact ef cA (by omega) | exact ec bn (by omega) cm (by omega) | exact eb bn (by omega)))]
       exact bj mo tq hK rfl [(4,[(3,.z (((c.ah.length:Nat):Int))),(4,.b true)]),(6,[(3,.ix (i) [.z aR.1,.z aR.2]),(4,.n 0),(9,.ix (i) [.z aR.1,.z aR.2]),(10,.n 1)]),(7,[(1,.b false),(4,.b true)])] 2000 r (by kernel_rfl) (U aZ (U h3 (U (aA ((i:Nat):Int)) (U (cU bn) (U (rfl:(0)=((0:Nat):Int)) (U ((by omega):(0)<2) (U (aA ((i:Nat):Int)) (U (cU bn) (U (rfl:(1)=((1:Nat):Int)) (U ((by omega):(1)<2) (U h7 (U h8 trivial))))))))))))
     | true=>
      have dZ:=of_decide_eq_true h7
      rw [show (.v (.bool (bI c)):DV)=.v (.bool false) from (bv (by first | exact eh (by omega) ao (by omega) dv (by omega) | exact ea (by omega) | exact ef cA (by omega) | exact ec bn (by omega) cm (by omega) | exact eb bn (by omega)))]
      exact bj mo tq hK rfl [(4,[(3,.z (((c.ah.length:Nat):Int))),(4,.b true)]),(6,[(3,.ix (i) [.z aR.1,.z aR.2]),(4,.n 0),(9,.ix (i) [.z aR.1,.z aR.2]),(10,.n 1)]),(7,[(1,.b true)])] 2000 r (by kernel_rfl) (U aZ (U h3 (U (aA ((i:Nat):Int)) (U (cU bn) (U (rfl:(0)=((0:Nat):Int)) (U ((by omega):(0)<2) (U (aA ((i:Nat):Int)) (U (cU bn) (U (rfl:(1)=((1:Nat):Int)) (U ((by omega):(1)<2) (U h7 trivial)))))))))))
   | true=>
    have cW:=of_decide_eq_true h2
    rw [show (.v (.bool (bI c)):DV)=.v (.bool false) from (bv (by first | exact eh (by omega) ao (by omega) dv (by omega) | exact ea (by omega) | exact ef cA (by omega) | exact ec bn (by omega) cm (by omega) | exact eb bn (by omega)))]
    exact bj mo tq hK rfl [(1,[(2,.b false),(6,.b false),(11,.z (((c.homes.length:Nat):Int))),(12,.b true)])] 2000 r (by kernel_rfl) (U h0 (U h1 (U aE (U h2 trivial))))
  | true=>
   have bF:=of_decide_eq_true h1
   rw [show (.v (.bool (bI c)):DV)=.v (.bool false) from (bv (by first | exact eh (by omega) ao (by omega) dv (by omega) | exact ea (by omega) | exact ef cA (by omega) | exact ec bn (by omega) cm (by omega) | exact eb bn (by omega)))]
   exact bj mo tq hK rfl [(1,[(2,.b false),(6,.b true)])] 2000 r (by kernel_rfl) (U h0 (U h1 trivial))
 | true=>
  have aK:=of_decide_eq_true h0
  rw [show (.v (.bool (bI c)):DV)=.v (.bool false) from (bv (by first | exact eh (by omega) ao (by omega) dv (by omega) | exact ea (by omega) | exact ef cA (by omega) | exact ec bn (by omega) cm (by omega) | exact eb bn (by omega)))]
  exact bj mo tq hK rfl [(1,[(2,.b true)])] 2000 r (by kernel_rfl) (U h0 trivial)
structure jQ where
 word:List UInt8
 node:Bool
 peer:Bool
 n:Bool
 bit:Bool
 inc:Bool
 body:Bool
def mh:List jQ:=[⟨[110,111,110,101],false,false,false,false,false,false⟩,⟨[116,105,99,107],true,false,false,false,false,false⟩,⟨[100,101,108,105,118,101,114],true,true,true,false,false,false⟩,⟨[100,114,111,112],true,true,true,false,false,false⟩,⟨[100,111,117,98,108,101],true,true,true,false,false,false⟩,⟨[115,112,111,105,108],true,true,true,true,false,false⟩,⟨[99,117,116],true,true,false,false,false,false⟩,⟨[104,101,97,108],true,true,false,false,false,false⟩,⟨[99,114,97,115,104],true,false,false,false,false,false⟩,⟨[115,116,97,114,116],true,false,false,false,true,false⟩,⟨[115,101,110,100],true,false,false,false,false,true⟩,⟨[98,108,111,99,107,111,107],true,false,false,false,false,false⟩,⟨[106,111,105,110],true,false,false,false,false,false⟩,⟨[108,101,97,118,101],true,false,false,false,false,false⟩]
def JR:List (List UInt8):=[[],[110],[110,112,105],[110,112,105],[110,112,105],[110,112,105,98],[110,112],[110,112],[110],[110,99],[110,116],[110],[110],[110]]
def af (k:Nat):jQ:=mh.getD k ⟨[],false,false,false,false,false,false⟩
def iK (k:Nat):List UInt8:=JR.getD k []
def jQ.row (x:jQ):List DV:=[.v (.string ⟨x.word.toArray⟩),.v (.bool x.node),.v (.bool x.peer),.v (.bool x.n),.v (.bool x.bit),.v (.bool x.inc),.v (.bool x.body)]
def aj:List DV:=mh.flatMap jQ.row
theorem mi {p:Nat→Prop} (h0:p 0) (h1:p 1) (h2:p 2) (h3:p 3) (h4:p 4) (h5:p 5) (h6:p 6) (h7:p 7) (h8:p 8) (h9:p 9) (cX:p 10) (gp:p 11) (eM:p 12) (fU:p 13) {k:Nat} (h:k<14):p k:=
 match k,h with
 | 0,_=>h0 | 1,_=>h1 | 2,_=>h2 | 3,_=>h3 | 4,_=>h4 | 5,_=>h5 | 6,_=>h6 | 7,_=>h7 | 8,_=>h8 | 9,_=>h9 | 10,_=>cX | 11,_=>gp | 12,_=>eM | 13,_=>fU
theorem nn {k:Nat} (h:k<14):List.take 7 (List.drop (k*7) aj)=(af k).row:=mi (p:=fun k=>List.take 7 (List.drop (k*7) aj)=(af k).row) rfl rfl rfl rfl rfl rfl rfl rfl rfl rfl rfl rfl rfl rfl h
def fieldsOf (k:Int):List UInt8:=if 0≤k∧k<14 then iK k.toNat else [45]
theorem uq {k:Int} (h:k<0∨14≤k):fieldsOf k=[45]:=by unfold fieldsOf;rw [if_neg (by omega)]
theorem ug {k:Int} (h:0≤k) (h2:k<14):fieldsOf k=iK k.toNat:=by unfold fieldsOf;rw [if_pos ⟨h,h2⟩]
theorem sv {a b:List UInt8} (h:a=b):DV.v (.string ⟨a.toArray⟩)=.v (.string ⟨b.toArray⟩):=by rw [h]
def dA (has:Bool) (n most:Int):Bool:=decide (n=0)||(has&&(decide (0<n)&&decide (n≤most)))
def gl (s:aM) (x:jQ):Bool:=dA x.node s.node 255&&(dA x.peer s.peer 255&&(dA x.n s.n 255&&(dA x.bit s.bit 65535&&(dA x.body s.body.length 255&&(x.inc||decide ((s.inc:Int)=0))))))
def hasB (s:aM):Bool:=decide (0≤s.kind)&&(decide (s.kind<14)&&gl s (af s.kind.toNat))
theorem iC {s:aM} (h:s.kind<0∨14≤s.kind):hasB s=false:=by unfold hasB;simp;omega
theorem iA {s:aM} {b:Bool} (h:0≤s.kind) (h2:s.kind<14) (e:gl s (af s.kind.toNat)=b):hasB s=b:=by unfold hasB;rw [decide_eq_true h,decide_eq_true h2,Bool.true_and,Bool.true_and,e]
set_option maxRecDepth 100000 in
theorem FO (n most:Int):aB Tryz.prog 54 [.d (.v (.bool true)),.z n,.z most] (.v (.bool (dA true n most))):=by
 refine aB.intro (by kernel_rfl) rfl rfl 21 rfl rfl fun w0 K ac hK r=>?_
 cases h0:((n:Int)==0) with
 | false=>
  have aK:=ne_of_beq_false h0
  cases h1:(decide ((0:Int)<n)) with
  | false=>
   have bF:=of_decide_eq_false h1
   rw [show (.v (.bool (dA true n most)):DV)=.v (.bool false) from (bv (by unfold dA;simp<;>omega))]
   exact bj mo tq hK rfl [(1,[(1,.b false),(6,.b false)])] 2000 r (by kernel_rfl) (U h0 (U h1 trivial))
  | true=>
   have bF:=of_decide_eq_true h1
   cases h2:(decide ((n:Int)≤most)) with
   | false=>
    have cW:=of_decide_eq_false h2
    rw [show (.v (.bool (dA true n most)):DV)=.v (.bool false) from (bv (by unfold dA;simp<;>omega))]
    exact bj mo tq hK rfl [(1,[(1,.b false),(6,.b true),(11,.b false)])] 2000 r (by kernel_rfl) (U h0 (U h1 (U h2 trivial)))
   | true=>
    have cW:=of_decide_eq_true h2
    rw [show (.v (.bool (dA true n most)):DV)=.v (.bool true) from (bv (by unfold dA;simp<;>omega))]
    exact bj mo tq hK rfl [(1,[(1,.b false),(6,.b true),(11,.b true)])] 2000 r (by kernel_rfl) (U h0 (U h1 (U h2 trivial)))
 | true=>
  have aK:=eq_of_beq h0
  rw [show (.v (.bool (dA true n most)):DV)=.v (.bool true) from (bv (by unfold dA;simp<;>omega))]
  exact bj mo tq hK rfl [(1,[(1,.b true)])] 2000 r (by kernel_rfl) (U h0 trivial)
set_option maxRecDepth 100000 in
theorem ET (n most:Int):aB Tryz.prog 54 [.d (.v (.bool false)),.z n,.z most] (.v (.bool (dA false n most))):=by
 refine aB.intro (by kernel_rfl) rfl rfl 21 rfl rfl fun w0 K ac hK r=>?_
 cases h0:((n:Int)==0) with
 | false=>
  have aK:=ne_of_beq_false h0
  rw [show (.v (.bool (dA false n most)):DV)=.v (.bool false) from (bv (by unfold dA;simp<;>omega))]
  exact bj mo tq hK rfl [(1,[(1,.b false)])] 2000 r (by kernel_rfl) (U h0 trivial)
 | true=>
  have aK:=eq_of_beq h0
  rw [show (.v (.bool (dA false n most)):DV)=.v (.bool true) from (bv (by unfold dA;simp<;>omega))]
  exact bj mo tq hK rfl [(1,[(1,.b true)])] 2000 r (by kernel_rfl) (U h0 trivial)
theorem fH (has:Bool) (n most:Int):aB Tryz.prog 54 [.d (.v (.bool has)),.z n,.z most] (.v (.bool (dA has n most))):=by
 cases has with
 | true=>exact FO n most
 | false=>exact ET n most
theorem FP {k:Nat} (h:k<14):([[.v (.string .empty)],[.v (.string ⟨([110]).toArray⟩)],[.v (.string ⟨([110,112,105]).toArray⟩)],[.v (.string ⟨([110,112,105]).toArray⟩)],[.v (.string ⟨([110,112,105]).toArray⟩)],[.v (.string ⟨([110,112,105,98]).toArray⟩)],[.v (.string ⟨([110,112]).toArray⟩)],[.v (.string ⟨([110,112]).toArray⟩)],[.v (.string ⟨([110]).toArray⟩)],[.v (.string ⟨([110,99]).toArray⟩)],[.v (.string ⟨([110,116]).toArray⟩)],[.v (.string ⟨([110]).toArray⟩)],[.v (.string ⟨([110]).toArray⟩)],[.v (.string ⟨([110]).toArray⟩)]]:List (List DV))[k]?=some [.v (.string ⟨(iK k).toArray⟩)]:=mi (p:=fun k=>([[.v (.string .empty)],[.v (.string ⟨([110]).toArray⟩)],[.v (.string ⟨([110,112,105]).toArray⟩)],[.v (.string ⟨([110,112,105]).toArray⟩)],[.v (.string ⟨([110,112,105]).toArray⟩)],[.v (.string ⟨([110,112,105,98]).toArray⟩)],[.v (.string ⟨([110,112]).toArray⟩)],[.v (.string ⟨([110,112]).toArray⟩)],[.v (.string ⟨([110]).toArray⟩)],[.v (.string ⟨([110,99]).toArray⟩)],[.v (.string ⟨([110,116]).toArray⟩)],[.v (.string ⟨([110]).toArray⟩)],[.v (.string ⟨([110]).toArray⟩)],[.v (.string ⟨([110]).toArray⟩)]]:List (List DV))[k]?=some [.v (.string ⟨(iK k).toArray⟩)]) rfl rfl rfl rfl rfl rfl rfl rfl rfl rfl rfl rfl rfl rfl h
set_option maxRecDepth 100000 in
theorem Az (k:Int):aB Tryz.prog 59 [.z k] (.v (.string ⟨(fieldsOf k).toArray⟩)):=by
 refine aB.intro (by kernel_rfl) rfl rfl 17 rfl rfl fun w0 K ac hK r=>?_
 cases h0:(decide ((k:Int)<0)) with
 | false=>
  have aK:=of_decide_eq_false h0
  cases h1:(decide ((((14:Nat):Int):Int)≤k)) with
  | false=>
   have bF:=of_decide_eq_false h1
   rw [show (.v (.string ⟨(fieldsOf k).toArray⟩):DV)=.v (.string ⟨(iK k.toNat).toArray⟩) from (by first | exact sv (ug (by omega) (by omega)) | exact sv (uq (by omega)))]
   exact bj mo tq hK rfl [(2,[(1,.b false),(6,.b false)]),(4,[(2,.n (k.toNat)),(3,.ix 0 [.v (.string ⟨(iK k.toNat).toArray⟩)])])] 2000 r (by kernel_rfl) (U h0 (U h1 (U ((by omega):(k)=((k.toNat:Nat):Int)) (U ((by first | omega | decide | (simp;done) | (simp;omega)):(k.toNat)<(14)) (U ((by first | rfl | (simp;done) | (simp<;>omega)):(14)≤([[.v (.string .empty)],[.v (.string ⟨([110]).toArray⟩)],[.v (.string ⟨([110,112,105]).toArray⟩)],[.v (.string ⟨([110,112,105]).toArray⟩)],[.v (.string ⟨([110,112,105]).toArray⟩)],[.v (.string ⟨([110,112,105,98]).toArray⟩)],[.v (.string ⟨([110,112]).toArray⟩)],[.v (.string ⟨([110,112]).toArray⟩)],[.v (.string ⟨([110]).toArray⟩)],[.v (.string ⟨([110,99]).toArray⟩)],[.v (.string ⟨([110,116]).toArray⟩)],[.v (.string ⟨([110]).toArray⟩)],[.v (.string ⟨([110]).toArray⟩)],[.v (.string ⟨([110]).toArray⟩)]]:List (List DV)).length) (U (FP (by omega):([[.v (.string .empty)],[.v (.string ⟨([110]).toArray⟩)],[.v (.string ⟨([110,112,105]).toArray⟩)],[.v (.string ⟨([110,112,105]).toArray⟩)],[.v (.string ⟨([110,112,105]).toArray⟩)],[.v (.string ⟨([110,112,105,98]).toArray⟩)],[.v (.string ⟨([110,112]).toArray⟩)],[.v (.string ⟨([110,112]).toArray⟩)],[.v (.string ⟨([110]).toArray⟩)],[.v (.string ⟨([110,99]).toArray⟩)],[.v (.string ⟨([110,116]).toArray⟩)],[.v (.string ⟨([110]).toArray⟩)],[.v (.string ⟨([110]).toArray⟩)],[.v (.string ⟨([110]).toArray⟩)]]:List (List DV))[k.toNat]?=some [.v (.string ⟨(iK k.toNat).toArray⟩)]) trivial))))))
  | true=>
   have bF:=of_decide_eq_true h1
   rw [show (.v (.string ⟨(fieldsOf k).toArray⟩):DV)=.v (.string ⟨([45]).toArray⟩) from (by first | exact sv (ug (by omega) (by omega)) | exact sv (uq (by omega)))]
   exact bj mo tq hK rfl [(2,[(1,.b false),(6,.b true)])] 2000 r (by kernel_rfl) (U h0 (U h1 trivial))
 | true=>
  have aK:=of_decide_eq_true h0
  rw [show (.v (.string ⟨(fieldsOf k).toArray⟩):DV)=.v (.string ⟨([45]).toArray⟩) from (by first | exact sv (ug (by omega) (by omega)) | exact sv (uq (by omega)))]
  exact bj mo tq hK rfl [(2,[(1,.b true)])] 2000 r (by kernel_rfl) (U h0 trivial)
set_option maxRecDepth 100000 in
theorem xy (s:aM):aq Tryz.prog 24 [.ag [.z s.kind,.z s.node,.z s.peer,.z s.n,.z s.bit,.u s.inc,.d (.ro 1 (ae s.body))]] [.gw 0 aj] (.d (.v (.bool (hasB s)))) ([.gw 0 aj]):=by
 refine aq.intro (by kernel_rfl) rfl rfl 59 rfl rfl fun D w0 K bs ac wd hK (ak:bs.m=1) r=>?_
 cases h0:(decide ((s.kind:Int)<0)) with
 | false=>
  have aK:=of_decide_eq_false h0
  cases h1:(decide ((14:Int)≤s.kind)) with
  | false=>
   have bF:=of_decide_eq_false h1
   cases h2:((af s.kind.toNat).inc) with
   | false=>
    have aE:=((by rw [nn (by omega)];unfold jQ.row;rw [h2]):List.take 7 (List.drop ((s.kind.toNat)*7) (aj:List DV))=([.v (.string ⟨((af s.kind.toNat).word).toArray⟩),.v (.bool ((af s.kind.toNat).node)),.v (.bool ((af s.kind.toNat).peer)),.v (.bool ((af s.kind.toNat).n)),.v (.bool ((af s.kind.toNat).bit)),.v (.bool false),.v (.bool ((af s.kind.toNat).body))]:List DV))
    cases h3:(dA ((af s.kind.toNat).node) s.node 255) with
    | false=>
     refine aQ (y:=.d (.v (.bool false))) (N':=[.gw 0 aj]) ((congrArg (fun b=>AV.d (.v (.bool b))) (by first | exact iC (by omega) | exact iA (by omega) (by omega) (by unfold gl;simp [h0,h1,h2,h3]<;>omega)))) (rfl) ?_
     exact aP mo tq hK rfl ak [(1,[(2,.b false),(6,.b false)]),(3,[(2,.ix (s.kind.toNat) [.v (.string ⟨((af s.kind.toNat).word).toArray⟩),.v (.bool ((af s.kind.toNat).node)),.v (.bool ((af s.kind.toNat).peer)),.v (.bool ((af s.kind.toNat).n)),.v (.bool ((af s.kind.toNat).bit)),.v (.bool false),.v (.bool ((af s.kind.toNat).body))])]),(4,[(4,.aV (.v (.bool false)))])] 2000 [0] r (by kernel_rfl) (U h0 (U h1 (U ((by omega):(s.kind)=((s.kind.toNat:Nat):Int)) (U ((by omega):(s.kind.toNat)<14) (U aE (U ((by have k:=fH ((af s.kind.toNat).node) s.node 255;rw [h3] at k;exact k):aB Tryz.prog 54 [.d (.v (.bool ((af s.kind.toNat).node))),.z s.node,.z 255] (.v (.bool false))) trivial))))))
    | true=>
     have aZ:=((by have k:=fH ((af s.kind.toNat).node) s.node 255;rw [h3] at k;exact k):aB Tryz.prog 54 [.d (.v (.bool ((af s.kind.toNat).node))),.z s.node,.z 255] (.v (.bool true)))
     cases h4:(dA ((af s.kind.toNat).peer) s.peer 255) with
     | false=>
      refine aQ (y:=.d (.v (.bool false))) (N':=[.gw 0 aj]) ((congrArg (fun b=>AV.d (.v (.bool b))) (by first | exact iC (by omega) | exact iA (by omega) (by omega) (by unfold gl;simp [h0,h1,h2,h3,h4]<;>omega)))) (rfl) ?_
      exact aP mo tq hK rfl ak [(1,[(2,.b false),(6,.b false)]),(3,[(2,.ix (s.kind.toNat) [.v (.string ⟨((af s.kind.toNat).word).toArray⟩),.v (.bool ((af s.kind.toNat).node)),.v (.bool ((af s.kind.toNat).peer)),.v (.bool ((af s.kind.toNat).n)),.v (.bool ((af s.kind.toNat).bit)),.v (.bool false),.v (.bool ((af s.kind.toNat).body))])]),(4,[(4,.aV (.v (.bool true))),(10,.aV (.v (.bool false)))])] 2000 [0] r (by kernel_rfl) (U h0 (U h1 (U ((by omega):(s.kind)=((s.kind.toNat:Nat):Int)) (U ((by omega):(s.kind.toNat)<14) (U aE (U aZ (U ((by have k:=fH ((af s.kind.toNat).peer) s.peer 255;rw [h4] at k;exact k):aB Tryz.prog 54 [.d (.v (.bool ((af s.kind.toNat).peer))),.z s.peer,.z 255] (.v (.bool false))) trivial)))))))
     | true=>
      have cd:=((by have k:=fH ((af s.kind.toNat).peer) s.peer 255;rw [h4] at k;exact k):aB Tryz.prog 54 [.d (.v (.bool ((af s.kind.toNat).peer))),.z s.peer,.z 255] (.v (.bool true)))
      cases h5:(dA ((af s.kind.toNat).n) s.n 255) with
      | false=>
       refine aQ (y:=.d (.v (.bool false))) (N':=[.gw 0 aj]) ((congrArg (fun b=>AV.d (.v (.bool b))) (by first | exact iC (by omega) | exact iA (by omega) (by omega) (by unfold gl;simp [h0,h1,h2,h3,h4,h5]<;>omega)))) (rfl) ?_
       exact aP mo tq hK rfl ak [(1,[(2,.b false),(6,.b false)]),(3,[(2,.ix (s.kind.toNat) [.v (.string ⟨((af s.kind.toNat).word).toArray⟩),.v (.bool ((af s.kind.toNat).node)),.v (.bool ((af s.kind.toNat).peer)),.v (.bool ((af s.kind.toNat).n)),.v (.bool ((af s.kind.toNat).bit)),.v (.bool false),.v (.bool ((af s.kind.toNat).body))])]),(4,[(4,.aV (.v (.bool true))),(10,.aV (.v (.bool true))),(17,.aV (.v (.bool false)))])] 2000 [0] r (by kernel_rfl) (U h0 (U h1 (U ((by omega):(s.kind)=((s.kind.toNat:Nat):Int)) (U ((by omega):(s.kind.toNat)<14) (U aE (U aZ (U cd (U ((by have k:=fH ((af s.kind.toNat).n) s.n 255;rw [h5] at k;exact k):aB Tryz.prog 54 [.d (.v (.bool ((af s.kind.toNat).n))),.z s.n,.z 255] (.v (.bool false))) trivial))))))))
      | true=>
       have c7:=((by have k:=fH ((af s.kind.toNat).n) s.n 255;rw [h5] at k;exact k):aB Tryz.prog 54 [.d (.v (.bool ((af s.kind.toNat).n))),.z s.n,.z 255] (.v (.bool true)))
       cases h6:(dA ((af s.kind.toNat).bit) s.bit 65535) with
       | false=>
        refine aQ (y:=.d (.v (.bool false))) (N':=[.gw 0 aj]) ((congrArg (fun b=>AV.d (.v (.bool b))) (by first | exact iC (by omega) | exact iA (by omega) (by omega) (by unfold gl;simp [h0,h1,h2,h3,h4,h5,h6]<;>omega)))) (rfl) ?_
        exact aP mo tq hK rfl ak [(1,[(2,.b false),(6,.b false)]),(3,[(2,.ix (s.kind.toNat) [.v (.string ⟨((af s.kind.toNat).word).toArray⟩),.v (.bool ((af s.kind.toNat).node)),.v (.bool ((af s.kind.toNat).peer)),.v (.bool ((af s.kind.toNat).n)),.v (.bool ((af s.kind.toNat).bit)),.v (.bool false),.v (.bool ((af s.kind.toNat).body))])]),(4,[(4,.aV (.v (.bool true))),(10,.aV (.v (.bool true))),(17,.aV (.v (.bool true))),(24,.aV (.v (.bool false)))])] 2000 [0] r (by kernel_rfl) (U h0 (U h1 (U ((by omega):(s.kind)=((s.kind.toNat:Nat):Int)) (U ((by omega):(s.kind.toNat)<14) (U aE (U aZ (U cd (U c7 (U ((by have k:=fH ((af s.kind.toNat).bit) s.bit 65535;rw [h6] at k;exact k):aB Tryz.prog 54 [.d (.v (.bool ((af s.kind.toNat).bit))),.z s.bit,.z 65535] (.v (.bool false))) trivial)))))))))
       | true=>
        have e7:=((by have k:=fH ((af s.kind.toNat).bit) s.bit 65535;rw [h6] at k;exact k):aB Tryz.prog 54 [.d (.v (.bool ((af s.kind.toNat).bit))),.z s.bit,.z 65535] (.v (.bool true)))
        have fO:=((by first | rfl | simp [ae,ah,ints,steps,strs]):(((ae s.body).length:Nat):Int)=((s.body.length:Nat):Int))
        cases h7:(dA ((af s.kind.toNat).body) ((s.body.length:Nat):Int) 255) with
        | false=>
         refine aQ (y:=.d (.v (.bool false))) (N':=[.gw 0 aj]) ((congrArg (fun b=>AV.d (.v (.bool b))) (by first | exact iC (by omega) | exact iA (by omega) (by omega) (by unfold gl;simp [h0,h1,h2,h3,h4,h5,h6,h7]<;>omega)))) (rfl) ?_
         exact aP mo tq hK rfl ak [(1,[(2,.b false),(6,.b false)]),(3,[(2,.ix (s.kind.toNat) [.v (.string ⟨((af s.kind.toNat).word).toArray⟩),.v (.bool ((af s.kind.toNat).node)),.v (.bool ((af s.kind.toNat).peer)),.v (.bool ((af s.kind.toNat).n)),.v (.bool ((af s.kind.toNat).bit)),.v (.bool false),.v (.bool ((af s.kind.toNat).body))])]),(4,[(4,.aV (.v (.bool true))),(10,.aV (.v (.bool true))),(17,.aV (.v (.bool true))),(24,.aV (.v (.bool true))),(31,.z (((s.body.length:Nat):Int))),(32,.aV (.v (.bool false)))])] 2000 [0] r (by kernel_rfl) (U h0 (U h1 (U ((by omega):(s.kind)=((s.kind.toNat:Nat):Int)) (U ((by omega):(s.kind.toNat)<14) (U aE (U aZ (U cd (U c7 (U e7 (U fO (U ((by have k:=fH ((af s.kind.toNat).body) ((s.body.length:Nat):Int) 255;rw [h7] at k;exact k):aB Tryz.prog 54 [.d (.v (.bool ((af s.kind.toNat).body))),.n s.body.length,.z 255] (.v (.bool false))) trivial)))))))))))
        | true=>
         have ey:=((by have k:=fH ((af s.kind.toNat).body) ((s.body.length:Nat):Int) 255;rw [h7] at k;exact k):aB Tryz.prog 54 [.d (.v (.bool ((af s.kind.toNat).body))),.n s.body.length,.z 255] (.v (.bool true)))
         cases h8:((((s.inc:Nat):Int):Int)==0) with
         | false=>
          have e6:=ne_of_beq_false h8
          refine aQ (y:=.d (.v (.bool false))) (N':=[.gw 0 aj]) ((congrArg (fun b=>AV.d (.v (.bool b))) (by first | exact iC (by omega) | exact iA (by omega) (by omega) (by unfold gl;simp [h0,h1,h2,h3,h4,h5,h6,h7,h8]<;>omega)))) (rfl) ?_
          exact aP mo tq hK rfl ak [(1,[(2,.b false),(6,.b false)]),(3,[(2,.ix (s.kind.toNat) [.v (.string ⟨((af s.kind.toNat).word).toArray⟩),.v (.bool ((af s.kind.toNat).node)),.v (.bool ((af s.kind.toNat).peer)),.v (.bool ((af s.kind.toNat).n)),.v (.bool ((af s.kind.toNat).bit)),.v (.bool false),.v (.bool ((af s.kind.toNat).body))])]),(4,[(4,.aV (.v (.bool true))),(10,.aV (.v (.bool true))),(17,.aV (.v (.bool true))),(24,.aV (.v (.bool true))),(31,.z (((s.body.length:Nat):Int))),(32,.aV (.v (.bool true))),(40,.b false)])] 2000 [0] r (by kernel_rfl) (U h0 (U h1 (U ((by omega):(s.kind)=((s.kind.toNat:Nat):Int)) (U ((by omega):(s.kind.toNat)<14) (U aE (U aZ (U cd (U c7 (U e7 (U fO (U ey (U h8 trivial))))))))))))
         | true=>
          have e6:=eq_of_beq h8
          refine aQ (y:=.d (.v (.bool true))) (N':=[.gw 0 aj]) ((congrArg (fun b=>AV.d (.v (.bool b))) (by first | exact iC (by omega) | exact iA (by omega) (by omega) (by unfold gl;simp [h0,h1,h2,h3,h4,h5,h6,h7,h8]<;>omega)))) (rfl) ?_
          exact aP mo tq hK rfl ak [(1,[(2,.b false),(6,.b false)]),(3,[(2,.ix (s.kind.toNat) [.v (.string ⟨((af s.kind.toNat).word).toArray⟩),.v (.bool ((af s.kind.toNat).node)),.v (.bool ((af s.kind.toNat).peer)),.v (.bool ((af s.kind.toNat).n)),.v (.bool ((af s.kind.toNat).bit)),.v (.bool false),.v (.bool ((af s.kind.toNat).body))])]),(4,[(4,.aV (.v (.bool true))),(10,.aV (.v (.bool true))),(17,.aV (.v (.bool true))),(24,.aV (.v (.bool true))),(31,.z (((s.body.length:Nat):Int))),(32,.aV (.v (.bool true))),(40,.b true)])] 2000 [0] r (by kernel_rfl) (U h0 (U h1 (U ((by omega):(s.kind)=((s.kind.toNat:Nat):Int)) (U ((by omega):(s.kind.toNat)<14) (U aE (U aZ (U cd (U c7 (U e7 (U fO (U ey (U h8 trivial))))))))))))
   | true=>
    have fP:=((by rw [nn (by omega)];unfold jQ.row;rw [h2]):List.take 7 (List.drop ((s.kind.toNat)*7) (aj:List DV))=([.v (.string ⟨((af s.kind.toNat).word).toArray⟩),.v (.bool ((af s.kind.toNat).node)),.v (.bool ((af s.kind.toNat).peer)),.v (.bool ((af s.kind.toNat).n)),.v (.bool ((af s.kind.toNat).bit)),.v (.bool true),.v (.bool ((af s.kind.toNat).body))]:List DV))
    cases h9:(dA ((af s.kind.toNat).node) s.node 255) with
    | false=>
     refine aQ (y:=.d (.v (.bool false))) (N':=[.gw 0 aj]) ((congrArg (fun b=>AV.d (.v (.bool b))) (by first | exact iC (by omega) | exact iA (by omega) (by omega) (by unfold gl;simp [h0,h1,h2,h9]<;>omega)))) (rfl) ?_
     exact aP mo tq hK rfl ak [(1,[(2,.b false),(6,.b false)]),(3,[(2,.ix (s.kind.toNat) [.v (.string ⟨((af s.kind.toNat).word).toArray⟩),.v (.bool ((af s.kind.toNat).node)),.v (.bool ((af s.kind.toNat).peer)),.v (.bool ((af s.kind.toNat).n)),.v (.bool ((af s.kind.toNat).bit)),.v (.bool true),.v (.bool ((af s.kind.toNat).body))])]),(4,[(4,.aV (.v (.bool false)))])] 2000 [0] r (by kernel_rfl) (U h0 (U h1 (U ((by omega):(s.kind)=((s.kind.toNat:Nat):Int)) (U ((by omega):(s.kind.toNat)<14) (U fP (U ((by have k:=fH ((af s.kind.toNat).node) s.node 255;rw [h9] at k;exact k):aB Tryz.prog 54 [.d (.v (.bool ((af s.kind.toNat).node))),.z s.node,.z 255] (.v (.bool false))) trivial))))))
    | true=>
     have gT:=((by have k:=fH ((af s.kind.toNat).node) s.node 255;rw [h9] at k;exact k):aB Tryz.prog 54 [.d (.v (.bool ((af s.kind.toNat).node))),.z s.node,.z 255] (.v (.bool true)))
     cases cX:(dA ((af s.kind.toNat).peer) s.peer 255) with
     | false=>
      refine aQ (y:=.d (.v (.bool false))) (N':=[.gw 0 aj]) ((congrArg (fun b=>AV.d (.v (.bool b))) (by first | exact iC (by omega) | exact iA (by omega) (by omega) (by unfold gl;simp [h0,h1,h2,h9,cX]<;>omega)))) (rfl) ?_
      exact aP mo tq hK rfl ak [(1,[(2,.b false),(6,.b false)]),(3,[(2,.ix (s.kind.toNat) [.v (.string ⟨((af s.kind.toNat).word).toArray⟩),.v (.bool ((af s.kind.toNat).node)),.v (.bool ((af s.kind.toNat).peer)),.v (.bool ((af s.kind.toNat).n)),.v (.bool ((af s.kind.toNat).bit)),.v (.bool true),.v (.bool ((af s.kind.toNat).body))])]),(4,[(4,.aV (.v (.bool true))),(10,.aV (.v (.bool false)))])] 2000 [0] r (by kernel_rfl) (U h0 (U h1 (U ((by omega):(s.kind)=((s.kind.toNat:Nat):Int)) (U ((by omega):(s.kind.toNat)<14) (U fP (U gT (U ((by have k:=fH ((af s.kind.toNat).peer) s.peer 255;rw [cX] at k;exact k):aB Tryz.prog 54 [.d (.v (.bool ((af s.kind.toNat).peer))),.z s.peer,.z 255] (.v (.bool false))) trivial)))))))
     | true=>
      have jR:=((by have k:=fH ((af s.kind.toNat).peer) s.peer 255;rw [cX] at k;exact k):aB Tryz.prog 54 [.d (.v (.bool ((af s.kind.toNat).peer))),.z s.peer,.z 255] (.v (.bool true)))
      cases gp:(dA ((af s.kind.toNat).n) s.n 255) with
      | false=>
       refine aQ (y:=.d (.v (.bool false))) (N':=[.gw 0 aj]) ((congrArg (fun b=>AV.d (.v (.bool b))) (by first | exact iC (by omega) | exact iA (by omega) (by omega) (by unfold gl;simp [h0,h1,h2,h9,cX,gp]<;>omega)))) (rfl) ?_
       exact aP mo tq hK rfl ak [(1,[(2,.b false),(6,.b false)]),(3,[(2,.ix (s.kind.toNat) [.v (.string ⟨((af s.kind.toNat).word).toArray⟩),.v (.bool ((af s.kind.toNat).node)),.v (.bool ((af s.kind.toNat).peer)),.v (.bool ((af s.kind.toNat).n)),.v (.bool ((af s.kind.toNat).bit)),.v (.bool true),.v (.bool ((af s.kind.toNat).body))])]),(4,[(4,.aV (.v (.bool true))),(10,.aV (.v (.bool true))),(17,.aV (.v (.bool false)))])] 2000 [0] r (by kernel_rfl) (U h0 (U h1 (U ((by omega):(s.kind)=((s.kind.toNat:Nat):Int)) (U ((by omega):(s.kind.toNat)<14) (U fP (U gT (U jR (U ((by have k:=fH ((af s.kind.toNat).n) s.n 255;rw [gp] at k;exact k):aB Tryz.prog 54 [.d (.v (.bool ((af s.kind.toNat).n))),.z s.n,.z 255] (.v (.bool false))) trivial))))))))
      | true=>
       have pn:=((by have k:=fH ((af s.kind.toNat).n) s.n 255;rw [gp] at k;exact k):aB Tryz.prog 54 [.d (.v (.bool ((af s.kind.toNat).n))),.z s.n,.z 255] (.v (.bool true)))
       cases eM:(dA ((af s.kind.toNat).bit) s.bit 65535) with
       | false=>
        refine aQ (y:=.d (.v (.bool false))) (N':=[.gw 0 aj]) ((congrArg (fun b=>AV.d (.v (.bool b))) (by first | exact iC (by omega) | exact iA (by omega) (by omega) (by unfold gl;simp [h0,h1,h2,h9,cX,gp,eM]<;>omega)))) (rfl) ?_
        exact aP mo tq hK rfl ak [(1,[(2,.b false),(6,.b false)]),(3,[(2,.ix (s.kind.toNat) [.v (.string ⟨((af s.kind.toNat).word).toArray⟩),.v (.bool ((af s.kind.toNat).node)),.v (.bool ((af s.kind.toNat).peer)),.v (.bool ((af s.kind.toNat).n)),.v (.bool ((af s.kind.toNat).bit)),.v (.bool true),.v (.bool ((af s.kind.toNat).body))])]),(4,[(4,.aV (.v (.bool true))),(10,.aV (.v (.bool true))),(17,.aV (.v (.bool true))),(24,.aV (.v (.bool false)))])] 2000 [0] r (by kernel_rfl) (U h0 (U h1 (U ((by omega):(s.kind)=((s.kind.toNat:Nat):Int)) (U ((by omega):(s.kind.toNat)<14) (U fP (U gT (U jR (U pn (U ((by have k:=fH ((af s.kind.toNat).bit) s.bit 65535;rw [eM] at k;exact k):aB Tryz.prog 54 [.d (.v (.bool ((af s.kind.toNat).bit))),.z s.bit,.z 65535] (.v (.bool false))) trivial)))))))))
       | true=>
        have CP:=((by have k:=fH ((af s.kind.toNat).bit) s.bit 65535;rw [eM] at k;exact k):aB Tryz.prog 54 [.d (.v (.bool ((af s.kind.toNat).bit))),.z s.bit,.z 65535] (.v (.bool true)))
        have CQ:=((by first | rfl | simp [ae,ah,ints,steps,strs]):(((ae s.body).length:Nat):Int)=((s.body.length:Nat):Int))
        cases fU:(dA ((af s.kind.toNat).body) ((s.body.length:Nat):Int) 255) with
        | false=>
         refine aQ (y:=.d (.v (.bool false))) (N':=[.gw 0 aj]) ((congrArg (fun b=>AV.d (.v (.bool b))) (by first | exact iC (by omega) | exact iA (by omega) (by omega) (by unfold gl;simp [h0,h1,h2,h9,cX,gp,eM,fU]<;>omega)))) (rfl) ?_
         exact aP mo tq hK rfl ak [(1,[(2,.b false),(6,.b false)]),(3,[(2,.ix (s.kind.toNat) [.v (.string ⟨((af s.kind.toNat).word).toArray⟩),.v (.bool ((af s.kind.toNat).node)),.v (.bool ((af s.kind.toNat).peer)),.v (.bool ((af s.kind.toNat).n)),.v (.bool ((af s.kind.toNat).bit)),.v (.bool true),.v (.bool ((af s.kind.toNat).body))])]),(4,[(4,.aV (.v (.bool true))),(10,.aV (.v (.bool true))),(17,.aV (.v (.bool true))),(24,.aV (.v (.bool true))),(31,.z (((s.body.length:Nat):Int))),(32,.aV (.v (.bool false)))])] 2000 [0] r (by kernel_rfl) (U h0 (U h1 (U ((by omega):(s.kind)=((s.kind.toNat:Nat):Int)) (U ((by omega):(s.kind.toNat)<14) (U fP (U gT (U jR (U pn (U CP (U CQ (U ((by have k:=fH ((af s.kind.toNat).body) ((s.body.length:Nat):Int) 255;rw [fU] at k;exact k):aB Tryz.prog 54 [.d (.v (.bool ((af s.kind.toNat).body))),.n s.body.length,.z 255] (.v (.bool false))) trivial)))))))))))
        | true=>
         refine aQ (y:=.d (.v (.bool true))) (N':=[.gw 0 aj]) ((congrArg (fun b=>AV.d (.v (.bool b))) (by first | exact iC (by omega) | exact iA (by omega) (by omega) (by unfold gl;simp [h0,h1,h2,h9,cX,gp,eM,fU]<;>omega)))) (rfl) ?_
         exact aP mo tq hK rfl ak [(1,[(2,.b false),(6,.b false)]),(3,[(2,.ix (s.kind.toNat) [.v (.string ⟨((af s.kind.toNat).word).toArray⟩),.v (.bool ((af s.kind.toNat).node)),.v (.bool ((af s.kind.toNat).peer)),.v (.bool ((af s.kind.toNat).n)),.v (.bool ((af s.kind.toNat).bit)),.v (.bool true),.v (.bool ((af s.kind.toNat).body))])]),(4,[(4,.aV (.v (.bool true))),(10,.aV (.v (.bool true))),(17,.aV (.v (.bool true))),(24,.aV (.v (.bool true))),(31,.z (((s.body.length:Nat):Int))),(32,.aV (.v (.bool true)))])] 2000 [0] r (by kernel_rfl) (U h0 (U h1 (U ((by omega):(s.kind)=((s.kind.toNat:Nat):Int)) (U ((by omega):(s.kind.toNat)<14) (U fP (U gT (U jR (U pn (U CP (U CQ (U ((by have k:=fH ((af s.kind.toNat).body) ((s.body.length:Nat):Int) 255;rw [fU] at k;exact k):aB Tryz.prog 54 [.d (.v (.bool ((af s.kind.toNat).body))),.n s.body.length,.z 255] (.v (.bool true))) trivial)))))))))))
  | true=>
   have bF:=of_decide_eq_true h1
   refine aQ (y:=.d (.v (.bool false))) (N':=[.gw 0 aj]) ((congrArg (fun b=>AV.d (.v (.bool b))) (by first | exact iC (by omega) | exact iA (by omega) (by omega) (by unfold gl;simp [h0,h1]<;>omega)))) (rfl) ?_
   exact aP mo tq hK rfl ak [(1,[(2,.b false),(6,.b true)])] 2000 [0] r (by kernel_rfl) (U h0 (U h1 trivial))
 | true=>
  have aK:=of_decide_eq_true h0
  refine aQ (y:=.d (.v (.bool false))) (N':=[.gw 0 aj]) ((congrArg (fun b=>AV.d (.v (.bool b))) (by first | exact iC (by omega) | exact iA (by omega) (by omega) (by unfold gl;simp [h0]<;>omega)))) (rfl) ?_
  exact aP mo tq hK rfl ak [(1,[(2,.b true)])] 2000 [0] r (by kernel_rfl) (U h0 trivial)
end Go.Proofs.YtcnpikbbmbombaaGreatDoor
namespace Go.Proofs.YtcnpikbbmbombaaGreatDoor
open Go.RowKit
theorem aB.stays {P:Program} {f:FuncId} {args:List AV} {x:DV} (h:aB P f args x):aB P f args (eR x):=by
 refine ⟨h.1,fun w K ys hK hl hr=>(h.2 w K ys hK hl hr).mono ?_⟩
 rintro ed w' ⟨v,rfl,g,H,⟨Ho,Hi,rfl,hd⟩,n⟩
 exact ⟨_,rfl,g,_,⟨[],Ho++Hi,rfl,sn hd fun w hw=>⟨⟨hw.1,(Holds.app.1 hw.2).2⟩,(Holds.app.1 hw.2).1⟩⟩,n⟩
theorem fX (l:List (Int×Int)):cb (ah l)=ah l:=by rw [jU];unfold ah;rw [List.map_map];apply List.map_congr_left;intro b _;rfl
theorem ff (l:List Int):cb (ints l)=ints l:=by rw [jU];unfold ints;rw [List.map_map];apply List.map_congr_left;intro b _;rfl
structure aM.Rd (s:aM):Prop where
 body:s.body.length≤9223372036854775807
 inc:s.inc≤18446744073709551615
theorem ext_get {α:Type} {a b:List α} (hl:a.length=b.length) (h:∀ (j:Nat) x y,j<a.length→a[j]?=some x→b[j]?=some y→x=y):a=b:=by
 apply List.ext_getElem hl
 intro i h1 h2
 exact h i _ _ h1 (List.getElem?_eq_getElem h1) (List.getElem?_eq_getElem h2)
theorem lD {a b:List UInt8} (h:(a==b)=false):a≠b:=by intro e;subst e;simp at h
def kE (a b:cE):Bool:=decide (a=b)
theorem ga {a b:cE} (h:a≠b):kE a b=false:=decide_eq_false h
theorem oB {a b:cE} {i j:Nat} (h0:a.aL=b.aL) (h1:(a.ah.length:Int)=b.ah.length) (h2:(a.homes.length:Int)=b.homes.length) (hi:¬ (i:Int)<a.ah.length) (h3:∀ (k:Nat) x y,k<i→a.ah[k]?=some x→b.ah[k]?=some y→x=y) (hj:¬ (j:Int)<a.homes.length) (h4:∀ (k:Nat) x y,k<j→a.homes[k]?=some x→b.homes[k]?=some y→x=y):kE a b=true:=by
 refine decide_eq_true ?_
 cases a with | mk a1 a2 a3=>cases b with | mk b1 b2 b3=>
 dsimp only at *
 have e2:a2=b2:=ext_get (by omega) fun k x y hk=>h3 k x y (by omega)
 have e3:a3=b3:=ext_get (by omega) fun k x y hk=>h4 k x y (by omega)
 rw [h0,e2,e3]
def iR (a b:List aM):Bool:=decide (a=b)
theorem ko {a b:List aM} (h:a≠b):iR a b=false:=decide_eq_false h
theorem gb {a b:List aM} {i:Nat} {x y:aM} (g:a[i]?=some x) (g2:b[i]?=some y) (h:x≠y):iR a b=false:=ko fun e=>by subst e;rw [g] at g2;cases g2;exact h rfl
theorem kW {a b:List aM} {i:Nat} (h1:(a.length:Int)=b.length) (hi:¬ (i:Int)<a.length) (h3:∀ (k:Nat) x y,k<i→a[k]?=some x→b[k]?=some y→x=y):iR a b=true:=decide_eq_true (ext_get (by omega) fun k x y hk=>h3 k x y (by omega))
theorem gi {x y:aM} (h:x.kind≠y.kind∨x.node≠y.node∨x.peer≠y.peer∨x.n≠y.n∨x.bit≠y.bit∨(x.inc:Int)≠y.inc∨x.body≠y.body):x≠y:=by
 intro e;subst e;simp at h
theorem JS {x y:aM} (h1:x.kind=y.kind) (h2:x.node=y.node) (h3:x.peer=y.peer) (h4:x.n=y.n) (h5:x.bit=y.bit) (h6:(x.inc:Int)=y.inc) (h7:x.body=y.body):x=y:=by
 cases x;cases y;dsimp only at *;subst h1 h2 h3 h4 h5 h7;congr 1;omega
theorem IF {x y:Int×Int} (h:(x.1==y.1&&x.2==y.2)=true):x=y:=by
 obtain ⟨a,b⟩:=x;obtain ⟨c,d⟩:=y;simpa using h
theorem oN {x y:Int×Int} (h:(x.1==y.1&&x.2==y.2)=false):x≠y:=by
 intro e;subst e;simp at h
theorem at_next {α:Type} {a b:List α} {i:Nat} {x y:α} (h:∀ (k:Nat) x y,k<i→a[k]?=some x→b[k]?=some y→x=y) (g:a[i]?=some x) (g2:b[i]?=some y) (e:x=y):∀ (k:Nat) x y,k<i+1→a[k]?=some x→b[k]?=some y→x=y:=fun k u v hk hu hv=>by
 rcases Nat.lt_succ_iff_lt_or_eq.1 hk with h' | rfl
 ·exact h k u v h' hu hv
 ·rw [g] at hu;rw [g2] at hv;cases hu;cases hv;exact e
set_option maxRecDepth 100000 in
theorem IG (a b:cE) (hl:a.ah.length≤9223372036854775807) (hh:a.homes.length≤9223372036854775807):aB Tryz.prog 13 [.ag [.z a.aL,.d (.ro 2 (ah a.ah)),.d (.ro 1 (ints a.homes))],.ag [.z b.aL,.d (.ro 2 (ah b.ah)),.d (.ro 1 (ints b.homes))]] (.v (.bool (kE a b))):=by
 refine aB.intro (by kernel_rfl) rfl rfl 66 rfl rfl fun w0 K ac hK r=>?_
 cases h0:((a.aL:Int) != b.aL) with
 | false=>
  have aK:=fY h0
  have aE:=((by first | rfl | simp [ae,ah,ints,steps,strs]):(((ah a.ah).length:Nat):Int)=((a.ah.length:Nat):Int))
  have aZ:=((by first | rfl | simp [ae,ah,ints,steps,strs]):(((ah b.ah).length:Nat):Int)=((b.ah.length:Nat):Int))
  cases h1:((((a.ah.length:Nat):Int):Int) != ((b.ah.length:Nat):Int)) with
  | false=>
   have bF:=fY h1
   have cd:=((by first | rfl | simp [ae,ah,ints,steps,strs]):(((ints a.homes).length:Nat):Int)=((a.homes.length:Nat):Int))
   have c7:=((by first | rfl | simp [ae,ah,ints,steps,strs]):(((ints b.homes).length:Nat):Int)=((b.homes.length:Nat):Int))
   cases h2:((((a.homes.length:Nat):Int):Int) != ((b.homes.length:Nat):Int)) with
   | false=>
    have cW:=fY h2
    refine cy (todo':=hd Tryz.f13 0) (E':=[(2,.pt 0 0),(3,.pt 1 0),(5,.n 0)]) (M':=[.bx 25 [.z a.aL,.d (.ro 2 (ah a.ah)),.d (.ro 1 (ints a.homes))],.bx 25 [.z b.aL,.d (.ro 2 (ah b.ah)),.d (.ro 1 (ints b.homes))]]) mo tq hK [(1,[(4,.b false),(8,.z (((a.ah.length:Nat):Int))),(11,.z (((b.ah.length:Nat):Int))),(12,.b false),(17,.z (((a.homes.length:Nat):Int))),(20,.z (((b.homes.length:Nat):Int))),(21,.b false)])] 2000 [0,1] [2,3,5] r (by kernel_rfl) (U h0 (U aE (U aZ (U h1 (U cd (U c7 (U h2 trivial))))))) fun ac wd r=>?_
    refine aC.rounds (Φ:=fun (i:Nat) ac wd=>(∀ (k:Nat) x y,k<i→a.ah[k]?=some x→b.ah[k]?=some y→x=y)∧du [] w0 K 66 [(2,.pt 0 0),(3,.pt 1 0),(5,.n i)] [.bx 25 [.z a.aL,.d (.ro 2 (ah a.ah)),.d (.ro 1 (ints a.homes))],.bx 25 [.z b.aL,.d (.ro 2 (ah b.ah)),.d (.ro 1 (ints b.homes))]] ac wd) (a.ah.length) ?_ (Nat.zero_le _) ⟨(fun k x y h=>absurd h (Nat.not_lt_zero _)),r⟩
    clear r
    rintro i dI bH ac wd ⟨ao,r⟩
    cases h3:(decide ((((i:Nat):Int):Int)<((a.ah.length:Nat):Int))) with
    | false=>
     have di:=of_decide_eq_false h3
     refine cy (todo':=hd Tryz.f13 1) (E':=[(2,.pt 0 0),(3,.pt 1 0),(6,.n 0)]) (M':=[.bx 25 [.z a.aL,.d (.ro 2 (ah a.ah)),.d (.ro 1 (ints a.homes))],.bx 25 [.z b.aL,.d (.ro 2 (ah b.ah)),.d (.ro 1 (ints b.homes))]]) mo tq hK [(4,[(3,.z (((a.ah.length:Nat):Int))),(4,.b false)])] 2000 [0,1] [2,3,6] r (by kernel_rfl) (U aE (U h3 trivial)) fun ac wd r=>?_
     refine aC.rounds (Φ:=fun (i:Nat) ac wd=>(∀ (k:Nat) x y,k<i→a.homes[k]?=some x→b.homes[k]?=some y→x=y)∧du [] w0 K 66 [(2,.pt 0 0),(3,.pt 1 0),(6,.n i)] [.bx 25 [.z a.aL,.d (.ro 2 (ah a.ah)),.d (.ro 1 (ints a.homes))],.bx 25 [.z b.aL,.d (.ro 2 (ah b.ah)),.d (.ro 1 (ints b.homes))]] ac wd) (a.homes.length) ?_ (Nat.zero_le _) ⟨(fun k x y h=>absurd h (Nat.not_lt_zero _)),r⟩
     clear r
     rintro i lV fG ac wd ⟨dt,r⟩
     cases h4:(decide ((((i:Nat):Int):Int)<((a.homes.length:Nat):Int))) with
     | false=>
      have dD:=of_decide_eq_false h4
      rw [show (.v (.bool (kE a b)):DV)=.v (.bool true) from (bv (by first | exact oB (by omega) (by omega) (by omega) (by omega) ao (by omega) dt | exact ga (fun e=>by subst e;omega) | exact ga (fun e=>by subst e;rw [kT] at iu;cases iu;exact oN (by assumption) rfl) | exact ga (fun e=>by subst e;rw [kU] at iv;cases iv;omega)))]
      exact bj mo tq hK rfl [(9,[(3,.z (((a.homes.length:Nat):Int))),(4,.b false)])] 2000 r (by kernel_rfl) (U cd (U h4 trivial))
     | true=>
      have dD:=of_decide_eq_true h4
      obtain ⟨ur,kU⟩:∃ x_,a.homes[i]?=some x_:=⟨_,List.getElem?_eq_getElem (by omega)⟩
      obtain ⟨uu,iv⟩:∃ x_,b.homes[i]?=some x_:=⟨_,List.getElem?_eq_getElem (by omega)⟩
      cases h5:((ur:Int) != uu) with
      | false=>
       have ew:=fY h5
       exact cy (todo':=hd Tryz.f13 1) mo tq hK [(9,[(3,.z (((a.homes.length:Nat):Int))),(4,.b true)]),(10,[(1,.z (((i+1:Nat):Int)))]),(11,[(3,.ix (i) [.z ur]),(8,.ix (i) [.z uu]),(10,.b false)])] 2000 [0,1] [2,3,6] r (by kernel_rfl) (U cd (U h4 (U (aA ((i:Nat):Int)) (U (ints_at kU) (U (aA ((i:Nat):Int)) (U (ints_at iv) (U h5 (U ((wi (by omega)):IntKind.i64.wrap ((((i:Nat):Int):Int)+1)=((i+1:Nat):Int)) trivial)))))))) fun ac wd r=>fG (by omega) ac wd ⟨(at_next dt kU iv (by omega)),r⟩
      | true=>
       have ew:¬ _=_:=bne_iff_ne.1 h5
       rw [show (.v (.bool (kE a b)):DV)=.v (.bool false) from (bv (by first | exact oB (by omega) (by omega) (by omega) (by omega) ao (by omega) dt | exact ga (fun e=>by subst e;omega) | exact ga (fun e=>by subst e;rw [kT] at iu;cases iu;exact oN (by assumption) rfl) | exact ga (fun e=>by subst e;rw [kU] at iv;cases iv;omega)))]
       exact bj mo tq hK rfl [(9,[(3,.z (((a.homes.length:Nat):Int))),(4,.b true)]),(11,[(3,.ix (i) [.z ur]),(8,.ix (i) [.z uu]),(10,.b true)])] 2000 r (by kernel_rfl) (U cd (U h4 (U (aA ((i:Nat):Int)) (U (ints_at kU) (U (aA ((i:Nat):Int)) (U (ints_at iv) (U h5 trivial)))))))
    | true=>
     have di:=of_decide_eq_true h3
     obtain ⟨kl,kT⟩:∃ x_,a.ah[i]?=some x_:=⟨_,List.getElem?_eq_getElem (by omega)⟩
     obtain ⟨km,iu⟩:∃ x_,b.ah[i]?=some x_:=⟨_,List.getElem?_eq_getElem (by omega)⟩
     cases h6:(kl.1==km.1&&kl.2==km.2) with
     | false=>
      rw [show (.v (.bool (kE a b)):DV)=.v (.bool false) from (bv (by first | exact oB (by omega) (by omega) (by omega) (by omega) ao (by omega) dt | exact ga (fun e=>by subst e;omega) | exact ga (fun e=>by subst e;rw [kT] at iu;cases iu;exact oN (by assumption) rfl) | exact ga (fun e=>by subst e;rw [kU] at iv;cases iv;omega)))]
      exact bj mo tq hK rfl [(4,[(3,.z (((a.ah.length:Nat):Int))),(4,.b true)]),(6,[(3,.ix (i) [.z kl.1,.z kl.2]),(8,.ix (i) [.z km.1,.z km.2]),(10,.b false)])] 2000 r (by kernel_rfl) (U aE (U h3 (U (aA ((i:Nat):Int)) (U (cU kT) (U (aA ((i:Nat):Int)) (U (cU iu) (U ((pI (oT _ _ _ _) h6):j4 Tryz.prog 60 [(.int .i64 (kl.1)),(.int .i64 (kl.2))] [(.int .i64 (km.1)),(.int .i64 (km.2))] false) trivial)))))))
     | true=>
      exact cy (todo':=hd Tryz.f13 0) mo tq hK [(4,[(3,.z (((a.ah.length:Nat):Int))),(4,.b true)]),(5,[(1,.z (((i+1:Nat):Int)))]),(6,[(3,.ix (i) [.z kl.1,.z kl.2]),(8,.ix (i) [.z km.1,.z km.2]),(10,.b true)])] 2000 [0,1] [2,3,5] r (by kernel_rfl) (U aE (U h3 (U (aA ((i:Nat):Int)) (U (cU kT) (U (aA ((i:Nat):Int)) (U (cU iu) (U ((pI (oT _ _ _ _) h6):j4 Tryz.prog 60 [(.int .i64 (kl.1)),(.int .i64 (kl.2))] [(.int .i64 (km.1)),(.int .i64 (km.2))] true) (U ((wi (by omega)):IntKind.i64.wrap ((((i:Nat):Int):Int)+1)=((i+1:Nat):Int)) trivial)))))))) fun ac wd r=>bH (by omega) ac wd ⟨(at_next ao kT iu (IF (by assumption))),r⟩
   | true=>
    have cW:¬ _=_:=bne_iff_ne.1 h2
    rw [show (.v (.bool (kE a b)):DV)=.v (.bool false) from (bv (by first | exact oB (by omega) (by omega) (by omega) (by omega) ao (by omega) dt | exact ga (fun e=>by subst e;omega) | exact ga (fun e=>by subst e;rw [kT] at iu;cases iu;exact oN (by assumption) rfl) | exact ga (fun e=>by subst e;rw [kU] at iv;cases iv;omega)))]
    exact bj mo tq hK rfl [(1,[(4,.b false),(8,.z (((a.ah.length:Nat):Int))),(11,.z (((b.ah.length:Nat):Int))),(12,.b false),(17,.z (((a.homes.length:Nat):Int))),(20,.z (((b.homes.length:Nat):Int))),(21,.b true)])] 2000 r (by kernel_rfl) (U h0 (U aE (U aZ (U h1 (U cd (U c7 (U h2 trivial)))))))
  | true=>
   have bF:¬ _=_:=bne_iff_ne.1 h1
   rw [show (.v (.bool (kE a b)):DV)=.v (.bool false) from (bv (by first | exact oB (by omega) (by omega) (by omega) (by omega) ao (by omega) dt | exact ga (fun e=>by subst e;omega) | exact ga (fun e=>by subst e;rw [kT] at iu;cases iu;exact oN (by assumption) rfl) | exact ga (fun e=>by subst e;rw [kU] at iv;cases iv;omega)))]
   exact bj mo tq hK rfl [(1,[(4,.b false),(8,.z (((a.ah.length:Nat):Int))),(11,.z (((b.ah.length:Nat):Int))),(12,.b true)])] 2000 r (by kernel_rfl) (U h0 (U aE (U aZ (U h1 trivial))))
 | true=>
  have aK:¬ _=_:=bne_iff_ne.1 h0
  rw [show (.v (.bool (kE a b)):DV)=.v (.bool false) from (bv (by first | exact oB (by omega) (by omega) (by omega) (by omega) ao (by omega) dt | exact ga (fun e=>by subst e;omega) | exact ga (fun e=>by subst e;rw [kT] at iu;cases iu;exact oN (by assumption) rfl) | exact ga (fun e=>by subst e;rw [kU] at iv;cases iv;omega)))]
  exact bj mo tq hK rfl [(1,[(4,.b true)])] 2000 r (by kernel_rfl) (U h0 trivial)
set_option maxRecDepth 100000 in
theorem IH (a b:List aM) (hl:a.length≤9223372036854775807):aB Tryz.prog 14 [.d (.ro 7 (steps a)),.d (.ro 7 (steps b))] (.v (.bool (iR a b))):=by
 refine aB.intro (by kernel_rfl) rfl rfl 76 rfl rfl fun w0 K ac hK r=>?_
 have aE:=((by first | rfl | simp [ae,ah,ints,steps,strs]):(((steps a).length:Nat):Int)=((a.length:Nat):Int))
 have aZ:=((by first | rfl | simp [ae,ah,ints,steps,strs]):(((steps b).length:Nat):Int)=((b.length:Nat):Int))
 cases h0:((((a.length:Nat):Int):Int) != ((b.length:Nat):Int)) with
 | false=>
  have aK:=fY h0
  refine cy (todo':=hd Tryz.f14 0) (E':=[(0,.d (.ro 7 (steps a))),(1,.d (.ro 7 (steps b))),(5,.n 0)]) (M':=[]) mo tq hK [(1,[(1,.z (((a.length:Nat):Int))),(3,.z (((b.length:Nat):Int))),(4,.b false)])] 2000 [] [0,1,5] r (by kernel_rfl) (U aE (U aZ (U h0 trivial))) fun ac wd r=>?_
  refine aC.rounds (Φ:=fun (i:Nat) ac wd=>(∀ (k:Nat) x y,k<i→a[k]?=some x→b[k]?=some y→x=y)∧du [] w0 K 76 [(0,.d (.ro 7 (steps a))),(1,.d (.ro 7 (steps b))),(5,.n i)] [] ac wd) (a.length) ?_ (Nat.zero_le _) ⟨(fun k x y h=>absurd h (Nat.not_lt_zero _)),r⟩
  clear r
  rintro i dI bH ac wd ⟨ao,r⟩
  cases h1:(decide ((((i:Nat):Int):Int)<((a.length:Nat):Int))) with
  | false=>
   have bF:=of_decide_eq_false h1
   rw [show (.v (.bool (iR a b)):DV)=.v (.bool true) from (bv (by first | exact kW (by omega) (by omega) ao | exact ko (fun e=>by subst e;omega) | exact gb fv fw (gi (by omega)) | exact gb fv fw (gi (.inr (.inr (.inr (.inr (.inr (.inr (lD (by assumption)))))))))))]
   exact bj mo tq hK rfl [(4,[(2,.z (((a.length:Nat):Int))),(3,.b false)])] 2000 r (by kernel_rfl) (U aE (U h1 trivial))
  | true=>
   have bF:=of_decide_eq_true h1
   obtain ⟨cB,fv⟩:∃ x_,a[i]?=some x_:=⟨_,List.getElem?_eq_getElem (by omega)⟩
   obtain ⟨cC,fw⟩:∃ x_,b[i]?=some x_:=⟨_,List.getElem?_eq_getElem (by omega)⟩
   have CR:=((by first | rfl | simp [ae,ah,ints,steps,strs]):(((steps a).length:Nat):Int)=((a.length:Nat):Int))
   refine JM (todo':=aft Tryz.f14 6) (E':=[(0,.d (.ro 7 (steps a))),(1,.d (.ro 7 (steps b))),(5,.n i),(13,.n i),(14,.d (.ro 7 (steps a))),(15,.n a.length),(16,.d (.v (.bool true))),(19,.d (.ro 7 (steps a))),(20,.n i),(21,.rp [.z cB.kind,.z cB.node,.z cB.peer,.z cB.n,.z cB.bit,.u cB.inc,.ro 1 (ae cB.body)] 0),(22,.ag [.z cB.kind,.z cB.node,.z cB.peer,.z cB.n,.z cB.bit,.u cB.inc,.d (.ro 1 (ae cB.body))]),(23,.d (.ro 7 (steps b))),(24,.n i),(25,.rp [.z cC.kind,.z cC.node,.z cC.peer,.z cC.n,.z cC.bit,.u cC.inc,.ro 1 (ae cC.body)] 0),(26,.ag [.z cC.kind,.z cC.node,.z cC.peer,.z cC.n,.z cC.bit,.u cC.inc,.d (.ro 1 (ae cC.body))]),(6,.pt 0 0),(7,.pt 1 0)]) (M':=[.bx 42 [.z cB.kind,.z cB.node,.z cB.peer,.z cB.n,.z cB.bit,.u cB.inc,.d (.ro 1 (ae cB.body))],.bx 42 [.z cC.kind,.z cC.node,.z cC.peer,.z cC.n,.z cC.bit,.u cC.inc,.d (.ro 1 (ae cC.body))]]) mo tq hK [(4,[(2,.z (((a.length:Nat):Int))),(3,.b true)]),(6,[(2,.ix (i) [.z cB.kind,.z cB.node,.z cB.peer,.z cB.n,.z cB.bit,.u cB.inc,.ro 1 (ae cB.body)]),(6,.ix (i) [.z cC.kind,.z cC.node,.z cC.peer,.z cC.n,.z cC.bit,.u cC.inc,.ro 1 (ae cC.body)])])] 8 2 [] [[0,1],[1,0]] [0,1,5,13,14,15,16,19,20,21,22,23,24,25,26,6,7] r (by kernel_rfl) (U (U CR (U h1 (U (aA ((i:Nat):Int)) (U (l9 fv) (U (aA ((i:Nat):Int)) (U (l9 fw) trivial)))))) (U (U CR (U h1 (U (aA ((i:Nat):Int)) (U (l9 fv) (U (aA ((i:Nat):Int)) (U (l9 fw) trivial)))))) trivial)) fun ac wd r=>?_
   cases h2:((cB.kind:Int) != cC.kind) with
   | false=>
    have cW:=fY h2
    cases h3:((cB.node:Int) != cC.node) with
    | false=>
     have di:=fY h3
     cases h4:((cB.peer:Int) != cC.peer) with
     | false=>
      have dD:=fY h4
      cases h5:((cB.n:Int) != cC.n) with
      | false=>
       have ew:=fY h5
       cases h6:((cB.bit:Int) != cC.bit) with
       | false=>
        have eV:=fY h6
        cases h7:((((cB.inc:Nat):Int):Int) != ((cC.inc:Nat):Int)) with
        | false=>
         have dZ:=fY h7
         cases h8:(cB.body==cC.body) with
         | false=>
          have e6:cB.body≠cC.body:=by simpa using h8
          rw [show (.v (.bool (iR a b)):DV)=.v (.bool false) from (bv (by first | exact kW (by omega) (by omega) ao | exact ko (fun e=>by subst e;omega) | exact gb fv fw (gi (by omega)) | exact gb fv fw (gi (.inr (.inr (.inr (.inr (.inr (.inr (lD (by assumption)))))))))))]
          exact bj mo tq hK rfl [(7,[(4,.b false),(10,.b false),(17,.b false),(24,.b false),(31,.b false),(38,.b false),(43,.res (.v (.string ⟨(cB.body).toArray⟩))),(46,.res (.v (.string ⟨(cC.body).toArray⟩))),(47,.b true)])] 2000 r (by kernel_rfl) (U h2 (U h3 (U h4 (U h5 (U h6 (U h7 (U (rfl:ae cB.body=ae (cB.body)) (U (rfl:ae cC.body=ae (cC.body)) (U ((by simpa [bne] using h8):(cB.body != cC.body)=true) trivial)))))))))
         | true=>
          have e6:cB.body=cC.body:=by simpa using h8
          exact cy (todo':=hd Tryz.f14 0) mo tq hK [(5,[(1,.z (((i+1:Nat):Int)))]),(7,[(4,.b false),(10,.b false),(17,.b false),(24,.b false),(31,.b false),(38,.b false),(43,.res (.v (.string ⟨(cB.body).toArray⟩))),(46,.res (.v (.string ⟨(cC.body).toArray⟩))),(47,.b false)])] 2000 [] [0,1,5] r (by kernel_rfl) (U h2 (U h3 (U h4 (U h5 (U h6 (U h7 (U (rfl:ae cB.body=ae (cB.body)) (U (rfl:ae cC.body=ae (cC.body)) (U ((by simpa [bne] using h8):(cB.body != cC.body)=false) (U ((wi (by omega)):IntKind.i64.wrap ((((i:Nat):Int):Int)+1)=((i+1:Nat):Int)) trivial)))))))))) fun ac wd r=>bH (by omega) ac wd ⟨(at_next ao fv fw (JS (by omega) (by omega) (by omega) (by omega) (by omega) (by omega) (eq_of_beq (by assumption)))),r⟩
        | true=>
         have dZ:¬ _=_:=bne_iff_ne.1 h7
         rw [show (.v (.bool (iR a b)):DV)=.v (.bool false) from (bv (by first | exact kW (by omega) (by omega) ao | exact ko (fun e=>by subst e;omega) | exact gb fv fw (gi (by omega)) | exact gb fv fw (gi (.inr (.inr (.inr (.inr (.inr (.inr (lD (by assumption)))))))))))]
         exact bj mo tq hK rfl [(7,[(4,.b false),(10,.b false),(17,.b false),(24,.b false),(31,.b false),(38,.b true)])] 2000 r (by kernel_rfl) (U h2 (U h3 (U h4 (U h5 (U h6 (U h7 trivial))))))
       | true=>
        have eV:¬ _=_:=bne_iff_ne.1 h6
        rw [show (.v (.bool (iR a b)):DV)=.v (.bool false) from (bv (by first | exact kW (by omega) (by omega) ao | exact ko (fun e=>by subst e;omega) | exact gb fv fw (gi (by omega)) | exact gb fv fw (gi (.inr (.inr (.inr (.inr (.inr (.inr (lD (by assumption)))))))))))]
        exact bj mo tq hK rfl [(7,[(4,.b false),(10,.b false),(17,.b false),(24,.b false),(31,.b true)])] 2000 r (by kernel_rfl) (U h2 (U h3 (U h4 (U h5 (U h6 trivial)))))
      | true=>
       have ew:¬ _=_:=bne_iff_ne.1 h5
       rw [show (.v (.bool (iR a b)):DV)=.v (.bool false) from (bv (by first | exact kW (by omega) (by omega) ao | exact ko (fun e=>by subst e;omega) | exact gb fv fw (gi (by omega)) | exact gb fv fw (gi (.inr (.inr (.inr (.inr (.inr (.inr (lD (by assumption)))))))))))]
       exact bj mo tq hK rfl [(7,[(4,.b false),(10,.b false),(17,.b false),(24,.b true)])] 2000 r (by kernel_rfl) (U h2 (U h3 (U h4 (U h5 trivial))))
     | true=>
      have dD:¬ _=_:=bne_iff_ne.1 h4
      rw [show (.v (.bool (iR a b)):DV)=.v (.bool false) from (bv (by first | exact kW (by omega) (by omega) ao | exact ko (fun e=>by subst e;omega) | exact gb fv fw (gi (by omega)) | exact gb fv fw (gi (.inr (.inr (.inr (.inr (.inr (.inr (lD (by assumption)))))))))))]
      exact bj mo tq hK rfl [(7,[(4,.b false),(10,.b false),(17,.b true)])] 2000 r (by kernel_rfl) (U h2 (U h3 (U h4 trivial)))
    | true=>
     have di:¬ _=_:=bne_iff_ne.1 h3
     rw [show (.v (.bool (iR a b)):DV)=.v (.bool false) from (bv (by first | exact kW (by omega) (by omega) ao | exact ko (fun e=>by subst e;omega) | exact gb fv fw (gi (by omega)) | exact gb fv fw (gi (.inr (.inr (.inr (.inr (.inr (.inr (lD (by assumption)))))))))))]
     exact bj mo tq hK rfl [(7,[(4,.b false),(10,.b true)])] 2000 r (by kernel_rfl) (U h2 (U h3 trivial))
   | true=>
    have cW:¬ _=_:=bne_iff_ne.1 h2
    rw [show (.v (.bool (iR a b)):DV)=.v (.bool false) from (bv (by first | exact kW (by omega) (by omega) ao | exact ko (fun e=>by subst e;omega) | exact gb fv fw (gi (by omega)) | exact gb fv fw (gi (.inr (.inr (.inr (.inr (.inr (.inr (lD (by assumption)))))))))))]
    exact bj mo tq hK rfl [(7,[(4,.b true)])] 2000 r (by kernel_rfl) (U h2 trivial)
 | true=>
  have aK:¬ _=_:=bne_iff_ne.1 h0
  rw [show (.v (.bool (iR a b)):DV)=.v (.bool false) from (bv (by first | exact kW (by omega) (by omega) ao | exact ko (fun e=>by subst e;omega) | exact gb fv fw (gi (by omega)) | exact gb fv fw (gi (.inr (.inr (.inr (.inr (.inr (.inr (lD (by assumption)))))))))))]
  exact bj mo tq hK rfl [(1,[(1,.z (((a.length:Nat):Int))),(3,.z (((b.length:Nat):Int))),(4,.b true)])] 2000 r (by kernel_rfl) (U aE (U aZ (U h0 trivial)))
end Go.Proofs.YtcnpikbbmbombaaGreatDoor
