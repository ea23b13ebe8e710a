/-
  scriptSteps_card, part 3 of 6: merged by program from the texts that it needs.
-/
import Derived.Test.YtcnpikbbmbombaaDoorSsB
set_option linter.unusedSimpArgs false
set_option linter.unusedVariables false
set_option linter.unnecessarySimpa false
namespace Go.Proofs.YtcnpikbbmbombaaDoor
open Go.RowKit
def A5 (w:World) (K:World→Prop) (x:DV):Ending→World→Prop:=BN w fun r H=>∃ Ho Hi,H=Ho++Hi∧bB (fun w=>K w∧Holds w Hi) x r Ho
abbrev oR (w:World) (K:World→Prop) (x:DV):eO:=.ends (A5 w K x)
def gB:List AV→Nat→List (Nat×AV)
 | [],_=>[]
 | v::r,i=>(i,v)::gB r (i+1)
theorem pD:∀ (vs:List AV) (i:Nat) (x:Nat×AV),x ∈ gB vs i→i≤x.1∧vs[x.1-i]?=some x.2:=by
 intro vs
 induction vs with
 | nil=>intro i x hx;simp [gB] at hx
 | cons v r ih=>
  intro i x hx
  simp only [gB,List.mem_cons] at hx
  rcases hx with e | e
  ·subst e;simp
  ·obtain ⟨h1,h2⟩:=ih (i+1) x e
   refine ⟨by omega,?_⟩
   rw [show x.1-i=(x.1-(i+1))+1 by omega];simpa using h2
variable {mk:Bool} {P:Program} {T:aE} {cl:e9} {f:FuncId} {R:eO} {a:Act} {w:World} {D:List Nat} {w0:World} {K0:World→Prop} {E:List (Nat×AV)} {M:List ai} {β:Beta} {F:Nat→ak} {I X:ak} {sz:Nat} {tb:dh} {todo todo':List Item}
theorem ay.intro {fn:Func} {c:Code} {args:List AV} {x:DV} (jK:gu P f=true) (hf:P.funcs[f]?=some fn) (hb:fn.body=some c) (n:Nat) (hn:fn.ntmps=n) (hle:Nat.ble args.length n=true)
  (h:∀ (w0:World) (K:World→Prop) (a:Act),(∀ w,Kp [] w0 w→K w)→dA [] w0 K n (gB args 0) [] a w0→aC P f [.code c] (oR w0 K x) a w0):ay P f args x:=by
 refine ⟨jK,fun w K ys hK hl hr=>?_⟩
 have hle:=Nat.le_of_ble_eq_true hle
 refine pv hf hb (h w K _ (fun w' k=>hK w' k.sd) ⟨by simp;omega,[],rfl,[],fun _=>[],⟨rfl,by simp,by simpa using St.none w⟩,?_⟩)
 intro t v hv
 obtain ⟨y,rfl,rfl,hy⟩:∃ y:Nat×AV,y.1=t∧y.2=v∧y ∈ gB args 0:=⟨(t,v),rfl,rfl,lB hv⟩
 obtain ⟨-,h2⟩:=pD args 0 y hy
 simp only [Nat.sub_zero] at h2
 obtain ⟨aF,-⟩:=List.getElem?_eq_some_iff.1 h2
 have iv:ys[y.1]?=some ys[y.1]:=List.getElem?_eq_getElem (by omega)
 have he:({ tmps:=ys.toArray++Array.replicate (fn.ntmps-ys.toArray.size) undef,defers:=[] }:Act).eval (.tmp y.1)=ys[y.1]:=by
  have:y.1<ys.length:=by omega
  simp [Act.eval,Array.getD_eq_getD_getElem?,Array.getElem?_append,this]
 rw [he]
 exact (hr y.1 y.2 _ h2 iv).mono (fun w hw=>hw.1) (Ext.refl _)
def ij (T:aE) (E:List (Nat×AV)) (M:List ai):List ResultVar→Option (List AV)
 | []=>some []
 | .tmp t::r=>(match bM E t,ij T E M r with | some v,some l=>some (v::l) | _,_=>none)
 | .cell t ty::r=>(match bM E t,ij T E M r with
  | some (.pt u o),some l=>(match M[u]? with | some (.bx _ cells)=>(match kq T ty cells o with | some v=>some (v::l) | none=>none) | _=>none)
  | _,_=>none)
theorem od (hT:aR P T=true) (R:RM D w0 K0 M β F I w) (hs:∀ t v,bM E t=some v→ao (fun w=>K0 w∧Holds w I) β v (a.eval (.tmp t))):∀ {rs:List ResultVar} {l:List AV},ij T E M rs=some l→∃ ys,p6 P w a rs ys∧ys.length=l.length∧∀ (j:Nat) c y,l[j]?=some c→ys[j]?=some y→ao (fun w=>K0 w∧Holds w I) β c y
 | [],l,h=>by simp only [ij,Option.some.injEq] at h;subst h;exact ⟨[],trivial,rfl,by simp⟩
 | .tmp t::r,l,h=>by
  unfold ij at h
  split at h
  ·rename_i v l' h1 h2
   simp only [Option.some.injEq] at h;subst h
   obtain ⟨ys,e1,e2,e3⟩:=od hT R hs h2
   refine ⟨a.eval (.tmp t)::ys,⟨rfl,e1⟩,by simp [e2],?_⟩
   intro j c y h3 h4
   cases j with
   | zero=>simp at h3 h4;subst h3 h4;exact hs _ _ h1
   | succ j=>simp at h3 h4;exact e3 j c y h3 h4
  ·simp at h
 | .cell t ty::r,l,h=>by
  unfold ij at h
  split at h
  ·rename_i u o l' h1 h2
   split at h
   ·rename_i T0 cells hM
    split at h
    ·rename_i v iY
     simp only [Option.some.injEq] at h;subst h
     obtain ⟨ys,e1,e2,e3⟩:=od hT R hs h2
     have hr:=hs _ _ h1
     generalize hy:a.eval (.tmp t)=y0 at hr
     cases hr with
     | pt hb=>
      obtain ⟨H,hF,hB,hH⟩:=R.at hM
      cases hB with
      | bx aI zs hl hr=>
       rw [hb] at aI;cases aI
       obtain ⟨y',g1,g2⟩:=ov (d:=none) (ty:=0) (pos := "") (aft:=#[]) (gd:=none) hT (x:=.tmp t) (ρ:=a.eval) (a:=⟨_,0,none⟩) (R:=ao (fun w=>K0 w∧Holds w I) β) (fun l ys=>ao.ag ys) iY (hy.trans (by rw [add_eq,Nat.zero_add])) hl hr
       have g3:=g2 w fun j z hj=>by rw [add_eq,cell_of hH.one,Nat.zero_add];simpa using hj
       refine ⟨y'::ys,⟨⟨_,hy,?_⟩,e1⟩,by simp [e2],?_⟩
       ·simp only [execOp,hy,Sem.run_bind,Instr.loadAt,Instr.sureAddr] at g3
        cases hv:(loadVar ty _).run P w with
        | ok q w'=>rw [Sem.run_pure,Result.andThen_ok,hv] at g3;simp at g3;obtain ⟨rfl,rfl⟩:=g3;rfl
        | halt q w'=>rw [Sem.run_pure,Result.andThen_ok,hv] at g3;simp [Result.andThen] at g3
       ·intro j c y h3 h4
        cases j with
        | zero=>simp at h3 h4;subst h3 h4;exact g1
        | succ j=>simp at h3 h4;exact e3 j c y h3 h4
    ·simp at h
   ·simp at h
  ·simp at h
def oS:List DV→DV
 | [x]=>x
 | l=>.tu l
theorem back (hT:aR P T=true) {fn:Func} (hf:P.funcs[f]?=some fn) (r:dA [] w0 K0 sz E M a w) {l:List AV} {vc:List Prop} {xs:List DV} {M':List ai} {x:DV} (h1:ij T E M fn.results.toList=some l) (h2:kI M l=some (vc,xs,M')) (hv:aU vc) (hx:oS xs=x):
  ∃ v,(results fn a.tmps).run P w=.ok v w∧A5 w0 K0 x (.returned v) w:=by
 obtain ⟨-,I,-,β,F,Rm,hs⟩:=r
 obtain ⟨ys,e1,e2,e3⟩:=od hT Rm hs h1
 obtain ⟨F',H,R',d⟩:=yY Rm.x h2 hv e2 e3
 refine ⟨_,rJ rfl e1,_,rfl,R'.st.kp.sd,H++I,⟨H,I,rfl,?_⟩,?_⟩
 ·subst hx
  have hl:=d.len
  cases d with
  | nil=>exact .tu [] (fun _=>[]) rfl (by simp)
  | cons h r=>
   cases r with
   | nil=>simpa [oS] using h
   | cons h' r'=>
    have dd:=fa.cons h (fa.cons h' r')
    obtain ⟨F2,hF,hG⟩:=dd.to
    rw [hF]
    exact .tu _ F2 dd.len hG
 ·have:=R'.st.lA
  exact (this.perm (by classical rw [List.perm_iff_count];intro z;simp only [List.count_append,List.count_nil];omega)).Kx
theorem FU (hT:aR P T=true) {fn:Func} (hf:P.funcs[f]?=some fn) {k:List Item} (r:dA [] w0 K0 sz E M a w) {l:List AV} {vc:List Prop} {xs:List DV} {M':List ai} {x:DV} (h1:ij T E M fn.results.toList=some l) (h2:kI M l=some (vc,xs,M')) (hv:aU vc) (hx:oS xs=x):aC P f (.code .ret::k) (oR w0 K0 x) a w:=
 let ⟨_,h3,h4⟩:=back hT hf r h1 h2 hv hx
 aC.ret hf (ch.nc r) h3 h4
theorem FV (hT:aR P T=true) {fn:Func} (hf:P.funcs[f]?=some fn) (r:dA [] w0 K0 sz E M a w) {l:List AV} {vc:List Prop} {xs:List DV} {M':List ai} {x:DV} (h1:ij T E M fn.results.toList=some l) (h2:kI M l=some (vc,xs,M')) (hv:aU vc) (hx:oS xs=x):aC P f [] (oR w0 K0 x) a w:=
 let ⟨_,h3,h4⟩:=back hT hf r h1 h2 hv hx
 aC.fin hf (ch.nc r) h3 h4
def xi:List AV→AV
 | [v]=>v
 | l=>.tu l
def nn (T:aE) (rs:List ResultVar) (s:RS):Option Out:=
 match ij T s.E s.M rs with
 | some l=>some ⟨s.vc,xi l,s.M,s.tc,s.mv,none⟩
 | none=>none
def qu:List Item→Option LS
 | []=>some .ready
 | .code .ret::_=>some .left
 | _=>none
theorem De {l:Nat} {tmps:Array Value} {cM body c2:Code} {Φ:Value→World→Prop} {k2:List Item} {s2:LS} (ez:qu k2=some s2)
  (h:aC P f [.code cM,.beginRound,.code body] (.arr l [.beginRound,.code c2] fun a1 w1=>∃ w2,(Instr.beginRound l).run P w1=.ok () w2∧aC P f [.code c2] (.arr l k2 fun _ w3=>∃ v w4,(Instr.endRound l s2.jM).run P w3=.ok v w4∧Φ v w4) a1 w2) { tmps:=tmps,defers:=[] } w):
  RoundIn Fence.wide 0 P l f tmps cM body w fun e w'=>∃ v,e=.returned v∧Φ v w':=by
 refine ⟨trivial,fun c cs hr=>?_⟩
 let b:Frame:={ (default:Frame) with fn:=f,kind:=.normal,roundOf:=some l }
 have dM:Frame.round l f tmps cM body .normal=b.atR { tmps:=tmps,defers:=[] } [.code cM,.beginRound,.code body]:=by simp [Frame.round,Frame.atR,b]
 obtain ⟨a1,w1,⟨w2,LN,hg⟩,st⟩:=h b (c::cs) rfl rfl rfl
 obtain ⟨a2,w3,⟨v,w4,sL,az⟩,LO⟩:=hg b (c::cs) rfl rfl rfl
 have s1:Steps P (lone (b.atR a1 [.beginRound,.code c2]) (c::cs) w1) (lone (b.atR a1 [.code c2]) (c::cs) w2):=.one (stepR_beginRound rfl LN)
 have s3:Steps P (lone (b.atR a2 k2) (c::cs) w3) (lone (c.finish v) cs w4):=by
  unfold qu at ez
  split at ez
  ·simp only [Option.some.injEq] at ez;subst ez;exact .one (stepR_round_end rfl rfl sL)
  ·simp only [Option.some.injEq] at ez;subst ez;exact .one (stepR_round_ret rfl rfl sL)
  ·simp at ez
 rw [dM]
 exact ⟨.returned v,w4,⟨v,rfl,az⟩,stepsIn_wide.2 (((st.trans s1).trans LO).trans s3)⟩
theorem EE {l:Nat} {r:Loop} (h:w.heap[l]?=some (.loop r)) (hs:r.state=.ready):(Instr.beginRound l).run P w=.ok () (bZ w l (.loop { r with state:=.busy })):=by
 unfold Instr.beginRound Instr.getLoop
 simp only [Sem.run_bind,pL h rfl,Result.andThen_ok,Sem.run_pure,rF h rfl,hs]
def LS.on:LS→Bool
 | .left=>false
 | _=>true
theorem FW {l:Nat} {r:Loop} {k2:List Item} {s2:LS} (ez:qu k2=some s2) (h:w.heap[l]?=some (.loop r)):(Instr.endRound l s2.jM).run P w=.ok (.bool s2.on) (bZ w l (.loop { r with state:=s2.state,pending:=s2.jM })):=by
 unfold Instr.endRound Instr.getLoop
 simp only [Sem.run_bind,pL h rfl,Result.andThen_ok,Sem.run_pure,rF h rfl]
 unfold qu at ez
 split at ez
 ·simp only [Option.some.injEq] at ez;subst ez;rfl
 ·simp only [Option.some.injEq] at ez;subst ez;rfl
 ·simp at ez
def jL:List (Tmp×Value)→Array Value→Array Value
 | [],tm=>tm
 | (t,v)::r,tm=>jL r (tm.setIfInBounds t v)
theorem yF:∀ (l:List (Tmp×Value)) (tm:Array Value),(jL l tm).size=tm.size
 | [],_=>rfl
 | (t,v)::r,tm=>by rw [jL,yF r];simp
theorem tl:∀ (l:List (Tmp×Value)) (tm:Array Value) (t:Nat),t ∉ l.map (·.1)→(jL l tm).getD t undef=tm.getD t undef
 | [],_,_,_=>rfl
 | (s,v)::r,tm,t,h=>by
  simp only [List.map_cons,List.mem_cons,not_or] at h
  rw [jL,tl r _ t h.2]
  simp only [Array.getD_eq_getD_getElem?,Array.getElem?_setIfInBounds]
  rw [if_neg (fun e=>h.1 e.symm)]
theorem zt:∀ (l:List (Tmp×Value)) (tm:Array Value) (t:Nat) (v:Value),(l.map (·.1)).Nodup→(∀ x ∈ l,x.1<tm.size)→(t,v) ∈ l→(jL l tm).getD t undef=v
 | (s,u)::r,tm,t,v,hn,aF,h=>by
  simp only [List.map_cons,List.nodup_cons] at hn
  rw [jL]
  rcases List.mem_cons.1 h with e | h
  ·cases e
   rw [tl r _ _ hn.1]
   have hs:=aF (s,u) (by simp)
   simp only at hs
   simp [Array.getD_eq_getD_getElem?,hs]
  ·exact zt r _ t v hn.2 (fun x hx=>by simpa using aF x (List.mem_cons_of_mem _ hx)) h
def vq (P:Program) (T:aE) (cl:e9) (n:Nat) (tb:dh) (u:Nat) (args:List AV) (M:List ai):Option Out:=
 match M[u]? with
 | some (.lp .ready f sz E rf)=>bif args.length.beq rf.ps.toList.length&&rf.ps.toList.all (·.blt sz)&&nodupB rf.ps.toList then
  (match dn P T cl sz tb n [.code rf.cM,.beginRound,.code rf.body] ⟨[],rf.ps.toList.zip args++E,M,[],[]⟩ with
  | some ([.beginRound,.code c2],s1)=>(match s1.M[u]? with
   | some (.lp .ready f2 o6 E2 jV)=>bif f2.beq f&&!(s1.mv.elem u) then (match dn P T cl sz tb n [.code c2] ⟨s1.vc,s1.E,s1.M.set u (.lp .busy f2 o6 E2 jV),u::s1.tc,s1.mv⟩ with
    | some (k2,s2)=>(match qu k2,s2.M[u]? with
     | some ls,some (.lp .busy f3 s9 E3 o7)=>bif !(s2.mv.elem u) then some ⟨s2.vc,.d (.v (.bool ls.on)),s2.M.set u (.lp ls f3 s9 E3 o7),u::s2.tc,s2.mv,none⟩ else none
     | _,_=>none)
    | _=>none) else none
   | _=>none)
  | _=>none) else none
 | _=>none
def walk (P:Program) (T:aE):Nat→e9
 | 0=>fun _ _ _ _=>none
 | d+1=>fun c args M o=>match c,o with
  | .yl u,.bG n tb=>vq P T (walk P T d) n tb u args M
  | .fn f,.bG n tb=>(bif gu P f then (match P.funcs[f]? with
   | some fn=>(bif Nat.ble args.length fn.ntmps then (match fn.body with
    | some c=>(match dn P T (walk P T d) fn.ntmps tb n [.code c] ⟨[],gB args 0,M,[],[]⟩ with
     | some (.code .ret::_,s)=>nn T fn.results.toList s
     | some ([],s)=>nn T fn.results.toList s
     | _=>none)
    | none=>none) else none)
   | none=>none) else none)
  | _,_=>none
theorem Hh (hT:aR P T=true) {fn:Func} {s:RS} {out:Out} (h:nn T fn.results.toList s=some out) {b:eb} (r:cZ mk D w0 K0 sz b s a w):
  out.vc=s.vc∧out.rd=none∧∃ v,(results fn a.tmps).run P w=.ok v w∧∃ au F' I',RM D w0 K0 out.M au F' I' w∧fD out.mv b.β au∧bE b.I I'∧(∀ u,u<b.m→u ∉ out.tc→F' u=b.F u)∧ao (fun w=>K0 w∧Holds w I') au out.av v:=by
 unfold nn at h
 split at h
 ·rename_i l hl
  simp only [Option.some.injEq] at h;subst h
  obtain ⟨-,I,-,-,β,F,Rm,bV,hs⟩:=r
  obtain ⟨ys,e1,e2,e3⟩:=od hT Rm hs hl
  refine ⟨rfl,rfl,_,rJ rfl e1,β,F,I,Rm,bV.1,bV.2.1,bV.2.2,?_⟩
  match ys,l,e2,e3 with
  | [],[],_,_=>exact .tu [] rfl (by simp)
  | [y],[v],_,e3=>exact e3 0 v y rfl rfl
  | y::y'::ys,v::v'::l,e2,e3=>exact .tu _ e2 e3
 ·simp at h
theorem yd:∀ {A E:List (Nat×AV)} {t:Nat} {v:AV},bM (A++E) t=some v→t ∈ A.map (·.1)→(t,v) ∈ A
 | [],_,_,_,_,h=>by simp at h
 | (k,u)::r,E,t,v,h,hm=>by
  rw [List.cons_append] at h
  unfold bM at h
  cases hk:k.beq t with
  | true=>simp only [hk,cond_true,Option.some.injEq] at h;subst h;rw [Nat.eq_of_beq_eq_true hk];exact List.mem_cons_self
  | false=>
   simp only [hk,cond_false] at h
   refine List.mem_cons_of_mem _ (yd h ?_)
   rcases List.mem_cons.1 hm with e | e
   ·exfalso;simp only at e;rw [e] at hk;simp at hk
   ·exact e
theorem DW {ps:List Nat} {args:List AV} {ys:List Value} {t:Nat} {v:AV} (h:(t,v) ∈ ps.zip args) (hl:ys.length=args.length) (hr:∀ (j:Nat) c y,args[j]?=some c→ys[j]?=some y→ao (fun w=>K0 w∧Holds w I) β c y):∃ y,(t,y) ∈ ps.zip ys∧ao (fun w=>K0 w∧Holds w I) β v y:=by
 obtain ⟨j,hj,e⟩:=List.getElem_of_mem h
 have h1:(ps.zip args)[j]?=some (t,v):=by rw [List.getElem?_eq_getElem hj,e]
 obtain ⟨a1,a2⟩:=List.getElem?_zip_eq_some.1 h1
 have aF:=(List.getElem?_eq_some_iff.1 a2).1
 have hy:ys[j]?=some ys[j]:=List.getElem?_eq_getElem (by omega)
 exact ⟨ys[j],List.mem_of_getElem? (List.getElem?_zip_eq_some.2 ⟨a1,hy⟩),hr j v _ a2 hy⟩
theorem yo:∀ (l:List (Tmp×Value)) (tm:Array Value),l.foldl (fun tmps (x:Tmp×Value)=>tmps.setIfInBounds x.1 x.2) tm=jL l tm
 | [],_=>rfl
 | (t,v)::r,tm=>by rw [List.foldl_cons,yo r];rfl
theorem EF (hT:aR P T=true) (hm:P.follows .mixedOrders=true) (cA:iV P cl) {n:Nat} {tb:dh} {u:Nat} {args:List AV} {M:List ai} {out:Out} (h:vq P T cl n tb u args M=some out):out.rd=none∧z6 P u args M out:=by
 unfold vq at h
 split at h
 rotate_left
 ·simp at h
 rename_i f sz E rf hM
 cases hc:(args.length.beq rf.ps.toList.length&&rf.ps.toList.all (·.blt sz)&&nodupB rf.ps.toList) with
 | false=>simp only [hc,cond_false,reduceCtorEq] at h
 | true=>
  simp only [hc,cond_true] at h
  simp only [Bool.and_eq_true] at hc
  obtain ⟨⟨nD,qG⟩,LP⟩:=hc
  have nD:=Nat.eq_of_beq_eq_true nD
  split at h
  rotate_left
  ·simp at h
  rename_i c2 s1 LQ
  split at h
  rotate_left
  ·simp at h
  rename_i f2 o6 E2 jV ta
  cases hf:(f2.beq f&&!(s1.mv.elem u)) with
  | false=>simp only [hf,cond_false,reduceCtorEq] at h
  | true=>
   simp only [hf,cond_true] at h
   simp only [Bool.and_eq_true,Bool.not_eq_true'] at hf
   obtain ⟨LR,KM⟩:=hf
   obtain rfl:=Nat.eq_of_beq_eq_true LR
   split at h
   rotate_left
   ·simp at h
   rename_i k2 s2 ju
   split at h
   rotate_left
   ·simp at h
   rename_i ls f3 s9 E3 o7 ez mw
   cases xj:(!(s2.mv.elem u)) with
   | false=>simp only [xj,cond_false,reduceCtorEq] at h
   | true=>
    simp only [xj,cond_true,Option.some.injEq] at h;subst h
    refine ⟨rfl,?_⟩
    intro D w0 K0 β F I w ys l c Rm hK hv hl kU q5
    have dV:aU s1.vc:=z8 n [.code c2] ⟨s1.vc,s1.E,s1.M.set u (.lp .busy f2 o6 E2 jV),u::s1.tc,s1.mv⟩ ju hv
    obtain ⟨H,hF,hB,hH⟩:=Rm.at hM
    cases hB with
    | @lp b0 cc f0 LU nv bz E0 LV tmps hb bj hr=>
     rw [q5] at hb;cases hb
     have JO:=hH.one
     have hlen:rf.ps.size=ys.toArray.size:=by
      have e:rf.ps.toList.length=rf.ps.size:=Array.length_toList
      have e2:ys.toArray.size=ys.length:=by simp
      omega
     have hy:(Instr.yield l ys.toArray).run P w=.ok (.round l f2 ((rf.ps.zip ys.toArray).foldl (fun tmps (x:Tmp×Value)=>tmps.setIfInBounds x.1 x.2) tmps) rf.cM rf.body) w:=by
      unfold Instr.yield Instr.getLoop
      simp only [Sem.run_bind,pL JO rfl,Result.andThen_ok,Sem.run_pure]
      rw [if_neg (by simp [hlen])]
      rfl
     refine ⟨f2,_,rf.cM,rf.body,hy,?_⟩
     have JP:(rf.ps.zip ys.toArray).foldl (fun tmps (x:Tmp×Value)=>tmps.setIfInBounds x.1 x.2) tmps=jL (rf.ps.toList.zip ys) tmps:=by
      rw [← yo,← Array.foldl_toList];simp
     rw [JP]
     have wx:(rf.ps.toList.zip ys).map (·.1)=rf.ps.toList:=List.map_fst_zip (by rw [hl,nD];exact Nat.le_refl _)
     have r0:cZ false D w0 K0 sz ⟨β,F,I,M.length⟩ ⟨[],rf.ps.toList.zip args++E,M,[],[]⟩ { tmps:=jL (rf.ps.toList.zip ys) tmps,defers:=[] } w:=by
      refine ⟨by rw [yF,bj],I,rfl,Nat.le_refl _,β,F,Rm,⟨fun _ _ _ h=>h,bE.refl _,fun _ _ _=>rfl⟩,?_⟩
      intro t v gg
      have BT:=lB gg
      show ao _ β v ((jL (rf.ps.toList.zip ys) tmps).getD t undef)
      by_cases ht:t ∈ rf.ps.toList
      ·have hz:(t,v) ∈ rf.ps.toList.zip args:=by
        rcases List.mem_append.1 BT with h1 | h1
        ·exact h1
        ·exact yd gg (by
          rw [List.map_fst_zip (by omega)];exact ht)
       obtain ⟨y,LW,LX⟩:=DW hz hl kU
       rw [zt _ _ t y (by rw [wx];exact nY LP) (fun x hx=>by
        have:x.1 ∈ rf.ps.toList:=by rw [← wx];exact List.mem_map_of_mem hx
        have:=List.all_eq_true.1 qG _ this
        rw [bj];simpa [Nat.blt_eq] using this) LW]
       exact LX
      ·rcases List.mem_append.1 BT with h1 | h1
       ·exact absurd (by have:=List.mem_map_of_mem (f:=fun x:Nat×AV=>x.1) h1;rwa [List.map_fst_zip (by omega)] at this) ht
       ·rw [tl _ _ _ (by rw [wx];exact ht)]
        exact hr (t,v) h1
     refine De (c2:=c2) ez (km hT cA hm hK n LQ r0 dV fun a1 w1 r1=>aC.As ?_)
     obtain ⟨z1,I1,z2,z3,pr,F1,CG,td,nL⟩:=r1
     obtain ⟨H1,qH,LY,LZ⟩:=CG.at ta
     have CH:pr[u]?=some (some ⟨l,0,none⟩,c):=td.1 u _ (by simpa using KM) q5
     cases LY with
     | @lp b1 Nl f1 Nn BU No E1 Np A6 fw KN KO=>
      rw [CH] at fw;cases fw
      refine ⟨_,EE LZ.one rfl,?_⟩
      have KP:=CG.set ta qH (o':=.loop { state:=.busy,pending:=none,fn:=f2,tmps:=A6,params:=jV.ps,assign:=jV.cM,body:=jV.body,defers:=BU }) (blk':=.lp .busy f2 o6 E2 jV) (.lp (bz:=.busy) (sz:=o6) CH KN KO)
      have L0:cZ false D w0 K0 sz ⟨β,F,I,M.length⟩ ⟨s1.vc,s1.E,s1.M.set u (.lp .busy f2 o6 E2 jV),u::s1.tc,s1.mv⟩ a1 (bZ w1 l (.loop { state:=.busy,pending:=none,fn:=f2,tmps:=A6,params:=jV.ps,assign:=jV.cM,body:=jV.body,defers:=BU })):=by
       refine ⟨z1,I1,z2,by rw [List.length_set];exact z3,pr,_,KP,⟨td.1,td.2.1,fun v gg hn=>?_⟩,nL⟩
       simp only [List.mem_cons,not_or] at hn
       simp only [aD];rw [if_neg hn.1];exact td.2.2 v gg hn.2
      refine km hT cA hm hK n ju L0 hv fun a2 w2 r2=>aC.As ?_
      obtain ⟨y1,I2,y2,y3,iD,F2,CI,tf,kr⟩:=r2
      obtain ⟨H2,ks,L2,qD⟩:=CI.at mw
      have CJ:iD[u]?=some (some ⟨l,0,none⟩,c):=tf.1 u _ (by simpa using xj) q5
      cases L2 with
      | @lp b2 Nq Nr MZ KQ Ns Nt M0 JQ iz sB BV=>
       rw [CJ] at iz;cases iz
       have KR:=CI.set mw ks (o':=.loop { state:=ls.state,pending:=ls.jM,fn:=f3,tmps:=JQ,params:=o7.ps,assign:=o7.cM,body:=o7.body,defers:=KQ }) (blk':=.lp ls f3 s9 E3 o7) (.lp (bz:=ls) (sz:=s9) CJ sB BV)
       refine ⟨_,_,FW ez qD.one,iD,_,I2,KR,tf.1,tf.2.1,fun v gg hn=>?_,.d (.v _)⟩
       simp only [List.mem_cons,not_or] at hn
       simp only [aD];rw [if_neg hn.1];exact tf.2.2 v gg hn.2
theorem gW (hT:aR P T=true) (hm:P.follows .mixedOrders=true):∀ d,iV P (walk P T d):=by
 intro d
 induction d with
 | zero=>intro f args M o out h;simp [walk] at h
 | succ d ih=>
  intro f args M o out h
  unfold walk at h
  split at h
  ·exact EF hT hm ih h
  ·rename_i f n tb
   cases hc:gu P f with
   | false=>simp [hc] at h
   | true=>
    simp only [hc,cond_true] at h
    split at h
    ·rename_i fn hf
     cases hb:Nat.ble args.length fn.ntmps with
     | false=>simp [hb] at h
     | true=>
      simp only [hb,cond_true] at h
      have hle:=Nat.le_of_ble_eq_true hb
      split at h
      ·rename_i c JR
       have key:∀ {todo':List Item} {s:RS},dn P T (walk P T d) fn.ntmps tb n [.code c] ⟨[],gB args 0,M,[],[]⟩=some (todo',s)→nn T fn.results.toList s=some out→(todo'=[]∨∃ k,todo'=.code .ret::k)→out.rd=none∧Aq P f args M out:=by
        intro todo' s hr he JS
        have dF:out.rd=none:=by
         unfold nn at he
         split at he
         ·simp only [Option.some.injEq] at he;subst he;rfl
         ·simp at he
        refine ⟨dF,hc,?_⟩
        intro D w0 K0 β F I w ys Rm hK hv hl kU
        have qJ:aU s.vc:=by
         unfold nn at he
         split at he
         ·simp only [Option.some.injEq] at he;subst he;exact hv
         ·simp at he
        refine pv hf JR ?_
        have r0:cZ false D w0 K0 fn.ntmps ⟨β,F,I,M.length⟩ ⟨[],gB args 0,M,[],[]⟩ { tmps:=ys.toArray++Array.replicate (fn.ntmps-ys.toArray.size) undef,defers:=[] } w:=by
         refine ⟨by simp;omega,I,rfl,Nat.le_refl _,β,F,Rm,⟨fun _ _ _ h=>h,bE.refl _,fun _ _ _=>rfl⟩,?_⟩
         intro t v gg
         obtain ⟨-,h2⟩:=pD args 0 (t,v) (lB gg)
         simp only [Nat.sub_zero] at h2
         obtain ⟨aF,-⟩:=List.getElem?_eq_some_iff.1 h2
         have iv:ys[t]?=some ys[t]:=List.getElem?_eq_getElem (by omega)
         have he:({ tmps:=ys.toArray++Array.replicate (fn.ntmps-ys.toArray.size) undef,defers:=[] }:Act).eval (.tmp t)=ys[t]:=by
          have:t<ys.length:=by omega
          simp [Act.eval,Array.getD_eq_getD_getElem?,Array.getElem?_append,this]
         rw [he]
         exact kU t v _ h2 iv
        refine km hT ih hm hK n hr r0 qJ fun a' w' r'=>?_
        obtain ⟨-,-,v,h3,h4⟩:=Hh hT he r'
        rcases JS with rfl | ⟨k,rfl⟩
        ·exact aC.fin hf (cZ.nc r') h3 ⟨v,rfl,h4⟩
        ·exact aC.ret hf (cZ.nc r') h3 ⟨v,rfl,h4⟩
       split at h
       ·rename_i k s hr;exact key hr h (Or.inr ⟨k,rfl⟩)
       ·rename_i s hr;exact key hr h (Or.inl rfl)
       ·simp at h
      ·simp at h
    ·simp at h
  ·simp at h
def wy (T:aE) (E:List (Nat×AV)) (M:List ai) (rs:List ResultVar) (x:DV):Prop:=∃ l vc xs M',ij T E M rs=some l∧kI M l=some (vc,xs,M')∧aU vc∧oS xs=x
theorem ret (hT:aR P T=true) {fn:Func} (hf:P.funcs[f]?=some fn) {k:List Item} {x:DV} (r:dA [] w0 K0 sz E M a w) (h:wy T E M fn.results.toList x):aC P f (.code .ret::k) (oR w0 K0 x) a w:=
 let ⟨_,_,_,_,h1,h2,h3,h4⟩:=h
 FU hT hf r h1 h2 h3 h4
theorem fin (hT:aR P T=true) {fn:Func} (hf:P.funcs[f]?=some fn) {x:DV} (r:dA [] w0 K0 sz E M a w) (h:wy T E M fn.results.toList x):aC P f [] (oR w0 K0 x) a w:=
 let ⟨_,_,_,_,h1,h2,h3,h4⟩:=h
 FV hT hf r h1 h2 h3 h4
theorem ay.empty {k:Nat} {x:DV} {pre post:List AV} (h:∀ a c,ay P f (pre++.d (.v (.slice a 0 c))::post) x):ay P f (pre++.d (.ro k [])::post) x:=by
 refine ⟨(h none 0).1,fun w K ys hK hl hr=>?_⟩
 have hy:∃ a c,ys[pre.length]?=some (.slice a 0 c):=by
  have aF:pre.length<ys.length:=by rw [hl];simp
  have h1:=hr pre.length _ _ (by rw [List.getElem?_append_right (Nat.le_refl _),Nat.sub_self];rfl) (List.getElem?_eq_getElem aF)
  rw [List.getElem?_eq_getElem aF]
  generalize ys[pre.length]=y at h1
  cases h1 with | d h1=>cases h1 with | ro X hl hy hs hr=>obtain ⟨a,c,rfl,-⟩:=hy;exact ⟨a,c,rfl⟩
 obtain ⟨a,c,hy⟩:=hy
 refine (h a c).2 w K ys hK (by rw [hl];simp) fun j v y h1 h2=>?_
 rcases Nat.lt_trichotomy j pre.length with hj | hj | hj
 ·rw [List.getElem?_append_left hj] at h1
  exact hr j v y (by rw [List.getElem?_append_left hj];exact h1) h2
 ·subst hj
  rw [List.getElem?_append_right (Nat.le_refl _),Nat.sub_self] at h1
  simp only [List.getElem?_cons_zero,Option.some.injEq] at h1;subst h1
  rw [hy,Option.some.injEq] at h2;subst h2
  exact .d (.v _)
 ·rw [List.getElem?_append_right (by omega)] at h1
  have e:j-pre.length=(j-pre.length-1)+1:=by omega
  rw [e,List.getElem?_cons_succ] at h1
  exact hr j v y (by rw [List.getElem?_append_right (by omega),e,List.getElem?_cons_succ];exact h1) h2
theorem ay.nil {args:List AV} (T k:Nat) (h:ay P f args (.v (.slice none 0 0))):ay P f args (.em T k []):=by
 refine ⟨h.1,fun w K ys hK hl hr=>(h.2 w K ys hK hl hr).mono ?_⟩
 rintro e w' ⟨v,rfl,g,H,⟨Ho,Hi,rfl,hd⟩,n⟩
 cases hd
 refine ⟨_,rfl,g,_,⟨[],Hi,rfl,?_⟩,n⟩
 have:=bB.em (K:=fun w=>K w∧Holds w Hi) (T:=T) (k:=k) (rows:=[]) (H0:=[]) (fun _=>[]) (fun _ _=>[]) (by simp) (by simpa [lay] using dy.nil T k none) (by simp)
 simpa [bk] using this
end Go.Proofs.YtcnpikbbmbombaaDoor
namespace Go.Proofs.YtcnpikbbmbombaaDoor
open Go.RowKit
variable {mk:Bool} {P:Program} {T:aE} {f:FuncId} {R:eO} {a:Act} {w:World} {D:List Nat} {w0:World} {K0:World→Prop} {E:List (Nat×AV)} {M:List ai} {β:Beta} {F:Nat→ak} {I X:ak} {sz:Nat} {tb:dh} {todo todo':List Item}
def sM (T:aE) (rs:List ResultVar) (s:RS):Option (Prop×DV):=
 match ij T s.E s.M rs with
 | some l=>(match kI s.M l with | some (vc,xs,_)=>some (aU (s.vc++vc),oS xs) | none=>none)
 | none=>none
def At (P:Program) (T:aE) (sz:Nat) (rs:List ResultVar) (tb:dh) (n:Nat) (todo:List Item) (E:List (Nat×AV)) (M:List ai):Option (Prop×DV):=
 match dn P T (walk P T 3) sz tb n todo ⟨[],E,M,[],[]⟩ with
 | some (.code .ret::_,s)=>sM T rs s
 | some ([],s)=>sM T rs s
 | _=>none
theorem Aa {rs:List ResultVar} {s:RS} {A:Prop} {x:DV} (h:sM T rs s=some (A,x)) (hA:A):aU s.vc∧wy T s.E s.M rs x:=by
 unfold sM at h
 split at h
 ·rename_i l hl
  split at h
  ·rename_i vc xs M' hp
   simp only [Option.some.injEq,Prod.mk.injEq] at h
   obtain ⟨rfl,hx⟩:=h
   rw [aU.app] at hA
   exact ⟨hA.1,l,vc,xs,M',hl,hp,hA.2,hx⟩
  ·simp at h
 ·simp at h
theorem br (hT:aR P T=true) (hm:P.follows .mixedOrders=true) (hK:∀ w,Kp [] w0 w→K0 w) {fn:Func} (hf:P.funcs[f]?=some fn) (tb:dh) (n:Nat) {x:DV} {A:Prop} (r:dA [] w0 K0 sz E M a w)
  (h:At P T sz fn.results.toList tb n todo E M=some (A,x)) (hA:A):aC P f todo (oR w0 K0 x) a w:=by
 unfold At at h
 split at h
 ·rename_i k s hr
  obtain ⟨h1,h2⟩:=Aa h hA
  exact nK hT (gW hT hm 3) hm hK n hr r h1 fun a' w' r'=>ret hT hf r' h2
 ·rename_i s hr
  obtain ⟨h1,h2⟩:=Aa h hA
  exact nK hT (gW hT hm 3) hm hK n hr r h1 fun a' w' r'=>fin hT hf r' h2
 ·simp at h
theorem ch.lh (r:ch mk D w0 K0 sz E M a w) {l ts:List Nat} {M':List ai} {E':List (Nat×AV)} (hn:nodupB l=true) (hM:fu l M l=some M') (hE:iT l E ts=some E'):ch mk D w0 K0 sz E' M' a w:=by
 obtain ⟨h1,I,h2,β,F,Rm,hs⟩:=r
 obtain ⟨e1,e2⟩:=pR hM
 have aF:∀ u ∈ l,u<M.length:=by
  intro u hu
  obtain ⟨i,hi,rfl⟩:=List.getElem_of_mem hu
  obtain ⟨u',b0,g1,g2,-⟩:=e2 i M'[i] (List.getElem?_eq_getElem (by omega))
  rw [List.getElem?_eq_getElem hi,Option.some.injEq] at g1
  rw [g1];exact eD g2
 obtain ⟨rest,a8⟩:=tV (nY hn) aF Rm.x
 refine ⟨h1,I,h2,en β l,lW F l,⟨by rw [tj,e1],?_,?_⟩,uA hs hE⟩
 ·intro i b hb
  obtain ⟨u,b0,g1,g2,g3⟩:=e2 i b hb
  rw [tW g1];exact uz g1 g3 (Rm.blk u b0 g2)
 ·rw [e1,rD]
  have:=a8.lA
  exact this.perm (by classical rw [List.perm_iff_count];intro z;simp only [List.count_append,List.count_nil];omega)
def mS:Code→List Item→List (List Item)
 | .seq x y,k=>mS x (.code y::k)++mS y k
 | .cond _ x y,k=>mS x k++mS y k
 | .block id c,k=>mS c (.inBlock id::k)
 | .loop c,k=>(.code c::.inLoop c::k)::mS c (.inLoop c::k)
 | _,_=>[]
def hd (fn:Func) (n:Nat):List Item:=
 match fn.body with
 | some c=>(match (mS c [])[n]? with | some t=>t | none=>[])
 | none=>[]
def kf (l ts:List Nat) (t:List Item) (s:RS):Option (List Item×Prop×List (Nat×AV)×List ai):=
 match fu l s.M l,iT l s.E ts with
 | some M',some E'=>some (t,aU s.vc,E',M')
 | _,_=>none
def A7 (P:Program) (T:aE) (sz:Nat) (tb:dh) (n:Nat) (l ts:List Nat) (todo:List Item) (E:List (Nat×AV)) (M:List ai):Option (List Item×Prop×List (Nat×AV)×List ai):=
 bif nodupB l then (match dn P T (walk P T 3) sz tb n todo ⟨[],E,M,[],[]⟩ with
 | some (.code (.loop c)::k,s)=>kf l ts (.code c::.inLoop c::k) s
 | some (.inLoop c::k,s)=>kf l ts (.code c::.inLoop c::k) s
 | _=>none) else none
theorem n5 {l ts:List Nat} {t t':List Item} {s:RS} {A:Prop} {E':List (Nat×AV)} {M':List ai} (h:kf l ts t s=some (t',A,E',M')):t=t'∧aU s.vc=A∧fu l s.M l=some M'∧iT l s.E ts=some E':=by
 unfold kf at h
 split at h
 ·rename_i h1 h2
  simp only [Option.some.injEq,Prod.mk.injEq] at h
  obtain ⟨rfl,hA,rfl,rfl⟩:=h
  exact ⟨rfl,hA,h1,h2⟩
 ·simp at h
theorem cT (hT:aR P T=true) (hm:P.follows .mixedOrders=true) (hK:∀ w,Kp D w0 w→K0 w) (tb:dh) (n:Nat) (l ts:List Nat) {A:Prop} {E':List (Nat×AV)} {M':List ai} (r:ch mk D w0 K0 sz E M a w)
  (h:A7 P T sz tb n l ts todo E M=some (todo',A,E',M')) (hA:A) (k:∀ a' w',ch mk D w0 K0 sz E' M' a' w'→aC P f todo' R a' w'):aC P f todo R a w:=by
 unfold A7 at h
 cases hn:nodupB l with
 | false=>simp [hn] at h
 | true=>
  simp only [hn,cond_true] at h
  split at h
  ·rename_i c k' s hr
   obtain ⟨rfl,rfl,h3,h4⟩:=n5 h
   exact nK hT (gW hT hm 3) hm hK n hr r hA fun a' w' r'=>aC.loop (k a' w' (r'.lh hn h3 h4))
  ·rename_i c k' s hr
   obtain ⟨rfl,rfl,h3,h4⟩:=n5 h
   exact nK hT (gW hT hm 3) hm hK n hr r hA fun a' w' r'=>aC.again (k a' w' (r'.lh hn h3 h4))
  ·simp at h
end Go.Proofs.YtcnpikbbmbombaaDoor
namespace Go.Proofs.YtcnpikbbmbombaaDoor
open Go.RowKit
variable {mk:Bool} {P:Program} {T:aE} {f:FuncId} {R:eO} {a:Act} {w:World} {D:List Nat} {w0:World} {K0:World→Prop} {E:List (Nat×AV)} {M:List ai} {β:Beta} {F:Nat→ak} {I X:ak} {sz:Nat} {tb:dh} {todo todo':List Item} {b:eb}
def ef (mk:Bool) (D:List Nat) (w0:World) (K0:World→Prop) (sz:Nat) (b:eb) (E:List (Nat×AV)) (M:List ai) (a:Act) (w:World):Prop:=
 b.β.length=b.m∧∃ tc,cZ mk D w0 K0 sz b ⟨[],E,M,tc,[]⟩ a w
abbrev RB (D:List Nat) (w0:World) (K0:World→Prop) (sz:Nat) (b:eb) (E:List (Nat×AV)) (M:List ai) (a:Act) (w:World):Prop:=ef false D w0 K0 sz b E M a w
def A8 (D:List Nat) (w0:World) (K0:World→Prop) (b:eb) (x:AV) (M':List ai):Ending→World→Prop:=
 fun e w'=>∃ v,e=.returned v∧∃ au F' I',RM D w0 K0 M' au F' I' w'∧Ext b.β au∧bE b.I I'∧ao (fun w=>K0 w∧Holds w I') au x v
abbrev ew (D:List Nat) (w0:World) (K0:World→Prop) (b:eb) (x:AV) (M':List ai):eO:=.ends (A8 D w0 K0 b x M')
theorem ax.intro {fn:Func} {c:Code} {args:List AV} {x:AV} {M':List ai} (jK:gu P f=true) (hf:P.funcs[f]?=some fn) (hb:fn.body=some c) (n:Nat) (hn:fn.ntmps=n) (hle:Nat.ble args.length n=true)
  (h:∀ (D:List Nat) (w0:World) (K0:World→Prop) (b:eb) (a:Act) (w:World),(∀ w,Kp D w0 w→K0 w)→b.m=M.length→RB D w0 K0 n b (gB args 0) M a w→aC P f [.code c] (ew D w0 K0 b x M') a w):ax P f args M x M':=by
 refine ⟨jK,?_⟩
 intro D w0 K0 β F I w ys Rm hK hl hr
 have hle:=Nat.le_of_ble_eq_true hle
 refine pv hf hb (h D w0 K0 ⟨β,F,I,M.length⟩ _ w hK rfl ⟨Rm.len,[],by simp;omega,I,rfl,Nat.le_refl _,β,F,Rm,⟨fun _ _ _ h=>h,bE.refl _,fun _ _ _=>rfl⟩,?_⟩)
 intro t v hv
 obtain ⟨y,rfl,rfl,hy⟩:∃ y:Nat×AV,y.1=t∧y.2=v∧y ∈ gB args 0:=⟨(t,v),rfl,rfl,lB hv⟩
 obtain ⟨-,h2⟩:=pD args 0 y hy
 simp only [Nat.sub_zero] at h2
 obtain ⟨aF,-⟩:=List.getElem?_eq_some_iff.1 h2
 have iv:ys[y.1]?=some ys[y.1]:=List.getElem?_eq_getElem (by omega)
 have he:({ tmps:=ys.toArray++Array.replicate (fn.ntmps-ys.toArray.size) undef,defers:=[] }:Act).eval (.tmp y.1)=ys[y.1]:=by
  have:y.1<ys.length:=by omega
  simp [Act.eval,Array.getD_eq_getD_getElem?,Array.getElem?_append,this]
 rw [he]
 exact hr y.1 y.2 _ h2 iv
def jA (m:Nat) (l:List Nat):Bool:=(List.range m).all fun i=>match l[i]? with | some u=>u.beq i | none=>false
theorem yG {m:Nat} {l:List Nat} (h:jA m l=true) {i:Nat} (hi:i<m):l[i]?=some i:=by
 have:=List.all_eq_true.1 h i (List.mem_range.2 hi)
 split at this
 ·rename_i u hu;rw [hu,Nat.eq_of_beq_eq_true this]
 ·simp at this
def ik (m:Nat) (mv:List Nat):Bool:=mv.all fun u=>Nat.ble m u
theorem Hj {m:Nat} {mv:List Nat} (h:ik m mv=true) {u:Nat} (hu:u<m):u ∉ mv:=fun hm=>by
 have:=Nat.le_of_ble_eq_true (List.all_eq_true.1 h u hm);omega
theorem y7 {l:List Nat} {M':List ai} (hn:nodupB l=true) (hM:fu l M l=some M') (Rm:RM D w0 K0 M β F I w):RM D w0 K0 M' (en β l) (lW F l) I w:=by
 obtain ⟨e1,e2⟩:=pR hM
 have aF:∀ u ∈ l,u<M.length:=by
  intro u hu
  obtain ⟨i,hi,rfl⟩:=List.getElem_of_mem hu
  obtain ⟨u',b0,g1,g2,-⟩:=e2 i M'[i] (List.getElem?_eq_getElem (by omega))
  rw [List.getElem?_eq_getElem hi,Option.some.injEq] at g1
  rw [g1];exact eD g2
 obtain ⟨rest,a8⟩:=tV (nY hn) aF Rm.x
 refine ⟨by rw [tj,e1],?_,?_⟩
 ·intro i b hb
  obtain ⟨u,b0,g1,g2,g3⟩:=e2 i b hb
  rw [tW g1];exact uz g1 g3 (Rm.blk u b0 g2)
 ·rw [e1,rD]
  have:=a8.lA
  exact this.perm (by classical rw [List.perm_iff_count];intro z;simp only [List.count_append,List.count_nil];omega)
theorem Ab {l mv tc:List Nat} (hb:b.β.length=b.m) (hs:jA b.m l=true) (hf:ik b.m mv=true) (h:Since b mv tc β F I):Ext b.β (en β l):=by
 intro u x hx
 have hu:u<b.m:=by rw [← hb];exact (List.getElem?_eq_some_iff.1 hx).1
 exact eE (yG hs hu) (h.1 u x (Hj hf hu) hx)
theorem cZ.lh {s:RS} (hb:b.β.length=b.m) (r:cZ mk D w0 K0 sz b s a w) {l ts:List Nat} {M':List ai} {E':List (Nat×AV)} (hn:nodupB l=true) (hs:jA b.m l=true) (hf:ik b.m s.mv=true) (hM:fu l s.M l=some M') (hE:iT l s.E ts=some E'):ef mk D w0 K0 sz b E' M' a w:=by
 obtain ⟨h1,I,h2,h3,β,F,Rm,bV,dE⟩:=r
 refine ⟨hb,List.range b.m,h1,I,h2,?_,en β l,lW F l,y7 hn hM Rm,⟨(Ab hb hs hf bV).b _,bV.2.1,fun u hu hn=>absurd (List.mem_range.2 hu) hn⟩,uA dE hE⟩
 rw [(pR hM).1]
 rcases Nat.lt_or_ge l.length b.m with hl | hl
 ·have:=yG hs (i:=l.length) hl
  rw [List.getElem?_eq_none (Nat.le_refl _)] at this;cases this
 ·exact hl
def Au (P:Program) (T:aE) (sz:Nat) (m:Nat) (tb:dh) (n:Nat) (l ts:List Nat) (todo:List Item) (E:List (Nat×AV)) (M:List ai):Option (List Item×Prop×List (Nat×AV)×List ai):=
 bif nodupB l&&jA m l then (match dn P T (walk P T 3) sz tb n todo ⟨[],E,M,[],[]⟩ with
 | some (.code (.loop c)::k,s)=>bif ik m s.mv then kf l ts (.code c::.inLoop c::k) s else none
 | some (.inLoop c::k,s)=>bif ik m s.mv then kf l ts (.code c::.inLoop c::k) s else none
 | _=>none) else none
theorem ef.re (r:ef mk D w0 K0 sz b E M a w):∃ b',cZ mk D w0 K0 sz b' ⟨[],E,M,[],[]⟩ a w∧b'.β.length=b.m∧Ext b.β b'.β∧bE b.I b'.I∧b'.m=b.m:=by
 obtain ⟨hb,tc,h1,I,h2,h3,β,F,Rm,bV,dE⟩:=r
 refine ⟨⟨β.take b.m,F,I,b.m⟩,⟨h1,I,h2,h3,β,F,Rm,⟨fun u x _ hx=>?_,bE.refl _,fun _ _ _=>rfl⟩,dE⟩,?_,fun u x hx=>?_,bV.2.1,rfl⟩
 ·rw [List.getElem?_take] at hx
  split at hx
  ·exact hx
  ·simp at hx
 ·rw [List.length_take,Rm.len];have Nu:b.m≤M.length:=h3;omega
 ·have hu:u<b.m:=by rw [← hb];exact (List.getElem?_eq_some_iff.1 hx).1
  rw [List.getElem?_take,if_pos hu]
  exact bV.1 u x (by simp) hx
theorem ef.from {b':eb} (al:b'.m=b.m) (hb:b.β.length=b.m) (hE:Ext b.β b'.β) (hG:bE b.I b'.I) (r:ef mk D w0 K0 sz b' E M a w):ef mk D w0 K0 sz b E M a w:=by
 obtain ⟨-,tc,h1,I,h2,h3,β,F,Rm,bV,dE⟩:=r
 refine ⟨hb,List.range b.m,h1,I,h2,by rw [← al];exact h3,β,F,Rm,⟨fun u x _ hx=>bV.1 u x (by simp) (hE u x hx),hG.trans bV.2.1,fun u hu hn=>absurd (List.mem_range.2 hu) hn⟩,dE⟩
theorem cF (hT:aR P T=true) (hm:P.follows .mixedOrders=true) (hK:∀ w,Kp D w0 w→K0 w) {m:Nat} (al:b.m=m) (tb:dh) (n:Nat) (l ts:List Nat) {A:Prop} {E':List (Nat×AV)} {M':List ai} (r:ef mk D w0 K0 sz b E M a w)
  (h:Au P T sz m tb n l ts todo E M=some (todo',A,E',M')) (hA:A) (k:∀ a' w',ef mk D w0 K0 sz b E' M' a' w'→aC P f todo' R a' w'):aC P f todo R a w:=by
 subst al
 have hb:=r.1
 obtain ⟨b',rb,aI,hE,hG,fK⟩:=r.re
 unfold Au at h
 cases hn:(nodupB l&&jA b.m l) with
 | false=>simp [hn] at h
 | true=>
  simp only [hn,cond_true] at h
  simp only [Bool.and_eq_true] at hn
  have key:∀ {s:RS} {a':Act} {w':World} {M':List ai} {E':List (Nat×AV)},ik b.m s.mv=true→fu l s.M l=some M'→iT l s.E ts=some E'→cZ mk D w0 K0 sz b' s a' w'→ef mk D w0 K0 sz b E' M' a' w':=fun hf h3 h4 r'=>
   ef.from fK hb hE hG (r'.lh (by rw [aI,fK]) hn.1 (by rw [fK];exact hn.2) (by rw [fK];exact hf) h3 h4)
  split at h
  ·rename_i c k' s hr
   cases hf:ik b.m s.mv with
   | false=>simp [hf] at h
   | true=>
    simp only [hf,cond_true] at h
    obtain ⟨rfl,rfl,h3,h4⟩:=n5 h
    exact km hT (gW hT hm 3) hm hK n hr rb hA fun a' w' r'=>aC.loop (k a' w' (key hf h3 h4 r'))
  ·rename_i c k' s hr
   cases hf:ik b.m s.mv with
   | false=>simp [hf] at h
   | true=>
    simp only [hf,cond_true] at h
    obtain ⟨rfl,rfl,h3,h4⟩:=n5 h
    exact km hT (gW hT hm 3) hm hK n hr rb hA fun a' w' r'=>aC.again (k a' w' (key hf h3 h4 r'))
  ·simp at h
def oT (T:aE) (m:Nat) (cn:List Nat) (rs:List ResultVar) (s:RS):Option (Prop×AV×List ai):=
 bif nodupB cn&&jA m cn&&ik m s.mv then (match ij T s.E s.M rs with
 | some l=>(match fu cn s.M cn,sH cn (xi l) with
  | some M',some x=>some (aU s.vc,x,M')
  | _,_=>none)
 | none=>none) else none
def Ac (P:Program) (T:aE) (sz:Nat) (m:Nat) (rs:List ResultVar) (tb:dh) (n:Nat) (cn:List Nat) (todo:List Item) (E:List (Nat×AV)) (M:List ai):Option (Prop×AV×List ai):=
 match dn P T (walk P T 3) sz tb n todo ⟨[],E,M,[],[]⟩ with
 | some (.code .ret::_,s)=>oT T m cn rs s
 | some ([],s)=>oT T m cn rs s
 | _=>none
theorem aZ (hT:aR P T=true) (hm:P.follows .mixedOrders=true) (hK:∀ w,Kp D w0 w→K0 w) {fn:Func} (hf:P.funcs[f]?=some fn) {m:Nat} (al:b.m=m) (tb:dh) (n:Nat) (cn:List Nat) {x:AV} {M':List ai} {A:Prop} (r:RB D w0 K0 sz b E M a w)
  (h:Ac P T sz m fn.results.toList tb n cn todo E M=some (A,x,M')) (hA:A):aC P f todo (ew D w0 K0 b x M') a w:=by
 subst al
 have hb:=r.1
 obtain ⟨b',rb,aI,hE,hG,fK⟩:=r.re
 have key:∀ {s:RS} {a':Act} {w':World},oT T b.m cn fn.results.toList s=some (A,x,M')→cZ false D w0 K0 sz b' s a' w'→aU s.vc=A∧∃ v,(results fn a'.tmps).run P w'=.ok v w'∧A8 D w0 K0 b x M' (.returned v) w':=by
  intro s a' w' et r'
  unfold oT at et
  cases hc:(nodupB cn&&jA b.m cn&&ik b.m s.mv) with
  | false=>simp only [hc,cond_false,reduceCtorEq] at et
  | true=>
   simp only [hc,cond_true] at et
   simp only [Bool.and_eq_true] at hc
   split at et
   ·rename_i l hl
    split at et
    ·rename_i M1 x1 hM hx
     simp only [Option.some.injEq,Prod.mk.injEq] at et
     obtain ⟨xZ,rfl,rfl⟩:=et
     refine ⟨xZ,?_⟩
     obtain ⟨-,I,-,-,β,F,Rm,bV,hs⟩:=r'
     obtain ⟨ys,e1,e2,e3⟩:=od hT Rm hs hl
     refine ⟨_,rJ rfl e1,_,rfl,en β cn,lW F cn,I,y7 hc.1.1 hM Rm,?_,hG.trans bV.2.1,zU hx ?_⟩
     ·have:=Ab (b:=b') (by rw [aI,fK]) (by rw [fK];exact hc.1.2) (by rw [fK];exact hc.2) bV
      exact fun u q hq=>this u q (hE u q hq)
     ·match ys,l,e2,e3 with
      | [],[],_,_=>exact .tu [] rfl (by simp)
      | [y],[v],_,e3=>exact e3 0 v y rfl rfl
      | y::y'::ys,v::v'::l,e2,e3=>exact .tu _ e2 e3
    ·simp at et
   ·simp at et
 unfold Ac at h
 have cY:∀ {s:RS},oT T b.m cn fn.results.toList s=some (A,x,M')→aU s.vc:=by
  intro s et
  unfold oT at et
  cases hc:(nodupB cn&&jA b.m cn&&ik b.m s.mv) with
  | false=>simp only [hc,cond_false,reduceCtorEq] at et
  | true=>
   simp only [hc,cond_true] at et
   split at et
   ·split at et
    ·simp only [Option.some.injEq,Prod.mk.injEq] at et
     rw [et.1];exact hA
    ·simp at et
   ·simp at et
 split at h
 ·rename_i k s hr
  refine km hT (gW hT hm 3) hm hK n hr rb (cY h) fun a' w' r'=>?_
  obtain ⟨-,v,h1,h2⟩:=key h r'
  exact aC.ret hf (cZ.nc r') h1 h2
 ·rename_i s hr
  refine km hT (gW hT hm 3) hm hK n hr rb (cY h) fun a' w' r'=>?_
  obtain ⟨-,v,h1,h2⟩:=key h r'
  exact aC.fin hf (cZ.nc r') h1 h2
 ·simp at h
theorem a7 {x y:AV} {N N':List ai} {todo:List Item} (e1:x=y) (e2:N=N') (h:aC P f todo (ew D w0 K0 b y N') a w):aC P f todo (ew D w0 K0 b x N) a w:=e1▸e2▸h
end Go.Proofs.YtcnpikbbmbombaaDoor
namespace Go.Proofs.YtcnpikbbmbombaaDoor
open Go.RowKit
def tb:aE:=[
 (3,⟨.it .i64,1,8,[.int .i64 0]⟩),
 (5,⟨.it .u8,1,1,[.int .u8 0]⟩),
 (9,⟨.st,1,16,[.string .empty]⟩),
 (45,⟨.sr [0,1,2,3,4,5,6] [3,3,3,3,3,43,29],7,72,[.int .i64 0,.int .i64 0,.int .i64 0,.int .i64 0,.int .i64 0,.int .u64 0,.slice none 0 0]⟩),
 (25,⟨.sr [0,1,2] [3,22,23],3,56,[.int .i64 0,.slice none 0 0,.slice none 0 0]⟩),
 (29,⟨.sl 5,1,24,[.slice none 0 0]⟩),
 (4,⟨.pl,1,1,[.bool false]⟩),
 (71,⟨.ar 2 3,2,16,[.int .i64 0,.int .i64 0]⟩),
 (84,⟨.sr [0,1,2,3,4,5,6] [9,4,4,4,4,4,4],7,24,[.string .empty,.bool false,.bool false,.bool false,.bool false,.bool false,.bool false]⟩),
 (93,⟨.sl 9,1,24,[.slice none 0 0]⟩),
 (43,⟨.it .u64,1,8,[.int .u64 0]⟩),
 (23,⟨.sl 3,1,24,[.slice none 0 0]⟩),
 (26,⟨.sl 45,1,24,[.slice none 0 0]⟩),
 (22,⟨.sl 71,1,24,[.slice none 0 0]⟩),
 (56,⟨.sr [0,1] [54,29],2,32,[.pointer none,.slice none 0 0]⟩),
 (47,⟨.pl,1,8,[.pointer none]⟩),
 (65,⟨.pl,1,8,[.pointer none]⟩),
 (100,⟨.sr [0,1] [29,4],2,32,[.slice none 0 0,.bool false]⟩),
 (152,⟨.sr [0,1] [5,5],2,2,[.int .u8 0,.int .u8 0]⟩),
 (21,⟨.it .i32,1,4,[.int .i32 0]⟩),
 (54,⟨.pl,1,8,[.pointer none]⟩),
 (102,⟨.sr [0] [100],2,32,[.slice none 0 0,.bool false]⟩),
 (140,⟨.it .u32,1,4,[.int .u32 0]⟩),
 (81,⟨.sr [0] [29],1,24,[.slice none 0 0]⟩),
 (85,⟨.ar 14 84,98,336,[.string .empty,.bool false,.bool false,.bool false,.bool false,.bool false,.bool false,.string .empty,.bool false,.bool false,.bool false,.bool false,.bool false,.bool false,.string .empty,.bool false,.bool false,.bool false,.bool false,.bool false,.bool false,.string .empty,.bool false,.bool false,.bool false,.bool false,.bool false,.bool false,.string .empty,.bool false,.bool false,.bool false,.bool false,.bool false,.bool false,.string .empty,.bool false,.bool false,.bool false,.bool false,.bool false,.bool false,.string .empty,.bool false,.bool false,.bool false,.bool false,.bool false,.bool false,.string .empty,.bool false,.bool false,.bool false,.bool false,.bool false,.bool false,.string .empty,.bool false,.bool false,.bool false,.bool false,.bool false,.bool false,.string .empty,.bool false,.bool false,.bool false,.bool false,.bool false,.bool false,.string .empty,.bool false,.bool false,.bool false,.bool false,.bool false,.bool false,.string .empty,.bool false,.bool false,.bool false,.bool false,.bool false,.bool false,.string .empty,.bool false,.bool false,.bool false,.bool false,.bool false,.bool false,.string .empty,.bool false,.bool false,.bool false,.bool false,.bool false,.bool false]⟩),
 (128,⟨.ar 24 5,24,24,List.replicate 24 (.int .u8 0)⟩),
 (141,⟨.ar 65 5,65,65,List.replicate 65 (.int .u8 0)⟩),
 (30,⟨.it .i64,1,8,[.int .i64 0]⟩),
 (88,⟨.it .u16,1,2,[.int .u16 0]⟩),
 (118,⟨.it .u64,1,8,[.int .u64 0]⟩),
 (64,⟨.pl,1,8,[.nilFunc]⟩),
 (133,⟨.ar 8 5,8,8,[.int .u8 0,.int .u8 0,.int .u8 0,.int .u8 0,.int .u8 0,.int .u8 0,.int .u8 0,.int .u8 0]⟩),
 (2,⟨.it .i64,1,8,[.int .i64 0]⟩),
 (139,⟨.ar 20 43,20,160,List.replicate 20 (.int .u64 0)⟩),
 (148,⟨.ar 32 5,32,32,List.replicate 32 (.int .u8 0)⟩),
 (149,⟨.ar 64 5,64,64,List.replicate 64 (.int .u8 0)⟩),
 (153,⟨.ar 16 152,32,32,List.replicate 32 (.int .u8 0)⟩),
 (98,⟨.pl,1,8,[.pointer none]⟩)]
theorem tk:aR Tryd.prog tb=true:=by kernel_rfl
theorem mo:Tryd.prog.follows .mixedOrders=true:=by kernel_rfl
end Go.Proofs.YtcnpikbbmbombaaDoor
namespace Go.Proofs.YtcnpikbbmbombaaDoor
open Go.RowKit
variable {P:Program}
theorem U {a b:Prop} (h:a) (k:b):a∧b:=⟨h,k⟩
theorem bv {a b:Bool} (h:a=b):DV.v (.bool a)=.v (.bool b):=by rw [h]
theorem wi {x y:Int} (h:x=y ∧ -9223372036854775808≤y∧y<9223372036854775808):IntKind.i64.wrap x=y:=by
 obtain ⟨rfl,h1,h2⟩:=h;simp [IntKind.wrap,IntKind.signed,IntKind.bits];omega
theorem wu {x y:Int} (h:x=y∧0≤y∧y<18446744073709551616):IntKind.u64.wrap x=y:=by
 obtain ⟨rfl,h1,h2⟩:=h;simp [IntKind.wrap,IntKind.signed,IntKind.bits];omega
theorem ne_of_beq_false {a b:Int} (h:(a==b)=false):a≠b:=by intro e;subst e;simp at h
theorem fg {a b:Int} (h:(a != b)=false):a=b:=by simpa [bne] using h
theorem o8 (c:Bool):(jD (Value.bool c)==some true)=c:=by cases c<;>rfl
theorem oJ (a b:Bool):∃ b0:Bool,(Value.bool a)=.bool b0∧(bif b0 then (bif a then Value.bool b else undef) else Value.bool false)=.bool (a&&b):=⟨a,rfl,by cases a<;>rfl⟩
theorem iA (x:DV):x=x:=rfl
theorem dW (n:Nat):n=n:=rfl
theorem aN (n:Int):n=n:=rfl
end Go.Proofs.YtcnpikbbmbombaaDoor
namespace Go.Proofs.YtcnpikbbmbombaaDoor
open Go.RowKit
variable {mk:Bool} {P:Program} {T:aE} {f:FuncId} {R:eO} {a:Act} {w:World} {D:List Nat} {w0:World} {K0:World→Prop} {E E1:List (Nat×AV)} {M M1 M2:List ai} {β:Beta} {F:Nat→ak} {I X:ak} {sz:Nat} {b:eb}
theorem RM.nil (h:RM D w0 K0 M β F I w) (T k:Nat):RM D w0 K0 (M++[.rw T k []]) (β++[(none,0)]) (aD F M.length []) I w:=by
 refine h.new (Gr.refl w) (df.nil w w) ?_
 have:bg (fun w=>K0 w∧Holds w I) (β++[(none,0)]) M.length (.rw T k []) ([]++bk ([]:List (List DV)).length k fun _ _=>[]):=
  .rw (c:=0) (a:=none) (by rw [List.getElem?_append_right (by rw [h.len];exact Nat.le_refl _),h.len];simp) (fun _=>[]) (fun _ _=>[]) (by simp) (by simpa [lay] using dy.nil T k none) (by simp)
 simpa [bk] using this
theorem RM.cells (h:RM D w0 K0 M β F I w) {u Tb:Nat} {cells cells':List AV} (hu:M[u]?=some (.bx Tb cells)) (hl:cells'.length=cells.length)
  (hc:∀ (j:Nat) c c0 y,cells'[j]?=some c→cells[j]?=some c0→ao (fun w=>K0 w∧Holds w I) β c0 y→ao (fun w=>K0 w∧Holds w I) β c y):RM D w0 K0 (M.set u (.bx Tb cells')) β F I w where
 len:=by rw [h.len,List.length_set]
 blk:=by
  intro v bl hv
  rw [List.getElem?_set] at hv
  split at hv
  ·rename_i L3;subst L3
   split at hv
   ·simp only [Option.some.injEq] at hv;subst hv
    have hr:=h.blk _ _ hu
    generalize F _=H at hr ⊢
    cases hr with
    | bx hb ys cH hr=>
     refine .bx hb ys (by omega) fun j c y h1 h2=>?_
     have hj:j<cells.length:=by rw [← hl];exact (List.getElem?_eq_some_iff.1 h1).1
     exact hc j c _ y h1 (List.getElem?_eq_getElem hj) (hr j _ y (List.getElem?_eq_getElem hj) h2)
   ·cases hv
  ·exact h.blk v bl hv
 st:=by rw [List.length_set];exact h.st
def oU (E:List (Nat×AV)) (t:Nat) (v:AV):List (Nat×AV):=E.map fun x=>bif x.1.beq t then (x.1,v) else x
theorem uI {t:Nat} {v:AV}:∀ {E:List (Nat×AV)} {s:Nat} {u:AV},bM (oU E t v) s=some u→(s=t∧u=v∧∃ u0,bM E t=some u0)∨(s≠t∧bM E s=some u)
 | [],s,u,h=>by simp [oU,bM] at h
 | (k,x)::r,s,u,h=>by
  have ih:=uI (t:=t) (v:=v) (E:=r) (s:=s) (u:=u)
  unfold oU at ih h
  rw [List.map_cons] at h
  cases hk:k.beq t with
  | true=>
   have L4:=Nat.eq_of_beq_eq_true hk;subst L4
   simp only [Nat.beq_refl,cond_true,bM] at h ⊢
   cases hs:k.beq s with
   | true=>
    have:=Nat.eq_of_beq_eq_true hs;subst this
    rw [hs,cond_true,Option.some.injEq] at h
    exact Or.inl ⟨rfl,h.symm,x,rfl⟩
   | false=>
    rw [hs,cond_false] at h
    rcases ih h with ⟨rfl,-,-⟩ | h2
    ·rw [Nat.beq_refl] at hs;cases hs
    ·exact Or.inr h2
  | false=>
   simp only [hk,cond_false,bM] at h ⊢
   cases hs:k.beq s with
   | true=>
    have:=Nat.eq_of_beq_eq_true hs;subst this
    rw [hs,cond_true] at h
    refine Or.inr ⟨?_,h⟩
    rintro rfl;rw [Nat.beq_refl] at hk;cases hk
   | false=>
    rw [hs,cond_false] at h
    exact ih h
def o9:List (Nat×Nat×Nat)→List (Nat×AV)→List ai→Option (List (Nat×AV)×List ai)
 | [],E,M=>some (E,M)
 | (t,T,k)::r,E,M=>match bM E t with
  | some (.d (.v (.slice none 0 0)))=>o9 r (oU E t (.sl M.length 0)) (M++[.rw T k []])
  | _=>none
def pa:List (Nat×Nat×Nat×Nat)→List ai→Option (List ai)
 | [],M=>some M
 | (u,o,T,k)::r,M=>match M[u]? with
  | some (.bx Tb cells)=>(match cells[o]? with
   | some (.d (.v (.slice none 0 0)))=>pa r ((M++[ai.rw T k []]).set u (.bx Tb (cells.set o (.sl M.length 0))))
   | _=>none)
  | _=>none
theorem Av (h:RM D w0 K0 M β F I w):(β++[((none:Option Addr),0)])[M.length]?=some (none,0):=by rw [List.getElem?_append_right (by rw [h.len];exact Nat.le_refl _),h.len];simp
theorem vr {ev:Nat→Value} {n:Nat}:∀ {ls:List (Nat×Nat×Nat)} {E:List (Nat×AV)} {M:List ai} {β:Beta} {F:Nat→ak},o9 ls E M=some (E1,M1)→n≤M.length→RM D w0 K0 M β F I w→(∀ t v,bM E t=some v→ao (fun w=>K0 w∧Holds w I) β v (ev t))→
  ∃ au F',RM D w0 K0 M1 au F' I w∧Ext β au∧(∀ u,u<n→F' u=F u)∧n≤M1.length∧∀ t v,bM E1 t=some v→ao (fun w=>K0 w∧Holds w I) au v (ev t)
 | [],E,M,β,F,h,hn,hR,hs=>by
  simp only [o9,Option.some.injEq,Prod.mk.injEq] at h;obtain ⟨rfl,rfl⟩:=h
  exact ⟨β,F,hR,fun _ _ h=>h,fun _ _=>rfl,hn,hs⟩
 | (t,T,k)::r,E,M,β,F,h,hn,hR,hs=>by
  unfold o9 at h
  split at h
  ·rename_i ht
   obtain ⟨au,F',h1,h2,h3,h4,h5⟩:=vr h (n:=n) (ev:=ev) (by simp;omega) (hR.nil T k) fun s v hv=>by
    rcases uI hv with ⟨rfl,rfl,-⟩ | ⟨-,h2⟩
    ·have:=hs s _ ht
     generalize ev s=y at this
     cases this with | d h=>cases h;exact .sl (Av hR)
    ·exact (hs s v h2).mono (fun _ h=>h) (Ext.app β [((none:Option Addr),0)])
   exact ⟨au,F',h1,fun u x hx=>h2 u x (Ext.app β [((none:Option Addr),0)] u x hx),fun u hu=>(h3 u hu).trans (lL (tc:=[]) F [] u (by omega) (by simp)),h4,h5⟩
  ·cases h
theorem vt {ev:Nat→Value} {n:Nat}:∀ {lc:List (Nat×Nat×Nat×Nat)} {M:List ai} {β:Beta} {F:Nat→ak},pa lc M=some M1→n≤M.length→RM D w0 K0 M β F I w→(∀ t v,bM E t=some v→ao (fun w=>K0 w∧Holds w I) β v (ev t))→
  ∃ au F',RM D w0 K0 M1 au F' I w∧Ext β au∧(∀ u,u<n→F' u=F u)∧n≤M1.length∧∀ t v,bM E t=some v→ao (fun w=>K0 w∧Holds w I) au v (ev t)
 | [],M,β,F,h,hn,hR,hs=>by
  simp only [pa,Option.some.injEq] at h;subst h
  exact ⟨β,F,hR,fun _ _ h=>h,fun _ _=>rfl,hn,hs⟩
 | (u,o,T,k)::r,M,β,F,h,hn,hR,hs=>by
  unfold pa at h
  split at h
  ·rename_i Tb cells hu
   split at h
   ·rename_i ho
    have L5:=hR.nil T k
    have L6:=L5.cells (cells':=cells.set o (.sl M.length 0)) (by rw [List.getElem?_append_left (List.getElem?_eq_some_iff.1 hu).1];exact hu) (by simp) fun j c c0 y h1 h2 h3=>by
     rw [List.getElem?_set] at h1
     split at h1
     ·rename_i hj;subst hj
      split at h1
      ·simp only [Option.some.injEq] at h1;subst h1
       rw [ho,Option.some.injEq] at h2;subst h2
       cases h3 with | d h=>cases h;exact .sl (Av hR)
      ·cases h1
     ·rw [h1,Option.some.injEq] at h2;subst h2;exact h3
    obtain ⟨au,F',h1,h2,h3,h4,h5⟩:=vt h (n:=n) (ev:=ev) (by simp;omega) L6 fun s v hv=>(hs s v hv).mono (fun _ h=>h) (Ext.app β [((none:Option Addr),0)])
    exact ⟨au,F',h1,fun u x hx=>h2 u x (Ext.app β [((none:Option Addr),0)] u x hx),fun u hu=>(h3 u hu).trans (lL (tc:=[]) F [] u (by omega) (by simp)),h4,h5⟩
   ·cases h
  ·cases h
theorem ch.fB (r:ch mk D w0 K0 sz E M a w) (ls:List (Nat×Nat×Nat)) (lc:List (Nat×Nat×Nat×Nat)) (h:o9 ls E M=some (E1,M1)) (h2:pa lc M1=some M2):ch mk D w0 K0 sz E1 M2 a w:=by
 obtain ⟨g1,I,g2,β,F,hR,hs⟩:=r
 obtain ⟨pr,F1,r1,-,-,-,s1⟩:=vr (ev:=fun t=>a.eval (.tmp t)) (n:=0) h (Nat.zero_le _) hR hs
 obtain ⟨iD,F2,r2,-,-,-,s2⟩:=vt (ev:=fun t=>a.eval (.tmp t)) (n:=0) h2 (Nat.zero_le _) r1 s1
 exact ⟨g1,I,g2,iD,F2,r2,s2⟩
theorem ch.cast {E':List (Nat×AV)} {M':List ai} (r:ch mk D w0 K0 sz E M a w) (hE:E=E') (hM:M=M'):ch mk D w0 K0 sz E' M' a w:=hE▸hM▸r
theorem ef.cast {E':List (Nat×AV)} {M':List ai} (r:ef mk D w0 K0 sz b E M a w) (hE:E=E') (hM:M=M'):ef mk D w0 K0 sz b E' M' a w:=hE▸hM▸r
theorem ef.fB (r:ef mk D w0 K0 sz b E M a w) (ls:List (Nat×Nat×Nat)) (lc:List (Nat×Nat×Nat×Nat)) (h:o9 ls E M=some (E1,M1)) (h2:pa lc M1=some M2):ef mk D w0 K0 sz b E1 M2 a w:=by
 obtain ⟨hb,tc,g1,I,g2,g3,β,F,hR,bV,hs⟩:=r
 obtain ⟨pr,F1,r1,e1,f1,l1,s1⟩:=vr (ev:=fun t=>a.eval (.tmp t)) (n:=b.m) h g3 hR hs
 obtain ⟨iD,F2,r2,e2,f2,l2,s2⟩:=vt (ev:=fun t=>a.eval (.tmp t)) (n:=b.m) h2 l1 r1 s1
 exact ⟨hb,tc,g1,I,g2,l2,iD,F2,r2,⟨fun u x hu hx=>e2 u x (e1 u x (bV.1 u x hu hx)),bV.2.1,fun u hu hn=>(f2 u hu).trans ((f1 u hu).trans (bV.2.2 u hu hn))⟩,s2⟩
end Go.Proofs.YtcnpikbbmbombaaDoor
namespace Go.Proofs.YtcnpikbbmbombaaDoor
open Go.RowKit
variable {mk:Bool} {ro:Option Nat} {P:Program} {T:aE} {cl:e9} {f:FuncId} {R:eO} {a:Act} {w:World} {D:List Nat} {w0:World} {K0:World→Prop} {E:List (Nat×AV)} {M:List ai} {sz:Nat} {tb:dh} {todo todo':List Item} {ops:Array Oper} {Q:Exit→Act→World→Prop}
def sk (P:Program) (T:aE) (cl:e9) (sz:Nat) (ops:Array Oper) (oc:List (Nat×aO)) (rd:List Nat) (i:Nat):RS→Option (List Nat×RS)
 | ⟨vc,E,M,tc,mv⟩=>match ops[i]? with
  | some o=>(bif fG sz o.dst then (match lX sz ops E o.guard with
   | some true=>(match step P T cl E M (ma oc i) o.op with
    | some ⟨mC,av,_,_,_,some jU⟩=>some (jU++rd,⟨vc++mC,gD E o.dst av,M,tc,mv⟩)
    | _=>none)
   | some false=>some (rd,⟨vc,gD E o.dst (.d (.v undef)),M,tc,mv⟩)
   | none=>none) else none)
  | none=>none
def sN (P:Program) (T:aE) (cl:e9) (sz:Nat) (ops:Array Oper) (oc:List (Nat×aO)) (rd:List Nat) (i:Nat):RS→Option RS
 | ⟨vc,E,M,tc,mv⟩=>match ops[i]? with
  | some o=>(bif fG sz o.dst then (match lX sz ops E o.guard with
   | some true=>(match step P T cl E M (ma oc i) o.op with
    | some out=>(bif xf rd out.tc&&Nat.ble M.length out.M.length then some ⟨vc++out.vc,gD (oI out.mv E) o.dst out.av,out.M,out.tc++tc,out.mv++mv⟩ else none)
    | none=>none)
   | some false=>some ⟨vc,gD E o.dst (.d (.v undef)),M,tc,mv⟩
   | none=>none) else none)
  | none=>none
def sO (g:Nat→Option (List RS)):List Nat→Option (List RS)
 | []=>some []
 | j::r=>match g j,sO g r with | some l,some l'=>some (l++l') | _,_=>none
theorem uJ {g:Nat→Option (List RS)}:∀ {r:List Nat} {l:List RS},sO g r=some l→∀ j ∈ r,∃ l',g j=some l'∧∀ s ∈ l',s ∈ l
 | [],_,_,j,hj=>by cases hj
 | i::r,l,h,j,hj=>by
  unfold sO at h
  split at h
  ·rename_i l1 l2 h1 h2
   simp only [Option.some.injEq] at h;subst h
   rcases List.mem_cons.1 hj with rfl | hj
   ·exact ⟨l1,h1,fun s hs=>List.mem_append_left _ hs⟩
   ·obtain ⟨l',h3,h4⟩:=uJ h2 j hj
    exact ⟨l',h3,fun s hs=>List.mem_append_right _ (h4 s hs)⟩
  ·cases h
def mc (ops:Array Oper) (nl:List Nat) (L:Array Bool):qM:=match Region.ready .any ops L with
 | []=>.fin
 | i::r=>match lD ops L ((i::r).filter fun j=>!(nl.elem j)) with
  | some j=>.look j
  | none=>.bad
theorem zu {nl:List Nat} {L:Array Bool} (h:mc ops nl L=.fin):Region.ready .any ops L=[]:=by
 unfold mc at h
 split at h
 ·assumption
 ·split at h<;>cases h
theorem EG {nl:List Nat} {L:Array Bool} {i:Nat} (h:mc ops nl L=.look i):i ∈ Region.ready .any ops L∧∃ o,ops[i]?=some o∧Region.free .any ops L i=true:=by
 unfold mc at h
 split at h
 ·cases h
 ·rename_i k r hr
  split at h
  ·rename_i j hj
   simp only [qM.look.injEq] at h;subst h
   obtain ⟨h1,h2⟩:=nU hj
   exact ⟨by rw [hr];exact (List.mem_filter.1 h1).1,h2⟩
  ·cases h
def kg (P:Program) (T:aE) (cl:e9) (sz:Nat) (ops:Array Oper) (oc:List (Nat×aO)) (nl:List Nat):Nat→Array Bool→List Nat→RS→Option (List RS)
 | 0,L,_,s=>(match mc ops nl L with | .fin=>some [s] | _=>none)
 | fuel+1,L,rd,s=>match mc ops nl L with
  | .fin=>some [s]
  | .look i=>(match sk P T cl sz ops oc rd i s with
   | some (jU,s1)=>kg P T cl sz ops oc nl fuel (L.setIfInBounds i true) jU s1
   | none=>none)
  | _=>sO (fun j=>match sN P T cl sz ops oc rd j s with
   | some s1=>kg P T cl sz ops oc nl fuel (L.setIfInBounds j true) rd s1
   | none=>none) (Region.ready .any ops L)
theorem FX {oc:List (Nat×aO)} {rd jU:List Nat} {i:Nat} {s s1:RS} (h:sk P T cl sz ops oc rd i s=some (jU,s1)) (hv:aU s1.vc):aU s.vc:=by
 obtain ⟨vc,E,M,tc,mv⟩:=s
 unfold sk at h
 dsimp only at h
 split at h
 ·rename_i o ho
  cases hd:fG sz o.dst with
  | false=>simp [hd] at h
  | true=>
   simp only [hd,cond_true] at h
   split at h
   ·split at h
    ·simp only [Option.some.injEq,Prod.mk.injEq] at h;obtain ⟨-,rfl⟩:=h;exact (aU.app.1 hv).1
    ·cases h
   ·simp only [Option.some.injEq,Prod.mk.injEq] at h;obtain ⟨-,rfl⟩:=h;exact hv
   ·cases h
 ·cases h
theorem Hk {oc:List (Nat×aO)} {rd:List Nat} {i:Nat} {s s1:RS} (h:sN P T cl sz ops oc rd i s=some s1) (hv:aU s1.vc):aU s.vc:=by
 obtain ⟨vc,E,M,tc,mv⟩:=s
 unfold sN at h
 dsimp only at h
 split at h
 ·rename_i o ho
  cases hd:fG sz o.dst with
  | false=>simp [hd] at h
  | true=>
   simp only [hd,cond_true] at h
   split at h
   ·split at h
    ·rename_i out _
     cases hc:(xf rd out.tc&&Nat.ble M.length out.M.length) with
     | false=>simp [hc] at h
     | true=>simp only [hc,cond_true,Option.some.injEq] at h;subst h;exact (aU.app.1 hv).1
    ·cases h
   ·simp only [Option.some.injEq] at h;subst h;exact hv
   ·cases h
 ·cases h
theorem yH {nl:List Nat} {L:Array Bool} (h:mc ops nl L≠.fin):∃ j r,Region.ready .any ops L=j::r:=by
 unfold mc at h
 cases hr:Region.ready .any ops L with
 | nil=>rw [hr] at h;exact absurd rfl h
 | cons j r=>exact ⟨j,r,rfl⟩
theorem tZ {oc:List (Nat×aO)} {nl:List Nat}:∀ (fuel:Nat) (L:Array Bool) (rd:List Nat) (s:RS) {l:List RS},kg P T cl sz ops oc nl fuel L rd s=some l→∃ s' ∈ l,aU s'.vc→aU s.vc:=by
 intro fuel
 induction fuel with
 | zero=>
  intro L rd s l h
  unfold kg at h
  split at h
  ·simp only [Option.some.injEq] at h;subst h;exact ⟨s,by simp,id⟩
  ·cases h
 | succ fuel ih=>
  intro L rd s l h
  unfold kg at h
  split at h
  ·simp only [Option.some.injEq] at h;subst h;exact ⟨s,by simp,id⟩
  ·split at h
   ·rename_i hl
    obtain ⟨s',h1,h2⟩:=ih _ _ _ h
    exact ⟨s',h1,fun hv=>FX hl (h2 hv)⟩
   ·cases h
  ·rename_i hn _
   obtain ⟨j,r,hr⟩:=yH (ops:=ops) (nl:=nl) (L:=L) (by intro hf;exact hn hf)
   obtain ⟨l',h1,h2⟩:=uJ h j (by rw [hr];exact List.mem_cons_self)
   split at h1
   ·rename_i ho
    obtain ⟨s',h3,h4⟩:=ih _ _ _ h1
    exact ⟨s',h2 s' h3,fun hv=>Hk ho (h4 hv)⟩
   ·cases h1
theorem FY (hT:aR P T=true) (cA:iV P cl) {b:eb} (hK:∀ w,Kp D w0 w→K0 w) (gF:Region.noSelect ops=true) (hQ:∀ d v c a w,Q (.panic c) (Act.put a d v) w→Q (.panic c) a w) {oc:List (Nat×aO)} {nl:List Nat}:
  ∀ (fuel:Nat) (L:Array Bool) (rd:List Nat) (s:RS) {l:List RS} (Rk:World→Prop) (β:Beta) (F:Nat→ak) (I:ak) (a:Act) (w:World),kg P T cl sz ops oc nl fuel L rd s=some l→a.tmps.size=sz→Mk mk a.defers I→b.m≤s.M.length→RM D w0 K0 s.M β F I w→Since b s.mv s.tc β F I→
   (∀ t v,bM s.E t=some v→ao (fun w=>K0 w∧Holds w I) β v (a.eval (.tmp t)))→(∀ u ∈ rd,u<s.M.length)→(∀ w,ie K0 I F rd w→Rk w)→(∀ s' ∈ l,aU s'.vc∧∀ a' w',cZ mk D w0 K0 sz b s' a' w'→Q .normal a' w')→jB ro P ops Q Rk fuel L a w:=by
 intro fuel
 induction fuel with
 | zero=>
  intro L rd s l Rk β F I a w h size defers hm Rm bV hs dF fv k
  have C:Ctx D w0 K0 s.E s.M β F I a.eval w:=⟨Rm,hs,fun _=>rfl,fun _=>rfl,fun _=>rfl,hK⟩
  have hR:=fv w (C.wK dF)
  unfold kg at h
  split at h
  ·rename_i hn
   simp only [Option.some.injEq] at h;subst h
   exact ⟨hR,zu hn,(k s (by simp)).2 a w ⟨size,I,defers,hm,β,F,Rm,bV,hs⟩⟩
  ·cases h
 | succ fuel ih=>
  intro L rd s l Rk β F I a w h size defers hm Rm bV hs dF fv k
  have C:Ctx D w0 K0 s.E s.M β F I a.eval w:=⟨Rm,hs,fun _=>rfl,fun _=>rfl,fun _=>rfl,hK⟩
  have hR:=fv w (C.wK dF)
  unfold kg at h
  split at h
  ·rename_i hn
   simp only [Option.some.injEq] at h;subst h
   have hn:=zu hn
   exact ⟨hR,fun _=>(k s (by simp)).2 a w ⟨size,I,defers,hm,β,F,Rm,bV,hs⟩,fun i hi=>by rw [hn] at hi;cases hi⟩
  ·rename_i i hn
   obtain ⟨qO,o',LM,kO⟩:=EG hn
   split at h
   ·rename_i Nv s1 hl
    obtain ⟨s',dU,cY⟩:=tZ _ _ _ _ h
    have dV:=cY (k s' dU).1
    obtain ⟨vc,E,M,tc,mv⟩:=s
    dsimp only at hm Rm bV hs dF fv C
    unfold sk at hl
    dsimp only at hl
    split at hl
    ·rename_i o ho
     cases hd:fG sz o.dst with
     | false=>simp [hd] at hl
     | true=>
      simp only [hd,cond_true] at hl
      have nx:=fun j oj hj jr lf jb=>Region.free_spec ho kO j oj hj jr lf jb
      split at hl
      ·rename_i hw
       have er:=j4 (ops:=ops) size hs hw
       split at hl
       ·rename_i mC av _ _ _ jU a8
        simp only [Option.some.injEq,Prod.mk.injEq] at hl;obtain ⟨rfl,rfl⟩:=hl
        have nJ:=ob (P:=P) hT cA (d:=o.dst) (ty:=o.type) (pos:=o.pos) (aft:=o.after) (gd:=o.guard) a8
        obtain ⟨xg,rfl,-,aF⟩:=nJ
        have kW:=(aU.app.1 dV).2
        obtain ⟨v,kU,l5⟩:=xg C kW
        obtain ⟨e1,e2,e3⟩:=RE.put (E:=E) size defers hs hd kU
        have kd:=ih (L.setIfInBounds i true) _ _ (fun w=>Rk w∧ie K0 I F jU w) β F I (a.put o.dst v) w h e1 e2 hm Rm bV e3 (fun u hu=>by rcases List.mem_append.1 hu with e | e;exact aF u e;exact dF u e)
         (fun w hw=>⟨fv w ⟨hw.1,fun u hu=>hw.2 u (List.mem_append_right _ hu)⟩,hw.1,fun u hu=>hw.2 u (List.mem_append_left _ hu)⟩) k
        exact yj (fun w hw=>hw.1) (yf ho (Region.noSelect_spec gF) (hQ o.dst v) _ L a w nx qO (Or.inl ⟨er,fun w' dv=>l5 w' dv.2⟩) kd)
       ·cases hl
      ·rename_i hw
       simp only [Option.some.injEq,Prod.mk.injEq] at hl;obtain ⟨rfl,rfl⟩:=hl
       have er:=j4 (ops:=ops) size hs hw
       obtain ⟨e1,e2,e3⟩:=RE.put (E:=E) size defers hs hd (.d (.v undef))
       have kd:=ih (L.setIfInBounds i true) _ _ Rk β F I (a.put o.dst undef) w h e1 e2 hm Rm bV e3 dF fv k
       exact yf ho (Region.noSelect_spec gF) (hQ o.dst undef) _ L a w nx qO (Or.inr ⟨er,rfl⟩) kd
      ·cases hl
    ·cases hl
   ·cases h
  ·rename_i hn _
   obtain ⟨j0,r0,CK⟩:=yH (ops:=ops) (nl:=nl) (L:=L) (by intro hf;exact hn hf)
   refine ⟨hR,fun h0=>(by rw [CK] at h0;cases h0),fun j hj=>?_⟩
   obtain ⟨l',h1,h2⟩:=uJ h j hj
   split at h1
   ·rename_i s1 gJ
    obtain ⟨s',dU,cY⟩:=tZ _ _ _ _ h1
    have dV:=cY (k s' (h2 s' dU)).1
    obtain ⟨vc,E,M,tc,mv⟩:=s
    dsimp only at hm Rm bV hs dF fv C
    unfold sN at gJ
    dsimp only at gJ
    unfold wpOpIn
    split at gJ
    ·rename_i o ho
     simp only [ho]
     cases hd:fG sz o.dst with
     | false=>simp [hd] at gJ
     | true=>
      simp only [hd,cond_true] at gJ
      split at gJ
      ·rename_i hw
       have er:=j4 (ops:=ops) size hs hw
       simp only [er,if_true]
       split at gJ
       ·rename_i out a8
        cases hc:(xf rd out.tc&&Nat.ble M.length out.M.length) with
        | false=>simp [hc] at gJ
        | true=>
         simp only [hc,cond_true,Option.some.injEq] at gJ;subst gJ
         simp only [Bool.and_eq_true] at hc
         have hlen:=Nat.le_of_ble_eq_true hc.2
         have kW:=(aU.app.1 dV).2
         have nJ:=(ob (P:=P) hT cA (d:=o.dst) (ty:=o.type) (pos:=o.pos) (aft:=o.after) (gd:=o.guard) a8).o1 C kW
         refine aQ.wp nJ ?_
         rintro v w' ⟨au,F',I',R',e,hI,hF,mD⟩
         have hk:=tY (ρ:=a.eval) e hs
         obtain ⟨e1,e2,e3⟩:=RE.put size (defers.grow hI) (fun t v hx=>(hk t v hx).mono (fun w hw=>⟨hw.1,hI.holds w hw.2⟩) (Ext.refl _)) hd mD
         refine ih (L.setIfInBounds j true) _ _ Rk au F' I' (a.put o.dst v) w' h1 e1 e2 (Nat.le_trans hm hlen) R' (bV.step hm e hI hF) e3 (fun u hu=>Nat.lt_of_lt_of_le (dF u hu) hlen) (fun w hw=>fv w ⟨⟨hw.1.1,hI.holds w hw.1.2⟩,fun u hu=>?_⟩) fun s' dU=>k s' (h2 s' dU)
         have xY:u ∉ out.tc:=by
          have:=List.all_eq_true.1 hc.1 u hu
          simpa using this
         rw [← hF u (dF u hu) xY];exact hw.2 u hu
       ·cases gJ
      ·rename_i hw
       simp only [Option.some.injEq] at gJ;subst gJ
       have er:=j4 (ops:=ops) size hs hw
       simp only [er,Bool.false_eq_true,if_false]
       obtain ⟨e1,e2,e3⟩:=RE.put (E:=E) size defers hs hd (.d (.v undef))
       exact ⟨fun _ _=>trivial,ih (L.setIfInBounds j true) _ _ Rk β F I (a.put o.dst undef) w h1 e1 e2 hm Rm bV e3 dF fv fun s' dU=>k s' (h2 s' dU)⟩
      ·cases gJ
    ·cases gJ
   ·cases h1
theorem KS (hT:aR P T=true) (cA:iV P cl) (hm:P.follows .mixedOrders=true) (hK:∀ w,Kp D w0 w→K0 w) (hQ:∀ d v c a w,Q (.panic c) (Act.put a d v) w→Q (.panic c) a w) {b:eb} {s:RS} (R:cZ mk D w0 K0 sz b s a w) (oc:List (Nat×aO)) {nl:List Nat} {id:Nat} {l:List RS} (gF:Region.noSelect ops=true)
  (h:kg P T cl sz ops oc nl ops.size (Array.replicate ops.size false) [] s=some l) (k:∀ s' ∈ l,aU s'.vc∧∀ a' w',cZ mk D w0 K0 sz b s' a' w'→Q .normal a' w'):(Code.region id ops true).wpIn (Fl ro) 0 P Q a w:=by
 refine wpIn_region_any hm ?_
 obtain ⟨size,I,defers,hb,β,F,Rm,bV,hs⟩:=R
 have hg:=Gr.drew w
 exact (FY hT cA hK gF hQ ops.size _ [] s (fun _=>True) β F I a w.drew h size defers hb (Rm.gr hg) bV hs (by simp) (fun _ _=>trivial) k).to
def oe (ts:List Nat):List (List Nat)→List RS→Option (List Prop×List (List (Nat×AV)×List ai))
 | [],[]=>some ([],[])
 | l::ls,s::r=>bif nodupB l then (match fu l s.M l,iT l s.E ts,oe ts ls r with
  | some M',some E',some (A,r')=>some (aU s.vc::A,(E',M')::r')
  | _,_,_=>none) else none
 | _,_=>none
theorem yI {ts:List Nat} {E':List (Nat×AV)} {M':List ai}:∀ {ls:List (List Nat)} {r:List RS} {A:List Prop} {o:List (List (Nat×AV)×List ai)},oe ts ls r=some (A,o)→(∀ x ∈ o,x=(E',M'))→aU A→∀ s ∈ r,aU s.vc∧∃ l,nodupB l=true∧fu l s.M l=some M'∧iT l s.E ts=some E'
 | [],[],_,_,_,_,_,s,hs=>by cases hs
 | [],_::_,_,_,h,_,_,_,_=>by simp [oe] at h
 | _::_,[],_,_,h,_,_,_,_=>by simp [oe] at h
 | l::ls,s::r,A,o,h,ho,hA,s',dU=>by
  unfold oe at h
  cases hn:nodupB l with
  | false=>simp [hn] at h
  | true=>
   simp only [hn,cond_true] at h
   split at h
   ·rename_i M1 E1 A1 r1 h1 h2 h3
    simp only [Option.some.injEq,Prod.mk.injEq] at h;obtain ⟨rfl,rfl⟩:=h
    have e:=ho _ List.mem_cons_self
    simp only [Prod.mk.injEq] at e;obtain ⟨rfl,rfl⟩:=e
    rcases List.mem_cons.1 dU with rfl | dU
    ·exact ⟨hA.1,l,hn,h1,h2⟩
    ·exact yI h3 (fun x hx=>ho x (List.mem_cons_of_mem _ hx)) hA.2 s' dU
   ·cases h
def Ad (P:Program) (T:aE) (sz:Nat) (tb:dh) (n:Nat) (nl:List Nat) (x2:List (List Nat)) (ts:List Nat) (todo:List Item) (E:List (Nat×AV)) (M:List ai):Option (List Item×Prop×List (List (Nat×AV)×List ai)):=
 match dn P T (walk P T 3) sz tb n todo ⟨[],E,M,[],[]⟩ with
 | some (.code (.region id ops true)::k,s)=>bif Region.noSelect ops then (match kg P T (walk P T 3) sz ops (xh tb id) nl ops.size (Array.replicate ops.size false) [] s with
  | some Ls=>(match oe ts x2 Ls with | some (A,o)=>some (k,aU A,o) | none=>none)
  | none=>none) else none
 | _=>none
theorem IF (hT:aR P T=true) (hm:P.follows .mixedOrders=true) (hK:∀ w,Kp D w0 w→K0 w) (tb:dh) (n m:Nat) (nl:List Nat) (x2:List (List Nat)) (ts:List Nat) {A:Prop} {E':List (Nat×AV)} {M':List ai} (r:ch mk D w0 K0 sz E M a w)
  (h:Ad P T sz tb n nl x2 ts todo E M=some (todo',A,List.replicate m (E',M'))) (hA:A) (k:∀ a' w',ch mk D w0 K0 sz E' M' a' w'→aC P f todo' R a' w'):aC P f todo R a w:=by
 unfold Ad at h
 split at h
 ·rename_i id ops k0 s hr
  cases hs:Region.noSelect ops with
  | false=>simp [hs] at h
  | true=>
   simp only [hs,cond_true] at h
   split at h
   ·rename_i Ls hL
    split at h
    ·rename_i A1 o ho
     simp only [Option.some.injEq,Prod.mk.injEq] at h;obtain ⟨rfl,rfl,rfl⟩:=h
     have hl:=yI ho (fun x hx=>List.eq_of_mem_replicate hx) hA
     obtain ⟨s1,h1,h2⟩:=tZ _ _ _ _ hL
     obtain ⟨b,rb⟩:=r.b []
     refine km hT (gW hT hm 3) hm hK n hr rb (h2 (hl s1 h1).1) fun a1 w1 r1=>aC.code ?_
     refine KS hT (gW hT hm 3) hm hK (by rintro d v c a w ⟨h,-⟩;cases h) r1 _ hs hL fun s' dU=>⟨(hl s' dU).1,fun a' w' r'=>⟨rfl,?_⟩⟩
     obtain ⟨-,l,g1,g2,g3⟩:=hl s' dU
     exact k a' w' (r'.re.lh g1 g2 g3)
    ·cases h
   ·cases h
 ·cases h
def A9 (P:Program) (T:aE) (sz:Nat) (tb:dh) (n:Nat) (l ts:List Nat) (todo:List Item) (E:List (Nat×AV)) (M:List ai):Option (List Item×Prop×List (Nat×AV)×List ai):=
 bif nodupB l then (match dn P T (walk P T 3) sz tb n todo ⟨[],E,M,[],[]⟩ with
 | some (t,s)=>kf l ts t s
 | none=>none) else none
theorem oV (hT:aR P T=true) (hm:P.follows .mixedOrders=true) (hK:∀ w,Kp D w0 w→K0 w) (tb:dh) (n:Nat) (l ts:List Nat) {A:Prop} {E':List (Nat×AV)} {M':List ai} (r:ch mk D w0 K0 sz E M a w)
  (h:A9 P T sz tb n l ts todo E M=some (todo',A,E',M')) (hA:A) (k:∀ a' w',ch mk D w0 K0 sz E' M' a' w'→aC P f todo' R a' w'):aC P f todo R a w:=by
 unfold A9 at h
 cases hn:nodupB l with
 | false=>simp [hn] at h
 | true=>
  simp only [hn,cond_true] at h
  split at h
  ·rename_i t s hr
   unfold kf at h
   split at h
   ·rename_i M1 E1 hM hE
    simp only [Option.some.injEq,Prod.mk.injEq] at h
    obtain ⟨rfl,rfl,rfl,rfl⟩:=h
    exact nK hT (gW hT hm 3) hm hK n hr r hA fun a' w' r'=>k a' w' (r'.lh hn hM hE)
   ·cases h
  ·cases h
def np (id:Nat):Code→List Item→List (List Item)
 | .seq x y,k=>np id x (.code y::k)++np id y k
 | .cond _ x y,k=>np id x k++np id y k
 | .block i c,k=>np id c (.inBlock i::k)
 | .loop c,k=>np id c (.inLoop c::k)
 | .region i _ _,k=>bif i.beq id then [k] else []
 | _,_=>[]
def aft (fn:Func) (id:Nat):List Item:=
 match fn.body with
 | some c=>(match np id c [] with | t::_=>t | []=>[])
 | none=>[]
end Go.Proofs.YtcnpikbbmbombaaDoor
namespace Go.Proofs.YtcnpikbbmbombaaDoor
open Go.RowKit
variable {mk:Bool} {P:Program} {T:aE} {f:FuncId} {R:eO} {a:Act} {w:World} {D:List Nat} {w0:World} {K0:World→Prop} {E:List (Nat×AV)} {M:List ai} {sz:Nat} {todo todo':List Item} {b:eb}
theorem ef.key (r:ef mk D w0 K0 sz b E M a w):∃ b',cZ mk D w0 K0 sz b' ⟨[],E,M,[],[]⟩ a w∧∀ {s:RS} {a':Act} {w':World} {M':List ai} {E':List (Nat×AV)} {l ts:List Nat},nodupB l=true→jA b.m l=true→ik b.m s.mv=true→fu l s.M l=some M'→iT l s.E ts=some E'→cZ mk D w0 K0 sz b' s a' w'→ef mk D w0 K0 sz b E' M' a' w':=by
 have hb:=r.1
 obtain ⟨b',rb,aI,hE,hG,fK⟩:=r.re
 exact ⟨b',rb,fun hn hs hf h3 h4 r'=>ef.from fK hb hE hG (r'.lh (by rw [aI,fK]) hn (by rw [fK];exact hs) (by rw [fK];exact hf) h3 h4)⟩
def Aw (P:Program) (T:aE) (sz m:Nat) (tb:dh) (n:Nat) (l ts:List Nat) (todo:List Item) (E:List (Nat×AV)) (M:List ai):Option (List Item×Prop×List (Nat×AV)×List ai):=
 bif nodupB l&&jA m l then (match dn P T (walk P T 3) sz tb n todo ⟨[],E,M,[],[]⟩ with
 | some (t,s)=>bif ik m s.mv then kf l ts t s else none
 | none=>none) else none
theorem bN (hT:aR P T=true) (hm:P.follows .mixedOrders=true) (hK:∀ w,Kp D w0 w→K0 w) {m:Nat} (al:b.m=m) (tb:dh) (n:Nat) (l ts:List Nat) {A:Prop} {E':List (Nat×AV)} {M':List ai} (r:ef mk D w0 K0 sz b E M a w)
  (h:Aw P T sz m tb n l ts todo E M=some (todo',A,E',M')) (hA:A) (k:∀ a' w',ef mk D w0 K0 sz b E' M' a' w'→aC P f todo' R a' w'):aC P f todo R a w:=by
 subst al
 obtain ⟨b',rb,key⟩:=r.key
 unfold Aw at h
 cases hn:(nodupB l&&jA b.m l) with
 | false=>simp [hn] at h
 | true=>
  simp only [hn,cond_true] at h
  simp only [Bool.and_eq_true] at hn
  split at h
  ·rename_i t s hr
   cases hf:ik b.m s.mv with
   | false=>simp [hf] at h
   | true=>
    simp only [hf,cond_true] at h
    obtain ⟨rfl,rfl,hM,hE⟩:=n5 h
    exact km hT (gW hT hm 3) hm hK n hr rb hA fun a' w' r'=>k a' w' (key hn.1 hn.2 hf hM hE r')
  ·cases h
end Go.Proofs.YtcnpikbbmbombaaDoor
namespace Go.Proofs.YtcnpikbbmbombaaDoor
open Go.RowKit
variable {mk:Bool} {P:Program} {f:FuncId}
def Le (x x':DV):Prop:=∀ (K:World→Prop) (y:Value) (H:ak),bB K x y H→bB K x' y H
theorem Le.refl (x:DV):Le x x:=fun _ _ _ h=>h
theorem Le.Ba (T k:Nat):Le (.v (.slice none 0 0)) (.em T k []):=by
 intro K y H h
 cases h
 have:bB K (.em T k []) (.slice none 0 0) ([]++bk ([]:List (List DV)).length k fun _ _=>[]):=.em (fun _=>[]) (fun _ _=>[]) (by simp) (by simpa [lay] using dy.nil T k none) (by simp)
 simpa [bk] using this
theorem Le.Bb (k:Nat):Le (.v (.slice none 0 0)) (.ro k []):=by
 intro K y H h
 cases h
 exact .ro (fun _=>[]) (by simp) ⟨none,0,rfl,Nat.le_refl _⟩ (fun w _=>by simpa [lay] using (dy.nil 0 k none).src (Holds.nil w)) (by simp)
theorem Le.ag {l l':List DV} (hl:l.length=l'.length) (h:∀ (j:Nat) c c',l[j]?=some c→l'[j]?=some c'→Le c c'):Le (.ag l) (.ag l'):=by
 intro K y H r
 cases r with
 | ag ys F my hr=>
  rw [hl]
  refine .ag ys F (by omega) fun j c z h1 h2=>?_
  have hj:j<l.length:=by rw [hl];exact (List.getElem?_eq_some_iff.1 h1).1
  exact h j _ c (List.getElem?_eq_getElem hj) h1 K z _ (hr j _ z (List.getElem?_eq_getElem hj) h2)
theorem Le.tu {l l':List DV} (hl:l.length=l'.length) (h:∀ (j:Nat) c c',l[j]?=some c→l'[j]?=some c'→Le c c'):Le (.tu l) (.tu l'):=by
 intro K y H r
 cases r with
 | tu ys F my hr=>
  rw [hl]
  refine .tu ys F (by omega) fun j c z h1 h2=>?_
  have hj:j<l.length:=by rw [hl];exact (List.getElem?_eq_some_iff.1 h1).1
  exact h j _ c (List.getElem?_eq_getElem hj) h1 K z _ (hr j _ z (List.getElem?_eq_getElem hj) h2)
theorem ay.le {args:List AV} {x x':DV} (h:ay P f args x) (e:Le x x'):ay P f args x':=by
 refine ⟨h.1,fun w K ys hK hl hr=>(h.2 w K ys hK hl hr).mono ?_⟩
 rintro ed w' ⟨v,rfl,g,H,⟨Ho,Hi,rfl,hd⟩,n⟩
 exact ⟨_,rfl,g,_,⟨Ho,Hi,rfl,e _ _ _ hd⟩,n⟩
inductive cS:List DV→List DV→Prop where
 | nil:cS [] []
 | cons {x x':DV} {l l':List DV} (h:Le x x') (t:cS l l'):cS (x::l) (x'::l')
theorem cS.ok {l l':List DV} (h:cS l l'):l.length=l'.length∧∀ (j:Nat) c c',l[j]?=some c→l'[j]?=some c'→Le c c':=by
 induction h with
 | nil=>simp
 | cons h t ih=>
  refine ⟨by simp [ih.1],fun j c c' h1 h2=>?_⟩
  cases j with
  | zero=>simp at h1 h2;subst h1 h2;exact h
  | succ j=>exact ih.2 j c c' (by simpa using h1) (by simpa using h2)
theorem cS.tu {l l':List DV} (h:cS l l'):Le (.tu l) (.tu l'):=Le.tu h.ok.1 h.ok.2
end Go.Proofs.YtcnpikbbmbombaaDoor
namespace Go.Proofs.YtcnpikbbmbombaaDoor
open Go.RowKit
variable {mk:Bool} {P:Program} {T:aE} {f:FuncId} {a:Act} {w:World} {D:List Nat} {w0:World} {K0:World→Prop} {E E1:List (Nat×AV)} {M M1 M2:List ai} {β:Beta} {F:Nat→ak} {I X:ak} {sz:Nat} {b:eb}
def KT:List Nat→List ai→Option (List ai)
 | [],M=>some M
 | u::r,M=>match M[u]? with
  | some (.rw T k rows)=>KT r (M.set u (.rw T k (b9 rows)))
  | _=>none
theorem RM.Bc (R:RM D w0 K0 M β F I w) {v n T k:Nat} {rows:List (List DV)} (hv:M[v]?=some (.rw T k rows)) (hn:n=rows.length):∃ F' I',RM D w0 K0 (M.set v .dead) β F' I' w∧bE I I'∧∀ y,ao (fun w=>K0 w∧Holds w I) β (.sl v n) y→ao (fun w=>K0 w∧Holds w I') β (.d (.ro k (b9 rows))) y:=by
 have R1:=R.x.eJ hv
 rw [List.nil_append] at R1
 have hB:=R.blk v _ hv
 refine ⟨aD F v [],F v++I,⟨R1.len,fun u bl hu=>(R1.blk u bl hu).mono (fun w hw=>⟨hw.1,(Holds.app.1 hw.2).2⟩) (Ext.refl _),R1.st.perm (List.Perm.append_left _ List.perm_append_comm)⟩,⟨F v,rfl⟩,fun y r=>?_⟩
 generalize F v=Fv at hB ⊢
 cases r with
 | sl hb=>
  cases hB with
  | rw aI X G hl hs hr=>
   rw [hb] at aI;cases aI
   have hd:=bB.em (K:=fun w=>K0 w∧Holds w I) X G hl hs hr
   have:=rK (K':=fun w=>K0 w∧Holds w (_++I)) hd fun w hw=>⟨⟨hw.1,(Holds.app.1 hw.2).2⟩,(Holds.app.1 hw.2).1⟩
   rw [dS] at this
   rw [hn]
   exact .d this
def qQ:List Nat→List (Nat×AV)→List ai→Option (List Prop×List (Nat×AV)×List ai)
 | [],E,M=>some ([],E,M)
 | t::r,E,M=>match bM E t with
  | some (.sl v n)=>(match M[v]? with
   | some (.rw _ k rows)=>(match qQ r (oU E t (.d (.ro k (b9 rows)))) (M.set v .dead) with | some (p,E',M')=>some ((n=rows.length)::p,E',M') | none=>none)
   | _=>none)
  | _=>none
def qR:List (Nat×Nat)→List ai→Option (List Prop×List ai)
 | [],M=>some ([],M)
 | (u,o)::r,M=>match M[u]? with
  | some (.bx Tb cells)=>(match cells[o]? with
   | some (.sl v n)=>(match M[v]? with
    | some (.rw _ k rows)=>(match qR r ((M.set v .dead).set u (.bx Tb (cells.set o (.d (.ro k (b9 rows)))))) with | some (p,M')=>some ((n=rows.length)::p,M') | none=>none)
    | _=>none)
   | _=>none)
  | _=>none
theorem Ax {ev:Nat→Value}:∀ {ls:List Nat} {E:List (Nat×AV)} {M:List ai} {F:Nat→ak} {I:ak} {p:List Prop},qQ ls E M=some (p,E1,M1)→aU p→RM D w0 K0 M β F I w→(∀ t v,bM E t=some v→ao (fun w=>K0 w∧Holds w I) β v (ev t))→
  ∃ F' I',RM D w0 K0 M1 β F' I' w∧bE I I'∧∀ t v,bM E1 t=some v→ao (fun w=>K0 w∧Holds w I') β v (ev t)
 | [],E,M,F,I,p,h,_,R,hs=>by
  simp only [qQ,Option.some.injEq,Prod.mk.injEq] at h;obtain ⟨-,rfl,rfl⟩:=h
  exact ⟨F,I,R,bE.refl I,hs⟩
 | t::r,E,M,F,I,p,h,hp,R,hs=>by
  unfold qQ at h
  split at h
  ·rename_i v n ht
   split at h
   ·rename_i T k rows hv
    split at h
    ·rename_i p' E' M' hr
     simp only [Option.some.injEq,Prod.mk.injEq] at h;obtain ⟨rfl,e1,e2⟩:=h
     rw [e1,e2] at hr
     obtain ⟨F2,I2,R2,g,hA⟩:=R.Bc hv hp.1
     suffices h9:∀ s x,bM (oU E t (.d (.ro k (b9 rows)))) s=some x→ao (fun w=>K0 w∧Holds w I2) β x (ev s) by
      obtain ⟨F',I',q1,q2,q3⟩:=Ax (ev:=ev) hr hp.2 R2 h9
      exact ⟨F',I',q1,g.trans q2,q3⟩
     intro s x hx
     rcases uI hx with ⟨rfl,rfl,-⟩ | ⟨-,h2⟩
     ·exact hA _ (hs _ _ ht)
     ·exact (hs s x h2).mono (fun w hw=>⟨hw.1,g.holds w hw.2⟩) (Ext.refl _)
    ·cases h
   ·cases h
  ·cases h
theorem Ay:∀ {lc:List (Nat×Nat)} {M:List ai} {F:Nat→ak} {I:ak} {p:List Prop},qR lc M=some (p,M1)→aU p→RM D w0 K0 M β F I w→∃ F' I',RM D w0 K0 M1 β F' I' w∧bE I I'
 | [],M,F,I,p,h,_,R=>by
  simp only [qR,Option.some.injEq,Prod.mk.injEq] at h;obtain ⟨-,rfl⟩:=h
  exact ⟨F,I,R,bE.refl I⟩
 | (u,o)::r,M,F,I,p,h,hp,R=>by
  unfold qR at h
  split at h
  ·rename_i Tb cells hu
   split at h
   ·rename_i v n ho
    split at h
    ·rename_i T k rows hv
     split at h
     ·rename_i p' M' hr
      simp only [Option.some.injEq,Prod.mk.injEq] at h;obtain ⟨rfl,e1⟩:=h
      rw [e1] at hr
      have qC:v≠u:=fun e=>by subst e;rw [hu] at hv;cases hv
      obtain ⟨F2,I2,R2,g,hA⟩:=R.Bc hv hp.1
      have hB:=R.blk u _ hu
      obtain ⟨aF,-⟩:=List.getElem?_eq_some_iff.1 hu
      have CL:(M.set v .dead)[u]?=some (.bx Tb cells):=by rw [List.getElem?_set,if_neg qC];exact hu
      have ja:=R2.blk u _ CL
      have fq:bg (fun w=>K0 w∧Holds w I2) β u (.bx Tb (cells.set o (.d (.ro k (b9 rows))))) (F2 u):=by
       have a8:∀ {G:ak},bg (fun w=>K0 w∧Holds w I2) β u (.bx Tb cells) G→G=F2 u→bg (fun w=>K0 w∧Holds w I) β u (.bx Tb cells) (F u)→F2 u=F u→bg (fun w=>K0 w∧Holds w I2) β u (.bx Tb (cells.set o (.d (.ro k (b9 rows))))) (F2 u):=by
        intro G _ _ h3 h4
        rw [h4]
        generalize F u=Fu at h3 ⊢
        cases h3 with
        | bx hb ys hl ju=>
         refine .bx hb ys (by rw [List.length_set];exact hl) fun j c y h1 h2=>?_
         rw [List.getElem?_set] at h1
         split at h1
         ·rename_i hj;subst hj
          split at h1
          ·simp only [Option.some.injEq] at h1;subst h1
           exact hA _ (ju _ _ _ ho h2)
          ·cases h1
         ·exact (ju j c y h1 h2).mono (fun w hw=>⟨hw.1,g.holds w hw.2⟩) (Ext.refl _)
       have ks:F2 u=F u:=by
        generalize hq:F2 u=q at ja
        generalize L7:F u=q0 at hB
        cases ja with
        | bx hb ys hl ju=>
         cases hB with
         | bx aI Nw cH BV=>
          rw [hb] at aI;cases aI
          have h1:Holds w (F2 u):=R2.hC CL
          have h2:Holds w (F u):=R.hC hu
          rw [hq] at h1;rw [L7] at h2
          have e1:=h1.one
          have e2:=h2.one
          rw [e1] at e2
          simp only [Option.some.injEq,Obj.cells.injEq] at e2
          rw [e2.1]
       exact a8 ja rfl hB ks
      have R3:RM D w0 K0 ((M.set v .dead).set u (.bx Tb (cells.set o (.d (.ro k (b9 rows)))))) β F2 I2 w:=by
       refine ⟨by rw [List.length_set];exact R2.len,fun x bl hx=>?_,by rw [List.length_set];exact R2.st⟩
       rw [List.getElem?_set] at hx
       split at hx
       ·rename_i e;subst e
        split at hx
        ·simp only [Option.some.injEq] at hx;subst hx;exact fq
        ·cases hx
       ·exact R2.blk x bl hx
      obtain ⟨F4,I4,R4,g4⟩:=Ay hr hp.2 R3
      exact ⟨F4,I4,R4,g.trans g4⟩
     ·cases h
    ·cases h
   ·cases h
  ·cases h
theorem ch.stay {E2:List (Nat×AV)} {M3:List ai} {p1 p2:List Prop} (r:ch mk D w0 K0 sz E M a w) (ls:List Nat) (lc:List (Nat×Nat)) (h:qQ ls E M=some (p1,E1,M1)) (h2:qR lc M1=some (p2,M2)) (q1:aU p1) (q2:aU p2) (e:E1=E2) (e2:M2=M3):ch mk D w0 K0 sz E2 M3 a w:=by
 subst e e2
 obtain ⟨g1,I,g2,β,F,R,hs⟩:=r
 obtain ⟨F1,I1,R1,gI,s1⟩:=Ax (ev:=fun t=>a.eval (.tmp t)) h q1 R hs
 obtain ⟨F2,I2,R2,g⟩:=Ay h2 q2 R1
 exact ⟨g1,I2,(g2.grow gI).grow g,β,F2,R2,fun t v hv=>(s1 t v hv).mono (fun w hw=>⟨hw.1,g.holds w hw.2⟩) (Ext.refl _)⟩
end Go.Proofs.YtcnpikbbmbombaaDoor
namespace Go.Proofs.YtcnpikbbmbombaaDoor
open Go.RowKit Go.Deep
theorem yJ {H:Type} {enc:TypeId×Value→H} {P:Program} (hl:laidOutB P=true) {W W':World} (g:Gr W W'):∀ {ts:List TypeId} {vs:List Value} {ds:List (DataW H)} {ps:List MemPlace},(∀ t ∈ ts,P.readableRec t=true∧t<P.types.size)→DataW.TrodAll enc P W 0 (fun _=>true) true ts vs ds ps→(∀ x ∈ ps,x.block<W.heap.size)→DataW.TrodAll enc P W' 0 (fun b=>decide (b<W.heap.size)) true ts vs ds ps
 | [],[],[],_,_,h,_=>h
 | [],_::_,_,_,_,h,_=>h.elim
 | [],[],_::_,_,_,h,_=>h.elim
 | _::_,[],_,_,_,h,_=>h.elim
 | _::_,_::_,[],_,_,h,_=>h.elim
 | t::ts,v::vs,d::ds,ps,ht,h,hp=>by
  obtain ⟨p,q,h1,h2,rfl⟩:=h
  refine ⟨p,q,Below.trod hl (ht t (by simp)).1 (ht t (by simp)).2 h1 g (fun x hx=>hp x (by simp [hx])),yJ hl g (fun t' h'=>ht t' (by simp [h'])) h2 (fun x hx=>hp x (by simp [hx])),rfl⟩
theorem FZ {H:Type} {enc:TypeId×Value→H} {P:Program} {f:Func} {s:ChangeSpec} {W W':World} {args:Array Value} {ds gs:List (DataW H)} {before:List MemPlace} {tb:TypeId} (hl:laidOutB P=true)
  (hp:f.params.toList.all (fun t=>P.readableRec t&&decide (t<P.types.size))=true) (hr:f.resultTypes=#[tb]) (ht:P.underlying tb=some .bool) (hv:s.vars=[])
  (hW:DataW.Whole enc P f.params.toList s.vars false W args.toList ds gs before) (mF:s.fn H (ds++gs)={ results:=[.lit (.bool true)],args:=ds }) (g:Gr W W'):s.post enc P f false true false false W args (.bool true) W':=by
 have x3:=hW
 have aF:=hW.lt
 obtain ⟨p,q,hA,hV,rfl,L8,fM⟩:=hW
 rw [hv] at hV
 match gs,hV with
 | [],hV=>
  cases hV
  refine ⟨ds,[],_,[],p,[],x3,?_,?_,?_,?_,fun h=>by cases h⟩
  ·rw [mF,hr]
   exact ⟨[],[],⟨1,by simp [DataW.trod,ht,Value.cells]⟩,rfl,rfl⟩
  ·rw [mF]
   refine yJ hl g (fun t h=>?_) hA (fun x hx=>aF x (by simp [hx]))
   have:=List.all_eq_true.1 hp t h
   simpa using this
  ·rw [mF,hv];rfl
  ·exact Below.frame g _
def TR (P:Program) (w:World) (t:TypeId) (cs:List Value):Prop:=∃ (H:Type) (enc:TypeId×Value→H) (base:Nat) (sp:Nat→Bool) (held:Bool) (fuel:Nat) (x:DataW H×List MemPlace),DataW.trod enc P w base sp held fuel t cs=some x
theorem TR.of {H:Type} {enc:TypeId×Value→H} {P:Program} {w:World} {base:Nat} {sp:Nat→Bool} {held:Bool} {t:TypeId} {v:Value} {d:DataW H} {ps:List MemPlace} (h:DataW.Trod enc P w base sp held t v d ps):TR P w t v.cells.toList:=by
 obtain ⟨n,h⟩:=h;exact ⟨H,enc,base,sp,held,n,_,h⟩
section
variable {P:Program} {w:World} {t e:TypeId} {cs:List Value}
theorem TR.int {k:IntKind} (ht:P.underlying t=some (.int k)) (h:TR P w t cs):∃ n,cs=[.int k n]∧(Lit.int k n).wf=true:=by
 obtain ⟨H,enc,base,sp,held,fuel,x,h⟩:=h
 cases fuel with
 | zero=>simp [DataW.trod] at h
 | succ fuel=>
  rw [DataW.trod_step] at h;unfold DataW.trodStep at h;simp only [ht] at h
  split at h<;>simp_all
theorem cells?_some {base:Nat} {a:Addr} {n:Nat} {X:List Value} (h:w.cells? base a n=some X):X.length=n∧∀ j (hj:j<X.length),w.cell? (a.add j)=some X[j]:=by
 obtain ⟨_,h1,h2⟩:=World.cells?_some h
 exact ⟨h1,fun j hj=>by rw [h2 j (by omega)];exact List.getElem?_eq_getElem hj⟩
theorem ua {X:Nat→List Value} {c:Nat}:∀ {n:Nat},(∀ i,i<n→(X i).length=c)→((List.range n).flatMap X).length=n*c
 | 0,_=>by simp
 | k+1,h=>by rw [List.range_succ,List.flatMap_append,List.length_append,ua (n:=k) (fun i hi=>h i (by omega))];simp [h k (by omega),Nat.succ_mul]
theorem TR.F5 (ht:P.underlying t=some (.slice e)) (h:TR P w t cs):∃ (v:Value) (n:Nat) (X:Nat→List Value),cs=[v]∧n≤maxLen∧(∀ i,i<n→(X i).length=P.cellsOf e∧TR P w e (X i))∧Src w (P.cellsOf e) v n ((List.range n).flatMap X)∧∃ a c,v=.slice a n c∧n≤c:=by
 obtain ⟨H,enc,base,sp,held,fuel,x,h⟩:=h
 rcases open_slice ht h with ⟨rfl,_⟩ | ⟨a,len,cap,m,n,D,Pl,rfl,_,L9,M4,hm,_,hx⟩
 ·exact ⟨_,0,fun _=>[],rfl,by simp [maxLen],fun i hi=>by omega,by simp [Src],_,_,rfl,Nat.zero_le _⟩
 ·have hle:len≤m:=by rw [hm];split<;>omega
  obtain ⟨X,hX⟩:=choose_lt (n:=len) (α:=List Value) (p:=fun i c=>w.cells? base (a.add (i*P.cellsOf e)) (P.cellsOf e)=some c∧DataW.trod enc P w base sp held n e c=some (D i,Pl i)) (fun i hi=>hx i (by omega))
  have hlen:∀ i,i<len→(X i).length=P.cellsOf e:=fun i hi=>(cells?_some (hX i hi).1).1
  refine ⟨_,len,X,rfl,by omega,fun i hi=>⟨hlen i hi,H,enc,base,sp,held,n,_,(hX i hi).2⟩,⟨?_,?_⟩,⟨a,cap,rfl,L9⟩⟩
  ·exact ua hlen
  ·refine Or.inr ⟨a,cap,rfl,?_⟩
   have key:∀ k,k≤len→∀ j (hj:j<((List.range k).flatMap X).length),w.cell? (a.add j)=some ((List.range k).flatMap X)[j]:=by
    intro k
    induction k with
    | zero=>intro _ j hj;simp at hj
    | succ k ih=>
     intro hk j hj
     have Nx:((List.range k).flatMap X).length=k*P.cellsOf e:=ua (fun i hi=>hlen i (by omega))
     have hE:(List.range (k+1)).flatMap X=(List.range k).flatMap X++X k:=by rw [List.range_succ,List.flatMap_append];simp
     have x4:j<((List.range k).flatMap X++X k).length:=by rw [← hE];exact hj
     have JT:((List.range (k+1)).flatMap X)[j]=((List.range k).flatMap X++X k)[j]:=by congr 1
     rw [JT]
     by_cases h1:j<((List.range k).flatMap X).length
     ·rw [List.getElem_append_left h1];exact ih (by omega) j h1
     ·rw [List.getElem_append_right (by omega)]
      have h2:=(cells?_some (hX k (by omega)).1).2 (j-((List.range k).flatMap X).length) (by rw [List.length_append] at x4;omega)
      rw [← h2,Addr.mN]
      congr 2
      omega
   exact key len (Nat.le_refl _)
end
end Go.Proofs.YtcnpikbbmbombaaDoor
namespace Go.Proofs.YtcnpikbbmbombaaDoor
open Go.RowKit Go.Deep
def qS (w:World) (l:List DV) (cs:List Value):Prop:=cs.length=l.length∧∀ (j:Nat) c v,l[j]?=some c→cs[j]?=some v→bB (Gr w) c v []
theorem qS.one {w:World} {c:DV} {v:Value} (h:bB (Gr w) c v []):qS w [c] [v]:=⟨rfl,fun j c' v' h1 h2=>by
 cases j with
 | zero=>simp at h1 h2;subst h1 h2;exact h
 | succ j=>simp at h1⟩
def Rd (P:Program) (w:World) (t:TypeId) {α:Type} (row:α→List DV) (ok:α→Prop):Prop:=∀ cs,TR P w t cs→∃ x,ok x∧qS w (row x) cs
variable {P:Program} {w:World} {t e:TypeId} {α β γ:Type}
theorem Rd.byte (h:P.underlying t=some (.int .u8)):Rd P w t (fun b:UInt8=>[.v (.int .u8 (b.toNat:Int))]) fun _=>True:=fun cs hc=>by
 obtain ⟨n,rfl,hw⟩:=hc.int h
 have dv:(0:Int)≤n∧n≤255:=by simpa [Lit.wf,IntKind.min,IntKind.max,IntKind.signed,IntKind.bits] using hw
 have e:n=(((UInt8.ofNat n.toNat).toNat:Nat):Int):=by simp;omega
 refine ⟨UInt8.ofNat n.toNat,trivial,.one ?_⟩
 rw [← e];exact .v _
theorem Rd.slice [Inhabited α] {k:Nat} {row:α→List DV} {ok:α→Prop} (h:P.underlying t=some (.slice e)) (hk:P.cellsOf e=k) (hr:Rd P w e row ok):Rd P w t (fun l:List α=>[.ro k (l.map row)]) fun l=>l.length≤9223372036854775807∧∀ x ∈ l,ok x:=fun cs hc=>by
 subst hk
 obtain ⟨v,n,X,rfl,hn,hX,hs,dm⟩:=TR.F5 h hc
 obtain ⟨Y,hY⟩:=choose_lt (n:=n) (α:=α) (p:=fun i x=>ok x∧qS w (row x) (X i)) fun i hi=>hr _ (hX i hi).2
 have hg:∀ (i:Nat) r,(((List.range n).map Y).map row)[i]?=some r→i<n∧r=row (Y i):=fun i r hi=>by
  have aF:=(List.getElem?_eq_some_iff.1 hi).1
  simp at aF
  simp [aF] at hi
  exact ⟨aF,hi.symm⟩
 have hl:(((List.range n).map Y).map row).length=n:=by simp
 refine ⟨(List.range n).map Y,⟨by simp;exact Nat.le_trans hn (by decide),?_⟩,.one (.ro X (fun i r hi=>?_) ?_ (fun w' g=>?_) fun i r j c x h1 h2 h3=>?_)⟩
 ·intro x hx
  obtain ⟨i,hi,rfl⟩:=List.mem_map.1 hx
  exact (hY i (by simpa using hi)).1
 ·obtain ⟨qT,rfl⟩:=hg i r hi
  refine ⟨?_,(hX i qT).1⟩
  rw [← (hX i qT).1];exact (hY i qT).2.1.symm
 ·rw [hl];exact dm
 ·rw [hl];exact hs.gr g
 ·obtain ⟨qT,rfl⟩:=hg i r h1
  exact (hY i qT).2.2 j c x h2 h3
end Go.Proofs.YtcnpikbbmbombaaDoor
namespace Go.Proofs
open Go.Shelf
def Tryd.Du:Go.Shelf.Ren:=⟨fun | 137=>68 | 217=>79 | 266=>92 | n=>n,fun | 9=>9 | 5=>5 | 3=>3 | n=>n,fun | n=>n⟩
theorem Tryd.Hl:Go.Proofs.Lays.n137 Tryd.prog Tryd.Du:={
 mixed:=by kernel_rfl
 f137:=Tryd.func68.trans (congrArg some (by kernel_rfl))
 f217:=Tryd.func79.trans (congrArg some (by kernel_rfl))
 f266:=Tryd.func92.trans (congrArg some (by kernel_rfl))
 t3:=Tryd.underlying3
 a3:=Tryd.isAgg3
 z3:=Tryd.sizeOf3
 v3:=Tryd.zeroValue3
 t5:=Tryd.underlying5
 a5:=Tryd.isAgg5
 z5:=Tryd.sizeOf5
 v5:=Tryd.zeroValue5
 t9:=Tryd.underlying9
 a9:=Tryd.isAgg9
 z9:=Tryd.sizeOf9
 v9:=Tryd.zeroValue9 }
open Go.RowKit in
theorem Tryd.strings_IndexByte (s:ByteArray) (c:Int) (w:World):
  Calls Tryd.prog 68 #[.string s,.int .u8 c] w fun e w'=>e=.returned (.int .i64 (Lib.indexByte s.data.toList c.toNat.toUInt8))∧w'=w:=Any.strings_IndexByte Tryd.Hl s c w
def Tryd.Dv:Go.Shelf.Ren:=⟨fun | 129=>82 | n=>n,fun | 53=>43 | 3=>3 | 4=>4 | 46=>118 | 5=>5 | 9=>9 | n=>n,fun | n=>n⟩
theorem Tryd.Hm:Go.Proofs.Lays.n129 Tryd.prog Tryd.Dv:={
 mixed:=by kernel_rfl
 f129:=Tryd.func82.trans (congrArg some (by kernel_rfl))
 t3:=Tryd.underlying3
 a3:=Tryd.isAgg3
 z3:=Tryd.sizeOf3
 v3:=Tryd.zeroValue3
 t4:=Tryd.underlying4
 a4:=Tryd.isAgg4
 z4:=Tryd.sizeOf4
 v4:=Tryd.zeroValue4
 t5:=Tryd.underlying5
 a5:=Tryd.isAgg5
 z5:=Tryd.sizeOf5
 v5:=Tryd.zeroValue5
 t9:=Tryd.underlying9
 a9:=Tryd.isAgg9
 z9:=Tryd.sizeOf9
 v9:=Tryd.zeroValue9
 t46:=Tryd.underlying118
 a46:=Tryd.isAgg118
 z46:=Tryd.sizeOf118
 v46:=Tryd.zeroValue118
 t53:=Tryd.underlying43
 a53:=Tryd.isAgg43
 z53:=Tryd.sizeOf43
 v53:=Tryd.zeroValue43 }
theorem Tryd.bits_Len64 (x:Int) (w:World) (h0:0≤x) (h1:x≤18446744073709551615):
  Calls Tryd.prog 82 #[.int .u64 x] w fun e w'=>e=.returned (.int .i64 (Lib.bitLen x.toNat))∧w'=w:=Any.bits_Len64 Tryd.Hm x w h0 h1
def Tryd.Dw:Go.Shelf.Ren:=⟨fun | 317=>81 | n=>n,fun | 3=>3 | 46=>118 | n=>n,fun | n=>n⟩
theorem Tryd.Hn:Go.Proofs.Lays.n317 Tryd.prog Tryd.Dw:={
 mixed:=by kernel_rfl
 f317:=Tryd.func81.trans (congrArg some (by kernel_rfl))
 t3:=Tryd.underlying3
 a3:=Tryd.isAgg3
 z3:=Tryd.sizeOf3
 v3:=Tryd.zeroValue3
 t46:=Tryd.underlying118
 a46:=Tryd.isAgg118
 z46:=Tryd.sizeOf118
 v46:=Tryd.zeroValue118 }
open Go.Lib in
theorem Tryd.internal_strconv_log10Pow2 (x:Nat) (h:x≤64) (w:World):
  Calls Tryd.prog 81 #[.int .i64 x] w fun e w'=>e=.returned (.int .i64 (Lib.l10 x))∧w'=w:=Any.internal_strconv_log10Pow2 Tryd.Hn x h w
def Tryd.Dx:Go.Shelf.Ren:=⟨fun | 318=>83 | n=>n,fun | 3=>3 | 4=>4 | n=>n,fun | n=>n⟩
theorem Tryd.Hq:Go.Proofs.Lays.n318 Tryd.prog Tryd.Dx:={
 mixed:=by kernel_rfl
 f318:=Tryd.func83.trans (congrArg some (by kernel_rfl))
 t3:=Tryd.underlying3
 a3:=Tryd.isAgg3
 z3:=Tryd.sizeOf3
 v3:=Tryd.zeroValue3
 t4:=Tryd.underlying4
 a4:=Tryd.isAgg4
 z4:=Tryd.sizeOf4
 v4:=Tryd.zeroValue4 }
open Go.Lib in
theorem Tryd.internal_strconv_bool2_int (b:Bool) (w:World):
  Calls Tryd.prog 83 #[.bool b] w fun e w'=>e=.returned (.int .i64 (if b then 1 else 0))∧w'=w:=Any.internal_strconv_bool2_int Tryd.Hq b w
def Tryd.Dy:Go.Shelf.Ren:=⟨fun | 283=>71 | n=>n,fun | 3=>3 | 9=>9 | 4=>4 | n=>n,fun | n=>n⟩
theorem Tryd.Hr:Go.Proofs.Lays.n283 Tryd.prog Tryd.Dy:={
 mixed:=by kernel_rfl
 f283:=Tryd.func71.trans (congrArg some (by kernel_rfl))
 t3:=Tryd.underlying3
 a3:=Tryd.isAgg3
 z3:=Tryd.sizeOf3
 v3:=Tryd.zeroValue3
 t4:=Tryd.underlying4
 a4:=Tryd.isAgg4
 z4:=Tryd.sizeOf4
 v4:=Tryd.zeroValue4
 t9:=Tryd.underlying9
 a9:=Tryd.isAgg9
 z9:=Tryd.sizeOf9
 v9:=Tryd.zeroValue9 }
open Go.Lib in
theorem Tryd.internal_strconv_small (i:Nat) (h:i<100) (w:World):
  Calls Tryd.prog 71 #[.int .i64 i] w fun e w'=>e=.returned (.string ⟨(Lib.decDigits i).toArray⟩)∧w'=w:=Any.internal_strconv_small Tryd.Hr i h w
def Tryd.Dz:Go.Shelf.Ren:=⟨fun | 285=>73 | n=>n,fun | 37=>29 | 53=>43 | 3=>3 | 4=>4 | 51=>140 | 9=>9 | 5=>5 | 0=>0 | n=>n,fun | n=>n⟩
theorem Tryd.Hs:Go.Proofs.Lays.n285 Tryd.prog Tryd.Dz:={
 mixed:=by kernel_rfl
 f285:=Tryd.func73.trans (congrArg some (by kernel_rfl))
 t0:=Tryd.underlying0
 a0:=Tryd.isAgg0
 z0:=Tryd.sizeOf0
 v0:=Tryd.zeroValue0
 t3:=Tryd.underlying3
 a3:=Tryd.isAgg3
 z3:=Tryd.sizeOf3
 v3:=Tryd.zeroValue3
 t4:=Tryd.underlying4
 a4:=Tryd.isAgg4
 z4:=Tryd.sizeOf4
 v4:=Tryd.zeroValue4
 t5:=Tryd.underlying5
 a5:=Tryd.isAgg5
 z5:=Tryd.sizeOf5
 v5:=Tryd.zeroValue5
 t9:=Tryd.underlying9
 a9:=Tryd.isAgg9
 z9:=Tryd.sizeOf9
 v9:=Tryd.zeroValue9
 t37:=Tryd.underlying29
 a37:=Tryd.isAgg29
 z37:=Tryd.sizeOf29
 v37:=Tryd.zeroValue29
 t51:=Tryd.underlying140
 a51:=Tryd.isAgg140
 z51:=Tryd.sizeOf140
 v51:=Tryd.zeroValue140
 t53:=Tryd.underlying43
 a53:=Tryd.isAgg43
 z53:=Tryd.sizeOf43
 v53:=Tryd.zeroValue43 }
open Go.RowKit Go.Sort Go.Lib in
theorem Tryd.internal_strconv_formatBase10 (blk off cap:Nat) (u:Nat) (d:Array UInt8) (w:World) (hH:Holds (fun (b:UInt8)=>Value.int .u8 (b.toNat:Int)) w blk off d) (hu:u<10 ^ d.size) (kX:u<18446744073709551616) (bj:d.size<4611686018427387904):
  Calls Tryd.prog 73 #[.slice (some ⟨blk,off,none⟩) d.size cap,.int .u64 u] w fun e w'=>
   e=.returned (.tuple #[])∧∃ (n v':Nat) (dk:Array UInt8),w'=(putRow (fun (b:UInt8)=>Value.int .u8 (b.toNat:Int)) w blk off dk).drewN n∧FmtInv d.size u 0 v' dk:=Any.internal_strconv_formatBase10 Tryd.Hs blk off cap u d w hH hu kX bj
def Tryd.DA:Go.Shelf.Ren:=⟨fun | 171=>41 | 243=>60 | 246=>69 | 283=>71 | 284=>72 | 285=>73 | 286=>74 | 129=>82 | 317=>81 | 318=>83 | 319=>84 | 320=>85 | 337=>93 | 338=>94 | n=>n,fun | 3=>3 | 9=>9 | 2=>2 | 4=>4 | 171=>128 | 0=>0 | 53=>43 | 37=>29 | 5=>5 | 173=>131 | 212=>139 | 51=>140 | 20=>20 | 213=>141 | 46=>118 | 232=>148 | 233=>149 | n=>n,fun | 17=>1 | 18=>3 | 19=>4 | n=>n⟩
theorem Tryd.Ht:Go.Proofs.Lays.n171 Tryd.prog Tryd.DA:={
 mixed:=by kernel_rfl
 f129:=Tryd.func82.trans (congrArg some (by kernel_rfl))
 f171:=Tryd.func41.trans (congrArg some (by kernel_rfl))
 f243:=Tryd.func60.trans (congrArg some (by kernel_rfl))
 f246:=Tryd.func69.trans (congrArg some (by kernel_rfl))
 f283:=Tryd.func71.trans (congrArg some (by kernel_rfl))
 f284:=Tryd.func72.trans (congrArg some (by kernel_rfl))
 f285:=Tryd.func73.trans (congrArg some (by kernel_rfl))
 f286:=Tryd.func74.trans (congrArg some (by kernel_rfl))
 f317:=Tryd.func81.trans (congrArg some (by kernel_rfl))
 f318:=Tryd.func83.trans (congrArg some (by kernel_rfl))
 f319:=Tryd.func84.trans (congrArg some (by kernel_rfl))
 f320:=Tryd.func85.trans (congrArg some (by kernel_rfl))
 f337:=Tryd.func93.trans (congrArg some (by kernel_rfl))
 f338:=Tryd.func94.trans (congrArg some (by kernel_rfl))
 t0:=Tryd.underlying0
 a0:=Tryd.isAgg0
 z0:=Tryd.sizeOf0
 v0:=Tryd.zeroValue0
 t2:=Tryd.underlying2
 a2:=Tryd.isAgg2
 z2:=Tryd.sizeOf2
 v2:=Tryd.zeroValue2
 t3:=Tryd.underlying3
 a3:=Tryd.isAgg3
 z3:=Tryd.sizeOf3
 v3:=Tryd.zeroValue3
 t4:=Tryd.underlying4
 a4:=Tryd.isAgg4
 z4:=Tryd.sizeOf4
 v4:=Tryd.zeroValue4
 t5:=Tryd.underlying5
 a5:=Tryd.isAgg5
 z5:=Tryd.sizeOf5
 v5:=Tryd.zeroValue5
 t9:=Tryd.underlying9
 a9:=Tryd.isAgg9
 z9:=Tryd.sizeOf9
 v9:=Tryd.zeroValue9
 t20:=Tryd.underlying20
 a20:=Tryd.isAgg20
 z20:=Tryd.sizeOf20
 v20:=Tryd.zeroValue20
 t37:=Tryd.underlying29
 a37:=Tryd.isAgg29
 z37:=Tryd.sizeOf29
 v37:=Tryd.zeroValue29
 t46:=Tryd.underlying118
 a46:=Tryd.isAgg118
 z46:=Tryd.sizeOf118
 v46:=Tryd.zeroValue118
 t51:=Tryd.underlying140
 a51:=Tryd.isAgg140
 z51:=Tryd.sizeOf140
 v51:=Tryd.zeroValue140
 t53:=Tryd.underlying43
 a53:=Tryd.isAgg43
 z53:=Tryd.sizeOf43
 v53:=Tryd.zeroValue43
 t171:=Tryd.underlying128
 a171:=Tryd.isAgg128
 z171:=Tryd.sizeOf128
 v171:=Tryd.zeroValue128
 t173:=Tryd.underlying131
 a173:=Tryd.isAgg131
 z173:=Tryd.sizeOf131
 v173:=Tryd.zeroValue131
 t212:=Tryd.underlying139
 a212:=Tryd.isAgg139
 z212:=Tryd.sizeOf139
 v212:=Tryd.zeroValue139
 t213:=Tryd.underlying141
 a213:=Tryd.isAgg141
 z213:=Tryd.sizeOf141
 t232:=Tryd.underlying148
 a232:=Tryd.isAgg148
 z232:=Tryd.sizeOf148
 v232:=Tryd.zeroValue148
 t233:=Tryd.underlying149
 a233:=Tryd.isAgg149
 z233:=Tryd.sizeOf149
 v233:=Tryd.zeroValue149
 g17:=by kernel_rfl
 g18:=by kernel_rfl
 g19:=by kernel_rfl }
open Go.RowKit Go.Sort Go.Lib in
theorem Tryd.strconv_Itoa_small (i:Nat) (hi:i<100) (w:World):
  Calls Tryd.prog 41 #[.int .i64 i] w fun e w'=>e=.returned (.string ⟨(Lib.decDigits i).toArray⟩)∧w'=w:=Any.strconv_Itoa_small Tryd.Ht i hi w
def Tryd.DB:Go.Shelf.Ren:=⟨fun | 219=>75 | 217=>79 | 225=>86 | 224=>87 | 267=>88 | 266=>92 | 314=>95 | n=>n,fun | 9=>9 | 3=>3 | 4=>4 | 5=>5 | 46=>118 | 146=>146 | 51=>140 | n=>n,fun | 1=>2 | n=>n⟩
theorem Tryd.Hu:Go.Proofs.Lays.n219 Tryd.prog Tryd.DB:={
 mixed:=by kernel_rfl
 f217:=Tryd.func79.trans (congrArg some (by kernel_rfl))
 f219:=Tryd.func75.trans (congrArg some (by kernel_rfl))
 f224:=Tryd.func87.trans (congrArg some (by kernel_rfl))
 f225:=Tryd.func86.trans (congrArg some (by kernel_rfl))
 f266:=Tryd.func92.trans (congrArg some (by kernel_rfl))
 f267:=Tryd.func88.trans (congrArg some (by kernel_rfl))
 f314:=Tryd.func95.trans (congrArg some (by kernel_rfl))
 t3:=Tryd.underlying3
 a3:=Tryd.isAgg3
 z3:=Tryd.sizeOf3
 v3:=Tryd.zeroValue3
 t4:=Tryd.underlying4
 a4:=Tryd.isAgg4
 z4:=Tryd.sizeOf4
 v4:=Tryd.zeroValue4
 t5:=Tryd.underlying5
 a5:=Tryd.isAgg5
 z5:=Tryd.sizeOf5
 v5:=Tryd.zeroValue5
 t9:=Tryd.underlying9
 a9:=Tryd.isAgg9
 z9:=Tryd.sizeOf9
 v9:=Tryd.zeroValue9
 t46:=Tryd.underlying118
 a46:=Tryd.isAgg118
 z46:=Tryd.sizeOf118
 v46:=Tryd.zeroValue118
 t51:=Tryd.underlying140
 a51:=Tryd.isAgg140
 z51:=Tryd.sizeOf140
 v51:=Tryd.zeroValue140
 t146:=Tryd.underlying146
 a146:=Tryd.isAgg146
 z146:=Tryd.sizeOf146
 v146:=Tryd.zeroValue146
 g1:=by kernel_rfl }
open Go.RowKit Go.Lib in
theorem Tryd.stringslite_Index_one (s:ByteArray) (c:UInt8) (w:World):
  Calls Tryd.prog 75 #[.string s,.string ⟨#[c]⟩] w fun e w'=>e=.returned (.int .i64 (Lib.indexByte s.data.toList c))∧w'=w:=Any.stringslite_Index_one Tryd.Hu s c w
def Tryd.DC:Go.Shelf.Ren:=⟨fun | 143=>78 | 219=>75 | 217=>79 | 225=>86 | 224=>87 | 267=>88 | 266=>92 | 314=>95 | n=>n,fun | 9=>9 | 3=>3 | 4=>4 | 5=>5 | 46=>118 | 146=>146 | 51=>140 | n=>n,fun | 1=>2 | n=>n⟩
theorem Tryd.Hv:Go.Proofs.Lays.n143 Tryd.prog Tryd.DC:={
 mixed:=by kernel_rfl
 f143:=Tryd.func78.trans (congrArg some (by kernel_rfl))
 f217:=Tryd.func79.trans (congrArg some (by kernel_rfl))
 f219:=Tryd.func75.trans (congrArg some (by kernel_rfl))
 f224:=Tryd.func87.trans (congrArg some (by kernel_rfl))
 f225:=Tryd.func86.trans (congrArg some (by kernel_rfl))
 f266:=Tryd.func92.trans (congrArg some (by kernel_rfl))
 f267:=Tryd.func88.trans (congrArg some (by kernel_rfl))
 f314:=Tryd.func95.trans (congrArg some (by kernel_rfl))
 t3:=Tryd.underlying3
 a3:=Tryd.isAgg3
 z3:=Tryd.sizeOf3
 v3:=Tryd.zeroValue3
 t4:=Tryd.underlying4
 a4:=Tryd.isAgg4
 z4:=Tryd.sizeOf4
 v4:=Tryd.zeroValue4
 t5:=Tryd.underlying5
 a5:=Tryd.isAgg5
 z5:=Tryd.sizeOf5
 v5:=Tryd.zeroValue5
 t9:=Tryd.underlying9
 a9:=Tryd.isAgg9
 z9:=Tryd.sizeOf9
 v9:=Tryd.zeroValue9
 t46:=Tryd.underlying118
 a46:=Tryd.isAgg118
 z46:=Tryd.sizeOf118
 v46:=Tryd.zeroValue118
 t51:=Tryd.underlying140
 a51:=Tryd.isAgg140
 z51:=Tryd.sizeOf140
 v51:=Tryd.zeroValue140
 t146:=Tryd.underlying146
 a146:=Tryd.isAgg146
 z146:=Tryd.sizeOf146
 v146:=Tryd.zeroValue146
 g1:=by kernel_rfl }
open Go.RowKit Go.Lib in
theorem Tryd.strings_Index_one (s:ByteArray) (c:UInt8) (w:World):
  Calls Tryd.prog 78 #[.string s,.string ⟨#[c]⟩] w fun e w'=>e=.returned (.int .i64 (Lib.indexByte s.data.toList c))∧w'=w:=Any.strings_Index_one Tryd.Hv s c w
def Tryd.DD:Go.Shelf.Ren:=⟨fun | 138=>77 | 195=>89 | 218=>91 | 143=>78 | 219=>75 | 217=>79 | 225=>86 | 224=>87 | 267=>88 | 266=>92 | 314=>95 | n=>n,fun | 9=>9 | 3=>3 | 4=>4 | 5=>5 | 0=>0 | 46=>118 | 146=>146 | 51=>140 | n=>n,fun | 1=>2 | n=>n⟩
theorem Tryd.Hw:Go.Proofs.Lays.n138 Tryd.prog Tryd.DD:={
 mixed:=by kernel_rfl
 f138:=Tryd.func77.trans (congrArg some (by kernel_rfl))
 f143:=Tryd.func78.trans (congrArg some (by kernel_rfl))
 f195:=Tryd.func89.trans (congrArg some (by kernel_rfl))
 f217:=Tryd.func79.trans (congrArg some (by kernel_rfl))
 f218:=Tryd.func91.trans (congrArg some (by kernel_rfl))
 f219:=Tryd.func75.trans (congrArg some (by kernel_rfl))
 f224:=Tryd.func87.trans (congrArg some (by kernel_rfl))
 f225:=Tryd.func86.trans (congrArg some (by kernel_rfl))
 f266:=Tryd.func92.trans (congrArg some (by kernel_rfl))
 f267:=Tryd.func88.trans (congrArg some (by kernel_rfl))
 f314:=Tryd.func95.trans (congrArg some (by kernel_rfl))
 t0:=Tryd.underlying0
 a0:=Tryd.isAgg0
 z0:=Tryd.sizeOf0
 v0:=Tryd.zeroValue0
 t3:=Tryd.underlying3
 a3:=Tryd.isAgg3
 z3:=Tryd.sizeOf3
 v3:=Tryd.zeroValue3
 t4:=Tryd.underlying4
 a4:=Tryd.isAgg4
 z4:=Tryd.sizeOf4
 v4:=Tryd.zeroValue4
 t5:=Tryd.underlying5
 a5:=Tryd.isAgg5
 z5:=Tryd.sizeOf5
 v5:=Tryd.zeroValue5
 t9:=Tryd.underlying9
 a9:=Tryd.isAgg9
 z9:=Tryd.sizeOf9
 v9:=Tryd.zeroValue9
 t46:=Tryd.underlying118
 a46:=Tryd.isAgg118
 z46:=Tryd.sizeOf118
 v46:=Tryd.zeroValue118
 t51:=Tryd.underlying140
 a51:=Tryd.isAgg140
 z51:=Tryd.sizeOf140
 v51:=Tryd.zeroValue140
 t146:=Tryd.underlying146
 a146:=Tryd.isAgg146
 z146:=Tryd.sizeOf146
 v146:=Tryd.zeroValue146
 g1:=by kernel_rfl }
open Go.RowKit Go.Lib in
theorem Tryd.strings_Count_one (s:ByteArray) (c:UInt8) (w:World):
  Calls Tryd.prog 77 #[.string s,.string ⟨#[c]⟩] w fun e w'=>e=.returned (.int .i64 (Lib.countByte s.data.toList c))∧w'=w:=Any.strings_Count_one Tryd.Hw s c w
end Go.Proofs
namespace Go.Proofs.YtcnpikbbmbombaaDoor
open Go.RowKit
variable {mk:Bool} {P:Program} {T:aE} {f:FuncId} {R:eO} {a:Act} {w:World} {D:List Nat} {w0:World} {K0:World→Prop} {E:List (Nat×AV)} {M:List ai} {β:Beta} {F:Nat→ak} {I:ak} {sz:Nat} {todo todo':List Item}
theorem aC.rangeFunc {g:Operand} {ps:Array Tmp} {cM body:Code} {k:List Item} {l:Nat} {mark:List Deferred} {w1 w2 wd:World} {gf:FuncId} {args:Array Value} {dd:Deferred} (lg:R.ro=none)
  (he:(Instr.enterLoop f a.tmps ps cM body none).run P w=.ok (l,mark) w1) (KU:(resolve a.eval (rangeCall g l) 0).run P w1=.ok dd wd) (hinv:(invoke dd.target dd.args).run P wd=.ok (.enter gf args) w2)
  (hc:Calls P gf args w2 fun e w3=>∃ v,e=.returned v∧∃ j w4,(Instr.endLoop l).run P w3=.ok j w4∧aC P f ((j.map Item.code).toList++k) R { a with defers:=mark++a.defers } w4):aC P f (.code (.rangeFunc g ps cM body)::k) R a w:=by
 intro b cs hb hk hr
 have Ma:b.roundOf=none:=hr.trans lg
 have s1:=stepR_rangeFunc (P:=P) (b:=b) (a:=a) (k:=k) (cs:=cs) (w:=w) (by rw [hb,Ma];exact he) KU hinv
 obtain ⟨e,w3,fr,⟨v,rfl,j,w4,sL,hg⟩,JU,mF,IG⟩:=hc (b.atR { a with defers:=mark++a.defers } (.inRangeFunc l::k)::cs)
 have s2:=step_leave_returned (P:=P) (c:=b.atR { a with defers:=mark++a.defers } (.inRangeFunc l::k)) (cs:=cs) IG
 rw [finish_atR_inRangeFunc] at s2
 have s3:=stepR_endRangeFunc (P:=P) (b:=b) (a:={ a with defers:=mark++a.defers }) (k:=k) (cs:=cs) sL
 have hs:Steps P _ _:=JU
 exact (hg b cs hb hk hr).of ((Steps.one s1).trans (hs.trans ((Steps.one s2).trans (.one s3))))
def qc (E:List (Nat×AV)):List Nat→Option (List (Nat×AV))
 | []=>some []
 | t::r=>(match bM E t,qc E r with | some v,some l=>some ((t,v)::l) | _,_=>none)
theorem zw:∀ {ts:List Nat} {E1:List (Nat×AV)},qc E ts=some E1→∀ x ∈ E1,bM E x.1=some x.2
 | [],E1,h,x,hx=>by simp only [qc,Option.some.injEq] at h;subst h;cases hx
 | t::r,E1,h,x,hx=>by
  unfold qc at h
  split at h
  ·rename_i v l h1 h2
   simp only [Option.some.injEq] at h;subst h
   rcases List.mem_cons.1 hx with rfl | hx
   ·exact h1
   ·exact zw h2 x hx
  ·simp at h
def LS.still:LS→Bool
 | .busy=>false
 | _=>true
def LS.then:LS→List Item→List Item
 | .left,k=>.code .ret::k
 | _,k=>k
def zx (P:Program) (T:aE) (f:FuncId) (sz:Nat) (tb:dh) (n:Nat) (l ts:List Nat) (x:AV) (M':List ai) (cn wz:List Nat) (todo:List Item) (E:List (Nat×AV)) (M:List ai):Option (List Item×Prop×List (Nat×AV)×List ai):=
 match dn P T (walk P T 3) sz tb n todo ⟨[],E,M,[],[]⟩ with
 | some (.code (.rangeFunc (.tmp g) ps cM body)::k,s)=>(match bM s.E g,qc s.E ts with
  | some (.fn gf b4),some E1=>(match jJ (l++[s.M.length]) (.yl s.M.length::b4),fu (l++[s.M.length]) (s.M++[.lp .ready f sz E1 ⟨ps,cM,body⟩]) (l++[s.M.length]) with
   | some told,some Ms=>bif nodupB (l++[s.M.length])&&Nat.ble (l++[s.M.length]).length M'.length&&gu P gf&&nodupB cn then
    (match (kT (iN (s.M++[.lp .ready f sz E1 ⟨ps,cM,body⟩]) (l++[s.M.length])++(M'.drop (l++[s.M.length]).length).map (eu (outer (l++[s.M.length]) (s.M.length+1)))) (l++[s.M.length]) ((M'.take (l++[s.M.length]).length).map (eu (outer (l++[s.M.length]) (s.M.length+1)))))[s.M.length]? with
    | some (.lp ls _ _ _ _)=>bif ls.still then kf cn wz (ls.then k) ⟨ax P gf told Ms x M'::s.vc,s.E,(kT (iN (s.M++[.lp .ready f sz E1 ⟨ps,cM,body⟩]) (l++[s.M.length])++(M'.drop (l++[s.M.length]).length).map (eu (outer (l++[s.M.length]) (s.M.length+1)))) (l++[s.M.length]) ((M'.take (l++[s.M.length]).length).map (eu (outer (l++[s.M.length]) (s.M.length+1))))).set s.M.length .dead,[],[]⟩ else none
    | _=>none) else none
   | _,_=>none)
  | _,_=>none)
 | _=>none
theorem F6 {l:Nat} {r:Loop} {ls:LS} (h:w.heap[l]?=some (.loop r)) (a8:ls.still=true) (hs:r.state=ls.state) (hp:r.pending=ls.jM):(Instr.endLoop l).run P w=.ok ls.jM (bZ w l (.loop { r with state:=.exhausted })):=by
 unfold Instr.endLoop Instr.getLoop
 simp only [Sem.run_bind,pL h rfl,Result.andThen_ok,Sem.run_pure,hs,hp]
 rw [if_neg (by cases ls<;>first | decide | simp [LS.still] at a8)]
 simp only [Sem.run_bind,rF h rfl,Result.andThen_ok,Sem.run_pure]
theorem LS.then_eq (ls:LS) (k:List Item):(ls.jM.map Item.code).toList++k=ls.then k:=by cases ls<;>rfl
theorem Hx (hT:aR P T=true) (hm:P.follows .mixedOrders=true) (hK:∀ w,Kp D w0 w→K0 w) (lg:R.ro=none) (tb:dh) (n:Nat) (l ts:List Nat) (x:AV) (M':List ai) (cn wz:List Nat) {A:Prop} {E2:List (Nat×AV)} {M2:List ai} (r:ch true D w0 K0 sz E M a w)
  (h:zx P T f sz tb n l ts x M' cn wz todo E M=some (todo',A,E2,M2)) (hA:A) (k:∀ a' w',ch true D w0 K0 sz E2 M2 a' w'→aC P f todo' R a' w'):aC P f todo R a w:=by
 unfold zx at h
 split at h
 rotate_left
 ·simp at h
 rename_i g ps cM body k0 s hr
 split at h
 rotate_left
 ·simp at h
 rename_i gf b4 E1 hg x5
 split at h
 rotate_left
 ·simp at h
 rename_i told Ms oG nE
 generalize gb:l++[s.M.length]=l2 at h oG nE
 generalize Mb:(ai.lp .ready f sz E1 ⟨ps,cM,body⟩)=lp at h nE
 cases hc:(nodupB l2&&Nat.ble l2.length M'.length&&gu P gf&&nodupB cn) with
 | false=>simp only [hc,cond_false,reduceCtorEq] at h
 | true=>
  simp only [hc,cond_true] at h
  simp only [Bool.and_eq_true] at hc
  obtain ⟨⟨⟨fM,hle⟩,jK⟩,JV⟩:=hc
  generalize Mc:kT (iN (s.M++[lp]) l2++(M'.drop l2.length).map (eu (outer l2 (s.M.length+1)))) l2 ((M'.take l2.length).map (eu (outer l2 (s.M.length+1))))=Mo at h
  split at h
  rotate_left
  ·simp at h
  rename_i ls f9 Ny E9 lj BW
  cases a8:ls.still with
  | false=>simp only [a8,cond_false,reduceCtorEq] at h
  | true=>
  simp only [a8,cond_true] at h
  obtain ⟨rfl,rfl,h3,h4⟩:=n5 h
  obtain ⟨fE,qJ⟩:=hA
  refine nK hT (gW hT hm 3) hm hK n hr r qJ fun a w r=>?_
  obtain ⟨bj,I,ld,β,F,Rm,hs⟩:=r
  have jv:=hs g _ hg
  generalize hy:a.eval (.tmp g)=y at jv
  cases jv with
  | fn cs cA fJ=>
   have he:=run_enterLoop_outer (P:=P) (w:=w) f a.tmps ps cM body
   refine aC.rangeFunc (wd:=(w.alloc (.deferred (some []))).alloc (.loop { state:=.ready,pending:=none,fn:=f,tmps:=a.tmps,params:=ps,assign:=cM,body,defers:=w.heap.size })) (w2:=(w.alloc (.deferred (some []))).alloc (.loop { state:=.ready,pending:=none,fn:=f,tmps:=a.tmps,params:=ps,assign:=cM,body,defers:=w.heap.size })) (gf:=gf) (args:=#[.func (.yield (w.heap.size+1)) #[] #[]]++cs.toArray) (dd:={ target:=.fn (.func gf) cs.toArray,args:=#[.func (.yield (w.heap.size+1)) #[] #[]] }) lg he (by
    simp only [resolve,hy]
    simp [go_sem]) (by simp [invoke,go_sem,zf jK]) ?_
   have R1:RM D w0 K0 s.M β F ((w.heap.size,.deferred (some []))::I) (w.alloc (.deferred (some []))):=by
    refine ⟨Rm.len,fun u b hb=>(Rm.blk u b hb).mono (fun w hw=>⟨hw.1,(Holds.app.1 (show Holds w ([_]++I) from hw.2)).2⟩) (Ext.refl _),?_⟩
    have:=Rm.st.alloc (.deferred (some []))
    exact this.perm (by classical rw [List.perm_iff_count];intro z;simp only [List.count_append,List.count_cons];omega)
   have gI:bE I ((w.heap.size,.deferred (some []))::I):=⟨[_],rfl⟩
   have nL:∀ t v,bM s.E t=some v→ao (fun w'=>K0 w'∧Holds w' ((w.heap.size,.deferred (some []))::I)) β v (a.eval (.tmp t)):=fun t v hv=>(hs t v hv).mono (fun w hw=>⟨hw.1,gI.holds w hw.2⟩) (Ext.refl _)
   have R2:=R1.new (q:=(some ⟨w.heap.size+1,0,none⟩,0)) (blk:=lp) (Gr.alloc _ (.loop { state:=.ready,pending:=none,fn:=f,tmps:=a.tmps,params:=ps,assign:=cM,body,defers:=w.heap.size })) (by have:=df.alloc (w.alloc (.deferred (some []))) (.loop { state:=.ready,pending:=none,fn:=f,tmps:=a.tmps,params:=ps,assign:=cM,body,defers:=w.heap.size });rwa [World.size_alloc] at this) (by
    subst Mb
    exact .lp (bz:=.ready) (hU R1 _) bj fun x hx=>(nL x.1 x.2 (zw x5 x hx)).mono (fun _ h=>h) (Ext.app _ _))
   have JW:(s.M++[lp]).length=s.M.length+1:=by simp
   have iz:=hU R1 (some ⟨w.heap.size+1,0,none⟩,0)
   have cv:=yC (vs:=.yl s.M.length::b4) (ys:=.func (.yield (w.heap.size+1)) #[] #[]::cs) R2 hK (by simp [cA]) (fun j c y e1 e2=>by
    cases j with
    | zero=>simp at e1 e2;subst e1 e2;exact .yl iz
    | succ j=>simp at e1 e2;exact ((fJ j c y e1 e2).mono (fun w hw=>⟨hw.1,gI.holds w hw.2⟩) (Ext.refl _)).mono (fun _ h=>h) (Ext.app _ _)) oG nE (nY fM) (Nat.le_of_ble_eq_true hle) fE
   rw [JW,Mc] at cv
   have JX:(#[.func (.yield (w.heap.size+1)) #[] #[]]++cs.toArray:Array Value)=(Value.func (.yield (w.heap.size+1)) #[] #[]::cs).toArray:=by simp
   rw [JX]
   refine cv.mono ?_
   rintro e w3 ⟨v,rfl,yb,F3,I3,R3,e3,g3,-,-⟩
   refine ⟨v,rfl,?_⟩
   obtain ⟨H,hF,hB,hH⟩:=R3.at BW
   have Md:yb[s.M.length]?=some (some ⟨w.heap.size+1,0,none⟩,0):=e3 _ _ (by simp) iz
   cases hB with
   | @lp b0 c0 f0 LU nv bz E0 LV tmps hb M5 CK=>
    rw [Md] at hb;cases hb
    refine ⟨_,_,F6 (ls:=ls) hH.one a8 rfl rfl,?_⟩
    rw [LS.then_eq]
    have R4:=R3.x.eJ BW
    rw [List.nil_append,hF] at R4
    have R5:RM D w0 K0 (Mo.set s.M.length .dead) yb (aD F3 s.M.length []) I3 (bZ w3 (w.heap.size+1) (.loop { state:=.exhausted,pending:=ls.jM,fn:=f9,tmps,params:=lj.ps,assign:=lj.cM,body:=lj.body,defers:=nv })):=by
     refine ⟨R4.len,R4.blk,?_⟩
     have s1:=(R4.st.perm (K:=(w.heap.size+1,.loop { state:=ls.state,pending:=ls.jM,fn:=f9,tmps,params:=lj.ps,assign:=lj.cM,body:=lj.body,defers:=nv })::((List.range (Mo.set s.M.length .dead).length).flatMap (aD F3 s.M.length [])++I3)) (by classical rw [List.perm_iff_count];intro z;simp only [List.count_append,List.count_cons,List.count_nil];omega)).set (.loop { state:=.exhausted,pending:=ls.jM,fn:=f9,tmps,params:=lj.ps,assign:=lj.cM,body:=lj.body,defers:=nv })
     exact St.lA (H:=[_]) s1
    refine k _ _ (ch.lh (mk:=true) (a:={ a with defers:=[{ target:=.collected w.heap.size,args:=#[] }]++a.defers }) (E:=s.E) (M:=Mo.set s.M.length .dead) ⟨bj,I3,?_,yb,_,R5,fun t v hv=>?_⟩ JV h3 h4)
    ·have:=Mk.grow ld (gI.trans g3)
     refine ⟨List.nodup_cons.2 ⟨fun hd=>?_,this.1⟩,fun d hd=>?_⟩
     ·obtain ⟨b,e1,e2⟩:=ld.2 _ hd
      cases e1
      have aF:=(Array.getElem?_eq_some_iff.1 ((Holds.app.1 Rm.st.holds).2 _ e2)).1
      exact absurd aF (Nat.lt_irrefl _)
     rcases List.mem_append.1 hd with hd | hd
     ·rw [List.mem_singleton] at hd;subst hd
      obtain ⟨J,hJ⟩:=g3
      exact ⟨_,rfl,by rw [hJ];exact List.mem_append_right _ List.mem_cons_self⟩
     ·exact this.2 d hd
    ·exact ((nL t v hv).mono (fun w hw=>⟨hw.1,g3.holds w hw.2⟩) (Ext.refl _)).mono (fun _ h=>h) (fun u q hq=>e3 u q (by simp) (Ext.app _ _ _ _ hq))
end Go.Proofs.YtcnpikbbmbombaaDoor
namespace Go.Proofs.YtcnpikbbmbombaaDoor
open Go.RowKit
variable {mk:Bool} {P:Program} {T:aE} {f:FuncId} {R:eO} {Re:Ending→World→Prop} {a:Act} {w:World} {D:List Nat} {w0:World} {K0:World→Prop} {E:List (Nat×AV)} {M:List ai} {β:Beta} {F:Nat→ak} {I H:ak} {sz:Nat} {tb:dh} {todo todo':List Item}
def fb (x:AV):Prop:=∀ (K K':World→Prop) (β:Beta) (y:Value),ao K β x y→ao K' β x y
def iW (b:ai):Prop:=∀ (K K':World→Prop) (β:Beta) (u:Nat) (H:ak),bg K β u b H→bg K' β u b H
theorem fb.v (x:Value):fb (.d (.v x)):=fun K K' β y r=>by cases r with | d r=>cases r with | v=>exact .d (.v _)
theorem fb.pt (u o:Nat):fb (.pt u o):=fun K K' β y r=>by cases r with | pt h=>exact .pt h
theorem fb.sl (u n:Nat):fb (.sl u n):=fun K K' β y r=>by cases r with | sl h=>exact .sl h
theorem iW.bx {T:Nat} {cells:List AV} (h:∀ c ∈ cells,fb c):iW (.bx T cells):=fun K K' β u H r=>by
 cases r with | bx hb ys hl hr=>exact .bx hb ys hl (fun j c y h1 h2=>h c (List.mem_of_getElem? h1) _ _ _ _ (hr j c y h1 h2))
def sP (P:Program):List Deferred→World→World→Prop
 | [],w,w'=>w=w'
 | d::ds,w,w'=>∃ b w1,d.target=.collected b∧(Instr.takeDeferred b).run P w=.ok [] w1∧sP P ds w1 w'
theorem yK {cs:List Frame}:∀ {ds:List Deferred} {fr:Frame} {w w':World},fr.mode=.returning→fr.defers=ds→sP P ds w w'→Steps P (lone fr cs w) (lone { fr with defers:=[] } cs w')
 | [],fr,w,w',_,hd,h=>by cases h;rw [show ({ fr with defers:=[] }:Frame)=fr by cases fr;simp_all];exact Steps.refl P _
 | d::ds,fr,w,w',hm,hd,⟨b,w1,h1,h2,h3⟩=>by
  have s1:=step_collected (P:=P) (fr:=fr) (cs:=cs) (by rw [hm];simp) hd h1 h2
  have s2:=yK (cs:=cs) (ds:=ds) (fr:={ fr with defers:=[]++ds }) hm rfl h3
  exact (Steps.one s1).trans s2
theorem aC.KV {fn:Func} {k:List Item} (hf:P.funcs[f]?=some fn) {w':World} (hm:sP P a.defers w w') {v:Value} (hr:(results fn a.tmps).run P w'=.ok v w') (h:Re (.returned v) w'):aC P f (.code .ret::k) (.ends Re) a w:=by
 intro b cs hb hk lg
 rw [Frame.atR_of_none lg]
 have s2:=yK (P:=P) (cs:=cs) (fr:={ b.at a (.code .ret::k) with mode:=.returning }) rfl rfl hm
 exact ⟨.returned v,w',{ b.at a (.code .ret::k) with mode:=.returning,defers:=[] },h,.of_steps ((Steps.one step_ret).trans s2) (Steps.refl P _),hb,rfl,rfl,hk,fn,by rw [← hb] at hf;exact hf,hr⟩
theorem F7 {b:Nat} {w:World} (h:w.heap[b]?=some (.deferred (some []))):(Instr.takeDeferred b).run P w=.ok [] (bZ w b (.deferred none)):=by
 unfold Instr.takeDeferred
 simp only [Sem.run_bind,pL h rfl,Result.andThen_ok,Sem.run_pure,rF h rfl]
theorem zy:∀ {ds:List Deferred} {I:ak} {w:World},ds.Nodup→(∀ d ∈ ds,∃ b,d={ target:=.collected b,args:=#[] }∧(b,Obj.deferred (some [])) ∈ I)→St D w0 w (H++I)→∃ w' I',sP P ds w w'∧St D w0 w' (H++I')
 | [],I,w,_,_,s=>⟨w,I,rfl,s⟩
 | d::ds,I,w,hn,h,s=>by
  obtain ⟨b,rfl,hb⟩:=h d List.mem_cons_self
  obtain ⟨s1,s2,rfl⟩:=List.append_of_mem hb
  rw [List.nodup_cons] at hn
  have e1:St D w0 w ((b,.deferred (some []))::(H++(s1++s2))):=s.perm (by classical rw [List.perm_iff_count];intro z;simp only [List.count_append,List.count_cons];omega)
  have e2:=e1.set (.deferred none)
  have e3:St D w0 (bZ w b (.deferred none)) (H++((b,.deferred none)::(s1++s2))):=e2.perm (by classical rw [List.perm_iff_count];intro z;simp only [List.count_append,List.count_cons];omega)
  obtain ⟨w',I',g1,g2⟩:=zy (ds:=ds) hn.2 (fun d hd=>by
   obtain ⟨c,rfl,hc⟩:=h d (List.mem_cons_of_mem _ hd)
   refine ⟨c,rfl,?_⟩
   have jr:c≠b:=fun e=>hn.1 (e▸hd)
   rcases List.mem_append.1 hc with hc | hc
   ·exact List.mem_cons_of_mem _ (List.mem_append_left _ hc)
   ·rcases List.mem_cons.1 hc with hc | hc
    ·cases hc;exact absurd rfl jr
    ·exact List.mem_cons_of_mem _ (List.mem_append_right _ hc)) e3
  exact ⟨w',I',⟨b,_,rfl,F7 e1.holds.one,g1⟩,g2⟩
def uK (P:Program) (T:aE) (sz:Nat) (tb:dh) (n:Nat) (cn ts:List Nat) (todo:List Item) (E:List (Nat×AV)) (M:List ai):Option (Prop×List (Nat×AV)×List ai):=
 bif nodupB cn then (match dn P T (walk P T 3) sz tb n todo ⟨[],E,M,[],[]⟩ with
 | some (.code .ret::_,s)=>(match fu cn s.M cn,iT cn s.E ts with
  | some M',some E'=>some (aU s.vc,E',M')
  | _,_=>none)
 | _=>none) else none
theorem IH (hT:aR P T=true) (hm:P.follows .mixedOrders=true) (hK:∀ w,Kp D w0 w→K0 w) {fn:Func} (hf:P.funcs[f]?=some fn) (tb:dh) (n:Nat) (cn ts:List Nat) {A:Prop} {E':List (Nat×AV)} {M':List ai} (r:ch true D w0 K0 sz E M a w)
  (h:uK P T sz tb n cn ts todo E M=some (A,E',M')) (hA:A) (hE:∀ x ∈ E',fb x.2) (hM:∀ b ∈ M',iW b)
  (k:∀ a' w',dA D w0 K0 sz E' M' a' w'→∃ v,(results fn a'.tmps).run P w'=.ok v w'∧Re (.returned v) w'):aC P f todo (.ends Re) a w:=by
 unfold uK at h
 cases hk:nodupB cn with
 | false=>simp [hk] at h
 | true=>
  simp only [hk,cond_true] at h
  split at h
  rotate_left
  ·simp at h
  rename_i k0 s hr
  split at h
  rotate_left
  ·simp at h
  rename_i M1 E1 ta x5
  simp only [Option.some.injEq,Prod.mk.injEq] at h
  obtain ⟨xZ,rfl,rfl⟩:=h
  refine nK hT (gW hT hm 3) hm hK n hr r (by rw [xZ];exact hA) fun a w r=>?_
  obtain ⟨bj,I,ld,β,F,Rm,hs⟩:=ch.lh r hk ta x5
  obtain ⟨w',I',g1,g2⟩:=zy (P:=P) ld.1 ld.2 Rm.st
  have r':dA D w0 K0 sz E1 M1 { a with defers:=[] } w':=by
   refine ⟨bj,I',rfl,β,F,⟨Rm.len,fun u b hb=>hM b (List.mem_of_getElem? hb) _ _ _ _ _ (Rm.blk u b hb),g2⟩,fun t v hv=>?_⟩
   exact hE (t,v) (lB hv) _ _ _ _ (hs t v hv)
  obtain ⟨v,h1,h2⟩:=k _ _ r'
  exact aC.KV hf g1 h1 h2
def JY (w0:World) (K0:World→Prop) (x:AV) (M':List ai):Ending→World→Prop:=fun e w'=>∃ v,e=.returned v∧∃ au F' I',RM [] w0 K0 M' au F' I' w'∧ao (fun w=>K0 w∧Holds w I') au x v
abbrev xk (w0:World) (K0:World→Prop) (x:AV) (M':List ai):eO:=.ends (JY w0 K0 x M')
def BX (T:aE) (rs:List ResultVar) (E:List (Nat×AV)) (M:List ai):Option AV:=match ij T E M rs with | some l=>some (xi l) | none=>none
theorem ow (hT:aR P T=true) (hm:P.follows .mixedOrders=true) (hK:∀ w,Kp [] w0 w→K0 w) {fn:Func} (hf:P.funcs[f]?=some fn) (tb:dh) (n:Nat) (cn ts:List Nat) {A:Prop} {E':List (Nat×AV)} {M':List ai} {x:AV} (r:ch true [] w0 K0 sz E M a w)
  (h:uK P T sz tb n cn ts todo E M=some (A,E',M')) (h2:BX T fn.results.toList E' M'=some x) (hA:A) (hE:∀ x ∈ E',fb x.2) (hM:∀ b ∈ M',iW b):aC P f todo (xk w0 K0 x M') a w:=by
 refine IH hT hm hK hf tb n cn ts r h hA hE hM fun a' w' r'=>?_
 obtain ⟨-,I,-,β,F,Rm,hs⟩:=r'
 unfold BX at h2
 split at h2
 ·rename_i l hl
  simp only [Option.some.injEq] at h2;subst h2
  obtain ⟨ys,e1,e2,e3⟩:=od hT Rm hs hl
  refine ⟨_,rJ rfl e1,_,rfl,β,F,I,Rm,?_⟩
  match ys,l,e2,e3 with
  | [],[],_,_=>exact .tu [] rfl (by simp)
  | [y],[v],_,e3=>exact e3 0 v y rfl rfl
  | y::y'::ys,v::v'::l,e2,e3=>exact .tu _ e2 e3
 ·simp at h2
theorem ch.mark (r:ch mk D w0 K0 sz E M a w):ch true D w0 K0 sz E M a w:=by
 cases mk with
 | true=>exact r
 | false=>obtain ⟨h1,I,h2,h3⟩:=r;exact ⟨h1,I,by rw [h2];exact Mk.nil I,h3⟩
end Go.Proofs.YtcnpikbbmbombaaDoor
namespace Go.Proofs.YtcnpikbbmbombaaDoor
open Go.RowKit
variable {P:Program} {f:FuncId}
theorem ax.II {fn:Func} {c:Code} {args:List AV} {x:AV} {M':List ai} {g:Nat} {row:List DV} (jK:gu P f=true) (hf:P.funcs[f]?=some fn) (hb:fn.body=some c) (n:Nat) (hn:fn.ntmps=n) (hle:Nat.ble args.length n=true)
  (h:∀ (w0:World) (K0:World→Prop) (a:Act),(∀ w,Kp [] w0 w→K0 w)→dA [] w0 K0 n (gB args 0) [.gw g row] a w0→aC P f [.code c] (xk w0 K0 x M') a w0):ax P f args [.gw g row] (mapA (·+1) x) (.gw g row::M'.map (eu (·+1))):=by
 refine ⟨jK,?_⟩
 intro D w0 K0 β F I w ys Rm hK hl hr
 have hle:=Nat.le_of_ble_eq_true hle
 have fw:β.length=1:=Rm.len
 have ln:=Rm.blk 0 _ rfl
 have o5:F 0=[]:=by
  generalize F 0=H at ln
  cases ln;rfl
 have a8:St D w0 w ([]++I):=by
  have:=Rm.st
  simpa [List.range_succ,o5] using this
 have qI:∀ w',Kp [] w w'→K0 w'∧Holds w' I:=fun w' k=>by
  have t:St [] w w' []:=⟨k,by simp [keys],by simp [keys],Holds.nil _⟩
  have s':=St.call a8 rfl t
  rw [List.nil_append] at s'
  exact ⟨hK _ s'.kp,s'.holds⟩
 rw [o5] at ln
 have hg:=h w (fun w=>K0 w∧Holds w I) { tmps:=ys.toArray++Array.replicate (fn.ntmps-ys.toArray.size) undef,defers:=[] } qI ⟨by simp;omega,[],rfl,β,fun _=>[],⟨fw,fun u b hu=>by
   cases u with
   | zero=>simp at hu;subst hu;exact ln.mono (fun w hw=>hw.1) (Ext.refl _)
   | succ u=>simp at hu,by simpa [List.range_succ] using St.none w⟩,by
  intro t v hv
  obtain ⟨y,rfl,rfl,hy⟩:∃ y:Nat×AV,y.1=t∧y.2=v∧y ∈ gB args 0:=⟨(t,v),rfl,rfl,lB hv⟩
  obtain ⟨-,h2⟩:=pD args 0 y hy
  simp only [Nat.sub_zero] at h2
  obtain ⟨aF,-⟩:=List.getElem?_eq_some_iff.1 h2
  have iv:ys[y.1]?=some ys[y.1]:=List.getElem?_eq_getElem (by omega)
  have he:({ tmps:=ys.toArray++Array.replicate (fn.ntmps-ys.toArray.size) undef,defers:=[] }:Act).eval (.tmp y.1)=ys[y.1]:=by
   have:y.1<ys.length:=by omega
   simp [Act.eval,Array.getD_eq_getD_getElem?,Array.getElem?_append,this]
  rw [he]
  exact (hr y.1 y.2 _ h2 iv).mono (fun w hw=>hw.1) (Ext.refl _)⟩
 refine (pv hf hb hg).mono ?_
 rintro e w' ⟨v,rfl,au,F',I',R',hx⟩
 have s2:=St.call a8 rfl R'.st
 have bU:∀ w,K0 w∧Holds w (I'++I)→(K0 w∧Holds w I)∧Holds w I':=fun w hw=>⟨⟨hw.1,(Holds.app.1 hw.2).2⟩,(Holds.app.1 hw.2).1⟩
 have lz:∀ (u:Nat) q,au[u]?=some q→(β++au)[u+1]?=some q:=fun u q hq=>by
  rw [List.getElem?_append_right (by omega),fw,Nat.add_sub_cancel];exact hq
 refine ⟨v,rfl,β++au,fun u=>match u with | 0=>[] | u+1=>F' u,I'++I,⟨by simp [fw,R'.len];omega,fun u b hu=>?_,?_⟩,Ext.app _ _,⟨I',rfl⟩,mR lz (hx.mono bU (Ext.refl _))⟩
 ·cases u with
  | zero=>
   simp at hu;subst hu
   exact ln.mono (fun w hw=>(bU w hw).1) (Ext.app _ _)
  | succ u=>
   rw [List.getElem?_cons_succ,List.getElem?_map,Option.map_eq_some_iff] at hu
   obtain ⟨b0,dM,rfl⟩:=hu
   exact rM lz ((R'.blk u b0 dM).mono bU (Ext.refl _))
 ·rw [List.append_assoc] at s2
  rw [List.length_cons,List.length_map,List.range_succ_eq_map,List.flatMap_cons,List.nil_append,List.flatMap_map]
  exact s2
def BY:ai→Bool
 | .gw _ _=>true
 | _=>false
theorem ax.Ae {fn:Func} {c:Code} {args:List AV} {x:AV} {M' G:List ai} (hG:G.all BY=true) (jK:gu P f=true) (hf:P.funcs[f]?=some fn) (hb:fn.body=some c) (n:Nat) (hn:fn.ntmps=n) (hle:Nat.ble args.length n=true)
  (h:∀ (w0:World) (K0:World→Prop) (a:Act),(∀ w,Kp [] w0 w→K0 w)→dA [] w0 K0 n (gB args 0) G a w0→aC P f [.code c] (xk w0 K0 x M') a w0):ax P f args G (mapA (·+G.length) x) (G++M'.map (eu (·+G.length))):=by
 refine ⟨jK,?_⟩
 intro D w0 K0 β F I w ys Rm hK hl hr
 have hle:=Nat.le_of_ble_eq_true hle
 have fw:β.length=G.length:=Rm.len
 have ln:∀ (u:Nat) b,G[u]?=some b→bg (fun w=>K0 w∧Holds w I) β u b []∧F u=[]:=fun u b hu=>by
  have hg:=List.all_eq_true.1 hG b (List.mem_of_getElem? hu)
  have h:=Rm.blk u b hu
  generalize F u=H at h
  cases b<;>simp [BY] at hg
  cases h with | gw X hl hc hr=>exact ⟨.gw X hl hc hr,rfl⟩
 have dL:(List.range G.length).flatMap F=[]:=by
  rw [List.flatMap_eq_nil_iff]
  intro u hu
  exact (ln u _ (List.getElem?_eq_getElem (List.mem_range.1 hu))).2
 have a8:St D w0 w ([]++I):=by
  have:=Rm.st
  rwa [dL] at this
 have qI:∀ w',Kp [] w w'→K0 w'∧Holds w' I:=fun w' k=>by
  have t:St [] w w' []:=⟨k,by simp [keys],by simp [keys],Holds.nil _⟩
  have s':=St.call a8 rfl t
  rw [List.nil_append] at s'
  exact ⟨hK _ s'.kp,s'.holds⟩
 have hg:=h w (fun w=>K0 w∧Holds w I) { tmps:=ys.toArray++Array.replicate (fn.ntmps-ys.toArray.size) undef,defers:=[] } qI ⟨by simp;omega,[],rfl,β,fun _=>[],⟨fw,fun u b hu=>(ln u b hu).1.mono (fun w hw=>hw.1) (Ext.refl _),by rw [show (List.range G.length).flatMap (fun _=>([]:ak))=[] by simp];simpa using St.none w⟩,by
  intro t v hv
  obtain ⟨y,rfl,rfl,hy⟩:∃ y:Nat×AV,y.1=t∧y.2=v∧y ∈ gB args 0:=⟨(t,v),rfl,rfl,lB hv⟩
  obtain ⟨-,h2⟩:=pD args 0 y hy
  simp only [Nat.sub_zero] at h2
  obtain ⟨aF,-⟩:=List.getElem?_eq_some_iff.1 h2
  have iv:ys[y.1]?=some ys[y.1]:=List.getElem?_eq_getElem (by omega)
  have he:({ tmps:=ys.toArray++Array.replicate (fn.ntmps-ys.toArray.size) undef,defers:=[] }:Act).eval (.tmp y.1)=ys[y.1]:=by
   have:y.1<ys.length:=by omega
   simp [Act.eval,Array.getD_eq_getD_getElem?,Array.getElem?_append,this]
  rw [he]
  exact (hr y.1 y.2 _ h2 iv).mono (fun w hw=>hw.1) (Ext.refl _)⟩
 refine (pv hf hb hg).mono ?_
 rintro e w' ⟨v,rfl,au,F',I',R',hx⟩
 have s2:=St.call a8 rfl R'.st
 have bU:∀ w,K0 w∧Holds w (I'++I)→(K0 w∧Holds w I)∧Holds w I':=fun w hw=>⟨⟨hw.1,(Holds.app.1 hw.2).2⟩,(Holds.app.1 hw.2).1⟩
 have lz:∀ (u:Nat) q,au[u]?=some q→(β++au)[u+G.length]?=some q:=fun u q hq=>by
  rw [List.getElem?_append_right (by omega),fw,Nat.add_sub_cancel];exact hq
 refine ⟨v,rfl,β++au,fun u=>if u<G.length then [] else F' (u-G.length),I'++I,⟨by simp [fw,R'.len],fun u b hu=>?_,?_⟩,Ext.app _ _,⟨I',rfl⟩,mR lz (hx.mono bU (Ext.refl _))⟩
 ·rcases Nat.lt_or_ge u G.length with h | h
  ·rw [List.getElem?_append_left h] at hu
   simp only [h,if_true]
   exact (ln u b hu).1.mono (fun w hw=>(bU w hw).1) (Ext.app _ _)
  ·rw [List.getElem?_append_right h,List.getElem?_map,Option.map_eq_some_iff] at hu
   obtain ⟨b0,dM,rfl⟩:=hu
   have h':¬ u<G.length:=by omega
   simp only [h',if_false]
   have:=rM lz ((R'.blk _ b0 dM).mono bU (Ext.refl _))
   rwa [Nat.sub_add_cancel h] at this
 ·rw [List.append_assoc] at s2
  have e:(List.range (G++M'.map (eu (·+G.length))).length).flatMap (fun u=>if u<G.length then [] else F' (u-G.length))=(List.range M'.length).flatMap F':=by
   rw [List.length_append,List.length_map,List.range_add,List.flatMap_append,List.flatMap_map]
   have e1:(List.range G.length).flatMap (fun u=>if u<G.length then ([]:ak) else F' (u-G.length))=[]:=by
    rw [List.flatMap_eq_nil_iff]
    intro u hu
    simp [List.mem_range.1 hu]
   rw [e1,List.nil_append]
   refine congrArg (fun q=>List.flatMap q _) ?_
   funext u;simp;intro h;omega
  rw [e];exact s2
end Go.Proofs.YtcnpikbbmbombaaDoor
namespace Go.Proofs.YtcnpikbbmbombaaDoor
open Go.RowKit
variable {mk:Bool} {P:Program} {T:aE} {f:FuncId} {R:eO} {a:Act} {w:World} {D:List Nat} {w0:World} {K0:World→Prop} {E:List (Nat×AV)} {M M2:List ai} {β:Beta} {F:Nat→ak} {I H:ak} {sz:Nat} {tb:dh} {todo todo':List Item}
theorem ch.word (r:ch mk D w0 K0 sz E M a w) (u:Nat) {b b':ai} (hM:M[u]?=some b) (h:∀ (K:World→Prop) (β:Beta) (H:ak),bg K β u b H→bg K β u b' H):ch mk D w0 K0 sz E (M.set u b') a w:=by
 obtain ⟨h1,I,h2,β,F,Rm,hs⟩:=r
 refine ⟨h1,I,h2,β,F,⟨by rw [List.length_set];exact Rm.len,fun v c hv=>?_,by rw [List.length_set];exact Rm.st⟩,hs⟩
 rw [List.getElem?_set] at hv
 split at hv
 ·rename_i e
  subst e
  split at hv
  ·simp only [Option.some.injEq] at hv;subst hv;exact h _ _ _ (Rm.blk u b hM)
  ·simp at hv
 ·exact Rm.blk v c hv
inductive ku:List (List DV)→List (List DV)→Prop where
 | nil:ku [] []
 | cons {x x':List DV} {l l':List (List DV)} (h:cS x x') (t:ku l l'):ku (x::l) (x'::l')
theorem ku.ok {l l':List (List DV)} (h:ku l l'):l.length=l'.length∧∀ (i:Nat) r r',l[i]?=some r→l'[i]?=some r'→cS r r':=by
 induction h with
 | nil=>simp
 | cons h t ih=>
  refine ⟨by simp [ih.1],fun i r r' h1 h2=>?_⟩
  cases i with
  | zero=>simp at h1 h2;subst h1 h2;exact h
  | succ i=>exact ih.2 i r r' (by simpa using h1) (by simpa using h2)
theorem ch.less (r:ch mk D w0 K0 sz E M a w) (u:Nat) {Tm k:Nat} {rows rows':List (List DV)} (hM:M[u]?=some (.rw Tm k rows)) (h:ku rows rows'):ch mk D w0 K0 sz E (M.set u (.rw Tm k rows')) a w:=
 r.word u hM fun K β H hb=>by
  cases hb with
  | rw hb X G hl hs hr=>
   obtain ⟨e1,e2⟩:=h.ok
   rw [e1] at hs ⊢
   have key:∀ (i:Nat) r',rows'[i]?=some r'→∃ r,rows[i]?=some r∧r.length=r'.length∧∀ (j:Nat) c c',r[j]?=some c→r'[j]?=some c'→Le c c':=fun i r' hi=>by
    have aF:i<rows.length:=by rw [e1];exact (List.getElem?_eq_some_iff.1 hi).1
    have e:=List.getElem?_eq_getElem aF
    exact ⟨_,e,(e2 i _ r' e hi).ok⟩
   refine .rw hb X G (fun i r' hi=>?_) hs fun i r' j c x hi h1 h2=>?_
   ·obtain ⟨r,g1,g2,-⟩:=key i r' hi
    have:=hl i r g1;omega
   ·obtain ⟨r,g1,g2,g3⟩:=key i r' hi
    have hj:j<r.length:=by rw [g2];exact (List.getElem?_eq_some_iff.1 h1).1
    have e:=List.getElem?_eq_getElem hj
    exact g3 j _ c e h1 K x _ (hr i r j _ x g1 e h2)
def me:Code→List Item→List (RF×List Item)
 | .seq x y,k=>me x (.code y::k)++me y k
 | .cond _ x y,k=>me x k++me y k
 | .block i c,k=>me c (.inBlock i::k)
 | .loop c,k=>me c (.inLoop c::k)
 | .rangeFunc _ ps cM body,k=>[(⟨ps,cM,body⟩,k)]
 | _,_=>[]
def lq (fn:Func) (n:Nat):RF:=match fn.body with | some c=>(match (me c [])[n]? with | some x=>x.1 | none=>⟨#[],.skip,.skip⟩) | none=>⟨#[],.skip,.skip⟩
def KW (fn:Func) (n:Nat):List Item:=match fn.body with | some c=>(match (me c [])[n]? with | some x=>x.2 | none=>[]) | none=>[]
def nq (id:Nat):Code→List (Array Oper)
 | .seq x y=>nq id x++nq id y
 | .cond _ x y=>nq id x++nq id y
 | .block _ c=>nq id c
 | .loop c=>nq id c
 | .region i ops _=>bif i.beq id then [ops] else []
 | _=>[]
def ops (fn:Func) (id:Nat):Array Oper:=match fn.body with | some c=>(match nq id c with | o::_=>o | []=>#[]) | none=>#[]
end Go.Proofs.YtcnpikbbmbombaaDoor
namespace Go.Proofs.YtcnpikbbmbombaaDoor
open Go.RowKit
def sn (G:List ai) (K:World→Prop):Prop:=∀ (u:Nat) blk,G[u]?=some blk→bg K [] u blk []
theorem sn.rm {G:List ai} {K:World→Prop} (h:sn G K) (w:World):RM [] w K G (List.replicate G.length (none,0)) (fun _=>[]) [] w:=by
 refine ⟨by simp,fun u blk hu=>(h u blk hu).mono (fun w hw=>hw.1) (fun _ _ he=>by simp at he),?_⟩
 have e:(List.range G.length).flatMap (fun _=>([]:ak))++[]=[]:=by simp
 rw [e];exact St.none w
theorem ax.IJ {P:Program} {f:FuncId} {G:List ai} {args:List AV} {w:World} (h:ax P f args G (.d (.v (.bool true))) G) {ys:List Value} (hG:sn G (Gr w)) (hl:ys.length=args.length) (hr:∀ (j:Nat) c y,args[j]?=some c→ys[j]?=some y→ao (Gr w) [] c y):Calls P f ys.toArray w fun e w'=>e=.returned (.bool true)∧Gr w w':=by
 refine (h.2 ys (hG.rm w) (fun w' k=>k.sd) hl fun j c y a b=>(hr j c y a b).mono (fun w hw=>hw.1) fun _ _ he=>by simp at he).mono ?_
 rintro e w' ⟨v,rfl,au,F',I',R',-,-,ha⟩
 cases ha with
 | d hd=>cases hd;exact ⟨rfl,R'.st.kp.sd⟩
end Go.Proofs.YtcnpikbbmbombaaDoor
namespace Go.Proofs.YtcnpikbbmbombaaDoor
open Go.RowKit
structure aJ where
 kind:Int
 node:Int
 peer:Int
 n:Int
 bit:Int
 inc:Nat
 body:List UInt8
deriving DecidableEq
structure bY where
 aK:Int
 ah:List (Int×Int)
 homes:List Int
deriving DecidableEq
def aJ.row (s:aJ):List DV:=[.z s.kind,.z s.node,.z s.peer,.z s.n,.z s.bit,.u s.inc,.ro 1 (af s.body)]
def steps (l:List aJ):List (List DV):=l.map aJ.row
def ah (l:List (Int×Int)):List (List DV):=l.map fun x=>[.z x.1,.z x.2]
def ints (l:List Int):List (List DV):=l.map fun n=>[.z n]
def strs (l:List (List UInt8)):List (List DV):=l.map fun s=>[.v (.string ⟨s.toArray⟩)]
theorem lI {l:List aJ} {i:Nat} {s:aJ} (h:l[i]?=some s):(steps l)[i]?=some s.row:=by simp [steps,h]
theorem iE {l:List (Int×Int)} {i:Nat} {x:Int×Int} (h:l[i]?=some x):(ah l)[i]?=some [.z x.1,.z x.2]:=by simp [ah,h]
theorem ints_at {l:List Int} {i:Nat} {x:Int} (h:l[i]?=some x):(ints l)[i]?=some [.z x]:=by simp [ints,h]
theorem rO {l:List (List UInt8)} {i:Nat} {x:List UInt8} (h:l[i]?=some x):(strs l)[i]?=some [.v (.string ⟨x.toArray⟩)]:=by simp [strs,h]
theorem j3 {l:List UInt8} {i:Nat} {b:UInt8} (h:l[i]?=some b):(af l)[i]?=some [.v (.int .u8 (b.toNat:Int))]:=by simp [af,h]
theorem yp (l:List UInt8) (n:Nat):af (l.take n)=(af l).take n:=by simp [af,List.map_take]
theorem yq (l:List UInt8) (n:Nat):af (l.drop n)=(af l).drop n:=by simp [af,List.map_drop]
theorem ky (l:List UInt8):b9 (af l)=af l:=by rw [jy];unfold af;rw [List.map_map];apply List.map_congr_left;intro b _;rfl
theorem pc {t:TypeId} {xs ys:List Value} {c c':Bool} (e:jI Tryd.prog t xs ys c) (h:c=c'):jI Tryd.prog t xs ys c':=h▸e
theorem ox (a b c d:Int):jI Tryd.prog 71 [.int .i64 a,.int .i64 b] [.int .i64 c,.int .i64 d] (a==c&&b==d):=⟨by kernel_rfl,fun w=>by
 have:=Dk (P:=Tryd.prog) (w:=w) (t:=71) (e:=3) (dp:=9998) (k:=.i64) (a:=a) (b:=b) (c:=c) (d':=d) (by kernel_rfl) (by kernel_rfl) (by kernel_rfl)
 simpa [Op.equal,Op.maxDepth] using this⟩
def im (c:bY) (n:Int):Prop:=1≤n∧n≤c.aK
structure kY (c:bY):Prop where
 head:1≤c.aK∧c.aK≤4∧c.homes.length≤6
 link:∀ (i:Nat) x,c.ah[i]?=some x→im c x.1∧im c x.2∧x.1≠x.2
 lone:∀ (i k:Nat) x o,c.ah[i]?=some x→k<i→c.ah[k]?=some o→¬ (o.1=x.1∧o.2=x.2)∧¬ (o.1=x.2∧o.2=x.1)
 home:∀ (i:Nat) x,c.homes[i]?=some x→im c x
noncomputable def bT (c:bY):Bool:=@decide (kY c) (Classical.propDecidable _)
section
variable {c:bY} {i k:Nat}
theorem iO (h:bT c=true):kY c:=@of_decide_eq_true _ (Classical.propDecidable _) h
theorem wA (h:kY c):bT c=true:=@decide_eq_true _ (Classical.propDecidable _) h
theorem so (h:¬ kY c):bT c=false:=@decide_eq_false _ (Classical.propDecidable _) h
theorem iF (h:c.aK<1∨4<c.aK∨6<(c.homes.length:Int)):bT c=false:=so fun m=>by have:=m.head;omega
theorem iG {x:Int×Int} (g:c.ah[i]?=some x) (h:x.1<1∨c.aK<x.1∨x.2<1∨c.aK<x.2∨x.1=x.2):bT c=false:=so fun m=>by have:=m.link i x g;unfold im at this;omega
theorem iH {x o:Int×Int} (g:c.ah[i]?=some x) (hk:k<i) (g2:c.ah[k]?=some o) (h:(o.1=x.1∧o.2=x.2)∨(o.1=x.2∧o.2=x.1)):bT c=false:=so fun m=>by have:=m.lone i k x o g hk g2;omega
theorem iI {x:Int} (g:c.homes[i]?=some x) (h:x<1∨c.aK<x):bT c=false:=so fun m=>by have:=m.home i x g;unfold im at this;omega
def lY (c:bY) (i:Nat):Prop:=∀ (j:Nat) x,j<i→c.ah[j]?=some x→(im c x.1∧im c x.2∧x.1≠x.2)∧∀ (k:Nat) o,k<j→c.ah[k]?=some o→¬ (o.1=x.1∧o.2=x.2)∧¬ (o.1=x.2∧o.2=x.1)
def lZ (c:bY) (x:Int×Int) (k:Nat):Prop:=∀ (j:Nat) o,j<k→c.ah[j]?=some o→¬ (o.1=x.1∧o.2=x.2)∧¬ (o.1=x.2∧o.2=x.1)
def l0 (c:bY) (i:Nat):Prop:=∀ (j:Nat) x,j<i→c.homes[j]?=some x→im c x
theorem lY.next {x:Int×Int} (h:lY c i) (g:c.ah[i]?=some x) (h1:1≤x.1∧x.1≤c.aK∧1≤x.2∧x.2≤c.aK∧x.1≠x.2) (h2:lZ c x i):lY c (i+1):=fun j y hj gy=>by
 rcases Nat.lt_succ_iff_lt_or_eq.1 hj with h' | rfl
 ·exact h j y h' gy
 ·rw [g] at gy;cases gy
  exact ⟨⟨⟨h1.1,h1.2.1⟩,⟨h1.2.2.1,h1.2.2.2.1⟩,h1.2.2.2.2⟩,h2⟩
theorem lZ.next {x o:Int×Int} (h:lZ c x k) (g:c.ah[k]?=some o) (h1:¬ (o.1=x.1∧o.2=x.2)∧¬ (o.1=x.2∧o.2=x.1)):lZ c x (k+1):=fun j y hj gy=>by
 rcases Nat.lt_succ_iff_lt_or_eq.1 hj with h' | rfl
 ·exact h j y h' gy
 ·rw [g] at gy;cases gy;exact h1
theorem lZ.none (x:Int×Int):lZ c x 0:=fun _ _ h=>absurd h (Nat.not_lt_zero _)
theorem lY.none:lY c 0:=fun _ _ h=>absurd h (Nat.not_lt_zero _)
theorem l0.none:l0 c 0:=fun _ _ h=>absurd h (Nat.not_lt_zero _)
theorem l0.next {x:Int} (h:l0 c i) (g:c.homes[i]?=some x) (h1:1≤x∧x≤c.aK):l0 c (i+1):=fun j y hj gy=>by
 rcases Nat.lt_succ_iff_lt_or_eq.1 hj with h' | rfl
 ·exact h j y h' gy
 ·rw [g] at gy;cases gy;exact h1
theorem iJ (h0:1≤c.aK∧c.aK≤4∧(c.homes.length:Int)≤6) (h1:lY c i) (hi:c.ah.length≤i) (h2:l0 c k) (hk:c.homes.length≤k):bT c=true:=wA
 ⟨by omega,fun j x g=>(h1 j x (by have:=(List.getElem?_eq_some_iff.1 g).1;omega) g).1,fun j k x o g hk g2=>(h1 j x (by have:=(List.getElem?_eq_some_iff.1 g).1;omega) g).2 k o hk g2,fun j x g=>h2 j x (by have:=(List.getElem?_eq_some_iff.1 g).1;omega) g⟩
end
theorem dC {a b c d:Int}:(a==c&&b==d)=true→a=c∧b=d:=by simp
theorem Bd {a b c d:Int}:(a==c&&b==d)=false→¬ (a=c∧b=d):=by simp
set_option maxRecDepth 100000 in
theorem oK (c:bY) (hl:c.ah.length≤9223372036854775807) (hh:c.homes.length≤9223372036854775807):ay Tryd.prog 13 [.ag [.z c.aK,.d (.ro 2 (ah c.ah)),.d (.ro 1 (ints c.homes))]] (.v (.bool (bT c))):=by
 refine ay.intro (by kernel_rfl) rfl rfl 87 rfl rfl fun w0 K ac hK r=>?_
 cases h0:(decide ((c.aK:Int)<1)) with
 | false=>
  have bw:=of_decide_eq_false h0
  cases h1:(decide ((4:Int)<c.aK)) with
  | false=>
   have bW:=of_decide_eq_false h1
   have aY:=((by first | rfl | (simp [ah];omega) | simp [af,ah,ints]):(((ints c.homes).length:Nat):Int)=((c.homes.length:Nat):Int))
   cases h2:(decide ((6:Int)<((c.homes.length:Nat):Int))) with
   | false=>
    have dG:=of_decide_eq_false h2
    refine cT (todo':=hd Tryd.f13 0) (E':=[(1,.pt 0 0),(3,.fn 33 [.pt 0 0]),(26,.d (.ro 2 (ah c.ah))),(27,.n c.ah.length),(28,.n 0)]) (M':=[.bx 25 [.z c.aK,.d (.ro 2 (ah c.ah)),.d (.ro 1 (ints c.homes))]]) tk mo hK [(1,[(2,.b false),(6,.b false),(11,.z (((c.homes.length:Nat):Int))),(12,.b false)]),(4,[(2,.z (((c.ah.length:Nat):Int)))])] 2000 [0] [1,3,26,27,28] r (by kernel_rfl) (U h0 (U h1 (U aY (U h2 (U ((by first | rfl | (simp [ah];omega) | simp [af,ah,ints]):(((ah c.ah).length:Nat):Int)=((c.ah.length:Nat):Int)) trivial))))) fun ac wd r=>?_
    refine aC.rounds (Φ:=fun (i:Nat) ac wd=>(lY c i)∧dA [] w0 K 87 [(1,.pt 0 0),(3,.fn 33 [.pt 0 0]),(26,.d (.ro 2 (ah c.ah))),(27,.n c.ah.length),(28,.n i)] [.bx 25 [.z c.aK,.d (.ro 2 (ah c.ah)),.d (.ro 1 (ints c.homes))]] ac wd) (c.ah.length) ?_ (Nat.zero_le _) ⟨lY.none,r⟩
    clear r
    rintro i e7 b6 ac wd ⟨aq,r⟩
    cases h3:(decide ((((i:Nat):Int):Int)<((c.ah.length:Nat):Int))) with
    | false=>
     have dX:=of_decide_eq_false h3
     refine cT (todo':=hd Tryd.f13 2) (E':=[(1,.pt 0 0),(3,.fn 33 [.pt 0 0]),(76,.d (.ro 1 (ints c.homes))),(77,.n c.homes.length),(78,.n 0)]) (M':=[.bx 25 [.z c.aK,.d (.ro 2 (ah c.ah)),.d (.ro 1 (ints c.homes))]]) tk mo hK [(5,[(0,.b false)]),(16,[(2,.z (((c.homes.length:Nat):Int)))])] 2000 [0] [1,3,76,77,78] r (by kernel_rfl) (U h3 (U aY trivial)) fun ac wd r=>?_
     refine aC.rounds (Φ:=fun (i:Nat) ac wd=>(l0 c i)∧dA [] w0 K 87 [(1,.pt 0 0),(3,.fn 33 [.pt 0 0]),(76,.d (.ro 1 (ints c.homes))),(77,.n c.homes.length),(78,.n i)] [.bx 25 [.z c.aK,.d (.ro 2 (ah c.ah)),.d (.ro 1 (ints c.homes))]] ac wd) (c.homes.length) ?_ (Nat.zero_le _) ⟨l0.none,r⟩
     clear r
     rintro i Nz IK ac wd ⟨gi,r⟩
     cases h4:(decide ((((i:Nat):Int):Int)<((c.homes.length:Nat):Int))) with
     | false=>
      have fx:=of_decide_eq_false h4
      rw [show (.v (.bool (bT c)):DV)=.v (.bool true) from (bv (by first | exact iJ (by omega) aq (by omega) gi (by omega) | exact iF (by omega) | exact iI dP (by omega) | exact iH cz (by omega) gl (by first | omega | exact .inl (dC (by assumption)) | exact .inr (dC (by assumption))) | exact iG cz (by omega)))]
      exact br tk mo hK rfl [(17,[(0,.b false)])] 2000 r (by kernel_rfl) (U h4 trivial)
     | true=>
      have fx:=of_decide_eq_true h4
      obtain ⟨eR,dP⟩:∃ x_,c.homes[i]?=some x_:=⟨_,List.getElem?_eq_getElem (by omega)⟩
      cases h5:(decide ((1:Int)≤eR)) with
      | false=>
       have fy:=of_decide_eq_false h5
       rw [show (.v (.bool (bT c)):DV)=.v (.bool false) from (bv (by first | exact iJ (by omega) aq (by omega) gi (by omega) | exact iF (by omega) | exact iI dP (by omega) | exact iH cz (by omega) gl (by first | omega | exact .inl (dC (by assumption)) | exact .inr (dC (by assumption))) | exact iG cz (by omega)))]
       exact br tk mo hK rfl [(17,[(0,.b true)]),(18,[(0,.ix (i) [.z eR])]),(19,[(2,.bG 200 [(1,[(1,.b false)])])])] 2000 r (by kernel_rfl) (U h4 (U (aN ((i:Nat):Int)) (U (ints_at dP) (U h5 trivial))))
      | true=>
       have fy:=of_decide_eq_true h5
       cases h6:(decide ((eR:Int)≤c.aK)) with
       | false=>
        have jc:=of_decide_eq_false h6
        rw [show (.v (.bool (bT c)):DV)=.v (.bool false) from (bv (by first | exact iJ (by omega) aq (by omega) gi (by omega) | exact iF (by omega) | exact iI dP (by omega) | exact iH cz (by omega) gl (by first | omega | exact .inl (dC (by assumption)) | exact .inr (dC (by assumption))) | exact iG cz (by omega)))]
        exact br tk mo hK rfl [(17,[(0,.b true)]),(18,[(0,.ix (i) [.z eR])]),(19,[(2,.bG 200 [(1,[(1,.b true),(6,.b false)])])])] 2000 r (by kernel_rfl) (U h4 (U (aN ((i:Nat):Int)) (U (ints_at dP) (U h5 (U h6 trivial)))))
       | true=>
        have jc:=of_decide_eq_true h6
        exact cT (todo':=hd Tryd.f13 2) tk mo hK [(17,[(0,.b true)]),(18,[(0,.ix (i) [.z eR])]),(19,[(2,.bG 200 [(1,[(1,.b true),(6,.b true)])])]),(21,[(0,.z (((i+1:Nat):Int)))])] 2000 [0] [1,3,76,77,78] r (by kernel_rfl) (U h4 (U (aN ((i:Nat):Int)) (U (ints_at dP) (U h5 (U h6 (U ((wi (by omega)):IntKind.i64.wrap ((((i:Nat):Int):Int)+1)=((i+1:Nat):Int)) trivial)))))) fun ac wd r=>IK (by omega) ac wd ⟨(gi.next dP (by omega)),r⟩
    | true=>
     have dX:=of_decide_eq_true h3
     obtain ⟨bn,cz⟩:∃ x_,c.ah[i]?=some x_:=⟨_,List.getElem?_eq_getElem (by omega)⟩
     cases h7:(decide ((1:Int)≤bn.1)) with
     | false=>
      have eA:=of_decide_eq_false h7
      rw [show (.v (.bool (bT c)):DV)=.v (.bool false) from (bv (by first | exact iJ (by omega) aq (by omega) gi (by omega) | exact iF (by omega) | exact iI dP (by omega) | exact iH cz (by omega) gl (by first | omega | exact .inl (dC (by assumption)) | exact .inr (dC (by assumption))) | exact iG cz (by omega)))]
      exact br tk mo hK rfl [(5,[(0,.b true)]),(6,[(1,.ix (i) [.z bn.1,.z bn.2])]),(7,[(1,.n 0),(3,.bG 200 [(1,[(1,.b false)])])])] 2000 r (by kernel_rfl) (U h3 (U (aN ((i:Nat):Int)) (U (iE cz) (U (rfl:(0)=((0:Nat):Int)) (U ((by omega):(0)<2) (U h7 trivial))))))
     | true=>
      have eA:=of_decide_eq_true h7
      cases h8:(decide ((bn.1:Int)≤c.aK)) with
      | false=>
       have gO:=of_decide_eq_false h8
       rw [show (.v (.bool (bT c)):DV)=.v (.bool false) from (bv (by first | exact iJ (by omega) aq (by omega) gi (by omega) | exact iF (by omega) | exact iI dP (by omega) | exact iH cz (by omega) gl (by first | omega | exact .inl (dC (by assumption)) | exact .inr (dC (by assumption))) | exact iG cz (by omega)))]
       exact br tk mo hK rfl [(5,[(0,.b true)]),(6,[(1,.ix (i) [.z bn.1,.z bn.2])]),(7,[(1,.n 0),(3,.bG 200 [(1,[(1,.b true),(6,.b false)])])])] 2000 r (by kernel_rfl) (U h3 (U (aN ((i:Nat):Int)) (U (iE cz) (U (rfl:(0)=((0:Nat):Int)) (U ((by omega):(0)<2) (U h7 (U h8 trivial)))))))
      | true=>
       have gO:=of_decide_eq_true h8
       cases h9:(decide ((1:Int)≤bn.2)) with
       | false=>
        have pd:=of_decide_eq_false h9
        rw [show (.v (.bool (bT c)):DV)=.v (.bool false) from (bv (by first | exact iJ (by omega) aq (by omega) gi (by omega) | exact iF (by omega) | exact iI dP (by omega) | exact iH cz (by omega) gl (by first | omega | exact .inl (dC (by assumption)) | exact .inr (dC (by assumption))) | exact iG cz (by omega)))]
        exact br tk mo hK rfl [(5,[(0,.b true)]),(6,[(1,.ix (i) [.z bn.1,.z bn.2])]),(7,[(1,.n 0),(3,.bG 200 [(1,[(1,.b true),(6,.b true)])]),(7,.n 1),(9,.bG 200 [(1,[(1,.b false)])])])] 2000 r (by kernel_rfl) (U h3 (U (aN ((i:Nat):Int)) (U (iE cz) (U (rfl:(0)=((0:Nat):Int)) (U ((by omega):(0)<2) (U h7 (U h8 (U (rfl:(1)=((1:Nat):Int)) (U ((by omega):(1)<2) (U h9 trivial))))))))))
       | true=>
        have pd:=of_decide_eq_true h9
        cases di:(decide ((bn.2:Int)≤c.aK)) with
        | false=>
         have nr:=of_decide_eq_false di
         rw [show (.v (.bool (bT c)):DV)=.v (.bool false) from (bv (by first | exact iJ (by omega) aq (by omega) gi (by omega) | exact iF (by omega) | exact iI dP (by omega) | exact iH cz (by omega) gl (by first | omega | exact .inl (dC (by assumption)) | exact .inr (dC (by assumption))) | exact iG cz (by omega)))]
         exact br tk mo hK rfl [(5,[(0,.b true)]),(6,[(1,.ix (i) [.z bn.1,.z bn.2])]),(7,[(1,.n 0),(3,.bG 200 [(1,[(1,.b true),(6,.b true)])]),(7,.n 1),(9,.bG 200 [(1,[(1,.b true),(6,.b false)])])])] 2000 r (by kernel_rfl) (U h3 (U (aN ((i:Nat):Int)) (U (iE cz) (U (rfl:(0)=((0:Nat):Int)) (U ((by omega):(0)<2) (U h7 (U h8 (U (rfl:(1)=((1:Nat):Int)) (U ((by omega):(1)<2) (U h9 (U di trivial)))))))))))
        | true=>
         have nr:=of_decide_eq_true di
         cases jd:((bn.1:Int)==bn.2) with
         | false=>
          have KX:=ne_of_beq_false jd
          refine cT (todo':=hd Tryd.f13 1) (E':=[(1,.pt 0 0),(3,.fn 33 [.pt 0 0]),(26,.d (.ro 2 (ah c.ah))),(27,.n c.ah.length),(28,.n i),(55,.d (.ro 2 (List.take (i) (ah c.ah)))),(56,.n i),(57,.n 0),(5,.pt 1 0)]) (M':=[.bx 25 [.z c.aK,.d (.ro 2 (ah c.ah)),.d (.ro 1 (ints c.homes))],.bx 71 [.z bn.1,.z bn.2]]) tk mo hK [(5,[(0,.b true)]),(6,[(1,.ix (i) [.z bn.1,.z bn.2])]),(7,[(1,.n 0),(3,.bG 200 [(1,[(1,.b true),(6,.b true)])]),(7,.n 1),(9,.bG 200 [(1,[(1,.b true),(6,.b true)])]),(13,.n 0),(15,.n 1),(17,.b false)]),(9,[(3,.n2 (i) (0)),(4,.z (((i:Nat):Int)))])] 2000 [0,1] [1,3,26,27,28,55,56,57,5] r (by kernel_rfl) (U h3 (U (aN ((i:Nat):Int)) (U (iE cz) (U (rfl:(0)=((0:Nat):Int)) (U ((by omega):(0)<2) (U h7 (U h8 (U (rfl:(1)=((1:Nat):Int)) (U ((by omega):(1)<2) (U h9 (U di (U (rfl:(0)=((0:Nat):Int)) (U ((by omega):(0)<2) (U (rfl:(1)=((1:Nat):Int)) (U ((by omega):(1)<2) (U jd (U (aN ((i:Nat):Int)) (U ((by first | omega | (simp [af,ah,ints,steps,strs];done) | (simp [af,ah,ints,steps,strs];omega)):(i)≤(ah c.ah:List (List DV)).length) (U ((by first | rfl | (simp [ah];omega) | simp [af,ah,ints]):(((List.take (i) (ah c.ah)).length:Nat):Int)=((i:Nat):Int)) trivial))))))))))))))))))) fun ac wd r=>?_
          refine aC.rounds (Φ:=fun (k:Nat) ac wd=>(lZ c bn k)∧dA [] w0 K 87 [(1,.pt 0 0),(3,.fn 33 [.pt 0 0]),(26,.d (.ro 2 (ah c.ah))),(27,.n c.ah.length),(28,.n i),(55,.d (.ro 2 (List.take (i) (ah c.ah)))),(56,.n i),(57,.n k),(5,.pt 1 0)] [.bx 25 [.z c.aK,.d (.ro 2 (ah c.ah)),.d (.ro 1 (ints c.homes))],.bx 71 [.z bn.1,.z bn.2]] ac wd) (i) ?_ (Nat.zero_le _) ⟨lZ.none _,r⟩
          clear r
          rintro k qU jF ac wd ⟨dV,r⟩
          cases iB:(decide ((((k:Nat):Int):Int)<((i:Nat):Int))) with
          | false=>
           have KY:=of_decide_eq_false iB
           exact cT (todo':=hd Tryd.f13 0) tk mo hK [(10,[(0,.b false)]),(15,[(0,.z (((i+1:Nat):Int)))])] 2000 [0] [1,3,26,27,28] r (by kernel_rfl) (U iB (U ((wi (by omega)):IntKind.i64.wrap ((((i:Nat):Int):Int)+1)=((i+1:Nat):Int)) trivial)) fun ac wd r=>b6 (by omega) ac wd ⟨(aq.next cz (by omega) (fun j o hj hx=>dV j o (by omega) hx)),r⟩
          | true=>
           have KY:=of_decide_eq_true iB
           obtain ⟨eT,gl⟩:∃ x_,c.ah[k]?=some x_:=⟨_,List.getElem?_eq_getElem (by omega)⟩
           have bH:=((by rw [List.getElem?_take,if_pos (by omega)];exact iE gl):(List.take (i) (ah c.ah))[k]?=some [.z eT.1,.z eT.2])
           cases lr:(eT.1==bn.1&&eT.2==bn.2) with
           | false=>
            have cB:=((pc (ox _ _ _ _) lr):jI Tryd.prog 71 [(.int .i64 (eT.1)),(.int .i64 (eT.2))] [(.int .i64 (bn.1)),(.int .i64 (bn.2))] false)
            cases CM:(eT.1==bn.2&&eT.2==bn.1) with
            | false=>
             exact cT (todo':=hd Tryd.f13 1) tk mo hK [(10,[(0,.b true)]),(11,[(0,.ix (k) [.z eT.1,.z eT.2])]),(12,[(2,.b false),(5,.n 1),(7,.n 0),(10,.b false)]),(14,[(0,.z (((k+1:Nat):Int)))])] 2000 [0,1] [1,3,26,27,28,55,56,57,5] r (by kernel_rfl) (U iB (U (aN ((k:Nat):Int)) (U bH (U cB (U (rfl:(1)=((1:Nat):Int)) (U ((by omega):(1)<2) (U (rfl:(0)=((0:Nat):Int)) (U ((by omega):(0)<2) (U ((pc (ox _ _ _ _) CM):jI Tryd.prog 71 [(.int .i64 (eT.1)),(.int .i64 (eT.2))] [(.int .i64 (bn.2)),(.int .i64 (bn.1))] false) (U ((wi (by omega)):IntKind.i64.wrap ((((k:Nat):Int):Int)+1)=((k+1:Nat):Int)) trivial)))))))))) fun ac wd r=>jF (by omega) ac wd ⟨(dV.next gl ⟨by first | exact Bd (by assumption) | omega,by first | exact Bd (by assumption) | omega⟩),r⟩
            | true=>
             rw [show (.v (.bool (bT c)):DV)=.v (.bool false) from (bv (by first | exact iJ (by omega) aq (by omega) gi (by omega) | exact iF (by omega) | exact iI dP (by omega) | exact iH cz (by omega) gl (by first | omega | exact .inl (dC (by assumption)) | exact .inr (dC (by assumption))) | exact iG cz (by omega)))]
             exact br tk mo hK rfl [(10,[(0,.b true)]),(11,[(0,.ix (k) [.z eT.1,.z eT.2])]),(12,[(2,.b false),(5,.n 1),(7,.n 0),(10,.b true)])] 2000 r (by kernel_rfl) (U iB (U (aN ((k:Nat):Int)) (U bH (U cB (U (rfl:(1)=((1:Nat):Int)) (U ((by omega):(1)<2) (U (rfl:(0)=((0:Nat):Int)) (U ((by omega):(0)<2) (U ((pc (ox _ _ _ _) CM):jI Tryd.prog 71 [(.int .i64 (eT.1)),(.int .i64 (eT.2))] [(.int .i64 (bn.2)),(.int .i64 (bn.1))] true) trivial)))))))))
           | true=>
            rw [show (.v (.bool (bT c)):DV)=.v (.bool false) from (bv (by first | exact iJ (by omega) aq (by omega) gi (by omega) | exact iF (by omega) | exact iI dP (by omega) | exact iH cz (by omega) gl (by first | omega | exact .inl (dC (by assumption)) | exact .inr (dC (by assumption))) | exact iG cz (by omega)))]
            exact br tk mo hK rfl [(10,[(0,.b true)]),(11,[(0,.ix (k) [.z eT.1,.z eT.2])]),(12,[(2,.b true)])] 2000 r (by kernel_rfl) (U iB (U (aN ((k:Nat):Int)) (U bH (U ((pc (ox _ _ _ _) lr):jI Tryd.prog 71 [(.int .i64 (eT.1)),(.int .i64 (eT.2))] [(.int .i64 (bn.1)),(.int .i64 (bn.2))] true) trivial))))
         | true=>
          have KX:=eq_of_beq jd
          rw [show (.v (.bool (bT c)):DV)=.v (.bool false) from (bv (by first | exact iJ (by omega) aq (by omega) gi (by omega) | exact iF (by omega) | exact iI dP (by omega) | exact iH cz (by omega) gl (by first | omega | exact .inl (dC (by assumption)) | exact .inr (dC (by assumption))) | exact iG cz (by omega)))]
          exact br tk mo hK rfl [(5,[(0,.b true)]),(6,[(1,.ix (i) [.z bn.1,.z bn.2])]),(7,[(1,.n 0),(3,.bG 200 [(1,[(1,.b true),(6,.b true)])]),(7,.n 1),(9,.bG 200 [(1,[(1,.b true),(6,.b true)])]),(13,.n 0),(15,.n 1),(17,.b true)])] 2000 r (by kernel_rfl) (U h3 (U (aN ((i:Nat):Int)) (U (iE cz) (U (rfl:(0)=((0:Nat):Int)) (U ((by omega):(0)<2) (U h7 (U h8 (U (rfl:(1)=((1:Nat):Int)) (U ((by omega):(1)<2) (U h9 (U di (U (rfl:(0)=((0:Nat):Int)) (U ((by omega):(0)<2) (U (rfl:(1)=((1:Nat):Int)) (U ((by omega):(1)<2) (U jd trivial))))))))))))))))
   | true=>
    have dG:=of_decide_eq_true h2
    rw [show (.v (.bool (bT c)):DV)=.v (.bool false) from (bv (by first | exact iJ (by omega) aq (by omega) gi (by omega) | exact iF (by omega) | exact iI dP (by omega) | exact iH cz (by omega) gl (by first | omega | exact .inl (dC (by assumption)) | exact .inr (dC (by assumption))) | exact iG cz (by omega)))]
    exact br tk mo hK rfl [(1,[(2,.b false),(6,.b false),(11,.z (((c.homes.length:Nat):Int))),(12,.b true)])] 2000 r (by kernel_rfl) (U h0 (U h1 (U aY (U h2 trivial))))
  | true=>
   have bW:=of_decide_eq_true h1
   rw [show (.v (.bool (bT c)):DV)=.v (.bool false) from (bv (by first | exact iJ (by omega) aq (by omega) gi (by omega) | exact iF (by omega) | exact iI dP (by omega) | exact iH cz (by omega) gl (by first | omega | exact .inl (dC (by assumption)) | exact .inr (dC (by assumption))) | exact iG cz (by omega)))]
   exact br tk mo hK rfl [(1,[(2,.b false),(6,.b true)])] 2000 r (by kernel_rfl) (U h0 (U h1 trivial))
 | true=>
  have bw:=of_decide_eq_true h0
  rw [show (.v (.bool (bT c)):DV)=.v (.bool false) from (bv (by first | exact iJ (by omega) aq (by omega) gi (by omega) | exact iF (by omega) | exact iI dP (by omega) | exact iH cz (by omega) gl (by first | omega | exact .inl (dC (by assumption)) | exact .inr (dC (by assumption))) | exact iG cz (by omega)))]
  exact br tk mo hK rfl [(1,[(2,.b true)])] 2000 r (by kernel_rfl) (U h0 trivial)
end Go.Proofs.YtcnpikbbmbombaaDoor
namespace Go.Proofs.YtcnpikbbmbombaaDoor
open Go.RowKit
structure jw where
 word:List UInt8
 node:Bool
 peer:Bool
 n:Bool
 bit:Bool
 inc:Bool
 body:Bool
def lO:List jw:=[⟨[110,111,110,101],false,false,false,false,false,false⟩,⟨[116,105,99,107],true,false,false,false,false,false⟩,⟨[100,101,108,105,118,101,114],true,true,true,false,false,false⟩,⟨[100,114,111,112],true,true,true,false,false,false⟩,⟨[100,111,117,98,108,101],true,true,true,false,false,false⟩,⟨[115,112,111,105,108],true,true,true,true,false,false⟩,⟨[99,117,116],true,true,false,false,false,false⟩,⟨[104,101,97,108],true,true,false,false,false,false⟩,⟨[99,114,97,115,104],true,false,false,false,false,false⟩,⟨[115,116,97,114,116],true,false,false,false,true,false⟩,⟨[115,101,110,100],true,false,false,false,false,true⟩,⟨[98,108,111,99,107,111,107],true,false,false,false,false,false⟩,⟨[106,111,105,110],true,false,false,false,false,false⟩,⟨[108,101,97,118,101],true,false,false,false,false,false⟩]
def ae (k:Nat):jw:=lO.getD k ⟨[],false,false,false,false,false,false⟩
def jw.row (x:jw):List DV:=[.v (.string ⟨x.word.toArray⟩),.v (.bool x.node),.v (.bool x.peer),.v (.bool x.n),.v (.bool x.bit),.v (.bool x.inc),.v (.bool x.body)]
def aj:List DV:=lO.flatMap jw.row
theorem r4 {p:Nat→Prop} (h0:p 0) (h1:p 1) (h2:p 2) (h3:p 3) (h4:p 4) (h5:p 5) (h6:p 6) (h7:p 7) (h8:p 8) (h9:p 9) (di:p 10) (jd:p 11) (iB:p 12) (lr:p 13) {k:Nat} (h:k<14):p k:=
 match k,h with
 | 0,_=>h0 | 1,_=>h1 | 2,_=>h2 | 3,_=>h3 | 4,_=>h4 | 5,_=>h5 | 6,_=>h6 | 7,_=>h7 | 8,_=>h8 | 9,_=>h9 | 10,_=>di | 11,_=>jd | 12,_=>iB | 13,_=>lr
theorem mK {k:Nat} (h:k<14):List.take 7 (List.drop (k*7) aj)=(ae k).row:=r4 (p:=fun k=>List.take 7 (List.drop (k*7) aj)=(ae k).row) rfl rfl rfl rfl rfl rfl rfl rfl rfl rfl rfl rfl rfl rfl h
def cE (has:Bool) (n most:Int):Bool:=decide (n=0)||(has&&(decide (0<n)&&decide (n≤most)))
def eX (s:aJ) (x:jw):Bool:=cE x.node s.node 255&&(cE x.peer s.peer 255&&(cE x.n s.n 255&&(cE x.bit s.bit 65535&&(cE x.body s.body.length 255&&(x.inc||decide ((s.inc:Int)=0))))))
def hasB (s:aJ):Bool:=decide (0≤s.kind)&&(decide (s.kind<14)&&eX s (ae s.kind.toNat))
theorem gx {s:aJ} (h:s.kind<0∨14≤s.kind):hasB s=false:=by unfold hasB;simp;omega
theorem gv {s:aJ} {b:Bool} (h:0≤s.kind) (h2:s.kind<14) (e:eX s (ae s.kind.toNat)=b):hasB s=b:=by unfold hasB;rw [decide_eq_true h,decide_eq_true h2,Bool.true_and,Bool.true_and,e]
set_option maxRecDepth 100000 in
theorem EH (n most:Int):ay Tryd.prog 35 [.d (.v (.bool true)),.z n,.z most] (.v (.bool (cE true n most))):=by
 refine ay.intro (by kernel_rfl) rfl rfl 21 rfl rfl fun w0 K ac hK r=>?_
 cases h0:((n:Int)==0) with
 | false=>
  have bw:=ne_of_beq_false h0
  cases h1:(decide ((0:Int)<n)) with
  | false=>
   have bW:=of_decide_eq_false h1
   rw [show (.v (.bool (cE true n most)):DV)=.v (.bool false) from (bv (by unfold cE;simp<;>omega))]
   exact br tk mo hK rfl [(1,[(1,.b false),(6,.b false)])] 2000 r (by kernel_rfl) (U h0 (U h1 trivial))
  | true=>
   have bW:=of_decide_eq_true h1
   cases h2:(decide ((n:Int)≤most)) with
   | false=>
    have dG:=of_decide_eq_false h2
    rw [show (.v (.bool (cE true n most)):DV)=.v (.bool false) from (bv (by unfold cE;simp<;>omega))]
    exact br tk mo hK rfl [(1,[(1,.b false),(6,.b true),(11,.b false)])] 2000 r (by kernel_rfl) (U h0 (U h1 (U h2 trivial)))
   | true=>
    have dG:=of_decide_eq_true h2
    rw [show (.v (.bool (cE true n most)):DV)=.v (.bool true) from (bv (by unfold cE;simp<;>omega))]
    exact br tk mo hK rfl [(1,[(1,.b false),(6,.b true),(11,.b true)])] 2000 r (by kernel_rfl) (U h0 (U h1 (U h2 trivial)))
 | true=>
  have bw:=eq_of_beq h0
  rw [show (.v (.bool (cE true n most)):DV)=.v (.bool true) from (bv (by unfold cE;simp<;>omega))]
  exact br tk mo hK rfl [(1,[(1,.b true)])] 2000 r (by kernel_rfl) (U h0 trivial)
set_option maxRecDepth 100000 in
theorem DX (n most:Int):ay Tryd.prog 35 [.d (.v (.bool false)),.z n,.z most] (.v (.bool (cE false n most))):=by
 refine ay.intro (by kernel_rfl) rfl rfl 21 rfl rfl fun w0 K ac hK r=>?_
 cases h0:((n:Int)==0) with
 | false=>
  have bw:=ne_of_beq_false h0
  rw [show (.v (.bool (cE false n most)):DV)=.v (.bool false) from (bv (by unfold cE;simp<;>omega))]
  exact br tk mo hK rfl [(1,[(1,.b false)])] 2000 r (by kernel_rfl) (U h0 trivial)
 | true=>
  have bw:=eq_of_beq h0
  rw [show (.v (.bool (cE false n most)):DV)=.v (.bool true) from (bv (by unfold cE;simp<;>omega))]
  exact br tk mo hK rfl [(1,[(1,.b true)])] 2000 r (by kernel_rfl) (U h0 trivial)
theorem eV (has:Bool) (n most:Int):ay Tryd.prog 35 [.d (.v (.bool has)),.z n,.z most] (.v (.bool (cE has n most))):=by
 cases has with
 | true=>exact EH n most
 | false=>exact DX n most
set_option maxRecDepth 100000 in
theorem wB (s:aJ):ax Tryd.prog 16 [.ag [.z s.kind,.z s.node,.z s.peer,.z s.n,.z s.bit,.u s.inc,.d (.ro 1 (af s.body))]] [.gw 0 aj] (.d (.v (.bool (hasB s)))) ([.gw 0 aj]):=by
 refine ax.intro (by kernel_rfl) rfl rfl 59 rfl rfl fun D w0 K bs ac wd hK (al:bs.m=1) r=>?_
 cases h0:(decide ((s.kind:Int)<0)) with
 | false=>
  have bw:=of_decide_eq_false h0
  cases h1:(decide ((14:Int)≤s.kind)) with
  | false=>
   have bW:=of_decide_eq_false h1
   cases h2:((ae s.kind.toNat).inc) with
   | false=>
    have aY:=((by rw [mK (by omega)];unfold jw.row;rw [h2]):List.take 7 (List.drop ((s.kind.toNat)*7) (aj:List DV))=([.v (.string ⟨((ae s.kind.toNat).word).toArray⟩),.v (.bool ((ae s.kind.toNat).node)),.v (.bool ((ae s.kind.toNat).peer)),.v (.bool ((ae s.kind.toNat).n)),.v (.bool ((ae s.kind.toNat).bit)),.v (.bool false),.v (.bool ((ae s.kind.toNat).body))]:List DV))
    cases h3:(cE ((ae s.kind.toNat).node) s.node 255) with
    | false=>
     refine a7 (y:=.d (.v (.bool false))) (N':=[.gw 0 aj]) ((congrArg (fun b=>AV.d (.v (.bool b))) (by first | exact gx (by omega) | exact gv (by omega) (by omega) (by unfold eX;simp [h0,h1,h2,h3]<;>omega)))) (rfl) ?_
     exact aZ tk mo hK rfl al [(1,[(2,.b false),(6,.b false)]),(3,[(2,.ix (s.kind.toNat) [.v (.string ⟨((ae s.kind.toNat).word).toArray⟩),.v (.bool ((ae s.kind.toNat).node)),.v (.bool ((ae s.kind.toNat).peer)),.v (.bool ((ae s.kind.toNat).n)),.v (.bool ((ae s.kind.toNat).bit)),.v (.bool false),.v (.bool ((ae s.kind.toNat).body))])]),(4,[(4,.aP (.v (.bool false)))])] 2000 [0] r (by kernel_rfl) (U h0 (U h1 (U ((by omega):(s.kind)=((s.kind.toNat:Nat):Int)) (U ((by omega):(s.kind.toNat)<14) (U aY (U ((by have k:=eV ((ae s.kind.toNat).node) s.node 255;rw [h3] at k;exact k):ay Tryd.prog 35 [.d (.v (.bool ((ae s.kind.toNat).node))),.z s.node,.z 255] (.v (.bool false))) trivial))))))
    | true=>
     have bH:=((by have k:=eV ((ae s.kind.toNat).node) s.node 255;rw [h3] at k;exact k):ay Tryd.prog 35 [.d (.v (.bool ((ae s.kind.toNat).node))),.z s.node,.z 255] (.v (.bool true)))
     cases h4:(cE ((ae s.kind.toNat).peer) s.peer 255) with
     | false=>
      refine a7 (y:=.d (.v (.bool false))) (N':=[.gw 0 aj]) ((congrArg (fun b=>AV.d (.v (.bool b))) (by first | exact gx (by omega) | exact gv (by omega) (by omega) (by unfold eX;simp [h0,h1,h2,h3,h4]<;>omega)))) (rfl) ?_
      exact aZ tk mo hK rfl al [(1,[(2,.b false),(6,.b false)]),(3,[(2,.ix (s.kind.toNat) [.v (.string ⟨((ae s.kind.toNat).word).toArray⟩),.v (.bool ((ae s.kind.toNat).node)),.v (.bool ((ae s.kind.toNat).peer)),.v (.bool ((ae s.kind.toNat).n)),.v (.bool ((ae s.kind.toNat).bit)),.v (.bool false),.v (.bool ((ae s.kind.toNat).body))])]),(4,[(4,.aP (.v (.bool true))),(10,.aP (.v (.bool false)))])] 2000 [0] r (by kernel_rfl) (U h0 (U h1 (U ((by omega):(s.kind)=((s.kind.toNat:Nat):Int)) (U ((by omega):(s.kind.toNat)<14) (U aY (U bH (U ((by have k:=eV ((ae s.kind.toNat).peer) s.peer 255;rw [h4] at k;exact k):ay Tryd.prog 35 [.d (.v (.bool ((ae s.kind.toNat).peer))),.z s.peer,.z 255] (.v (.bool false))) trivial)))))))
     | true=>
      have cB:=((by have k:=eV ((ae s.kind.toNat).peer) s.peer 255;rw [h4] at k;exact k):ay Tryd.prog 35 [.d (.v (.bool ((ae s.kind.toNat).peer))),.z s.peer,.z 255] (.v (.bool true)))
      cases h5:(cE ((ae s.kind.toNat).n) s.n 255) with
      | false=>
       refine a7 (y:=.d (.v (.bool false))) (N':=[.gw 0 aj]) ((congrArg (fun b=>AV.d (.v (.bool b))) (by first | exact gx (by omega) | exact gv (by omega) (by omega) (by unfold eX;simp [h0,h1,h2,h3,h4,h5]<;>omega)))) (rfl) ?_
       exact aZ tk mo hK rfl al [(1,[(2,.b false),(6,.b false)]),(3,[(2,.ix (s.kind.toNat) [.v (.string ⟨((ae s.kind.toNat).word).toArray⟩),.v (.bool ((ae s.kind.toNat).node)),.v (.bool ((ae s.kind.toNat).peer)),.v (.bool ((ae s.kind.toNat).n)),.v (.bool ((ae s.kind.toNat).bit)),.v (.bool false),.v (.bool ((ae s.kind.toNat).body))])]),(4,[(4,.aP (.v (.bool true))),(10,.aP (.v (.bool true))),(17,.aP (.v (.bool false)))])] 2000 [0] r (by kernel_rfl) (U h0 (U h1 (U ((by omega):(s.kind)=((s.kind.toNat:Nat):Int)) (U ((by omega):(s.kind.toNat)<14) (U aY (U bH (U cB (U ((by have k:=eV ((ae s.kind.toNat).n) s.n 255;rw [h5] at k;exact k):ay Tryd.prog 35 [.d (.v (.bool ((ae s.kind.toNat).n))),.z s.n,.z 255] (.v (.bool false))) trivial))))))))
      | true=>
       have dH:=((by have k:=eV ((ae s.kind.toNat).n) s.n 255;rw [h5] at k;exact k):ay Tryd.prog 35 [.d (.v (.bool ((ae s.kind.toNat).n))),.z s.n,.z 255] (.v (.bool true)))
       cases h6:(cE ((ae s.kind.toNat).bit) s.bit 65535) with
       | false=>
        refine a7 (y:=.d (.v (.bool false))) (N':=[.gw 0 aj]) ((congrArg (fun b=>AV.d (.v (.bool b))) (by first | exact gx (by omega) | exact gv (by omega) (by omega) (by unfold eX;simp [h0,h1,h2,h3,h4,h5,h6]<;>omega)))) (rfl) ?_
        exact aZ tk mo hK rfl al [(1,[(2,.b false),(6,.b false)]),(3,[(2,.ix (s.kind.toNat) [.v (.string ⟨((ae s.kind.toNat).word).toArray⟩),.v (.bool ((ae s.kind.toNat).node)),.v (.bool ((ae s.kind.toNat).peer)),.v (.bool ((ae s.kind.toNat).n)),.v (.bool ((ae s.kind.toNat).bit)),.v (.bool false),.v (.bool ((ae s.kind.toNat).body))])]),(4,[(4,.aP (.v (.bool true))),(10,.aP (.v (.bool true))),(17,.aP (.v (.bool true))),(24,.aP (.v (.bool false)))])] 2000 [0] r (by kernel_rfl) (U h0 (U h1 (U ((by omega):(s.kind)=((s.kind.toNat:Nat):Int)) (U ((by omega):(s.kind.toNat)<14) (U aY (U bH (U cB (U dH (U ((by have k:=eV ((ae s.kind.toNat).bit) s.bit 65535;rw [h6] at k;exact k):ay Tryd.prog 35 [.d (.v (.bool ((ae s.kind.toNat).bit))),.z s.bit,.z 65535] (.v (.bool false))) trivial)))))))))
       | true=>
        have gP:=((by have k:=eV ((ae s.kind.toNat).bit) s.bit 65535;rw [h6] at k;exact k):ay Tryd.prog 35 [.d (.v (.bool ((ae s.kind.toNat).bit))),.z s.bit,.z 65535] (.v (.bool true)))
        have gQ:=((by first | rfl | simp [af,ah,ints,steps,strs]):(((af s.body).length:Nat):Int)=((s.body.length:Nat):Int))
        cases h7:(cE ((ae s.kind.toNat).body) ((s.body.length:Nat):Int) 255) with
        | false=>
         refine a7 (y:=.d (.v (.bool false))) (N':=[.gw 0 aj]) ((congrArg (fun b=>AV.d (.v (.bool b))) (by first | exact gx (by omega) | exact gv (by omega) (by omega) (by unfold eX;simp [h0,h1,h2,h3,h4,h5,h6,h7]<;>omega)))) (rfl) ?_
         exact aZ tk mo hK rfl al [(1,[(2,.b false),(6,.b false)]),(3,[(2,.ix (s.kind.toNat) [.v (.string ⟨((ae s.kind.toNat).word).toArray⟩),.v (.bool ((ae s.kind.toNat).node)),.v (.bool ((ae s.kind.toNat).peer)),.v (.bool ((ae s.kind.toNat).n)),.v (.bool ((ae s.kind.toNat).bit)),.v (.bool false),.v (.bool ((ae s.kind.toNat).body))])]),(4,[(4,.aP (.v (.bool true))),(10,.aP (.v (.bool true))),(17,.aP (.v (.bool true))),(24,.aP (.v (.bool true))),(31,.z (((s.body.length:Nat):Int))),(32,.aP (.v (.bool false)))])] 2000 [0] r (by kernel_rfl) (U h0 (U h1 (U ((by omega):(s.kind)=((s.kind.toNat:Nat):Int)) (U ((by omega):(s.kind.toNat)<14) (U aY (U bH (U cB (U dH (U gP (U gQ (U ((by have k:=eV ((ae s.kind.toNat).body) ((s.body.length:Nat):Int) 255;rw [h7] at k;exact k):ay Tryd.prog 35 [.d (.v (.bool ((ae s.kind.toNat).body))),.n s.body.length,.z 255] (.v (.bool false))) trivial)))))))))))
        | true=>
         have eh:=((by have k:=eV ((ae s.kind.toNat).body) ((s.body.length:Nat):Int) 255;rw [h7] at k;exact k):ay Tryd.prog 35 [.d (.v (.bool ((ae s.kind.toNat).body))),.n s.body.length,.z 255] (.v (.bool true)))
         cases h8:((((s.inc:Nat):Int):Int)==0) with
         | false=>
          have gO:=ne_of_beq_false h8
          refine a7 (y:=.d (.v (.bool false))) (N':=[.gw 0 aj]) ((congrArg (fun b=>AV.d (.v (.bool b))) (by first | exact gx (by omega) | exact gv (by omega) (by omega) (by unfold eX;simp [h0,h1,h2,h3,h4,h5,h6,h7,h8]<;>omega)))) (rfl) ?_
          exact aZ tk mo hK rfl al [(1,[(2,.b false),(6,.b false)]),(3,[(2,.ix (s.kind.toNat) [.v (.string ⟨((ae s.kind.toNat).word).toArray⟩),.v (.bool ((ae s.kind.toNat).node)),.v (.bool ((ae s.kind.toNat).peer)),.v (.bool ((ae s.kind.toNat).n)),.v (.bool ((ae s.kind.toNat).bit)),.v (.bool false),.v (.bool ((ae s.kind.toNat).body))])]),(4,[(4,.aP (.v (.bool true))),(10,.aP (.v (.bool true))),(17,.aP (.v (.bool true))),(24,.aP (.v (.bool true))),(31,.z (((s.body.length:Nat):Int))),(32,.aP (.v (.bool true))),(40,.b false)])] 2000 [0] r (by kernel_rfl) (U h0 (U h1 (U ((by omega):(s.kind)=((s.kind.toNat:Nat):Int)) (U ((by omega):(s.kind.toNat)<14) (U aY (U bH (U cB (U dH (U gP (U gQ (U eh (U h8 trivial))))))))))))
         | true=>
          have gO:=eq_of_beq h8
          refine a7 (y:=.d (.v (.bool true))) (N':=[.gw 0 aj]) ((congrArg (fun b=>AV.d (.v (.bool b))) (by first | exact gx (by omega) | exact gv (by omega) (by omega) (by unfold eX;simp [h0,h1,h2,h3,h4,h5,h6,h7,h8]<;>omega)))) (rfl) ?_
          exact aZ tk mo hK rfl al [(1,[(2,.b false),(6,.b false)]),(3,[(2,.ix (s.kind.toNat) [.v (.string ⟨((ae s.kind.toNat).word).toArray⟩),.v (.bool ((ae s.kind.toNat).node)),.v (.bool ((ae s.kind.toNat).peer)),.v (.bool ((ae s.kind.toNat).n)),.v (.bool ((ae s.kind.toNat).bit)),.v (.bool false),.v (.bool ((ae s.kind.toNat).body))])]),(4,[(4,.aP (.v (.bool true))),(10,.aP (.v (.bool true))),(17,.aP (.v (.bool true))),(24,.aP (.v (.bool true))),(31,.z (((s.body.length:Nat):Int))),(32,.aP (.v (.bool true))),(40,.b true)])] 2000 [0] r (by kernel_rfl) (U h0 (U h1 (U ((by omega):(s.kind)=((s.kind.toNat:Nat):Int)) (U ((by omega):(s.kind.toNat)<14) (U aY (U bH (U cB (U dH (U gP (U gQ (U eh (U h8 trivial))))))))))))
   | true=>
    have fz:=((by rw [mK (by omega)];unfold jw.row;rw [h2]):List.take 7 (List.drop ((s.kind.toNat)*7) (aj:List DV))=([.v (.string ⟨((ae s.kind.toNat).word).toArray⟩),.v (.bool ((ae s.kind.toNat).node)),.v (.bool ((ae s.kind.toNat).peer)),.v (.bool ((ae s.kind.toNat).n)),.v (.bool ((ae s.kind.toNat).bit)),.v (.bool true),.v (.bool ((ae s.kind.toNat).body))]:List DV))
    cases h9:(cE ((ae s.kind.toNat).node) s.node 255) with
    | false=>
     refine a7 (y:=.d (.v (.bool false))) (N':=[.gw 0 aj]) ((congrArg (fun b=>AV.d (.v (.bool b))) (by first | exact gx (by omega) | exact gv (by omega) (by omega) (by unfold eX;simp [h0,h1,h2,h9]<;>omega)))) (rfl) ?_
     exact aZ tk mo hK rfl al [(1,[(2,.b false),(6,.b false)]),(3,[(2,.ix (s.kind.toNat) [.v (.string ⟨((ae s.kind.toNat).word).toArray⟩),.v (.bool ((ae s.kind.toNat).node)),.v (.bool ((ae s.kind.toNat).peer)),.v (.bool ((ae s.kind.toNat).n)),.v (.bool ((ae s.kind.toNat).bit)),.v (.bool true),.v (.bool ((ae s.kind.toNat).body))])]),(4,[(4,.aP (.v (.bool false)))])] 2000 [0] r (by kernel_rfl) (U h0 (U h1 (U ((by omega):(s.kind)=((s.kind.toNat:Nat):Int)) (U ((by omega):(s.kind.toNat)<14) (U fz (U ((by have k:=eV ((ae s.kind.toNat).node) s.node 255;rw [h9] at k;exact k):ay Tryd.prog 35 [.d (.v (.bool ((ae s.kind.toNat).node))),.z s.node,.z 255] (.v (.bool false))) trivial))))))
    | true=>
     have fO:=((by have k:=eV ((ae s.kind.toNat).node) s.node 255;rw [h9] at k;exact k):ay Tryd.prog 35 [.d (.v (.bool ((ae s.kind.toNat).node))),.z s.node,.z 255] (.v (.bool true)))
     cases di:(cE ((ae s.kind.toNat).peer) s.peer 255) with
     | false=>
      refine a7 (y:=.d (.v (.bool false))) (N':=[.gw 0 aj]) ((congrArg (fun b=>AV.d (.v (.bool b))) (by first | exact gx (by omega) | exact gv (by omega) (by omega) (by unfold eX;simp [h0,h1,h2,h9,di]<;>omega)))) (rfl) ?_
      exact aZ tk mo hK rfl al [(1,[(2,.b false),(6,.b false)]),(3,[(2,.ix (s.kind.toNat) [.v (.string ⟨((ae s.kind.toNat).word).toArray⟩),.v (.bool ((ae s.kind.toNat).node)),.v (.bool ((ae s.kind.toNat).peer)),.v (.bool ((ae s.kind.toNat).n)),.v (.bool ((ae s.kind.toNat).bit)),.v (.bool true),.v (.bool ((ae s.kind.toNat).body))])]),(4,[(4,.aP (.v (.bool true))),(10,.aP (.v (.bool false)))])] 2000 [0] r (by kernel_rfl) (U h0 (U h1 (U ((by omega):(s.kind)=((s.kind.toNat:Nat):Int)) (U ((by omega):(s.kind.toNat)<14) (U fz (U fO (U ((by have k:=eV ((ae s.kind.toNat).peer) s.peer 255;rw [di] at k;exact k):ay Tryd.prog 35 [.d (.v (.bool ((ae s.kind.toNat).peer))),.z s.peer,.z 255] (.v (.bool false))) trivial)))))))
     | true=>
      have jx:=((by have k:=eV ((ae s.kind.toNat).peer) s.peer 255;rw [di] at k;exact k):ay Tryd.prog 35 [.d (.v (.bool ((ae s.kind.toNat).peer))),.z s.peer,.z 255] (.v (.bool true)))
      cases jd:(cE ((ae s.kind.toNat).n) s.n 255) with
      | false=>
       refine a7 (y:=.d (.v (.bool false))) (N':=[.gw 0 aj]) ((congrArg (fun b=>AV.d (.v (.bool b))) (by first | exact gx (by omega) | exact gv (by omega) (by omega) (by unfold eX;simp [h0,h1,h2,h9,di,jd]<;>omega)))) (rfl) ?_
       exact aZ tk mo hK rfl al [(1,[(2,.b false),(6,.b false)]),(3,[(2,.ix (s.kind.toNat) [.v (.string ⟨((ae s.kind.toNat).word).toArray⟩),.v (.bool ((ae s.kind.toNat).node)),.v (.bool ((ae s.kind.toNat).peer)),.v (.bool ((ae s.kind.toNat).n)),.v (.bool ((ae s.kind.toNat).bit)),.v (.bool true),.v (.bool ((ae s.kind.toNat).body))])]),(4,[(4,.aP (.v (.bool true))),(10,.aP (.v (.bool true))),(17,.aP (.v (.bool false)))])] 2000 [0] r (by kernel_rfl) (U h0 (U h1 (U ((by omega):(s.kind)=((s.kind.toNat:Nat):Int)) (U ((by omega):(s.kind.toNat)<14) (U fz (U fO (U jx (U ((by have k:=eV ((ae s.kind.toNat).n) s.n 255;rw [jd] at k;exact k):ay Tryd.prog 35 [.d (.v (.bool ((ae s.kind.toNat).n))),.z s.n,.z 255] (.v (.bool false))) trivial))))))))
      | true=>
       have oW:=((by have k:=eV ((ae s.kind.toNat).n) s.n 255;rw [jd] at k;exact k):ay Tryd.prog 35 [.d (.v (.bool ((ae s.kind.toNat).n))),.z s.n,.z 255] (.v (.bool true)))
       cases iB:(cE ((ae s.kind.toNat).bit) s.bit 65535) with
       | false=>
        refine a7 (y:=.d (.v (.bool false))) (N':=[.gw 0 aj]) ((congrArg (fun b=>AV.d (.v (.bool b))) (by first | exact gx (by omega) | exact gv (by omega) (by omega) (by unfold eX;simp [h0,h1,h2,h9,di,jd,iB]<;>omega)))) (rfl) ?_
        exact aZ tk mo hK rfl al [(1,[(2,.b false),(6,.b false)]),(3,[(2,.ix (s.kind.toNat) [.v (.string ⟨((ae s.kind.toNat).word).toArray⟩),.v (.bool ((ae s.kind.toNat).node)),.v (.bool ((ae s.kind.toNat).peer)),.v (.bool ((ae s.kind.toNat).n)),.v (.bool ((ae s.kind.toNat).bit)),.v (.bool true),.v (.bool ((ae s.kind.toNat).body))])]),(4,[(4,.aP (.v (.bool true))),(10,.aP (.v (.bool true))),(17,.aP (.v (.bool true))),(24,.aP (.v (.bool false)))])] 2000 [0] r (by kernel_rfl) (U h0 (U h1 (U ((by omega):(s.kind)=((s.kind.toNat:Nat):Int)) (U ((by omega):(s.kind.toNat)<14) (U fz (U fO (U jx (U oW (U ((by have k:=eV ((ae s.kind.toNat).bit) s.bit 65535;rw [iB] at k;exact k):ay Tryd.prog 35 [.d (.v (.bool ((ae s.kind.toNat).bit))),.z s.bit,.z 65535] (.v (.bool false))) trivial)))))))))
       | true=>
        have BZ:=((by have k:=eV ((ae s.kind.toNat).bit) s.bit 65535;rw [iB] at k;exact k):ay Tryd.prog 35 [.d (.v (.bool ((ae s.kind.toNat).bit))),.z s.bit,.z 65535] (.v (.bool true)))
        have B0:=((by first | rfl | simp [af,ah,ints,steps,strs]):(((af s.body).length:Nat):Int)=((s.body.length:Nat):Int))
        cases lr:(cE ((ae s.kind.toNat).body) ((s.body.length:Nat):Int) 255) with
        | false=>
         refine a7 (y:=.d (.v (.bool false))) (N':=[.gw 0 aj]) ((congrArg (fun b=>AV.d (.v (.bool b))) (by first | exact gx (by omega) | exact gv (by omega) (by omega) (by unfold eX;simp [h0,h1,h2,h9,di,jd,iB,lr]<;>omega)))) (rfl) ?_
         exact aZ tk mo hK rfl al [(1,[(2,.b false),(6,.b false)]),(3,[(2,.ix (s.kind.toNat) [.v (.string ⟨((ae s.kind.toNat).word).toArray⟩),.v (.bool ((ae s.kind.toNat).node)),.v (.bool ((ae s.kind.toNat).peer)),.v (.bool ((ae s.kind.toNat).n)),.v (.bool ((ae s.kind.toNat).bit)),.v (.bool true),.v (.bool ((ae s.kind.toNat).body))])]),(4,[(4,.aP (.v (.bool true))),(10,.aP (.v (.bool true))),(17,.aP (.v (.bool true))),(24,.aP (.v (.bool true))),(31,.z (((s.body.length:Nat):Int))),(32,.aP (.v (.bool false)))])] 2000 [0] r (by kernel_rfl) (U h0 (U h1 (U ((by omega):(s.kind)=((s.kind.toNat:Nat):Int)) (U ((by omega):(s.kind.toNat)<14) (U fz (U fO (U jx (U oW (U BZ (U B0 (U ((by have k:=eV ((ae s.kind.toNat).body) ((s.body.length:Nat):Int) 255;rw [lr] at k;exact k):ay Tryd.prog 35 [.d (.v (.bool ((ae s.kind.toNat).body))),.n s.body.length,.z 255] (.v (.bool false))) trivial)))))))))))
        | true=>
         refine a7 (y:=.d (.v (.bool true))) (N':=[.gw 0 aj]) ((congrArg (fun b=>AV.d (.v (.bool b))) (by first | exact gx (by omega) | exact gv (by omega) (by omega) (by unfold eX;simp [h0,h1,h2,h9,di,jd,iB,lr]<;>omega)))) (rfl) ?_
         exact aZ tk mo hK rfl al [(1,[(2,.b false),(6,.b false)]),(3,[(2,.ix (s.kind.toNat) [.v (.string ⟨((ae s.kind.toNat).word).toArray⟩),.v (.bool ((ae s.kind.toNat).node)),.v (.bool ((ae s.kind.toNat).peer)),.v (.bool ((ae s.kind.toNat).n)),.v (.bool ((ae s.kind.toNat).bit)),.v (.bool true),.v (.bool ((ae s.kind.toNat).body))])]),(4,[(4,.aP (.v (.bool true))),(10,.aP (.v (.bool true))),(17,.aP (.v (.bool true))),(24,.aP (.v (.bool true))),(31,.z (((s.body.length:Nat):Int))),(32,.aP (.v (.bool true)))])] 2000 [0] r (by kernel_rfl) (U h0 (U h1 (U ((by omega):(s.kind)=((s.kind.toNat:Nat):Int)) (U ((by omega):(s.kind.toNat)<14) (U fz (U fO (U jx (U oW (U BZ (U B0 (U ((by have k:=eV ((ae s.kind.toNat).body) ((s.body.length:Nat):Int) 255;rw [lr] at k;exact k):ay Tryd.prog 35 [.d (.v (.bool ((ae s.kind.toNat).body))),.n s.body.length,.z 255] (.v (.bool true))) trivial)))))))))))
  | true=>
   have bW:=of_decide_eq_true h1
   refine a7 (y:=.d (.v (.bool false))) (N':=[.gw 0 aj]) ((congrArg (fun b=>AV.d (.v (.bool b))) (by first | exact gx (by omega) | exact gv (by omega) (by omega) (by unfold eX;simp [h0,h1]<;>omega)))) (rfl) ?_
   exact aZ tk mo hK rfl al [(1,[(2,.b false),(6,.b true)])] 2000 [0] r (by kernel_rfl) (U h0 (U h1 trivial))
 | true=>
  have bw:=of_decide_eq_true h0
  refine a7 (y:=.d (.v (.bool false))) (N':=[.gw 0 aj]) ((congrArg (fun b=>AV.d (.v (.bool b))) (by first | exact gx (by omega) | exact gv (by omega) (by omega) (by unfold eX;simp [h0]<;>omega)))) (rfl) ?_
  exact aZ tk mo hK rfl al [(1,[(2,.b true)])] 2000 [0] r (by kernel_rfl) (U h0 trivial)
end Go.Proofs.YtcnpikbbmbombaaDoor
namespace Go.Proofs.YtcnpikbbmbombaaDoor
open Go.RowKit
theorem ay.stays {P:Program} {f:FuncId} {args:List AV} {x:DV} (h:ay P f args x):ay P f args (dS x):=by
 refine ⟨h.1,fun w K ys hK hl hr=>(h.2 w K ys hK hl hr).mono ?_⟩
 rintro ed w' ⟨v,rfl,g,H,⟨Ho,Hi,rfl,hd⟩,n⟩
 exact ⟨_,rfl,g,_,⟨[],Ho++Hi,rfl,rK hd fun w hw=>⟨⟨hw.1,(Holds.app.1 hw.2).2⟩,(Holds.app.1 hw.2).1⟩⟩,n⟩
theorem gS (l:List (Int×Int)):b9 (ah l)=ah l:=by rw [jy];unfold ah;rw [List.map_map];apply List.map_congr_left;intro b _;rfl
theorem gT (l:List Int):b9 (ints l)=ints l:=by rw [jy];unfold ints;rw [List.map_map];apply List.map_congr_left;intro b _;rfl
structure aJ.Rd (s:aJ):Prop where
 body:s.body.length≤9223372036854775807
 inc:s.inc≤18446744073709551615
theorem ext_get {α:Type} {a b:List α} (hl:a.length=b.length) (h:∀ (j:Nat) x y,j<a.length→a[j]?=some x→b[j]?=some y→x=y):a=b:=by
 apply List.ext_getElem hl
 intro i h1 h2
 exact h i _ _ h1 (List.getElem?_eq_getElem h1) (List.getElem?_eq_getElem h2)
theorem kZ {a b:List UInt8} (h:(a==b)=false):a≠b:=by intro e;subst e;simp at h
def kh (a b:bY):Bool:=decide (a=b)
theorem fi {a b:bY} (h:a≠b):kh a b=false:=decide_eq_false h
theorem nZ {a b:bY} {i j:Nat} (h0:a.aK=b.aK) (h1:(a.ah.length:Int)=b.ah.length) (h2:(a.homes.length:Int)=b.homes.length) (hi:¬ (i:Int)<a.ah.length) (h3:∀ (k:Nat) x y,k<i→a.ah[k]?=some x→b.ah[k]?=some y→x=y) (hj:¬ (j:Int)<a.homes.length) (h4:∀ (k:Nat) x y,k<j→a.homes[k]?=some x→b.homes[k]?=some y→x=y):kh a b=true:=by
 refine decide_eq_true ?_
 cases a with | mk a1 a2 a3=>cases b with | mk b1 b2 b3=>
 dsimp only at *
 have e2:a2=b2:=ext_get (by omega) fun k x y hk=>h3 k x y (by omega)
 have e3:a3=b3:=ext_get (by omega) fun k x y hk=>h4 k x y (by omega)
 rw [h0,e2,e3]
def ic (a b:List aJ):Bool:=decide (a=b)
theorem j5 {a b:List aJ} (h:a≠b):ic a b=false:=decide_eq_false h
theorem fj {a b:List aJ} {i:Nat} {x y:aJ} (g:a[i]?=some x) (g2:b[i]?=some y) (h:x≠y):ic a b=false:=j5 fun e=>by subst e;rw [g] at g2;cases g2;exact h rfl
theorem kA {a b:List aJ} {i:Nat} (h1:(a.length:Int)=b.length) (hi:¬ (i:Int)<a.length) (h3:∀ (k:Nat) x y,k<i→a[k]?=some x→b[k]?=some y→x=y):ic a b=true:=decide_eq_true (ext_get (by omega) fun k x y hk=>h3 k x y (by omega))
theorem fp {x y:aJ} (h:x.kind≠y.kind∨x.node≠y.node∨x.peer≠y.peer∨x.n≠y.n∨x.bit≠y.bit∨(x.inc:Int)≠y.inc∨x.body≠y.body):x≠y:=by
 intro e;subst e;simp at h
theorem IL {x y:aJ} (h1:x.kind=y.kind) (h2:x.node=y.node) (h3:x.peer=y.peer) (h4:x.n=y.n) (h5:x.bit=y.bit) (h6:(x.inc:Int)=y.inc) (h7:x.body=y.body):x=y:=by
 cases x;cases y;dsimp only at *;subst h1 h2 h3 h4 h5 h7;congr 1;omega
theorem Hy {x y:Int×Int} (h:(x.1==y.1&&x.2==y.2)=true):x=y:=by
 obtain ⟨a,b⟩:=x;obtain ⟨c,d⟩:=y;simpa using h
theorem og {x y:Int×Int} (h:(x.1==y.1&&x.2==y.2)=false):x≠y:=by
 intro e;subst e;simp at h
theorem at_next {α:Type} {a b:List α} {i:Nat} {x y:α} (h:∀ (k:Nat) x y,k<i→a[k]?=some x→b[k]?=some y→x=y) (g:a[i]?=some x) (g2:b[i]?=some y) (e:x=y):∀ (k:Nat) x y,k<i+1→a[k]?=some x→b[k]?=some y→x=y:=fun k u v hk hu hv=>by
 rcases Nat.lt_succ_iff_lt_or_eq.1 hk with h' | rfl
 ·exact h k u v h' hu hv
 ·rw [g] at hu;rw [g2] at hv;cases hu;cases hv;exact e
set_option maxRecDepth 100000 in
theorem Hz (a b:bY) (hl:a.ah.length≤9223372036854775807) (hh:a.homes.length≤9223372036854775807):ay Tryd.prog 10 [.ag [.z a.aK,.d (.ro 2 (ah a.ah)),.d (.ro 1 (ints a.homes))],.ag [.z b.aK,.d (.ro 2 (ah b.ah)),.d (.ro 1 (ints b.homes))]] (.v (.bool (kh a b))):=by
 refine ay.intro (by kernel_rfl) rfl rfl 66 rfl rfl fun w0 K ac hK r=>?_
 cases h0:((a.aK:Int) != b.aK) with
 | false=>
  have bw:=fg h0
  have aY:=((by first | rfl | simp [af,ah,ints,steps,strs]):(((ah a.ah).length:Nat):Int)=((a.ah.length:Nat):Int))
  have bH:=((by first | rfl | simp [af,ah,ints,steps,strs]):(((ah b.ah).length:Nat):Int)=((b.ah.length:Nat):Int))
  cases h1:((((a.ah.length:Nat):Int):Int) != ((b.ah.length:Nat):Int)) with
  | false=>
   have bW:=fg h1
   have cB:=((by first | rfl | simp [af,ah,ints,steps,strs]):(((ints a.homes).length:Nat):Int)=((a.homes.length:Nat):Int))
   have dH:=((by first | rfl | simp [af,ah,ints,steps,strs]):(((ints b.homes).length:Nat):Int)=((b.homes.length:Nat):Int))
   cases h2:((((a.homes.length:Nat):Int):Int) != ((b.homes.length:Nat):Int)) with
   | false=>
    have dG:=fg h2
    refine cT (todo':=hd Tryd.f10 0) (E':=[(2,.pt 0 0),(3,.pt 1 0),(5,.n 0)]) (M':=[.bx 25 [.z a.aK,.d (.ro 2 (ah a.ah)),.d (.ro 1 (ints a.homes))],.bx 25 [.z b.aK,.d (.ro 2 (ah b.ah)),.d (.ro 1 (ints b.homes))]]) tk mo hK [(1,[(4,.b false),(8,.z (((a.ah.length:Nat):Int))),(11,.z (((b.ah.length:Nat):Int))),(12,.b false),(17,.z (((a.homes.length:Nat):Int))),(20,.z (((b.homes.length:Nat):Int))),(21,.b false)])] 2000 [0,1] [2,3,5] r (by kernel_rfl) (U h0 (U aY (U bH (U h1 (U cB (U dH (U h2 trivial))))))) fun ac wd r=>?_
    refine aC.rounds (Φ:=fun (i:Nat) ac wd=>(∀ (k:Nat) x y,k<i→a.ah[k]?=some x→b.ah[k]?=some y→x=y)∧dA [] w0 K 66 [(2,.pt 0 0),(3,.pt 1 0),(5,.n i)] [.bx 25 [.z a.aK,.d (.ro 2 (ah a.ah)),.d (.ro 1 (ints a.homes))],.bx 25 [.z b.aK,.d (.ro 2 (ah b.ah)),.d (.ro 1 (ints b.homes))]] ac wd) (a.ah.length) ?_ (Nat.zero_le _) ⟨(fun k x y h=>absurd h (Nat.not_lt_zero _)),r⟩
    clear r
    rintro i e7 b6 ac wd ⟨aq,r⟩
    cases h3:(decide ((((i:Nat):Int):Int)<((a.ah.length:Nat):Int))) with
    | false=>
     have dX:=of_decide_eq_false h3
     refine cT (todo':=hd Tryd.f10 1) (E':=[(2,.pt 0 0),(3,.pt 1 0),(6,.n 0)]) (M':=[.bx 25 [.z a.aK,.d (.ro 2 (ah a.ah)),.d (.ro 1 (ints a.homes))],.bx 25 [.z b.aK,.d (.ro 2 (ah b.ah)),.d (.ro 1 (ints b.homes))]]) tk mo hK [(4,[(3,.z (((a.ah.length:Nat):Int))),(4,.b false)])] 2000 [0,1] [2,3,6] r (by kernel_rfl) (U aY (U h3 trivial)) fun ac wd r=>?_
     refine aC.rounds (Φ:=fun (i:Nat) ac wd=>(∀ (k:Nat) x y,k<i→a.homes[k]?=some x→b.homes[k]?=some y→x=y)∧dA [] w0 K 66 [(2,.pt 0 0),(3,.pt 1 0),(6,.n i)] [.bx 25 [.z a.aK,.d (.ro 2 (ah a.ah)),.d (.ro 1 (ints a.homes))],.bx 25 [.z b.aK,.d (.ro 2 (ah b.ah)),.d (.ro 1 (ints b.homes))]] ac wd) (a.homes.length) ?_ (Nat.zero_le _) ⟨(fun k x y h=>absurd h (Nat.not_lt_zero _)),r⟩
     clear r
     rintro i qU jF ac wd ⟨dV,r⟩
     cases h4:(decide ((((i:Nat):Int):Int)<((a.homes.length:Nat):Int))) with
     | false=>
      have fx:=of_decide_eq_false h4
      rw [show (.v (.bool (kh a b)):DV)=.v (.bool true) from (bv (by first | exact nZ (by omega) (by omega) (by omega) (by omega) aq (by omega) dV | exact fi (fun e=>by subst e;omega) | exact fi (fun e=>by subst e;rw [kv] at gm;cases gm;exact og (by assumption) rfl) | exact fi (fun e=>by subst e;rw [kx] at gn;cases gn;omega)))]
      exact br tk mo hK rfl [(9,[(3,.z (((a.homes.length:Nat):Int))),(4,.b false)])] 2000 r (by kernel_rfl) (U cB (U h4 trivial))
     | true=>
      have fx:=of_decide_eq_true h4
      obtain ⟨tn,kx⟩:∃ x_,a.homes[i]?=some x_:=⟨_,List.getElem?_eq_getElem (by omega)⟩
      obtain ⟨tp,gn⟩:∃ x_,b.homes[i]?=some x_:=⟨_,List.getElem?_eq_getElem (by omega)⟩
      cases h5:((tn:Int) != tp) with
      | false=>
       have fy:=fg h5
       exact cT (todo':=hd Tryd.f10 1) tk mo hK [(9,[(3,.z (((a.homes.length:Nat):Int))),(4,.b true)]),(10,[(1,.z (((i+1:Nat):Int)))]),(11,[(3,.ix (i) [.z tn]),(8,.ix (i) [.z tp]),(10,.b false)])] 2000 [0,1] [2,3,6] r (by kernel_rfl) (U cB (U h4 (U (aN ((i:Nat):Int)) (U (ints_at kx) (U (aN ((i:Nat):Int)) (U (ints_at gn) (U h5 (U ((wi (by omega)):IntKind.i64.wrap ((((i:Nat):Int):Int)+1)=((i+1:Nat):Int)) trivial)))))))) fun ac wd r=>jF (by omega) ac wd ⟨(at_next dV kx gn (by omega)),r⟩
      | true=>
       have fy:¬ _=_:=bne_iff_ne.1 h5
       rw [show (.v (.bool (kh a b)):DV)=.v (.bool false) from (bv (by first | exact nZ (by omega) (by omega) (by omega) (by omega) aq (by omega) dV | exact fi (fun e=>by subst e;omega) | exact fi (fun e=>by subst e;rw [kv] at gm;cases gm;exact og (by assumption) rfl) | exact fi (fun e=>by subst e;rw [kx] at gn;cases gn;omega)))]
       exact br tk mo hK rfl [(9,[(3,.z (((a.homes.length:Nat):Int))),(4,.b true)]),(11,[(3,.ix (i) [.z tn]),(8,.ix (i) [.z tp]),(10,.b true)])] 2000 r (by kernel_rfl) (U cB (U h4 (U (aN ((i:Nat):Int)) (U (ints_at kx) (U (aN ((i:Nat):Int)) (U (ints_at gn) (U h5 trivial)))))))
    | true=>
     have dX:=of_decide_eq_true h3
     obtain ⟨jZ,kv⟩:∃ x_,a.ah[i]?=some x_:=⟨_,List.getElem?_eq_getElem (by omega)⟩
     obtain ⟨j1,gm⟩:∃ x_,b.ah[i]?=some x_:=⟨_,List.getElem?_eq_getElem (by omega)⟩
     cases h6:(jZ.1==j1.1&&jZ.2==j1.2) with
     | false=>
      rw [show (.v (.bool (kh a b)):DV)=.v (.bool false) from (bv (by first | exact nZ (by omega) (by omega) (by omega) (by omega) aq (by omega) dV | exact fi (fun e=>by subst e;omega) | exact fi (fun e=>by subst e;rw [kv] at gm;cases gm;exact og (by assumption) rfl) | exact fi (fun e=>by subst e;rw [kx] at gn;cases gn;omega)))]
      exact br tk mo hK rfl [(4,[(3,.z (((a.ah.length:Nat):Int))),(4,.b true)]),(6,[(3,.ix (i) [.z jZ.1,.z jZ.2]),(8,.ix (i) [.z j1.1,.z j1.2]),(10,.b false)])] 2000 r (by kernel_rfl) (U aY (U h3 (U (aN ((i:Nat):Int)) (U (iE kv) (U (aN ((i:Nat):Int)) (U (iE gm) (U ((pc (ox _ _ _ _) h6):jI Tryd.prog 71 [(.int .i64 (jZ.1)),(.int .i64 (jZ.2))] [(.int .i64 (j1.1)),(.int .i64 (j1.2))] false) trivial)))))))
     | true=>
      exact cT (todo':=hd Tryd.f10 0) tk mo hK [(4,[(3,.z (((a.ah.length:Nat):Int))),(4,.b true)]),(5,[(1,.z (((i+1:Nat):Int)))]),(6,[(3,.ix (i) [.z jZ.1,.z jZ.2]),(8,.ix (i) [.z j1.1,.z j1.2]),(10,.b true)])] 2000 [0,1] [2,3,5] r (by kernel_rfl) (U aY (U h3 (U (aN ((i:Nat):Int)) (U (iE kv) (U (aN ((i:Nat):Int)) (U (iE gm) (U ((pc (ox _ _ _ _) h6):jI Tryd.prog 71 [(.int .i64 (jZ.1)),(.int .i64 (jZ.2))] [(.int .i64 (j1.1)),(.int .i64 (j1.2))] true) (U ((wi (by omega)):IntKind.i64.wrap ((((i:Nat):Int):Int)+1)=((i+1:Nat):Int)) trivial)))))))) fun ac wd r=>b6 (by omega) ac wd ⟨(at_next aq kv gm (Hy (by assumption))),r⟩
   | true=>
    have dG:¬ _=_:=bne_iff_ne.1 h2
    rw [show (.v (.bool (kh a b)):DV)=.v (.bool false) from (bv (by first | exact nZ (by omega) (by omega) (by omega) (by omega) aq (by omega) dV | exact fi (fun e=>by subst e;omega) | exact fi (fun e=>by subst e;rw [kv] at gm;cases gm;exact og (by assumption) rfl) | exact fi (fun e=>by subst e;rw [kx] at gn;cases gn;omega)))]
    exact br tk mo hK rfl [(1,[(4,.b false),(8,.z (((a.ah.length:Nat):Int))),(11,.z (((b.ah.length:Nat):Int))),(12,.b false),(17,.z (((a.homes.length:Nat):Int))),(20,.z (((b.homes.length:Nat):Int))),(21,.b true)])] 2000 r (by kernel_rfl) (U h0 (U aY (U bH (U h1 (U cB (U dH (U h2 trivial)))))))
  | true=>
   have bW:¬ _=_:=bne_iff_ne.1 h1
   rw [show (.v (.bool (kh a b)):DV)=.v (.bool false) from (bv (by first | exact nZ (by omega) (by omega) (by omega) (by omega) aq (by omega) dV | exact fi (fun e=>by subst e;omega) | exact fi (fun e=>by subst e;rw [kv] at gm;cases gm;exact og (by assumption) rfl) | exact fi (fun e=>by subst e;rw [kx] at gn;cases gn;omega)))]
   exact br tk mo hK rfl [(1,[(4,.b false),(8,.z (((a.ah.length:Nat):Int))),(11,.z (((b.ah.length:Nat):Int))),(12,.b true)])] 2000 r (by kernel_rfl) (U h0 (U aY (U bH (U h1 trivial))))
 | true=>
  have bw:¬ _=_:=bne_iff_ne.1 h0
  rw [show (.v (.bool (kh a b)):DV)=.v (.bool false) from (bv (by first | exact nZ (by omega) (by omega) (by omega) (by omega) aq (by omega) dV | exact fi (fun e=>by subst e;omega) | exact fi (fun e=>by subst e;rw [kv] at gm;cases gm;exact og (by assumption) rfl) | exact fi (fun e=>by subst e;rw [kx] at gn;cases gn;omega)))]
  exact br tk mo hK rfl [(1,[(4,.b true)])] 2000 r (by kernel_rfl) (U h0 trivial)
set_option maxRecDepth 100000 in
theorem HA (a b:List aJ) (hl:a.length≤9223372036854775807):ay Tryd.prog 11 [.d (.ro 7 (steps a)),.d (.ro 7 (steps b))] (.v (.bool (ic a b))):=by
 refine ay.intro (by kernel_rfl) rfl rfl 76 rfl rfl fun w0 K ac hK r=>?_
 have aY:=((by first | rfl | simp [af,ah,ints,steps,strs]):(((steps a).length:Nat):Int)=((a.length:Nat):Int))
 have bH:=((by first | rfl | simp [af,ah,ints,steps,strs]):(((steps b).length:Nat):Int)=((b.length:Nat):Int))
 cases h0:((((a.length:Nat):Int):Int) != ((b.length:Nat):Int)) with
 | false=>
  have bw:=fg h0
  refine cT (todo':=hd Tryd.f11 0) (E':=[(0,.d (.ro 7 (steps a))),(1,.d (.ro 7 (steps b))),(5,.n 0)]) (M':=[]) tk mo hK [(1,[(1,.z (((a.length:Nat):Int))),(3,.z (((b.length:Nat):Int))),(4,.b false)])] 2000 [] [0,1,5] r (by kernel_rfl) (U aY (U bH (U h0 trivial))) fun ac wd r=>?_
  refine aC.rounds (Φ:=fun (i:Nat) ac wd=>(∀ (k:Nat) x y,k<i→a[k]?=some x→b[k]?=some y→x=y)∧dA [] w0 K 76 [(0,.d (.ro 7 (steps a))),(1,.d (.ro 7 (steps b))),(5,.n i)] [] ac wd) (a.length) ?_ (Nat.zero_le _) ⟨(fun k x y h=>absurd h (Nat.not_lt_zero _)),r⟩
  clear r
  rintro i e7 b6 ac wd ⟨aq,r⟩
  cases h1:(decide ((((i:Nat):Int):Int)<((a.length:Nat):Int))) with
  | false=>
   have bW:=of_decide_eq_false h1
   rw [show (.v (.bool (ic a b)):DV)=.v (.bool true) from (bv (by first | exact kA (by omega) (by omega) aq | exact j5 (fun e=>by subst e;omega) | exact fj eH eI (fp (by omega)) | exact fj eH eI (fp (.inr (.inr (.inr (.inr (.inr (.inr (kZ (by assumption)))))))))))]
   exact br tk mo hK rfl [(4,[(2,.z (((a.length:Nat):Int))),(3,.b false)])] 2000 r (by kernel_rfl) (U aY (U h1 trivial))
  | true=>
   have bW:=of_decide_eq_true h1
   obtain ⟨cb,eH⟩:∃ x_,a[i]?=some x_:=⟨_,List.getElem?_eq_getElem (by omega)⟩
   obtain ⟨cd,eI⟩:∃ x_,b[i]?=some x_:=⟨_,List.getElem?_eq_getElem (by omega)⟩
   have B1:=((by first | rfl | simp [af,ah,ints,steps,strs]):(((steps a).length:Nat):Int)=((a.length:Nat):Int))
   refine IF (todo':=aft Tryd.f11 6) (E':=[(0,.d (.ro 7 (steps a))),(1,.d (.ro 7 (steps b))),(5,.n i),(13,.n i),(14,.d (.ro 7 (steps a))),(15,.n a.length),(16,.d (.v (.bool true))),(19,.d (.ro 7 (steps a))),(20,.n i),(21,.rp [.z cb.kind,.z cb.node,.z cb.peer,.z cb.n,.z cb.bit,.u cb.inc,.ro 1 (af cb.body)] 0),(22,.ag [.z cb.kind,.z cb.node,.z cb.peer,.z cb.n,.z cb.bit,.u cb.inc,.d (.ro 1 (af cb.body))]),(23,.d (.ro 7 (steps b))),(24,.n i),(25,.rp [.z cd.kind,.z cd.node,.z cd.peer,.z cd.n,.z cd.bit,.u cd.inc,.ro 1 (af cd.body)] 0),(26,.ag [.z cd.kind,.z cd.node,.z cd.peer,.z cd.n,.z cd.bit,.u cd.inc,.d (.ro 1 (af cd.body))]),(6,.pt 0 0),(7,.pt 1 0)]) (M':=[.bx 45 [.z cb.kind,.z cb.node,.z cb.peer,.z cb.n,.z cb.bit,.u cb.inc,.d (.ro 1 (af cb.body))],.bx 45 [.z cd.kind,.z cd.node,.z cd.peer,.z cd.n,.z cd.bit,.u cd.inc,.d (.ro 1 (af cd.body))]]) tk mo hK [(4,[(2,.z (((a.length:Nat):Int))),(3,.b true)]),(6,[(2,.ix (i) [.z cb.kind,.z cb.node,.z cb.peer,.z cb.n,.z cb.bit,.u cb.inc,.ro 1 (af cb.body)]),(6,.ix (i) [.z cd.kind,.z cd.node,.z cd.peer,.z cd.n,.z cd.bit,.u cd.inc,.ro 1 (af cd.body)])])] 8 2 [] [[0,1],[1,0]] [0,1,5,13,14,15,16,19,20,21,22,23,24,25,26,6,7] r (by kernel_rfl) (U (U B1 (U h1 (U (aN ((i:Nat):Int)) (U (lI eH) (U (aN ((i:Nat):Int)) (U (lI eI) trivial)))))) (U (U B1 (U h1 (U (aN ((i:Nat):Int)) (U (lI eH) (U (aN ((i:Nat):Int)) (U (lI eI) trivial)))))) trivial)) fun ac wd r=>?_
   cases h2:((cb.kind:Int) != cd.kind) with
   | false=>
    have dG:=fg h2
    cases h3:((cb.node:Int) != cd.node) with
    | false=>
     have dX:=fg h3
     cases h4:((cb.peer:Int) != cd.peer) with
     | false=>
      have fx:=fg h4
      cases h5:((cb.n:Int) != cd.n) with
      | false=>
       have fy:=fg h5
       cases h6:((cb.bit:Int) != cd.bit) with
       | false=>
        have jc:=fg h6
        cases h7:((((cb.inc:Nat):Int):Int) != ((cd.inc:Nat):Int)) with
        | false=>
         have eA:=fg h7
         cases h8:(cb.body==cd.body) with
         | false=>
          have gO:cb.body≠cd.body:=by simpa using h8
          rw [show (.v (.bool (ic a b)):DV)=.v (.bool false) from (bv (by first | exact kA (by omega) (by omega) aq | exact j5 (fun e=>by subst e;omega) | exact fj eH eI (fp (by omega)) | exact fj eH eI (fp (.inr (.inr (.inr (.inr (.inr (.inr (kZ (by assumption)))))))))))]
          exact br tk mo hK rfl [(7,[(4,.b false),(10,.b false),(17,.b false),(24,.b false),(31,.b false),(38,.b false),(43,.res (.v (.string ⟨(cb.body).toArray⟩))),(46,.res (.v (.string ⟨(cd.body).toArray⟩))),(47,.b true)])] 2000 r (by kernel_rfl) (U h2 (U h3 (U h4 (U h5 (U h6 (U h7 (U (rfl:af cb.body=af (cb.body)) (U (rfl:af cd.body=af (cd.body)) (U ((by simpa [bne] using h8):(cb.body != cd.body)=true) trivial)))))))))
         | true=>
          have gO:cb.body=cd.body:=by simpa using h8
          exact cT (todo':=hd Tryd.f11 0) tk mo hK [(5,[(1,.z (((i+1:Nat):Int)))]),(7,[(4,.b false),(10,.b false),(17,.b false),(24,.b false),(31,.b false),(38,.b false),(43,.res (.v (.string ⟨(cb.body).toArray⟩))),(46,.res (.v (.string ⟨(cd.body).toArray⟩))),(47,.b false)])] 2000 [] [0,1,5] r (by kernel_rfl) (U h2 (U h3 (U h4 (U h5 (U h6 (U h7 (U (rfl:af cb.body=af (cb.body)) (U (rfl:af cd.body=af (cd.body)) (U ((by simpa [bne] using h8):(cb.body != cd.body)=false) (U ((wi (by omega)):IntKind.i64.wrap ((((i:Nat):Int):Int)+1)=((i+1:Nat):Int)) trivial)))))))))) fun ac wd r=>b6 (by omega) ac wd ⟨(at_next aq eH eI (IL (by omega) (by omega) (by omega) (by omega) (by omega) (by omega) (eq_of_beq (by assumption)))),r⟩
        | true=>
         have eA:¬ _=_:=bne_iff_ne.1 h7
         rw [show (.v (.bool (ic a b)):DV)=.v (.bool false) from (bv (by first | exact kA (by omega) (by omega) aq | exact j5 (fun e=>by subst e;omega) | exact fj eH eI (fp (by omega)) | exact fj eH eI (fp (.inr (.inr (.inr (.inr (.inr (.inr (kZ (by assumption)))))))))))]
         exact br tk mo hK rfl [(7,[(4,.b false),(10,.b false),(17,.b false),(24,.b false),(31,.b false),(38,.b true)])] 2000 r (by kernel_rfl) (U h2 (U h3 (U h4 (U h5 (U h6 (U h7 trivial))))))
       | true=>
        have jc:¬ _=_:=bne_iff_ne.1 h6
        rw [show (.v (.bool (ic a b)):DV)=.v (.bool false) from (bv (by first | exact kA (by omega) (by omega) aq | exact j5 (fun e=>by subst e;omega) | exact fj eH eI (fp (by omega)) | exact fj eH eI (fp (.inr (.inr (.inr (.inr (.inr (.inr (kZ (by assumption)))))))))))]
        exact br tk mo hK rfl [(7,[(4,.b false),(10,.b false),(17,.b false),(24,.b false),(31,.b true)])] 2000 r (by kernel_rfl) (U h2 (U h3 (U h4 (U h5 (U h6 trivial)))))
      | true=>
       have fy:¬ _=_:=bne_iff_ne.1 h5
       rw [show (.v (.bool (ic a b)):DV)=.v (.bool false) from (bv (by first | exact kA (by omega) (by omega) aq | exact j5 (fun e=>by subst e;omega) | exact fj eH eI (fp (by omega)) | exact fj eH eI (fp (.inr (.inr (.inr (.inr (.inr (.inr (kZ (by assumption)))))))))))]
       exact br tk mo hK rfl [(7,[(4,.b false),(10,.b false),(17,.b false),(24,.b true)])] 2000 r (by kernel_rfl) (U h2 (U h3 (U h4 (U h5 trivial))))
     | true=>
      have fx:¬ _=_:=bne_iff_ne.1 h4
      rw [show (.v (.bool (ic a b)):DV)=.v (.bool false) from (bv (by first | exact kA (by omega) (by omega) aq | exact j5 (fun e=>by subst e;omega) | exact fj eH eI (fp (by omega)) | exact fj eH eI (fp (.inr (.inr (.inr (.inr (.inr (.inr (kZ (by assumption)))))))))))]
      exact br tk mo hK rfl [(7,[(4,.b false),(10,.b false),(17,.b true)])] 2000 r (by kernel_rfl) (U h2 (U h3 (U h4 trivial)))
    | true=>
     have dX:¬ _=_:=bne_iff_ne.1 h3
     rw [show (.v (.bool (ic a b)):DV)=.v (.bool false) from (bv (by first | exact kA (by omega) (by omega) aq | exact j5 (fun e=>by subst e;omega) | exact fj eH eI (fp (by omega)) | exact fj eH eI (fp (.inr (.inr (.inr (.inr (.inr (.inr (kZ (by assumption)))))))))))]
     exact br tk mo hK rfl [(7,[(4,.b false),(10,.b true)])] 2000 r (by kernel_rfl) (U h2 (U h3 trivial))
   | true=>
    have dG:¬ _=_:=bne_iff_ne.1 h2
    rw [show (.v (.bool (ic a b)):DV)=.v (.bool false) from (bv (by first | exact kA (by omega) (by omega) aq | exact j5 (fun e=>by subst e;omega) | exact fj eH eI (fp (by omega)) | exact fj eH eI (fp (.inr (.inr (.inr (.inr (.inr (.inr (kZ (by assumption)))))))))))]
    exact br tk mo hK rfl [(7,[(4,.b true)])] 2000 r (by kernel_rfl) (U h2 trivial)
 | true=>
  have bw:¬ _=_:=bne_iff_ne.1 h0
  rw [show (.v (.bool (ic a b)):DV)=.v (.bool false) from (bv (by first | exact kA (by omega) (by omega) aq | exact j5 (fun e=>by subst e;omega) | exact fj eH eI (fp (by omega)) | exact fj eH eI (fp (.inr (.inr (.inr (.inr (.inr (.inr (kZ (by assumption)))))))))))]
  exact br tk mo hK rfl [(1,[(1,.z (((a.length:Nat):Int))),(3,.z (((b.length:Nat):Int))),(4,.b true)])] 2000 r (by kernel_rfl) (U aY (U bH (U h0 trivial)))
end Go.Proofs.YtcnpikbbmbombaaDoor
namespace Go.Proofs.YtcnpikbbmbombaaDoor
open Go.RowKit
theorem pV:cV Tryd.prog 47:=by unfold cV;kernel_rfl
def bz (z:Int):UInt8:=UInt8.ofNat (z%256).toNat
theorem lP (z:Int):(((bz z).toNat:Nat):Int)=z%256:=by
 unfold bz;rw [UInt8.toNat_ofNat'];omega
theorem gj (z:Int):IntKind.u8.wrap z=(((bz z).toNat:Nat):Int):=by
 rw [lP];simp [IntKind.wrap,IntKind.signed,IntKind.bits]
theorem F8 (b:UInt8):bz ((b.toNat:Nat):Int)=b:=by
 apply UInt8.toNat_inj.1
 have h:=lP ((b.toNat:Nat):Int)
 have:=b.toNat_lt
 omega
theorem xl (x:Nat):((x:Nat):Int).fdiv (2 ^ (min (8:Int).toNat IntKind.u64.bits))=((x / 256:Nat):Int):=by
 show ((x:Nat):Int).fdiv 256=_
 rw [Int.fdiv_eq_ediv_of_nonneg _ (by omega)];omega
theorem KZ (x:Nat):((x:Nat):Int).fdiv (2 ^ (min (7:Int).toNat IntKind.u64.bits))=((x / 128:Nat):Int):=by
 show ((x:Nat):Int).fdiv 128=_
 rw [Int.fdiv_eq_ediv_of_nonneg _ (by omega)];omega
theorem IM {x:Nat} (h:x<18446744073709551616):IntKind.u64.wrap ((BitVec.ofInt IntKind.u64.bits (x:Int) &&& BitVec.ofInt IntKind.u64.bits 127).toNat:Int)=((x%128:Nat):Int):=by
 have h1:(BitVec.ofInt 64 (x:Int) &&& BitVec.ofInt 64 127).toNat=x%128:=by
  rw [BitVec.toNat_and]
  have e1:(BitVec.ofInt 64 (x:Int)).toNat=x:=by simp [BitVec.toNat_ofInt];omega
  have e2:(BitVec.ofInt 64 127).toNat=2 ^ 7-1:=by decide
  rw [e1,e2,Nat.and_two_pow_sub_one_eq_mod]
 show IntKind.u64.wrap ((BitVec.ofInt 64 (x:Int) &&& BitVec.ofInt 64 127).toNat:Int)=_
 rw [h1]
 simp [IntKind.wrap,IntKind.signed,IntKind.bits];omega
theorem JZ {x:Nat} (h:x<128):IntKind.u64.wrap ((BitVec.ofInt IntKind.u64.bits (x:Int) ||| BitVec.ofInt IntKind.u64.bits 128).toNat:Int)=((x+128:Nat):Int):=by
 have h1:(BitVec.ofInt 64 (x:Int) ||| BitVec.ofInt 64 128).toNat=x+128:=by
  rw [BitVec.toNat_or]
  have e1:(BitVec.ofInt 64 (x:Int)).toNat=x:=by simp [BitVec.toNat_ofInt];omega
  have e2:(BitVec.ofInt 64 128).toNat=2 ^ 7*1:=by decide
  rw [e1,e2,Nat.or_comm,← Nat.two_pow_add_eq_or_of_lt (i:=7) (by omega)];omega
 show IntKind.u64.wrap ((BitVec.ofInt 64 (x:Int) ||| BitVec.ofInt 64 128).toNat:Int)=_
 rw [h1]
 simp [IntKind.wrap,IntKind.signed,IntKind.bits];omega
def iC (l:List UInt8):List ai:=[.rw 81 1 [[.em 5 1 (af l)]]]
theorem B2 {l l':List UInt8} {rows:List (List DV)} (h:rows=af l'):([ai.rw 81 1 (List.set (List.set [[.em 5 1 (af l)]] 0 [.jk]) 0 [.em 5 1 rows])]:List ai)=iC l':=by subst h;rfl
theorem J0 {l l':List UInt8} {r0 rows:List (List DV)} (h:rows=af l'):([ai.rw 81 1 (List.set (List.set (List.set (List.set [[.em 5 1 (af l)]] 0 [.jk]) 0 [.em 5 1 r0]) 0 [.jk]) 0 [.em 5 1 rows])]:List ai)=iC l':=by subst h;rfl
def cm (x:Nat):List UInt8:=if h:x<128 then [bz x] else bz ((x%128+128:Nat):Int)::cm (x / 128)
termination_by x
theorem lE {x:Nat} (h:x<128):cm x=[bz x]:=by rw [cm,dif_pos h]
theorem pE {x:Nat} (h:¬ x<128):cm x=bz ((x%128+128:Nat):Int)::cm (x / 128):=by rw [cm,dif_neg h]
theorem IN {x i:Nat} (hx:x<18446744073709551616) (h:128≤x / 128 ^ i):i+1≤9:=by
 rcases Nat.lt_or_ge i 9 with h1 | h1
 ·omega
 ·have h2:128 ^ 9≤128 ^ i:=Nat.pow_le_pow_right (by omega) h1
  have h3:x / 128 ^ i≤x / 128 ^ 9:=Nat.div_le_div_left h2 (by decide)
  have:x / 128 ^ 9<128:=by rw [Nat.div_lt_iff_lt_mul (by decide)];omega
  omega
theorem zz (x i:Nat):x / 128 ^ i / 128=x / 128 ^ (i+1):=by rw [Nat.div_div_eq_div_mul,Nat.pow_succ]
set_option maxRecDepth 100000 in
theorem wC (l:List UInt8) (x:Nat) (hl:l.length≤4294967296):ax Tryd.prog 58 [.ep 0 1 (0) 0,.u x,.z 1] [.rw 81 1 ([[.em 5 1 (af l)]])] (.tu []) (iC (l++[bz ((x:Nat):Int)])):=by
 refine ax.intro (by kernel_rfl) rfl rfl 25 rfl rfl fun D w0 K bs ac wd hK (al:bs.m=1) r=>?_
 refine cF (todo':=hd Tryd.f58 0) (E':=[(0,.ep 0 1 (0) 0),(1,.u x),(8,.z 1),(9,.z 0)]) (M':=[.rw 81 1 ([[.em 5 1 (af l)]])]) tk mo hK al [] 2000 [0] [0,1,8,9] r (by kernel_rfl) (U (pV:cV Tryd.prog 47) trivial) fun ac wd r=>?_
 refine cF (todo':=hd Tryd.f58 0) (E':=[(0,.ep 0 1 (0) 0),(1,.u (x / 256)),(8,.z 1),(9,.z 1)]) (M':=[.rw 81 1 (List.set (List.set ([[.em 5 1 (af l)]]) (0) [.jk]) (0) [.em 5 1 (af l++[[.v (.int .u8 ((((bz (((x:Nat):Int))).toNat:Nat):Int)))]])]),.dead,.dead]) tk mo hK al [(3,[(4,.ix 0 [.em 5 1 (af l)]),(6,.z ((((bz (((x:Nat):Int))).toNat:Nat):Int))),(11,.ix 0 [.jk])]),(4,[(1,.z (((x / 256:Nat):Int)))]),(5,[(0,.z (1))])] 2000 [0,1,2] [0,1,8,9] r (by kernel_rfl) (U (rfl:([[.em 5 1 (af l)]]:List (List DV))[0]?=some [.em 5 1 (af l)]) (U ((gj _):IntKind.u8.wrap (((x:Nat):Int))=(((bz (((x:Nat):Int))).toNat:Nat):Int)) (U (dW ((af l).length)) (U ((by first | rfl | (simp [af];done) | (simp [af];omega)):(1)=([[.v (.int .u8 ((((bz (((x:Nat):Int))).toNat:Nat):Int)))]]:List (List DV)).length) (U ((by first | omega | (simp [af];done) | (simp [af];omega)):(2*(((af l).length)+(1))+192)*1≤281474976710656) (U ((by first | omega | (simp [af];done) | (simp [af];omega)):((af l).length)+(1)<4611686018427387904) (U ((by simp [bf,AV.one,bS,af,ah,ints,steps,strs]):bf ([[.v (.int .u8 ((((bz (((x:Nat):Int))).toNat:Nat):Int)))]])) (U (rfl:(List.set ([[.em 5 1 (af l)]]) (0) [.jk]:List (List DV))[0]?=some [.jk]) (U ((by first | rfl | (simp [af];done) | (simp [af];omega)):((af l).length+(1))=(af l++[[.v (.int .u8 ((((bz (((x:Nat):Int))).toNat:Nat):Int)))]]:List (List DV)).length) (U ((xl _):(((x:Nat):Int):Int).fdiv (2 ^ (min (8:Int).toNat IntKind.u64.bits))=((x / 256:Nat):Int)) (U ((by first | decide | omega):(0:Int)≤8) (U ((wi (by omega)):IntKind.i64.wrap ((0:Int)+1)=1) trivial)))))))))))) fun ac wd r=>?_
 refine a7 (y:=.tu []) (N':=[.rw 81 1 (List.set (List.set ([[.em 5 1 (af l)]]) (0) [.jk]) (0) [.em 5 1 (af l++[[.v (.int .u8 ((((bz (((x:Nat):Int))).toNat:Nat):Int)))]])])]) (rfl) ((B2 (by simp [af])).symm) ?_
 exact aZ tk mo hK rfl al [] 2000 [0] r (by kernel_rfl) trivial
set_option maxRecDepth 100000 in
theorem J1 (l:List UInt8) (x:Nat) (hl:l.length≤4294967296):ax Tryd.prog 58 [.ep 0 1 (0) 0,.u x,.z 2] [.rw 81 1 ([[.em 5 1 (af l)]])] (.tu []) (iC (l++[bz ((x:Nat):Int),bz ((x / 256:Nat):Int)])):=by
 refine ax.intro (by kernel_rfl) rfl rfl 25 rfl rfl fun D w0 K bs ac wd hK (al:bs.m=1) r=>?_
 refine cF (todo':=hd Tryd.f58 0) (E':=[(0,.ep 0 1 (0) 0),(1,.u x),(8,.z 2),(9,.z 0)]) (M':=[.rw 81 1 ([[.em 5 1 (af l)]])]) tk mo hK al [] 2000 [0] [0,1,8,9] r (by kernel_rfl) (U (pV:cV Tryd.prog 47) trivial) fun ac wd r=>?_
 refine cF (todo':=hd Tryd.f58 0) (E':=[(0,.ep 0 1 (0) 0),(1,.u (x / 256)),(8,.z 2),(9,.z 1)]) (M':=[.rw 81 1 (List.set (List.set ([[.em 5 1 (af l)]]) (0) [.jk]) (0) [.em 5 1 (af l++[[.v (.int .u8 ((((bz (((x:Nat):Int))).toNat:Nat):Int)))]])]),.dead,.dead]) tk mo hK al [(3,[(4,.ix 0 [.em 5 1 (af l)]),(6,.z ((((bz (((x:Nat):Int))).toNat:Nat):Int))),(11,.ix 0 [.jk])]),(4,[(1,.z (((x / 256:Nat):Int)))]),(5,[(0,.z (1))])] 2000 [0,1,2] [0,1,8,9] r (by kernel_rfl) (U (rfl:([[.em 5 1 (af l)]]:List (List DV))[0]?=some [.em 5 1 (af l)]) (U ((gj _):IntKind.u8.wrap (((x:Nat):Int))=(((bz (((x:Nat):Int))).toNat:Nat):Int)) (U (dW ((af l).length)) (U ((by first | rfl | (simp [af];done) | (simp [af];omega)):(1)=([[.v (.int .u8 ((((bz (((x:Nat):Int))).toNat:Nat):Int)))]]:List (List DV)).length) (U ((by first | omega | (simp [af];done) | (simp [af];omega)):(2*(((af l).length)+(1))+192)*1≤281474976710656) (U ((by first | omega | (simp [af];done) | (simp [af];omega)):((af l).length)+(1)<4611686018427387904) (U ((by simp [bf,AV.one,bS,af,ah,ints,steps,strs]):bf ([[.v (.int .u8 ((((bz (((x:Nat):Int))).toNat:Nat):Int)))]])) (U (rfl:(List.set ([[.em 5 1 (af l)]]) (0) [.jk]:List (List DV))[0]?=some [.jk]) (U ((by first | rfl | (simp [af];done) | (simp [af];omega)):((af l).length+(1))=(af l++[[.v (.int .u8 ((((bz (((x:Nat):Int))).toNat:Nat):Int)))]]:List (List DV)).length) (U ((xl _):(((x:Nat):Int):Int).fdiv (2 ^ (min (8:Int).toNat IntKind.u64.bits))=((x / 256:Nat):Int)) (U ((by first | decide | omega):(0:Int)≤8) (U ((wi (by omega)):IntKind.i64.wrap ((0:Int)+1)=1) trivial)))))))))))) fun ac wd r=>?_
 refine cF (todo':=hd Tryd.f58 0) (E':=[(0,.ep 0 1 (0) 0),(1,.u ((x / 256) / 256)),(8,.z 2),(9,.z 2)]) (M':=[.rw 81 1 (List.set (List.set (List.set (List.set ([[.em 5 1 (af l)]]) (0) [.jk]) (0) [.em 5 1 (af l++[[.v (.int .u8 ((((bz (((x:Nat):Int))).toNat:Nat):Int)))]])]) (0) [.jk]) (0) [.em 5 1 (af l++[[.v (.int .u8 ((((bz (((x:Nat):Int))).toNat:Nat):Int)))]]++[[.v (.int .u8 ((((bz (((x / 256:Nat):Int))).toNat:Nat):Int)))]])]),.dead,.dead,.dead,.dead]) tk mo hK al [(3,[(4,.ix 0 [.em 5 1 (af l++[[.v (.int .u8 ((((bz (((x:Nat):Int))).toNat:Nat):Int)))]])]),(6,.z ((((bz (((x / 256:Nat):Int))).toNat:Nat):Int))),(11,.ix 0 [.jk])]),(4,[(1,.z ((((x / 256) / 256:Nat):Int)))]),(5,[(0,.z (2))])] 2000 [0,1,2,3,4] [0,1,8,9] r (by kernel_rfl) (U (rfl:(List.set (List.set ([[.em 5 1 (af l)]]) (0) [.jk]) (0) [.em 5 1 (af l++[[.v (.int .u8 ((((bz (((x:Nat):Int))).toNat:Nat):Int)))]])]:List (List DV))[0]?=some [.em 5 1 (af l++[[.v (.int .u8 ((((bz (((x:Nat):Int))).toNat:Nat):Int)))]])]) (U ((gj _):IntKind.u8.wrap (((x / 256:Nat):Int))=(((bz (((x / 256:Nat):Int))).toNat:Nat):Int)) (U (dW ((af l++[[.v (.int .u8 ((((bz (((x:Nat):Int))).toNat:Nat):Int)))]]:List (List DV)).length)) (U ((by first | rfl | (simp [af];done) | (simp [af];omega)):(1)=([[.v (.int .u8 ((((bz (((x / 256:Nat):Int))).toNat:Nat):Int)))]]:List (List DV)).length) (U ((by first | omega | (simp [af];done) | (simp [af];omega)):(2*(((af l++[[.v (.int .u8 ((((bz (((x:Nat):Int))).toNat:Nat):Int)))]]:List (List DV)).length)+(1))+192)*1≤281474976710656) (U ((by first | omega | (simp [af];done) | (simp [af];omega)):((af l++[[.v (.int .u8 ((((bz (((x:Nat):Int))).toNat:Nat):Int)))]]:List (List DV)).length)+(1)<4611686018427387904) (U ((by simp [bf,AV.one,bS,af,ah,ints,steps,strs]):bf ([[.v (.int .u8 ((((bz (((x / 256:Nat):Int))).toNat:Nat):Int)))]])) (U (rfl:(List.set (List.set (List.set ([[.em 5 1 (af l)]]) (0) [.jk]) (0) [.em 5 1 (af l++[[.v (.int .u8 ((((bz (((x:Nat):Int))).toNat:Nat):Int)))]])]) (0) [.jk]:List (List DV))[0]?=some [.jk]) (U ((by first | rfl | (simp [af];done) | (simp [af];omega)):((af l++[[.v (.int .u8 ((((bz (((x:Nat):Int))).toNat:Nat):Int)))]]:List (List DV)).length+(1))=(af l++[[.v (.int .u8 ((((bz (((x:Nat):Int))).toNat:Nat):Int)))]]++[[.v (.int .u8 ((((bz (((x / 256:Nat):Int))).toNat:Nat):Int)))]]:List (List DV)).length) (U ((xl _):(((x / 256:Nat):Int):Int).fdiv (2 ^ (min (8:Int).toNat IntKind.u64.bits))=(((x / 256) / 256:Nat):Int)) (U ((by first | decide | omega):(0:Int)≤8) (U ((wi (by omega)):IntKind.i64.wrap ((1:Int)+1)=2) trivial)))))))))))) fun ac wd r=>?_
 refine a7 (y:=.tu []) (N':=[.rw 81 1 (List.set (List.set (List.set (List.set ([[.em 5 1 (af l)]]) (0) [.jk]) (0) [.em 5 1 (af l++[[.v (.int .u8 ((((bz (((x:Nat):Int))).toNat:Nat):Int)))]])]) (0) [.jk]) (0) [.em 5 1 (af l++[[.v (.int .u8 ((((bz (((x:Nat):Int))).toNat:Nat):Int)))]]++[[.v (.int .u8 ((((bz (((x / 256:Nat):Int))).toNat:Nat):Int)))]])])]) (rfl) ((J0 (by simp [af])).symm) ?_
 exact aZ tk mo hK rfl al [] 2000 [0] r (by kernel_rfl) trivial
set_option maxRecDepth 100000 in
theorem jW (l:List UInt8) (b:UInt8) (hl:l.length≤4294967296):ax Tryd.prog 34 [.ep 0 1 (0) 0,.d (.v (.int .u8 (((b.toNat:Nat):Int))))] [.rw 81 1 ([[.em 5 1 (af l)]])] (.tu []) (iC (l++[b])):=by
 refine ax.intro (by kernel_rfl) rfl rfl 8 rfl rfl fun D w0 K bs ac wd hK (al:bs.m=1) r=>?_
 refine a7 (y:=.tu []) (N':=[.rw 81 1 ([[.em 5 1 (af (l++[bz ((b.toNat:Nat):Int)]))]])]) (rfl) ((by rw [F8];rfl)) ?_
 exact aZ tk mo hK rfl al [(0,[(2,.z (((b.toNat:Nat):Int))),(3,.mem [0] (.tu []) [.rw 81 1 ([[.em 5 1 (af (l++[bz ((b.toNat:Nat):Int)]))]])])])] 2000 [0] r (by kernel_rfl) (U ((wu ⟨rfl,by omega,by have:=b.toNat_lt;omega⟩):IntKind.u64.wrap (((b.toNat:Nat):Int))=((b.toNat:Nat):Int)) (U (wC l b.toNat (by omega)) trivial))
set_option maxRecDepth 100000 in
theorem K1 (l:List UInt8) (x:Nat) (hx:x<65536) (hl:l.length≤4294967296):ax Tryd.prog 36 [.ep 0 1 (0) 0,.d (.v (.int .u16 (((x:Nat):Int))))] [.rw 81 1 ([[.em 5 1 (af l)]])] (.tu []) (iC (l++[bz ((x:Nat):Int),bz ((x / 256:Nat):Int)])):=by
 refine ax.intro (by kernel_rfl) rfl rfl 8 rfl rfl fun D w0 K bs ac wd hK (al:bs.m=1) r=>?_
 refine a7 (y:=.tu []) (N':=[.rw 81 1 ([[.em 5 1 (af (l++[bz ((x:Nat):Int),bz ((x / 256:Nat):Int)]))]])]) (rfl) (rfl) ?_
 exact aZ tk mo hK rfl al [(0,[(2,.z (((x:Nat):Int))),(3,.mem [0] (.tu []) [.rw 81 1 ([[.em 5 1 (af (l++[bz ((x:Nat):Int),bz ((x / 256:Nat):Int)]))]])])])] 2000 [0] r (by kernel_rfl) (U ((wu (by omega)):IntKind.u64.wrap (((x:Nat):Int))=((x:Nat):Int)) (U (J1 l x (by omega)) trivial))
set_option maxRecDepth 100000 in
theorem J2 (l:List UInt8) (x:Nat) (hx:x<18446744073709551616) (hl:l.length≤4294967200):ax Tryd.prog 37 [.ep 0 1 (0) 0,.u x] [.rw 81 1 ([[.em 5 1 (af l)]])] (.tu []) (iC (l++cm x)):=by
 refine ax.intro (by kernel_rfl) rfl rfl 16 rfl rfl fun D w0 K bs ac wd hK (al:bs.m=1) r=>?_
 refine cF (todo':=hd Tryd.f37 0) (E':=[(0,.ep 0 1 (0) 0),(1,.u x)]) (M':=[.rw 81 1 ([[.em 5 1 (af l)]])]) tk mo hK al [] 2000 [0] [0,1] r (by kernel_rfl) trivial fun ac wd r=>?_
 refine aC.rounds (Φ:=fun (i:Nat) ac wd=>∃ o:List UInt8,(o.length=l.length+i∧l++cm x=o++cm (x / 128 ^ i))∧RB D w0 K 16 bs [(0,.ep 0 1 (0) 0),(1,.u (x / 128 ^ i))] [.rw 81 1 ([[.em 5 1 (af o)]])] ac wd) (9) ?_ (Nat.zero_le _) ⟨l,⟨rfl,by simp⟩,(r).cast (by simp) (by simp)⟩
 clear r
 rintro i e7 b6 ac wd ⟨o,aq,r⟩
 obtain ⟨NA,aq⟩:=aq
 cases h0:(decide ((128:Int)≤((x / 128 ^ i:Nat):Int))) with
 | false=>
  have bw:=of_decide_eq_false h0
  refine a7 (y:=.tu []) (N':=[.rw 81 1 ([[.em 5 1 (af (o++[bz ((x / 128 ^ i:Nat):Int)]))]])]) (rfl) ((by rw [aq,lE (by omega)];rfl)) ?_
  exact aZ tk mo hK rfl al [(0,[(1,.b false)]),(3,[(2,.mem [0] (.tu []) [.rw 81 1 ([[.em 5 1 (af (o++[bz ((x / 128 ^ i:Nat):Int)]))]])])])] 2000 [0] r (by kernel_rfl) (U h0 (U (wC o (x / 128 ^ i) (by omega)) trivial))
 | true=>
  have bw:=of_decide_eq_true h0
  exact cF (todo':=hd Tryd.f37 0) tk mo hK al [(0,[(1,.b true)]),(1,[(1,.z (((x / 128 ^ (i+1):Nat):Int)))]),(2,[(2,.z (((x / 128 ^ i%128:Nat):Int))),(3,.z (((x / 128 ^ i%128+128:Nat):Int))),(4,.mem [0] (.tu []) [.rw 81 1 ([[.em 5 1 (af (o++[bz ((x / 128 ^ i%128+128:Nat):Int)]))]])])])] 2000 [0] [0,1] r (by kernel_rfl) (U h0 (U ((IM (by have:=Nat.div_le_self x (128 ^ i);omega)):IntKind.u64.wrap ((BitVec.ofInt IntKind.u64.bits (((x / 128 ^ i:Nat):Int)) &&& BitVec.ofInt IntKind.u64.bits (127)).toNat:Int)=((x / 128 ^ i%128:Nat):Int)) (U ((JZ (by omega)):IntKind.u64.wrap ((BitVec.ofInt IntKind.u64.bits (((x / 128 ^ i%128:Nat):Int)) ||| BitVec.ofInt IntKind.u64.bits (128)).toNat:Int)=((x / 128 ^ i%128+128:Nat):Int)) (U (wC o (x / 128 ^ i%128+128) (by omega)) (U ((by rw [KZ,zz]):(((x / 128 ^ i:Nat):Int):Int).fdiv (2 ^ (min (7:Int).toNat IntKind.u64.bits))=((x / 128 ^ (i+1):Nat):Int)) (U ((by first | decide | omega):(0:Int)≤7) trivial)))))) fun ac wd r=>b6 (by have:=IN (i:=i) hx (by omega);omega) ac wd ⟨(o++[bz ((x / 128 ^ i%128+128:Nat):Int)]),⟨by simp;omega,by rw [aq,pE (by omega),zz,List.append_assoc];rfl⟩,r⟩
set_option maxRecDepth 100000 in
theorem K3 (l b:List UInt8) (hb:b.length≤4294967296) (hl:l.length≤4294967296):ax Tryd.prog 38 [.ep 0 1 (0) 0,.d (.ro 1 (af b))] [.rw 81 1 ([[.em 5 1 (af l)]])] (.tu []) (iC (l++b)):=by
 refine ax.intro (by kernel_rfl) rfl rfl 15 rfl rfl fun D w0 K bs ac wd hK (al:bs.m=1) r=>?_
 refine a7 (y:=.tu []) (N':=[.rw 81 1 (List.set (List.set ([[.em 5 1 (af l)]]) (0) [.jk]) (0) [.em 5 1 (af l++(af b))])]) (rfl) ((B2 (by simp [af])).symm) ?_
 exact aZ tk mo hK rfl al [(1,[(4,.ix 0 [.em 5 1 (af l)]),(9,.ix 0 [.jk])])] 2000 [0] r (by kernel_rfl) (U (pV:cV Tryd.prog 47) (U (rfl:([[.em 5 1 (af l)]]:List (List DV))[0]?=some [.em 5 1 (af l)]) (U (dW ((af l).length)) (U ((by first | omega | (simp [af];done) | (simp [af];omega)):(2*(((af l).length)+(af b).length)+192)*1≤281474976710656) (U ((by first | omega | (simp [af];done) | (simp [af];omega)):((af l).length)+(af b).length<4611686018427387904) (U ((by simp [bf,AV.one,bS,af,ah,ints,steps,strs]):bf (af b)) (U (rfl:(List.set ([[.em 5 1 (af l)]]) (0) [.jk]:List (List DV))[0]?=some [.jk]) (U ((by first | rfl | (simp [af];done) | (simp [af];omega)):((af l).length+(af b).length)=(af l++(af b):List (List DV)).length) trivial))))))))
set_option maxRecDepth 100000 in
theorem C6 (l:List UInt8) (h0:0<l.length) (hb:l.length<2147483648):ay Tryd.prog 39 [.d (.ro 1 (af l))] (DV.em 5 1 (af l)):=by
 refine ay.intro (by kernel_rfl) rfl rfl 8 rfl rfl fun w0 K ac hK r=>?_
 rw [show (DV.em 5 1 (af l):DV)=.em 5 1 ([]++(af l)) from rfl]
 exact br tk mo hK rfl [] 2000 r (by kernel_rfl) (U ((by simpa [af] using h0):0<(af l).length) (U ((by simp):(0)=([]:List (List DV)).length) (U ((by simp [af];omega):(2*((0)+(af l).length)+192)*1≤281474976710656) (U ((by simp [af];omega):(0)+(af l).length<4611686018427387904) (U ((by simp [bf,AV.one,bS,af]):bf (af l)) (U ((by simp):(0+(af l).length)=([]++(af l):List (List DV)).length) trivial))))))
set_option maxRecDepth 100000 in
theorem C7 (c:Nat):ay Tryd.prog 39 [.d (.v (.slice none 0 c))] (DV.v (.slice none 0 0)):=by
 refine ay.intro (by kernel_rfl) rfl rfl 8 rfl rfl fun w0 K ac hK r=>?_
 exact br tk mo hK rfl [] 2000 r (by kernel_rfl) trivial
set_option maxRecDepth 100000 in
theorem Df (a:Addr) (c:Nat):ay Tryd.prog 39 [.d (.v (.slice (some a) 0 c))] (DV.em 5 1 ([]++[])):=by
 refine ay.intro (by kernel_rfl) rfl rfl 8 rfl rfl fun w0 K ac hK r=>?_
 exact br tk mo hK rfl [] 2000 r (by kernel_rfl) (U ((by simp):(0)=([]:List (List DV)).length) (U ((by simp):(2*((0)+0)+192)*1≤281474976710656) (U ((by simp):(0)+0<4611686018427387904) (U ((by simp [bf]):bf (([]:List (List DV)))) (U ((by simp):(0+0)=([]++([]:List (List DV)):List (List DV)).length) trivial)))))
theorem tx (l:List UInt8) (hb:l.length<2147483648):ay Tryd.prog 39 [.d (.ro 1 (af l))] (.em 5 1 (af l)):=by
 cases l with
 | nil=>
  refine ay.empty (pre:=[]) (post:=[]) fun a c=>?_
  cases a with
  | none=>exact ay.nil 5 1 (C7 c)
  | some a=>exact Df a c
 | cons b l=>exact C6 (b::l) (by simp) hb
theorem y8 (l:List UInt8) (hb:l.length<2147483648):ay Tryd.prog 39 [.d (.ro 1 (af l))] (.ro 1 (af l)):=by
 have h:=(tx l hb).stays
 simp only [dS,ky] at h
 exact h
theorem fX (x:Value):e6 (.v x):=by intro K K2 y H h;cases h;exact .v _
theorem IP {T:Nat} {rows:List (List DV)} (h:∀ (i:Nat) r (j:Nat) c,rows[i]?=some r→r[j]?=some c→e6 c):e6 (.em T 1 rows):=by
 intro K K' y H hd
 cases hd with
 | em X F hl hs hr=>exact .em X F hl hs fun i r j c x h1 h2 h3=>h i r j c h1 h2 _ _ _ _ (hr i r j c x h1 h2 h3)
theorem y9 (T:Nat) (l:List UInt8):e6 (.em T 1 (af l)):=IP fun i r j c h1 h2=>by
 simp only [af,List.getElem?_map,Option.map_eq_some_iff] at h1
 obtain ⟨b,-,rfl⟩:=h1
 cases j with
 | zero=>simp at h2;subst h2;exact fX _
 | succ j=>simp at h2
set_option maxRecDepth 100000 in
theorem IQ (l:List UInt8) (hl:l.length<2147483648):ax Tryd.prog 19 [.ep 0 1 (0) 0] [.rw 81 1 ([[.em 5 1 (af l)]])] (.sl 1 l.length) ([.rw 81 1 (List.set [[.em 5 1 (af l)]] 0 [.jk]),.rw 5 1 (af l)]):=by
 refine ax.intro (by kernel_rfl) rfl rfl 10 rfl rfl fun D w0 K bs ac wd hK (al:bs.m=1) r=>?_
 refine a7 (y:=.sl 1 ((af l).length)) (N':=[.rw 81 1 (List.set ([[.em 5 1 (af l)]]) (0) [.jk]),.rw 5 1 (af l)]) ((by simp [af])) (rfl) ?_
 exact aZ tk mo hK rfl al [(3,[(3,.ix 0 [.em 5 1 (af l)]),(4,.call [.d (.ro 1 (af l))] (.em 5 1 (af l)))])] 2000 [0,2] r (by kernel_rfl) (U (pV:cV Tryd.prog 47) (U (rfl:([[.em 5 1 (af l)]]:List (List DV))[0]?=some [.em 5 1 (af l)]) (U (tx _ (by omega):ay Tryd.prog 39 [.d (.ro 1 (af l))] (.em 5 1 (af l))) (U ((y9 _ _):e6 (.em 5 1 (af l))) (U (dW (1)) (U (dW ((af l).length)) (U ((ky _):b9 (af l)=af l) trivial)))))))
set_option maxRecDepth 100000 in
theorem B3 :ax Tryd.prog 14 [] [] (.pt 0 0) ([.bx 81 [.d (.v (.slice none 0 0))]]):=by
 refine ax.intro (by kernel_rfl) rfl rfl 3 rfl rfl fun D w0 K bs ac wd hK (al:bs.m=0) r=>?_
 refine a7 (y:=.pt 0 0) (N':=[.bx 81 [.d (.v (.slice none 0 0))]]) (rfl) (rfl) ?_
 exact aZ tk mo hK rfl al [] 2000 [0] r (by kernel_rfl) trivial
set_option maxRecDepth 100000 in
theorem J3 (a:Option Addr) (n c:Nat):ay Tryd.prog 17 [.rp [.v (.slice a n c)] 0] (DV.n n):=by
 refine ay.intro (by kernel_rfl) rfl rfl 10 rfl rfl fun w0 K ac hK r=>?_
 rw [show (DV.n n:DV)=.n n from rfl]
 exact br tk mo hK rfl [] 2000 r (by kernel_rfl) (U (pV:cV Tryd.prog 47) trivial)
theorem ax.K4 {P:Program} {f:FuncId} {T T2:Nat} {rows:List (List DV)} {x:DV} (h:∀ (a:Option Addr) (c:Nat),ay P f [.rp [.v (.slice a rows.length c)] 0] x) (hx:e6 x) (hs:∀ {K:World→Prop} {y:Value} {H:ak},bB K x y H→bB K x y []):ax P f [.ep 0 1 0 0] [.rw T 1 [[.em T2 1 rows]]] (.d x) [.rw T 1 [[.em T2 1 rows]]]:=by
 refine ⟨(h none 0).1,fun {D w0 K0 β F I w} ys R hK hl hr=>?_⟩
 obtain ⟨y,rfl⟩:∃ y,ys=[y]:=by
  cases ys with
  | nil=>simp at hl
  | cons y r=>cases r with
   | nil=>exact ⟨y,rfl⟩
   | cons _ _=>simp at hl
 have hy:=hr 0 _ y rfl rfl
 cases hy with
 | @ep _ _ _ _ b cc hb=>
 obtain ⟨H,hF,hB,hH⟩:=R.at (u:=0) rfl
 cases hB with
 | rw aI X G my kr ju=>
  rw [hb] at aI;cases aI
  obtain ⟨b',cap,cs,he,rfl,cv,dm,lb⟩:=kr.block (by simp)
  simp only [Value.slice.injEq,Option.some.injEq,Addr.mk.injEq] at he
  obtain ⟨⟨rfl,-⟩,-,rfl⟩:=he
  have hX:=(my 0 _ rfl).2
  obtain ⟨v,hv⟩:∃ v,(X 0)[0]?=some v:=⟨(X 0)[0]'(by omega),List.getElem?_eq_getElem _⟩
  have hd:=ju 0 _ 0 _ v rfl rfl hv
  obtain ⟨a,n,c,rfl⟩:=hd.slice (.inr ⟨_,_,_,rfl⟩)
  have hn:n=rows.length:=by
   generalize G 0 0=GG at hd
   cases hd with
   | em X' F' cH dU mD=>
    obtain ⟨a',c',e⟩:=dU.len
    simp only [Value.slice.injEq] at e
    exact e.2.1
  subst hn
  have hw:w.heap[b]?=some (.cells cs T (0,0)):=(Holds.app.1 hH).1.one
  have jG:w.cell? ⟨b,0,none⟩=some (.slice a rows.length c):=by
   rw [cell_of hw]
   have Me:lay 1 X=X 0:=by simp [lay,List.range_succ]
   have e1:(cs.toList.take (1*1))[0]?=cs[0]?:=by rw [List.getElem?_take,if_pos (by omega),Array.getElem?_toList]
   rw [← e1,show (cs.toList.take (1*1))=X 0 from lb.trans Me];exact hv
  refine ((h a c).2 w (fun w'=>w'.cell? ⟨b,0,none⟩=some (.slice a rows.length c)) [.pointer (some ⟨b,0*1+0,none⟩)] (fun w' g=>g.sc jG) rfl fun j q y h1 h2=>?_).mono ?_
  ·cases j with
   | succ j=>simp at h1
   | zero=>
    simp only [List.getElem?_cons_zero,Option.some.injEq] at h1 h2
    subst h1;subst h2
    have e0:(⟨b,0*1+0,none⟩:Addr)=(⟨b,0,none⟩:Addr).add 0:=by rw [add_zero']
    rw [e0]
    refine .rp _ [.slice a rows.length c] rfl (fun w' dv j z hj=>?_) (fun j q z h1 h2=>?_)
    ·cases j with
     | succ j=>simp at hj
     | zero=>simp at hj;subst hj;rw [add_zero'];exact dv
    ·cases j with
     | succ j=>simp at h1
     | zero=>simp at h1 h2;subst h1;subst h2;exact .v _
  ·rintro e w' ⟨v,rfl,g,H2,⟨Ho,Hi,rfl,s7⟩,n2⟩
   refine ⟨v,rfl,β,F,I,⟨R.len,R.blk,R.st.gr g⟩,Ext.refl _,bE.refl _,.d (hx _ _ _ _ (hs s7))⟩
theorem sQ (l:List UInt8):ax Tryd.prog 17 [.ep 0 1 0 0] (iC l) (.n l.length) (iC l):=by
 have h:=ax.K4 (T:=81) (T2:=5) (rows:=af l) (fun a c=>J3 a (af l).length c) (fX _) (fun hd=>by cases hd;exact .v _)
 rw [show (af l).length=l.length by simp [af]] at h
 exact h
end Go.Proofs.YtcnpikbbmbombaaDoor
