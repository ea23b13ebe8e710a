/-
  scriptEncodes_card, part 3 of 6: merged by program from the texts that it needs.
-/
import Derived.Test.YtcnpikbbmbombaaGreatDoorSeB
set_option linter.unusedSimpArgs false
set_option linter.unusedVariables false
set_option linter.unnecessarySimpa false
namespace Go.Proofs.YtcnpikbbmbombaaGreatDoor
open Go.RowKit
def Bt (w:World) (K:World→Prop) (x:DV):Ending→World→Prop:=BS w fun r H=>∃ Ho Hi,H=Ho++Hi∧bF (fun w=>K w∧Holds w Hi) x r Ho
abbrev oK (w:World) (K:World→Prop) (x:DV):eX:=.ends (Bt w K x)
def gD:List AV→Nat→List (Nat×AV)
 | [],_=>[]
 | v::r,i=>(i,v)::gD r (i+1)
theorem py:∀ (vs:List AV) (i:Nat) (x:Nat×AV),x ∈ gD vs i→i≤x.1∧vs[x.1-i]?=some x.2:=by
 intro vs
 induction vs with
 | nil=>intro i x hx;simp [gD] at hx
 | cons v r ih=>
  intro i x hx
  simp only [gD,List.mem_cons] at hx
  rcases hx with e | e
  ·subst e;simp
  ·obtain ⟨h1,h2⟩:=ih (i+1) x e
   refine ⟨by omega,?_⟩
   rw [show x.1-i=(x.1-(i+1))+1 by omega];simpa using h2
variable {mk:Bool} {P:Program} {T:aN} {cl:fi} {f:FuncId} {R:eX} {a:Act} {w:World} {D:List Nat} {w0:World} {K0:World→Prop} {E:List (Nat×AV)} {M:List ai} {β:Beta} {F:Nat→ak} {I X:ak} {sz:Nat} {tb:di} {todo todo':List Item}
theorem al.intro {fn:Func} {c:Code} {args:List AV} {x:DV} (jK:gv P f=true) (hf:P.funcs[f]?=some fn) (hb:fn.body=some c) (n:Nat) (hn:fn.ntmps=n) (hle:Nat.ble args.length n=true)
  (h:∀ (w0:World) (K:World→Prop) (a:Act),(∀ w,Kp [] w0 w→K w)→cK [] w0 K n (gD args 0) [] a w0→aD P f [.code c] (oK w0 K x) a w0):al P f args x:=by
 refine ⟨jK,fun w K ys hK hl hr=>?_⟩
 have hle:=Nat.le_of_ble_eq_true hle
 refine po hf hb (h w K _ (fun w' k=>hK w' k.r8) ⟨by simp;omega,[],rfl,[],fun _=>[],⟨rfl,by simp,by simpa using St.none w⟩,?_⟩)
 intro t v hv
 obtain ⟨y,rfl,rfl,hy⟩:∃ y:Nat×AV,y.1=t∧y.2=v∧y ∈ gD args 0:=⟨(t,v),rfl,rfl,lE hv⟩
 obtain ⟨-,h2⟩:=py args 0 y hy
 simp only [Nat.sub_zero] at h2
 obtain ⟨aM,-⟩:=List.getElem?_eq_some_iff.1 h2
 have im:ys[y.1]?=some ys[y.1]:=List.getElem?_eq_getElem (by omega)
 have he:({ tmps:=ys.toArray++Array.replicate (fn.ntmps-ys.toArray.size) undef,defers:=[] }:Act).eval (.tmp y.1)=ys[y.1]:=by
  have:y.1<ys.length:=by omega
  simp [Act.eval,Array.getD_eq_getD_getElem?,Array.getElem?_append,this]
 rw [he]
 exact (hr y.1 y.2 _ h2 im).mono (fun w hw=>hw.1) (Ext.refl _)
def ie (T:aN) (E:List (Nat×AV)) (M:List ai):List ResultVar→Option (List AV)
 | []=>some []
 | .tmp t::r=>(match bV E t,ie T E M r with | some v,some l=>some (v::l) | _,_=>none)
 | .cell t ty::r=>(match bV E t,ie T E M r with
  | some (.pt u o),some l=>(match M[u]? with | some (.bx _ cells)=>(match la T ty cells o with | some v=>some (v::l) | none=>none) | _=>none)
  | _,_=>none)
theorem n6 (hT:aY P T=true) (R:RM D w0 K0 M β F I w) (hs:∀ t v,bV E t=some v→aw (fun w=>K0 w∧Holds w I) β v (a.eval (.tmp t))):∀ {rs:List ResultVar} {l:List AV},ie T E M rs=some l→∃ ys,pX P w a rs ys∧ys.length=l.length∧∀ (j:Nat) c y,l[j]?=some c→ys[j]?=some y→aw (fun w=>K0 w∧Holds w I) β c y
 | [],l,h=>by simp only [ie,Option.some.injEq] at h;subst h;exact ⟨[],trivial,rfl,by simp⟩
 | .tmp t::r,l,h=>by
  unfold ie at h
  split at h
  ·rename_i v l' h1 h2
   simp only [Option.some.injEq] at h;subst h
   obtain ⟨ys,e1,e2,e3⟩:=n6 hT R hs h2
   refine ⟨a.eval (.tmp t)::ys,⟨rfl,e1⟩,by simp [e2],?_⟩
   intro j c y h3 h4
   cases j with
   | zero=>simp at h3 h4;subst h3 h4;exact hs _ _ h1
   | succ j=>simp at h3 h4;exact e3 j c y h3 h4
  ·simp at h
 | .cell t ty::r,l,h=>by
  unfold ie at h
  split at h
  ·rename_i u o l' h1 h2
   split at h
   ·rename_i T0 cells hM
    split at h
    ·rename_i v jR
     simp only [Option.some.injEq] at h;subst h
     obtain ⟨ys,e1,e2,e3⟩:=n6 hT R hs h2
     have hr:=hs _ _ h1
     generalize hy:a.eval (.tmp t)=y0 at hr
     cases hr with
     | pt hb=>
      obtain ⟨H,hF,hB,hH⟩:=R.at hM
      cases hB with
      | bx aQ zs hl hr=>
       rw [hb] at aQ;cases aQ
       obtain ⟨y',g1,g2⟩:=pO (d:=none) (ty:=0) (pos := "") (aft:=#[]) (gd:=none) hT (x:=.tmp t) (ρ:=a.eval) (a:=⟨_,0,none⟩) (R:=aw (fun w=>K0 w∧Holds w I) β) (fun l ys=>aw.ag ys) jR (hy.trans (by rw [add_eq,Nat.zero_add])) hl hr
       have g3:=g2 w fun j z hj=>by rw [add_eq,cell_of hH.one,Nat.zero_add];simpa using hj
       refine ⟨y'::ys,⟨⟨_,hy,?_⟩,e1⟩,by simp [e2],?_⟩
       ·simp only [execOp,hy,Sem.run_bind,Instr.loadAt,Instr.sureAddr] at g3
        cases hv:(loadVar ty _).run P w with
        | ok q w'=>rw [Sem.run_pure,Result.andThen_ok,hv] at g3;simp at g3;obtain ⟨rfl,rfl⟩:=g3;rfl
        | halt q w'=>rw [Sem.run_pure,Result.andThen_ok,hv] at g3;simp [Result.andThen] at g3
       ·intro j c y h3 h4
        cases j with
        | zero=>simp at h3 h4;subst h3 h4;exact g1
        | succ j=>simp at h3 h4;exact e3 j c y h3 h4
    ·simp at h
   ·simp at h
  ·simp at h
def oL:List DV→DV
 | [x]=>x
 | l=>.tu l
theorem back (hT:aY P T=true) {fn:Func} (hf:P.funcs[f]?=some fn) (r:cK [] w0 K0 sz E M a w) {l:List AV} {vc:List Prop} {xs:List DV} {M':List ai} {x:DV} (h1:ie T E M fn.results.toList=some l) (h2:kM M l=some (vc,xs,M')) (hv:a8 vc) (hx:oL xs=x):
  ∃ v,(results fn a.tmps).run P w=.ok v w∧Bt w0 K0 x (.returned v) w:=by
 obtain ⟨-,I,-,β,F,Rm,hs⟩:=r
 obtain ⟨ys,e1,e2,e3⟩:=n6 hT Rm hs h1
 obtain ⟨F',H,R',d⟩:=zi Rm.x h2 hv e2 e3
 refine ⟨_,rI rfl e1,_,rfl,R'.st.kp.r8,H++I,⟨H,I,rfl,?_⟩,?_⟩
 ·subst hx
  have hl:=d.len
  cases d with
  | nil=>exact .tu [] (fun _=>[]) rfl (by simp)
  | cons h r=>
   cases r with
   | nil=>simpa [oL] using h
   | cons h' r'=>
    have dd:=fj.cons h (fj.cons h' r')
    obtain ⟨F2,hF,hG⟩:=dd.to
    rw [hF]
    exact .tu _ F2 dd.len hG
 ·have:=R'.st.lD
  exact (this.perm (by classical rw [List.perm_iff_count];intro z;simp only [List.count_append,List.count_nil];omega)).LD
theorem Gj (hT:aY P T=true) {fn:Func} (hf:P.funcs[f]?=some fn) {k:List Item} (r:cK [] w0 K0 sz E M a w) {l:List AV} {vc:List Prop} {xs:List DV} {M':List ai} {x:DV} (h1:ie T E M fn.results.toList=some l) (h2:kM M l=some (vc,xs,M')) (hv:a8 vc) (hx:oL xs=x):aD P f (.code .ret::k) (oK w0 K0 x) a w:=
 let ⟨_,h3,h4⟩:=back hT hf r h1 h2 hv hx
 aD.ret hf (ct.mW r) h3 h4
theorem Gk (hT:aY P T=true) {fn:Func} (hf:P.funcs[f]?=some fn) (r:cK [] w0 K0 sz E M a w) {l:List AV} {vc:List Prop} {xs:List DV} {M':List ai} {x:DV} (h1:ie T E M fn.results.toList=some l) (h2:kM M l=some (vc,xs,M')) (hv:a8 vc) (hx:oL xs=x):aD P f [] (oK w0 K0 x) a w:=
 let ⟨_,h3,h4⟩:=back hT hf r h1 h2 hv hx
 aD.fin hf (ct.mW r) h3 h4
def xp:List AV→AV
 | [v]=>v
 | l=>.tu l
def nh (T:aN) (rs:List ResultVar) (s:RS):Option Out:=
 match ie T s.E s.M rs with
 | some l=>some ⟨s.vc,xp l,s.M,s.tc,s.mv,none⟩
 | none=>none
def qm:List Item→Option LS
 | []=>some .ready
 | .code .ret::_=>some .left
 | _=>none
theorem Dt {l:Nat} {tmps:Array Value} {cP body c2:Code} {Φ:Value→World→Prop} {k2:List Item} {s2:LS} (eK:qm k2=some s2)
  (h:aD P f [.code cP,.beginRound,.code body] (.arr l [.beginRound,.code c2] fun a1 w1=>∃ w2,(Instr.beginRound l).run P w1=.ok () w2∧aD P f [.code c2] (.arr l k2 fun _ w3=>∃ v w4,(Instr.endRound l s2.jM).run P w3=.ok v w4∧Φ v w4) a1 w2) { tmps:=tmps,defers:=[] } w):
  RoundIn Fence.wide 0 P l f tmps cP body w fun e w'=>∃ v,e=.returned v∧Φ v w':=by
 refine ⟨trivial,fun c cs hr=>?_⟩
 let b:Frame:={ (default:Frame) with fn:=f,kind:=.normal,roundOf:=some l }
 have dY:Frame.round l f tmps cP body .normal=b.atR { tmps:=tmps,defers:=[] } [.code cP,.beginRound,.code body]:=by simp [Frame.round,Frame.atR,b]
 obtain ⟨a1,w1,⟨w2,M9,hg⟩,st⟩:=h b (c::cs) rfl rfl rfl
 obtain ⟨a2,w3,⟨v,w4,sH,aE⟩,Na⟩:=hg b (c::cs) rfl rfl rfl
 have s1:Steps P (lone (b.atR a1 [.beginRound,.code c2]) (c::cs) w1) (lone (b.atR a1 [.code c2]) (c::cs) w2):=.one (stepR_beginRound rfl M9)
 have s3:Steps P (lone (b.atR a2 k2) (c::cs) w3) (lone (c.finish v) cs w4):=by
  unfold qm at eK
  split at eK
  ·simp only [Option.some.injEq] at eK;subst eK;exact .one (stepR_round_end rfl rfl sH)
  ·simp only [Option.some.injEq] at eK;subst eK;exact .one (stepR_round_ret rfl rfl sH)
  ·simp at eK
 rw [dY]
 exact ⟨.returned v,w4,⟨v,rfl,aE⟩,stepsIn_wide.2 (((st.trans s1).trans Na).trans s3)⟩
theorem ET {l:Nat} {r:Loop} (h:w.heap[l]?=some (.loop r)) (hs:r.state=.ready):(Instr.beginRound l).run P w=.ok () (cd w l (.loop { r with state:=.busy })):=by
 unfold Instr.beginRound Instr.getLoop
 simp only [Sem.run_bind,pD h rfl,Result.andThen_ok,Sem.run_pure,rE h rfl,hs]
def LS.on:LS→Bool
 | .left=>false
 | _=>true
theorem Gl {l:Nat} {r:Loop} {k2:List Item} {s2:LS} (eK:qm k2=some s2) (h:w.heap[l]?=some (.loop r)):(Instr.endRound l s2.jM).run P w=.ok (.bool s2.on) (cd w l (.loop { r with state:=s2.state,pending:=s2.jM })):=by
 unfold Instr.endRound Instr.getLoop
 simp only [Sem.run_bind,pD h rfl,Result.andThen_ok,Sem.run_pure,rE h rfl]
 unfold qm at eK
 split at eK
 ·simp only [Option.some.injEq] at eK;subst eK;rfl
 ·simp only [Option.some.injEq] at eK;subst eK;rfl
 ·simp at eK
def jL:List (Tmp×Value)→Array Value→Array Value
 | [],tm=>tm
 | (t,v)::r,tm=>jL r (tm.setIfInBounds t v)
theorem yU:∀ (l:List (Tmp×Value)) (tm:Array Value),(jL l tm).size=tm.size
 | [],_=>rfl
 | (t,v)::r,tm=>by rw [jL,yU r];simp
theorem tl:∀ (l:List (Tmp×Value)) (tm:Array Value) (t:Nat),t ∉ l.map (·.1)→(jL l tm).getD t undef=tm.getD t undef
 | [],_,_,_=>rfl
 | (s,v)::r,tm,t,h=>by
  simp only [List.map_cons,List.mem_cons,not_or] at h
  rw [jL,tl r _ t h.2]
  simp only [Array.getD_eq_getD_getElem?,Array.getElem?_setIfInBounds]
  rw [if_neg (fun e=>h.1 e.symm)]
theorem zN:∀ (l:List (Tmp×Value)) (tm:Array Value) (t:Nat) (v:Value),(l.map (·.1)).Nodup→(∀ x ∈ l,x.1<tm.size)→(t,v) ∈ l→(jL l tm).getD t undef=v
 | (s,u)::r,tm,t,v,hn,aM,h=>by
  simp only [List.map_cons,List.nodup_cons] at hn
  rw [jL]
  rcases List.mem_cons.1 h with e | h
  ·cases e
   rw [tl r _ _ hn.1]
   have hs:=aM (s,u) (by simp)
   simp only at hs
   simp [Array.getD_eq_getD_getElem?,hs]
  ·exact zN r _ t v hn.2 (fun x hx=>by simpa using aM x (List.mem_cons_of_mem _ hx)) h
def vA (P:Program) (T:aN) (cl:fi) (n:Nat) (tb:di) (u:Nat) (args:List AV) (M:List ai):Option Out:=
 match M[u]? with
 | some (.lp .ready f sz E rf)=>bif args.length.beq rf.ps.toList.length&&rf.ps.toList.all (·.blt sz)&&nodupB rf.ps.toList then
  (match dq P T cl sz tb n [.code rf.cP,.beginRound,.code rf.body] ⟨[],rf.ps.toList.zip args++E,M,[],[]⟩ with
  | some ([.beginRound,.code c2],s1)=>(match s1.M[u]? with
   | some (.lp .ready f2 oZ E2 jX)=>bif f2.beq f&&!(s1.mv.elem u) then (match dq P T cl sz tb n [.code c2] ⟨s1.vc,s1.E,s1.M.set u (.lp .busy f2 oZ E2 jX),u::s1.tc,s1.mv⟩ with
    | some (k2,s2)=>(match qm k2,s2.M[u]? with
     | some ls,some (.lp .busy f3 s6 E3 o0)=>bif !(s2.mv.elem u) then some ⟨s2.vc,.d (.v (.bool ls.on)),s2.M.set u (.lp ls f3 s6 E3 o0),u::s2.tc,s2.mv,none⟩ else none
     | _,_=>none)
    | _=>none) else none
   | _=>none)
  | _=>none) else none
 | _=>none
def walk (P:Program) (T:aN):Nat→fi
 | 0=>fun _ _ _ _=>none
 | d+1=>fun c args M o=>match c,o with
  | .yl u,.bP n tb=>vA P T (walk P T d) n tb u args M
  | .fn f,.bP n tb=>(bif gv P f then (match P.funcs[f]? with
   | some fn=>(bif Nat.ble args.length fn.ntmps then (match fn.body with
    | some c=>(match dq P T (walk P T d) fn.ntmps tb n [.code c] ⟨[],gD args 0,M,[],[]⟩ with
     | some (.code .ret::_,s)=>nh T fn.results.toList s
     | some ([],s)=>nh T fn.results.toList s
     | _=>none)
    | none=>none) else none)
   | none=>none) else none)
  | _,_=>none
theorem HH (hT:aY P T=true) {fn:Func} {s:RS} {out:Out} (h:nh T fn.results.toList s=some out) {b:ek} (r:cY mk D w0 K0 sz b s a w):
  out.vc=s.vc∧out.rd=none∧∃ v,(results fn a.tmps).run P w=.ok v w∧∃ az F' I',RM D w0 K0 out.M az F' I' w∧fM out.mv b.β az∧bK b.I I'∧(∀ u,u<b.m→u ∉ out.tc→F' u=b.F u)∧aw (fun w=>K0 w∧Holds w I') az out.av v:=by
 unfold nh at h
 split at h
 ·rename_i l hl
  simp only [Option.some.injEq] at h;subst h
  obtain ⟨-,I,-,-,β,F,Rm,b8,hs⟩:=r
  obtain ⟨ys,e1,e2,e3⟩:=n6 hT Rm hs hl
  refine ⟨rfl,rfl,_,rI rfl e1,β,F,I,Rm,b8.1,b8.2.1,b8.2.2,?_⟩
  match ys,l,e2,e3 with
  | [],[],_,_=>exact .tu [] rfl (by simp)
  | [y],[v],_,e3=>exact e3 0 v y rfl rfl
  | y::y'::ys,v::v'::l,e2,e3=>exact .tu _ e2 e3
 ·simp at h
theorem yv:∀ {A E:List (Nat×AV)} {t:Nat} {v:AV},bV (A++E) t=some v→t ∈ A.map (·.1)→(t,v) ∈ A
 | [],_,_,_,_,h=>by simp at h
 | (k,u)::r,E,t,v,h,hm=>by
  rw [List.cons_append] at h
  unfold bV at h
  cases hk:k.beq t with
  | true=>simp only [hk,cond_true,Option.some.injEq] at h;subst h;rw [Nat.eq_of_beq_eq_true hk];exact List.mem_cons_self
  | false=>
   simp only [hk,cond_false] at h
   refine List.mem_cons_of_mem _ (yv h ?_)
   rcases List.mem_cons.1 hm with e | e
   ·exfalso;simp only at e;rw [e] at hk;simp at hk
   ·exact e
theorem Ea {ps:List Nat} {args:List AV} {ys:List Value} {t:Nat} {v:AV} (h:(t,v) ∈ ps.zip args) (hl:ys.length=args.length) (hr:∀ (j:Nat) c y,args[j]?=some c→ys[j]?=some y→aw (fun w=>K0 w∧Holds w I) β c y):∃ y,(t,y) ∈ ps.zip ys∧aw (fun w=>K0 w∧Holds w I) β v y:=by
 obtain ⟨j,hj,e⟩:=List.getElem_of_mem h
 have h1:(ps.zip args)[j]?=some (t,v):=by rw [List.getElem?_eq_getElem hj,e]
 obtain ⟨a1,a2⟩:=List.getElem?_zip_eq_some.1 h1
 have aM:=(List.getElem?_eq_some_iff.1 a2).1
 have hy:ys[j]?=some ys[j]:=List.getElem?_eq_getElem (by omega)
 exact ⟨ys[j],List.mem_of_getElem? (List.getElem?_zip_eq_some.2 ⟨a1,hy⟩),hr j v _ a2 hy⟩
theorem yF:∀ (l:List (Tmp×Value)) (tm:Array Value),l.foldl (fun tmps (x:Tmp×Value)=>tmps.setIfInBounds x.1 x.2) tm=jL l tm
 | [],_=>rfl
 | (t,v)::r,tm=>by rw [List.foldl_cons,yF r];rfl
theorem EU (hT:aY P T=true) (hm:P.follows .mixedOrders=true) (cx:iO P cl) {n:Nat} {tb:di} {u:Nat} {args:List AV} {M:List ai} {out:Out} (h:vA P T cl n tb u args M=some out):out.rd=none∧At P u args M out:=by
 unfold vA at h
 split at h
 rotate_left
 ·simp at h
 rename_i f sz E rf hM
 cases hc:(args.length.beq rf.ps.toList.length&&rf.ps.toList.all (·.blt sz)&&nodupB rf.ps.toList) with
 | false=>simp only [hc,cond_false,reduceCtorEq] at h
 | true=>
  simp only [hc,cond_true] at h
  simp only [Bool.and_eq_true] at hc
  obtain ⟨⟨nv,qx⟩,Nb⟩:=hc
  have nv:=Nat.eq_of_beq_eq_true nv
  split at h
  rotate_left
  ·simp at h
  rename_i c2 s1 Nc
  split at h
  rotate_left
  ·simp at h
  rename_i f2 oZ E2 jX s7
  cases hf:(f2.beq f&&!(s1.mv.elem u)) with
  | false=>simp only [hf,cond_false,reduceCtorEq] at h
  | true=>
   simp only [hf,cond_true] at h
   simp only [Bool.and_eq_true,Bool.not_eq_true'] at hf
   obtain ⟨Nd,LV⟩:=hf
   obtain rfl:=Nat.eq_of_beq_eq_true Nd
   split at h
   rotate_left
   ·simp at h
   rename_i k2 s2 jw
   split at h
   rotate_left
   ·simp at h
   rename_i ls f3 s6 E3 o0 eK mj
   cases xq:(!(s2.mv.elem u)) with
   | false=>simp only [xq,cond_false,reduceCtorEq] at h
   | true=>
    simp only [xq,cond_true,Option.some.injEq] at h;subst h
    refine ⟨rfl,?_⟩
    intro D w0 K0 β F I w ys l c Rm hK hv hl kW qS
    have cZ:a8 s1.vc:=Av n [.code c2] ⟨s1.vc,s1.E,s1.M.set u (.lp .busy f2 oZ E2 jX),u::s1.tc,s1.mv⟩ jw hv
    obtain ⟨H,hF,hB,hH⟩:=Rm.at hM
    cases hB with
    | @lp b0 cc f0 Nf nn bz E0 Ng tmps hb bu hr=>
     rw [qS] at hb;cases hb
     have Ky:=hH.one
     have hlen:rf.ps.size=ys.toArray.size:=by
      have e:rf.ps.toList.length=rf.ps.size:=Array.length_toList
      have e2:ys.toArray.size=ys.length:=by simp
      omega
     have hy:(Instr.yield l ys.toArray).run P w=.ok (.round l f2 ((rf.ps.zip ys.toArray).foldl (fun tmps (x:Tmp×Value)=>tmps.setIfInBounds x.1 x.2) tmps) rf.cP rf.body) w:=by
      unfold Instr.yield Instr.getLoop
      simp only [Sem.run_bind,pD Ky rfl,Result.andThen_ok,Sem.run_pure]
      rw [if_neg (by simp [hlen])]
      rfl
     refine ⟨f2,_,rf.cP,rf.body,hy,?_⟩
     have Kz:(rf.ps.zip ys.toArray).foldl (fun tmps (x:Tmp×Value)=>tmps.setIfInBounds x.1 x.2) tmps=jL (rf.ps.toList.zip ys) tmps:=by
      rw [← yF,← Array.foldl_toList];simp
     rw [Kz]
     have wD:(rf.ps.toList.zip ys).map (·.1)=rf.ps.toList:=List.map_fst_zip (by rw [hl,nv];exact Nat.le_refl _)
     have r0:cY false D w0 K0 sz ⟨β,F,I,M.length⟩ ⟨[],rf.ps.toList.zip args++E,M,[],[]⟩ { tmps:=jL (rf.ps.toList.zip ys) tmps,defers:=[] } w:=by
      refine ⟨by rw [yU,bu],I,rfl,Nat.le_refl _,β,F,Rm,⟨fun _ _ _ h=>h,bK.refl _,fun _ _ _=>rfl⟩,?_⟩
      intro t v gm
      have BX:=lE gm
      show aw _ β v ((jL (rf.ps.toList.zip ys) tmps).getD t undef)
      by_cases ht:t ∈ rf.ps.toList
      ·have hz:(t,v) ∈ rf.ps.toList.zip args:=by
        rcases List.mem_append.1 BX with h1 | h1
        ·exact h1
        ·exact yv gm (by
          rw [List.map_fst_zip (by omega)];exact ht)
       obtain ⟨y,Nh,yd⟩:=Ea hz hl kW
       rw [zN _ _ t y (by rw [wD];exact nS Nb) (fun x hx=>by
        have:x.1 ∈ rf.ps.toList:=by rw [← wD];exact List.mem_map_of_mem hx
        have:=List.all_eq_true.1 qx _ this
        rw [bu];simpa [Nat.blt_eq] using this) Nh]
       exact yd
      ·rcases List.mem_append.1 BX with h1 | h1
       ·exact absurd (by have:=List.mem_map_of_mem (f:=fun x:Nat×AV=>x.1) h1;rwa [List.map_fst_zip (by omega)] at this) ht
       ·rw [tl _ _ _ (by rw [wD];exact ht)]
        exact hr (t,v) h1
     refine Dt (c2:=c2) eK (ks hT cx hm hK n Nc r0 cZ fun a1 w1 r1=>aD.AT ?_)
     obtain ⟨z1,I1,z2,z3,pn,F1,CN,s8,nD⟩:=r1
     obtain ⟨H1,qy,Ni,Nj⟩:=CN.at s7
     have CO:pn[u]?=some (some ⟨l,0,none⟩,c):=s8.1 u _ (by simpa using LV) qS
     cases Ni with
     | @lp b1 Oy f1 Oz BY OA E1 OB Bu ft LW LX=>
      rw [CO] at ft;cases ft
      refine ⟨_,ET Nj.one rfl,?_⟩
      have LY:=CN.set s7 qy (o':=.loop { state:=.busy,pending:=none,fn:=f2,tmps:=Bu,params:=jX.ps,assign:=jX.cP,body:=jX.body,defers:=BY }) (blk':=.lp .busy f2 oZ E2 jX) (.lp (bz:=.busy) (sz:=oZ) CO LW LX)
      have Nk:cY false D w0 K0 sz ⟨β,F,I,M.length⟩ ⟨s1.vc,s1.E,s1.M.set u (.lp .busy f2 oZ E2 jX),u::s1.tc,s1.mv⟩ a1 (cd w1 l (.loop { state:=.busy,pending:=none,fn:=f2,tmps:=Bu,params:=jX.ps,assign:=jX.cP,body:=jX.body,defers:=BY })):=by
       refine ⟨z1,I1,z2,by rw [List.length_set];exact z3,pn,_,LY,⟨s8.1,s8.2.1,fun v gm hn=>?_⟩,nD⟩
       simp only [List.mem_cons,not_or] at hn
       simp only [aL];rw [if_neg hn.1];exact s8.2.2 v gm hn.2
      refine ks hT cx hm hK n jw Nk hv fun a2 w2 r2=>aD.AT ?_
      obtain ⟨y1,I2,y2,y3,iw,F2,CP,s9,kx⟩:=r2
      obtain ⟨H2,ky,Nl,qv⟩:=CP.at mj
      have CQ:iw[u]?=some (some ⟨l,0,none⟩,c):=s9.1 u _ (by simpa using xq) qS
      cases Nl with
      | @lp b2 OC OD Oa LZ OE OF Ob KA gP sw BZ=>
       rw [CQ] at gP;cases gP
       have L0:=CP.set mj ky (o':=.loop { state:=ls.state,pending:=ls.jM,fn:=f3,tmps:=KA,params:=o0.ps,assign:=o0.cP,body:=o0.body,defers:=LZ }) (blk':=.lp ls f3 s6 E3 o0) (.lp (bz:=ls) (sz:=s6) CQ sw BZ)
       refine ⟨_,_,Gl eK qv.one,iw,_,I2,L0,s9.1,s9.2.1,fun v gm hn=>?_,.d (.v _)⟩
       simp only [List.mem_cons,not_or] at hn
       simp only [aL];rw [if_neg hn.1];exact s9.2.2 v gm hn.2
theorem gW (hT:aY P T=true) (hm:P.follows .mixedOrders=true):∀ d,iO P (walk P T d):=by
 intro d
 induction d with
 | zero=>intro f args M o out h;simp [walk] at h
 | succ d ih=>
  intro f args M o out h
  unfold walk at h
  split at h
  ·exact EU hT hm ih h
  ·rename_i f n tb
   cases hc:gv P f with
   | false=>simp [hc] at h
   | true=>
    simp only [hc,cond_true] at h
    split at h
    ·rename_i fn hf
     cases hb:Nat.ble args.length fn.ntmps with
     | false=>simp [hb] at h
     | true=>
      simp only [hb,cond_true] at h
      have hle:=Nat.le_of_ble_eq_true hb
      split at h
      ·rename_i c KB
       have key:∀ {todo':List Item} {s:RS},dq P T (walk P T d) fn.ntmps tb n [.code c] ⟨[],gD args 0,M,[],[]⟩=some (todo',s)→nh T fn.results.toList s=some out→(todo'=[]∨∃ k,todo'=.code .ret::k)→out.rd=none∧AQ P f args M out:=by
        intro todo' s hr he KC
        have du:out.rd=none:=by
         unfold nh at he
         split at he
         ·simp only [Option.some.injEq] at he;subst he;rfl
         ·simp at he
        refine ⟨du,hc,?_⟩
        intro D w0 K0 β F I w ys Rm hK hv hl kW
        have qA:a8 s.vc:=by
         unfold nh at he
         split at he
         ·simp only [Option.some.injEq] at he;subst he;exact hv
         ·simp at he
        refine po hf KB ?_
        have r0:cY false D w0 K0 fn.ntmps ⟨β,F,I,M.length⟩ ⟨[],gD args 0,M,[],[]⟩ { tmps:=ys.toArray++Array.replicate (fn.ntmps-ys.toArray.size) undef,defers:=[] } w:=by
         refine ⟨by simp;omega,I,rfl,Nat.le_refl _,β,F,Rm,⟨fun _ _ _ h=>h,bK.refl _,fun _ _ _=>rfl⟩,?_⟩
         intro t v gm
         obtain ⟨-,h2⟩:=py args 0 (t,v) (lE gm)
         simp only [Nat.sub_zero] at h2
         obtain ⟨aM,-⟩:=List.getElem?_eq_some_iff.1 h2
         have im:ys[t]?=some ys[t]:=List.getElem?_eq_getElem (by omega)
         have he:({ tmps:=ys.toArray++Array.replicate (fn.ntmps-ys.toArray.size) undef,defers:=[] }:Act).eval (.tmp t)=ys[t]:=by
          have:t<ys.length:=by omega
          simp [Act.eval,Array.getD_eq_getD_getElem?,Array.getElem?_append,this]
         rw [he]
         exact kW t v _ h2 im
        refine ks hT ih hm hK n hr r0 qA fun a' w' r'=>?_
        obtain ⟨-,-,v,h3,h4⟩:=HH hT he r'
        rcases KC with rfl | ⟨k,rfl⟩
        ·exact aD.fin hf (cY.mW r') h3 ⟨v,rfl,h4⟩
        ·exact aD.ret hf (cY.mW r') h3 ⟨v,rfl,h4⟩
       split at h
       ·rename_i k s hr;exact key hr h (Or.inr ⟨k,rfl⟩)
       ·rename_i s hr;exact key hr h (Or.inl rfl)
       ·simp at h
      ·simp at h
    ·simp at h
  ·simp at h
def wE (T:aN) (E:List (Nat×AV)) (M:List ai) (rs:List ResultVar) (x:DV):Prop:=∃ l vc xs M',ie T E M rs=some l∧kM M l=some (vc,xs,M')∧a8 vc∧oL xs=x
theorem ret (hT:aY P T=true) {fn:Func} (hf:P.funcs[f]?=some fn) {k:List Item} {x:DV} (r:cK [] w0 K0 sz E M a w) (h:wE T E M fn.results.toList x):aD P f (.code .ret::k) (oK w0 K0 x) a w:=
 let ⟨_,_,_,_,h1,h2,h3,h4⟩:=h
 Gj hT hf r h1 h2 h3 h4
theorem fin (hT:aY P T=true) {fn:Func} (hf:P.funcs[f]?=some fn) {x:DV} (r:cK [] w0 K0 sz E M a w) (h:wE T E M fn.results.toList x):aD P f [] (oK w0 K0 x) a w:=
 let ⟨_,_,_,_,h1,h2,h3,h4⟩:=h
 Gk hT hf r h1 h2 h3 h4
theorem al.empty {k:Nat} {x:DV} {pre post:List AV} (h:∀ a c,al P f (pre++.d (.v (.slice a 0 c))::post) x):al P f (pre++.d (.ro k [])::post) x:=by
 refine ⟨(h none 0).1,fun w K ys hK hl hr=>?_⟩
 have hy:∃ a c,ys[pre.length]?=some (.slice a 0 c):=by
  have aM:pre.length<ys.length:=by rw [hl];simp
  have h1:=hr pre.length _ _ (by rw [List.getElem?_append_right (Nat.le_refl _),Nat.sub_self];rfl) (List.getElem?_eq_getElem aM)
  rw [List.getElem?_eq_getElem aM]
  generalize ys[pre.length]=y at h1
  cases h1 with | d h1=>cases h1 with | ro X hl hy hs hr=>obtain ⟨a,c,rfl,-⟩:=hy;exact ⟨a,c,rfl⟩
 obtain ⟨a,c,hy⟩:=hy
 refine (h a c).2 w K ys hK (by rw [hl];simp) fun j v y h1 h2=>?_
 rcases Nat.lt_trichotomy j pre.length with hj | hj | hj
 ·rw [List.getElem?_append_left hj] at h1
  exact hr j v y (by rw [List.getElem?_append_left hj];exact h1) h2
 ·subst hj
  rw [List.getElem?_append_right (Nat.le_refl _),Nat.sub_self] at h1
  simp only [List.getElem?_cons_zero,Option.some.injEq] at h1;subst h1
  rw [hy,Option.some.injEq] at h2;subst h2
  exact .d (.v _)
 ·rw [List.getElem?_append_right (by omega)] at h1
  have e:j-pre.length=(j-pre.length-1)+1:=by omega
  rw [e,List.getElem?_cons_succ] at h1
  exact hr j v y (by rw [List.getElem?_append_right (by omega),e,List.getElem?_cons_succ];exact h1) h2
theorem al.nil {args:List AV} (T k:Nat) (h:al P f args (.v (.slice none 0 0))):al P f args (.em T k []):=by
 refine ⟨h.1,fun w K ys hK hl hr=>(h.2 w K ys hK hl hr).mono ?_⟩
 rintro e w' ⟨v,rfl,g,H,⟨Ho,Hi,rfl,hd⟩,n⟩
 cases hd
 refine ⟨_,rfl,g,_,⟨[],Hi,rfl,?_⟩,n⟩
 have:=bF.em (K:=fun w=>K w∧Holds w Hi) (T:=T) (k:=k) (rows:=[]) (H0:=[]) (fun _=>[]) (fun _ _=>[]) (by simp) (by simpa [lay] using dJ.nil T k none) (by simp)
 simpa [bE] using this
end Go.Proofs.YtcnpikbbmbombaaGreatDoor
namespace Go.Proofs.YtcnpikbbmbombaaGreatDoor
open Go.RowKit
variable {mk:Bool} {P:Program} {T:aN} {f:FuncId} {R:eX} {a:Act} {w:World} {D:List Nat} {w0:World} {K0:World→Prop} {E:List (Nat×AV)} {M:List ai} {β:Beta} {F:Nat→ak} {I X:ak} {sz:Nat} {tb:di} {todo todo':List Item}
def sI (T:aN) (rs:List ResultVar) (s:RS):Option (Prop×DV):=
 match ie T s.E s.M rs with
 | some l=>(match kM s.M l with | some (vc,xs,_)=>some (a8 (s.vc++vc),oL xs) | none=>none)
 | none=>none
def AU (P:Program) (T:aN) (sz:Nat) (rs:List ResultVar) (tb:di) (n:Nat) (todo:List Item) (E:List (Nat×AV)) (M:List ai):Option (Prop×DV):=
 match dq P T (walk P T 3) sz tb n todo ⟨[],E,M,[],[]⟩ with
 | some (.code .ret::_,s)=>sI T rs s
 | some ([],s)=>sI T rs s
 | _=>none
theorem Aw {rs:List ResultVar} {s:RS} {A:Prop} {x:DV} (h:sI T rs s=some (A,x)) (hA:A):a8 s.vc∧wE T s.E s.M rs x:=by
 unfold sI at h
 split at h
 ·rename_i l hl
  split at h
  ·rename_i vc xs M' hp
   simp only [Option.some.injEq,Prod.mk.injEq] at h
   obtain ⟨rfl,hx⟩:=h
   rw [a8.app] at hA
   exact ⟨hA.1,l,vc,xs,M',hl,hp,hA.2,hx⟩
  ·simp at h
 ·simp at h
theorem aH (hT:aY P T=true) (hm:P.follows .mixedOrders=true) (hK:∀ w,Kp [] w0 w→K0 w) {fn:Func} (hf:P.funcs[f]?=some fn) (tb:di) (n:Nat) {x:DV} {A:Prop} (r:cK [] w0 K0 sz E M a w)
  (h:AU P T sz fn.results.toList tb n todo E M=some (A,x)) (hA:A):aD P f todo (oK w0 K0 x) a w:=by
 unfold AU at h
 split at h
 ·rename_i k s hr
  obtain ⟨h1,h2⟩:=Aw h hA
  exact nC hT (gW hT hm 3) hm hK n hr r h1 fun a' w' r'=>ret hT hf r' h2
 ·rename_i s hr
  obtain ⟨h1,h2⟩:=Aw h hA
  exact nC hT (gW hT hm 3) hm hK n hr r h1 fun a' w' r'=>fin hT hf r' h2
 ·simp at h
theorem ct.ln (r:ct mk D w0 K0 sz E M a w) {l ts:List Nat} {M':List ai} {E':List (Nat×AV)} (hn:nodupB l=true) (hM:fG l M l=some M') (hE:iM l E ts=some E'):ct mk D w0 K0 sz E' M' a w:=by
 obtain ⟨h1,I,h2,β,F,Rm,hs⟩:=r
 obtain ⟨e1,e2⟩:=pJ hM
 have aM:∀ u ∈ l,u<M.length:=by
  intro u hu
  obtain ⟨i,hi,rfl⟩:=List.getElem_of_mem hu
  obtain ⟨u',b0,g1,g2,-⟩:=e2 i M'[i] (List.getElem?_eq_getElem (by omega))
  rw [List.getElem?_eq_getElem hi,Option.some.injEq] at g1
  rw [g1];exact fh g2
 obtain ⟨rest,bq⟩:=tW (nS hn) aM Rm.x
 refine ⟨h1,I,h2,eA β l,lV F l,⟨by rw [tj,e1],?_,?_⟩,uD hs hE⟩
 ·intro i b hb
  obtain ⟨u,b0,g1,g2,g3⟩:=e2 i b hb
  rw [tX g1];exact uC g1 g3 (Rm.blk u b0 g2)
 ·rw [e1,rC]
  have:=bq.lD
  exact this.perm (by classical rw [List.perm_iff_count];intro z;simp only [List.count_append,List.count_nil];omega)
def mO:Code→List Item→List (List Item)
 | .seq x y,k=>mO x (.code y::k)++mO y k
 | .cond _ x y,k=>mO x k++mO y k
 | .block id c,k=>mO c (.inBlock id::k)
 | .loop c,k=>(.code c::.inLoop c::k)::mO c (.inLoop c::k)
 | _,_=>[]
def hd (fn:Func) (n:Nat):List Item:=
 match fn.body with
 | some c=>(match (mO c [])[n]? with | some t=>t | none=>[])
 | none=>[]
def kh (l ts:List Nat) (t:List Item) (s:RS):Option (List Item×Prop×List (Nat×AV)×List ai):=
 match fG l s.M l,iM l s.E ts with
 | some M',some E'=>some (t,a8 s.vc,E',M')
 | _,_=>none
def Bv (P:Program) (T:aN) (sz:Nat) (tb:di) (n:Nat) (l ts:List Nat) (todo:List Item) (E:List (Nat×AV)) (M:List ai):Option (List Item×Prop×List (Nat×AV)×List ai):=
 bif nodupB l then (match dq P T (walk P T 3) sz tb n todo ⟨[],E,M,[],[]⟩ with
 | some (.code (.loop c)::k,s)=>kh l ts (.code c::.inLoop c::k) s
 | some (.inLoop c::k,s)=>kh l ts (.code c::.inLoop c::k) s
 | _=>none) else none
theorem nW {l ts:List Nat} {t t':List Item} {s:RS} {A:Prop} {E':List (Nat×AV)} {M':List ai} (h:kh l ts t s=some (t',A,E',M')):t=t'∧a8 s.vc=A∧fG l s.M l=some M'∧iM l s.E ts=some E':=by
 unfold kh at h
 split at h
 ·rename_i h1 h2
  simp only [Option.some.injEq,Prod.mk.injEq] at h
  obtain ⟨rfl,hA,rfl,rfl⟩:=h
  exact ⟨rfl,hA,h1,h2⟩
 ·simp at h
theorem aS (hT:aY P T=true) (hm:P.follows .mixedOrders=true) (hK:∀ w,Kp D w0 w→K0 w) (tb:di) (n:Nat) (l ts:List Nat) {A:Prop} {E':List (Nat×AV)} {M':List ai} (r:ct mk D w0 K0 sz E M a w)
  (h:Bv P T sz tb n l ts todo E M=some (todo',A,E',M')) (hA:A) (k:∀ a' w',ct mk D w0 K0 sz E' M' a' w'→aD P f todo' R a' w'):aD P f todo R a w:=by
 unfold Bv at h
 cases hn:nodupB l with
 | false=>simp [hn] at h
 | true=>
  simp only [hn,cond_true] at h
  split at h
  ·rename_i c k' s hr
   obtain ⟨rfl,rfl,h3,h4⟩:=nW h
   exact nC hT (gW hT hm 3) hm hK n hr r hA fun a' w' r'=>aD.loop (k a' w' (r'.ln hn h3 h4))
  ·rename_i c k' s hr
   obtain ⟨rfl,rfl,h3,h4⟩:=nW h
   exact nC hT (gW hT hm 3) hm hK n hr r hA fun a' w' r'=>aD.again (k a' w' (r'.ln hn h3 h4))
  ·simp at h
end Go.Proofs.YtcnpikbbmbombaaGreatDoor
namespace Go.Proofs.YtcnpikbbmbombaaGreatDoor
open Go.RowKit
variable {mk:Bool} {P:Program} {T:aN} {f:FuncId} {R:eX} {a:Act} {w:World} {D:List Nat} {w0:World} {K0:World→Prop} {E:List (Nat×AV)} {M:List ai} {β:Beta} {F:Nat→ak} {I X:ak} {sz:Nat} {tb:di} {todo todo':List Item} {b:ek}
def eo (mk:Bool) (D:List Nat) (w0:World) (K0:World→Prop) (sz:Nat) (b:ek) (E:List (Nat×AV)) (M:List ai) (a:Act) (w:World):Prop:=
 b.β.length=b.m∧∃ tc,cY mk D w0 K0 sz b ⟨[],E,M,tc,[]⟩ a w
abbrev RB (D:List Nat) (w0:World) (K0:World→Prop) (sz:Nat) (b:ek) (E:List (Nat×AV)) (M:List ai) (a:Act) (w:World):Prop:=eo false D w0 K0 sz b E M a w
def Bw (D:List Nat) (w0:World) (K0:World→Prop) (b:ek) (x:AV) (M':List ai):Ending→World→Prop:=
 fun e w'=>∃ v,e=.returned v∧∃ az F' I',RM D w0 K0 M' az F' I' w'∧Ext b.β az∧bK b.I I'∧aw (fun w=>K0 w∧Holds w I') az x v
abbrev eH (D:List Nat) (w0:World) (K0:World→Prop) (b:ek) (x:AV) (M':List ai):eX:=.ends (Bw D w0 K0 b x M')
theorem aC.intro {fn:Func} {c:Code} {args:List AV} {x:AV} {M':List ai} (jK:gv P f=true) (hf:P.funcs[f]?=some fn) (hb:fn.body=some c) (n:Nat) (hn:fn.ntmps=n) (hle:Nat.ble args.length n=true)
  (h:∀ (D:List Nat) (w0:World) (K0:World→Prop) (b:ek) (a:Act) (w:World),(∀ w,Kp D w0 w→K0 w)→b.m=M.length→RB D w0 K0 n b (gD args 0) M a w→aD P f [.code c] (eH D w0 K0 b x M') a w):aC P f args M x M':=by
 refine ⟨jK,?_⟩
 intro D w0 K0 β F I w ys Rm hK hl hr
 have hle:=Nat.le_of_ble_eq_true hle
 refine po hf hb (h D w0 K0 ⟨β,F,I,M.length⟩ _ w hK rfl ⟨Rm.len,[],by simp;omega,I,rfl,Nat.le_refl _,β,F,Rm,⟨fun _ _ _ h=>h,bK.refl _,fun _ _ _=>rfl⟩,?_⟩)
 intro t v hv
 obtain ⟨y,rfl,rfl,hy⟩:∃ y:Nat×AV,y.1=t∧y.2=v∧y ∈ gD args 0:=⟨(t,v),rfl,rfl,lE hv⟩
 obtain ⟨-,h2⟩:=py args 0 y hy
 simp only [Nat.sub_zero] at h2
 obtain ⟨aM,-⟩:=List.getElem?_eq_some_iff.1 h2
 have im:ys[y.1]?=some ys[y.1]:=List.getElem?_eq_getElem (by omega)
 have he:({ tmps:=ys.toArray++Array.replicate (fn.ntmps-ys.toArray.size) undef,defers:=[] }:Act).eval (.tmp y.1)=ys[y.1]:=by
  have:y.1<ys.length:=by omega
  simp [Act.eval,Array.getD_eq_getD_getElem?,Array.getElem?_append,this]
 rw [he]
 exact hr y.1 y.2 _ h2 im
def jD (m:Nat) (l:List Nat):Bool:=(List.range m).all fun i=>match l[i]? with | some u=>u.beq i | none=>false
theorem yV {m:Nat} {l:List Nat} (h:jD m l=true) {i:Nat} (hi:i<m):l[i]?=some i:=by
 have:=List.all_eq_true.1 h i (List.mem_range.2 hi)
 split at this
 ·rename_i u hu;rw [hu,Nat.eq_of_beq_eq_true this]
 ·simp at this
def ig (m:Nat) (mv:List Nat):Bool:=mv.all fun u=>Nat.ble m u
theorem HI {m:Nat} {mv:List Nat} (h:ig m mv=true) {u:Nat} (hu:u<m):u ∉ mv:=fun hm=>by
 have:=Nat.le_of_ble_eq_true (List.all_eq_true.1 h u hm);omega
theorem zn {l:List Nat} {M':List ai} (hn:nodupB l=true) (hM:fG l M l=some M') (Rm:RM D w0 K0 M β F I w):RM D w0 K0 M' (eA β l) (lV F l) I w:=by
 obtain ⟨e1,e2⟩:=pJ hM
 have aM:∀ u ∈ l,u<M.length:=by
  intro u hu
  obtain ⟨i,hi,rfl⟩:=List.getElem_of_mem hu
  obtain ⟨u',b0,g1,g2,-⟩:=e2 i M'[i] (List.getElem?_eq_getElem (by omega))
  rw [List.getElem?_eq_getElem hi,Option.some.injEq] at g1
  rw [g1];exact fh g2
 obtain ⟨rest,bq⟩:=tW (nS hn) aM Rm.x
 refine ⟨by rw [tj,e1],?_,?_⟩
 ·intro i b hb
  obtain ⟨u,b0,g1,g2,g3⟩:=e2 i b hb
  rw [tX g1];exact uC g1 g3 (Rm.blk u b0 g2)
 ·rw [e1,rC]
  have:=bq.lD
  exact this.perm (by classical rw [List.perm_iff_count];intro z;simp only [List.count_append,List.count_nil];omega)
theorem Ax {l mv tc:List Nat} (hb:b.β.length=b.m) (hs:jD b.m l=true) (hf:ig b.m mv=true) (h:Since b mv tc β F I):Ext b.β (eA β l):=by
 intro u x hx
 have hu:u<b.m:=by rw [← hb];exact (List.getElem?_eq_some_iff.1 hx).1
 exact eR (yV hs hu) (h.1 u x (HI hf hu) hx)
theorem cY.ln {s:RS} (hb:b.β.length=b.m) (r:cY mk D w0 K0 sz b s a w) {l ts:List Nat} {M':List ai} {E':List (Nat×AV)} (hn:nodupB l=true) (hs:jD b.m l=true) (hf:ig b.m s.mv=true) (hM:fG l s.M l=some M') (hE:iM l s.E ts=some E'):eo mk D w0 K0 sz b E' M' a w:=by
 obtain ⟨h1,I,h2,h3,β,F,Rm,b8,dM⟩:=r
 refine ⟨hb,List.range b.m,h1,I,h2,?_,eA β l,lV F l,zn hn hM Rm,⟨(Ax hb hs hf b8).b _,b8.2.1,fun u hu hn=>absurd (List.mem_range.2 hu) hn⟩,uD dM hE⟩
 rw [(pJ hM).1]
 rcases Nat.lt_or_ge l.length b.m with hl | hl
 ·have:=yV hs (i:=l.length) hl
  rw [List.getElem?_eq_none (Nat.le_refl _)] at this;cases this
 ·exact hl
def AW (P:Program) (T:aN) (sz:Nat) (m:Nat) (tb:di) (n:Nat) (l ts:List Nat) (todo:List Item) (E:List (Nat×AV)) (M:List ai):Option (List Item×Prop×List (Nat×AV)×List ai):=
 bif nodupB l&&jD m l then (match dq P T (walk P T 3) sz tb n todo ⟨[],E,M,[],[]⟩ with
 | some (.code (.loop c)::k,s)=>bif ig m s.mv then kh l ts (.code c::.inLoop c::k) s else none
 | some (.inLoop c::k,s)=>bif ig m s.mv then kh l ts (.code c::.inLoop c::k) s else none
 | _=>none) else none
theorem eo.re (r:eo mk D w0 K0 sz b E M a w):∃ b',cY mk D w0 K0 sz b' ⟨[],E,M,[],[]⟩ a w∧b'.β.length=b.m∧Ext b.β b'.β∧bK b.I b'.I∧b'.m=b.m:=by
 obtain ⟨hb,tc,h1,I,h2,h3,β,F,Rm,b8,dM⟩:=r
 refine ⟨⟨β.take b.m,F,I,b.m⟩,⟨h1,I,h2,h3,β,F,Rm,⟨fun u x _ hx=>?_,bK.refl _,fun _ _ _=>rfl⟩,dM⟩,?_,fun u x hx=>?_,b8.2.1,rfl⟩
 ·rw [List.getElem?_take] at hx
  split at hx
  ·exact hx
  ·simp at hx
 ·rw [List.length_take,Rm.len];have OG:b.m≤M.length:=h3;omega
 ·have hu:u<b.m:=by rw [← hb];exact (List.getElem?_eq_some_iff.1 hx).1
  rw [List.getElem?_take,if_pos hu]
  exact b8.1 u x (by simp) hx
theorem eo.from {b':ek} (ao:b'.m=b.m) (hb:b.β.length=b.m) (hE:Ext b.β b'.β) (hG:bK b.I b'.I) (r:eo mk D w0 K0 sz b' E M a w):eo mk D w0 K0 sz b E M a w:=by
 obtain ⟨-,tc,h1,I,h2,h3,β,F,Rm,b8,dM⟩:=r
 refine ⟨hb,List.range b.m,h1,I,h2,by rw [← ao];exact h3,β,F,Rm,⟨fun u x _ hx=>b8.1 u x (by simp) (hE u x hx),hG.trans b8.2.1,fun u hu hn=>absurd (List.mem_range.2 hu) hn⟩,dM⟩
theorem cD (hT:aY P T=true) (hm:P.follows .mixedOrders=true) (hK:∀ w,Kp D w0 w→K0 w) {m:Nat} (ao:b.m=m) (tb:di) (n:Nat) (l ts:List Nat) {A:Prop} {E':List (Nat×AV)} {M':List ai} (r:eo mk D w0 K0 sz b E M a w)
  (h:AW P T sz m tb n l ts todo E M=some (todo',A,E',M')) (hA:A) (k:∀ a' w',eo mk D w0 K0 sz b E' M' a' w'→aD P f todo' R a' w'):aD P f todo R a w:=by
 subst ao
 have hb:=r.1
 obtain ⟨b',rb,aQ,hE,hG,fU⟩:=r.re
 unfold AW at h
 cases hn:(nodupB l&&jD b.m l) with
 | false=>simp [hn] at h
 | true=>
  simp only [hn,cond_true] at h
  simp only [Bool.and_eq_true] at hn
  have key:∀ {s:RS} {a':Act} {w':World} {M':List ai} {E':List (Nat×AV)},ig b.m s.mv=true→fG l s.M l=some M'→iM l s.E ts=some E'→cY mk D w0 K0 sz b' s a' w'→eo mk D w0 K0 sz b E' M' a' w':=fun hf h3 h4 r'=>
   eo.from fU hb hE hG (r'.ln (by rw [aQ,fU]) hn.1 (by rw [fU];exact hn.2) (by rw [fU];exact hf) h3 h4)
  split at h
  ·rename_i c k' s hr
   cases hf:ig b.m s.mv with
   | false=>simp [hf] at h
   | true=>
    simp only [hf,cond_true] at h
    obtain ⟨rfl,rfl,h3,h4⟩:=nW h
    exact ks hT (gW hT hm 3) hm hK n hr rb hA fun a' w' r'=>aD.loop (k a' w' (key hf h3 h4 r'))
  ·rename_i c k' s hr
   cases hf:ig b.m s.mv with
   | false=>simp [hf] at h
   | true=>
    simp only [hf,cond_true] at h
    obtain ⟨rfl,rfl,h3,h4⟩:=nW h
    exact ks hT (gW hT hm 3) hm hK n hr rb hA fun a' w' r'=>aD.again (k a' w' (key hf h3 h4 r'))
  ·simp at h
def oM (T:aN) (m:Nat) (cv:List Nat) (rs:List ResultVar) (s:RS):Option (Prop×AV×List ai):=
 bif nodupB cv&&jD m cv&&ig m s.mv then (match ie T s.E s.M rs with
 | some l=>(match fG cv s.M cv,sD cv (xp l) with
  | some M',some x=>some (a8 s.vc,x,M')
  | _,_=>none)
 | none=>none) else none
def Ay (P:Program) (T:aN) (sz:Nat) (m:Nat) (rs:List ResultVar) (tb:di) (n:Nat) (cv:List Nat) (todo:List Item) (E:List (Nat×AV)) (M:List ai):Option (Prop×AV×List ai):=
 match dq P T (walk P T 3) sz tb n todo ⟨[],E,M,[],[]⟩ with
 | some (.code .ret::_,s)=>oM T m cv rs s
 | some ([],s)=>oM T m cv rs s
 | _=>none
theorem bf (hT:aY P T=true) (hm:P.follows .mixedOrders=true) (hK:∀ w,Kp D w0 w→K0 w) {fn:Func} (hf:P.funcs[f]?=some fn) {m:Nat} (ao:b.m=m) (tb:di) (n:Nat) (cv:List Nat) {x:AV} {M':List ai} {A:Prop} (r:RB D w0 K0 sz b E M a w)
  (h:Ay P T sz m fn.results.toList tb n cv todo E M=some (A,x,M')) (hA:A):aD P f todo (eH D w0 K0 b x M') a w:=by
 subst ao
 have hb:=r.1
 obtain ⟨b',rb,aQ,hE,hG,fU⟩:=r.re
 have key:∀ {s:RS} {a':Act} {w':World},oM T b.m cv fn.results.toList s=some (A,x,M')→cY false D w0 K0 sz b' s a' w'→a8 s.vc=A∧∃ v,(results fn a'.tmps).run P w'=.ok v w'∧Bw D w0 K0 b x M' (.returned v) w':=by
  intro s a' w' eG r'
  unfold oM at eG
  cases hc:(nodupB cv&&jD b.m cv&&ig b.m s.mv) with
  | false=>simp only [hc,cond_false,reduceCtorEq] at eG
  | true=>
   simp only [hc,cond_true] at eG
   simp only [Bool.and_eq_true] at hc
   split at eG
   ·rename_i l hl
    split at eG
    ·rename_i M1 x1 hM hx
     simp only [Option.some.injEq,Prod.mk.injEq] at eG
     obtain ⟨ye,rfl,rfl⟩:=eG
     refine ⟨ye,?_⟩
     obtain ⟨-,I,-,-,β,F,Rm,b8,hs⟩:=r'
     obtain ⟨ys,e1,e2,e3⟩:=n6 hT Rm hs hl
     refine ⟨_,rI rfl e1,_,rfl,eA β cv,lV F cv,I,zn hc.1.1 hM Rm,?_,hG.trans b8.2.1,An hx ?_⟩
     ·have:=Ax (b:=b') (by rw [aQ,fU]) (by rw [fU];exact hc.1.2) (by rw [fU];exact hc.2) b8
      exact fun u q hq=>this u q (hE u q hq)
     ·match ys,l,e2,e3 with
      | [],[],_,_=>exact .tu [] rfl (by simp)
      | [y],[v],_,e3=>exact e3 0 v y rfl rfl
      | y::y'::ys,v::v'::l,e2,e3=>exact .tu _ e2 e3
    ·simp at eG
   ·simp at eG
 unfold Ay at h
 have dt:∀ {s:RS},oM T b.m cv fn.results.toList s=some (A,x,M')→a8 s.vc:=by
  intro s eG
  unfold oM at eG
  cases hc:(nodupB cv&&jD b.m cv&&ig b.m s.mv) with
  | false=>simp only [hc,cond_false,reduceCtorEq] at eG
  | true=>
   simp only [hc,cond_true] at eG
   split at eG
   ·split at eG
    ·simp only [Option.some.injEq,Prod.mk.injEq] at eG
     rw [eG.1];exact hA
    ·simp at eG
   ·simp at eG
 split at h
 ·rename_i k s hr
  refine ks hT (gW hT hm 3) hm hK n hr rb (dt h) fun a' w' r'=>?_
  obtain ⟨-,v,h1,h2⟩:=key h r'
  exact aD.ret hf (cY.mW r') h1 h2
 ·rename_i s hr
  refine ks hT (gW hT hm 3) hm hK n hr rb (dt h) fun a' w' r'=>?_
  obtain ⟨-,v,h1,h2⟩:=key h r'
  exact aD.fin hf (cY.mW r') h1 h2
 ·simp at h
theorem bg {x y:AV} {N N':List ai} {todo:List Item} (e1:x=y) (e2:N=N') (h:aD P f todo (eH D w0 K0 b y N') a w):aD P f todo (eH D w0 K0 b x N) a w:=e1▸e2▸h
end Go.Proofs.YtcnpikbbmbombaaGreatDoor
namespace Go.Proofs.YtcnpikbbmbombaaGreatDoor
open Go.RowKit
def tb:aN:=[
 (3,⟨.it .i64,1,8,[.int .i64 0]⟩),
 (5,⟨.it .u8,1,1,[.int .u8 0]⟩),
 (9,⟨.st,1,16,[.string .empty]⟩),
 (31,⟨.sl 5,1,24,[.slice none 0 0]⟩),
 (42,⟨.sr [0,1,2,3,4,5,6] [3,3,3,3,3,40,31],7,72,[.int .i64 0,.int .i64 0,.int .i64 0,.int .i64 0,.int .i64 0,.int .u64 0,.slice none 0 0]⟩),
 (25,⟨.sr [0,1,2] [3,22,23],3,56,[.int .i64 0,.slice none 0 0,.slice none 0 0]⟩),
 (40,⟨.it .u64,1,8,[.int .u64 0]⟩),
 (60,⟨.ar 2 3,2,16,[.int .i64 0,.int .i64 0]⟩),
 (87,⟨.sl 9,1,24,[.slice none 0 0]⟩),
 (23,⟨.sl 3,1,24,[.slice none 0 0]⟩),
 (22,⟨.sl 60,1,24,[.slice none 0 0]⟩),
 (4,⟨.pl,1,1,[.bool false]⟩),
 (94,⟨.sr [0,1,2,3,4,5,6] [9,4,4,4,4,4,4],7,24,[.string .empty,.bool false,.bool false,.bool false,.bool false,.bool false,.bool false]⟩),
 (26,⟨.sl 42,1,24,[.slice none 0 0]⟩),
 (71,⟨.sr [0,1] [69,31],2,32,[.pointer none,.slice none 0 0]⟩),
 (51,⟨.pl,1,8,[.pointer none]⟩),
 (61,⟨.pl,1,8,[.pointer none]⟩),
 (106,⟨.sr [0,1] [31,4],2,32,[.slice none 0 0,.bool false]⟩),
 (115,⟨.sr [0,1] [31,4],2,32,[.slice none 0 0,.bool false]⟩),
 (171,⟨.sr [0,1] [5,5],2,2,[.int .u8 0,.int .u8 0]⟩),
 (21,⟨.it .i32,1,4,[.int .i32 0]⟩),
 (113,⟨.pl,1,8,[.pointer none]⟩),
 (108,⟨.sr [0] [106],2,32,[.slice none 0 0,.bool false]⟩),
 (69,⟨.pl,1,8,[.pointer none]⟩),
 (159,⟨.it .u32,1,4,[.int .u32 0]⟩),
 (91,⟨.sr [0] [31],1,24,[.slice none 0 0]⟩),
 (95,⟨.ar 14 94,98,336,[.string .empty,.bool false,.bool false,.bool false,.bool false,.bool false,.bool false,.string .empty,.bool false,.bool false,.bool false,.bool false,.bool false,.bool false,.string .empty,.bool false,.bool false,.bool false,.bool false,.bool false,.bool false,.string .empty,.bool false,.bool false,.bool false,.bool false,.bool false,.bool false,.string .empty,.bool false,.bool false,.bool false,.bool false,.bool false,.bool false,.string .empty,.bool false,.bool false,.bool false,.bool false,.bool false,.bool false,.string .empty,.bool false,.bool false,.bool false,.bool false,.bool false,.bool false,.string .empty,.bool false,.bool false,.bool false,.bool false,.bool false,.bool false,.string .empty,.bool false,.bool false,.bool false,.bool false,.bool false,.bool false,.string .empty,.bool false,.bool false,.bool false,.bool false,.bool false,.bool false,.string .empty,.bool false,.bool false,.bool false,.bool false,.bool false,.bool false,.string .empty,.bool false,.bool false,.bool false,.bool false,.bool false,.bool false,.string .empty,.bool false,.bool false,.bool false,.bool false,.bool false,.bool false,.string .empty,.bool false,.bool false,.bool false,.bool false,.bool false,.bool false]⟩),
 (149,⟨.ar 24 5,24,24,List.replicate 24 (.int .u8 0)⟩),
 (160,⟨.ar 65 5,65,65,List.replicate 65 (.int .u8 0)⟩),
 (135,⟨.sl 40,1,24,[.slice none 0 0]⟩),
 (32,⟨.it .i64,1,8,[.int .i64 0]⟩),
 (98,⟨.it .u16,1,2,[.int .u16 0]⟩),
 (134,⟨.it .u64,1,8,[.int .u64 0]⟩),
 (79,⟨.pl,1,8,[.nilFunc]⟩),
 (146,⟨.ar 8 5,8,8,[.int .u8 0,.int .u8 0,.int .u8 0,.int .u8 0,.int .u8 0,.int .u8 0,.int .u8 0,.int .u8 0]⟩),
 (2,⟨.it .i64,1,8,[.int .i64 0]⟩),
 (158,⟨.ar 20 40,20,160,List.replicate 20 (.int .u64 0)⟩),
 (167,⟨.ar 32 5,32,32,List.replicate 32 (.int .u8 0)⟩),
 (168,⟨.ar 64 5,64,64,List.replicate 64 (.int .u8 0)⟩),
 (172,⟨.ar 16 171,32,32,List.replicate 32 (.int .u8 0)⟩),
 (121,⟨.pl,1,8,[.pointer none]⟩)]
theorem tk:aY Tryz.prog tb=true:=by kernel_rfl
theorem mo:Tryz.prog.follows .mixedOrders=true:=by kernel_rfl
end Go.Proofs.YtcnpikbbmbombaaGreatDoor
namespace Go.Proofs.YtcnpikbbmbombaaGreatDoor
open Go.RowKit
variable {P:Program}
theorem U {a b:Prop} (h:a) (k:b):a∧b:=⟨h,k⟩
theorem bv {a b:Bool} (h:a=b):DV.v (.bool a)=.v (.bool b):=by rw [h]
theorem wi {x y:Int} (h:x=y ∧ -9223372036854775808≤y∧y<9223372036854775808):IntKind.i64.wrap x=y:=by
 obtain ⟨rfl,h1,h2⟩:=h;simp [IntKind.wrap,IntKind.signed,IntKind.bits];omega
theorem wu {x y:Int} (h:x=y∧0≤y∧y<18446744073709551616):IntKind.u64.wrap x=y:=by
 obtain ⟨rfl,h1,h2⟩:=h;simp [IntKind.wrap,IntKind.signed,IntKind.bits];omega
theorem ne_of_beq_false {a b:Int} (h:(a==b)=false):a≠b:=by intro e;subst e;simp at h
theorem fZ {a b:Int} (h:(a != b)=false):a=b:=by simpa [bne] using h
theorem o1 (c:Bool):(fB (Value.bool c)==some true)=c:=by cases c<;>rfl
theorem o2 (c:Bool):(fB (Value.bool c)==some false)=(!c):=by cases c<;>rfl
theorem jm (a b:Bool):∃ b0:Bool,(Value.bool a)=.bool b0∧(bif b0 then Value.bool true else (bif (!a) then Value.bool b else undef))=.bool (a||b):=⟨a,rfl,by cases a<;>rfl⟩
theorem oC (a b:Bool):∃ b0:Bool,(Value.bool a)=.bool b0∧(bif b0 then (bif a then Value.bool b else undef) else Value.bool false)=.bool (a&&b):=⟨a,rfl,by cases a<;>rfl⟩
theorem mA (x:DV):x=x:=rfl
theorem eY (n:Nat):n=n:=rfl
theorem aB (n:Int):n=n:=rfl
end Go.Proofs.YtcnpikbbmbombaaGreatDoor
namespace Go.Proofs.YtcnpikbbmbombaaGreatDoor
open Go.RowKit
variable {mk:Bool} {P:Program} {T:aN} {f:FuncId} {R:eX} {a:Act} {w:World} {D:List Nat} {w0:World} {K0:World→Prop} {E E1:List (Nat×AV)} {M M1 M2:List ai} {β:Beta} {F:Nat→ak} {I X:ak} {sz:Nat} {b:ek}
theorem RM.nil (h:RM D w0 K0 M β F I w) (T k:Nat):RM D w0 K0 (M++[.rw T k []]) (β++[(none,0)]) (aL F M.length []) I w:=by
 refine h.new (Gr.refl w) (dh.nil w w) ?_
 have:bw (fun w=>K0 w∧Holds w I) (β++[(none,0)]) M.length (.rw T k []) ([]++bE ([]:List (List DV)).length k fun _ _=>[]):=
  .rw (c:=0) (a:=none) (by rw [List.getElem?_append_right (by rw [h.len];exact Nat.le_refl _),h.len];simp) (fun _=>[]) (fun _ _=>[]) (by simp) (by simpa [lay] using dJ.nil T k none) (by simp)
 simpa [bE] using this
theorem RM.cells (h:RM D w0 K0 M β F I w) {u Tb:Nat} {cells cells':List AV} (hu:M[u]?=some (.bx Tb cells)) (hl:cells'.length=cells.length)
  (hc:∀ (j:Nat) c c0 y,cells'[j]?=some c→cells[j]?=some c0→aw (fun w=>K0 w∧Holds w I) β c0 y→aw (fun w=>K0 w∧Holds w I) β c y):RM D w0 K0 (M.set u (.bx Tb cells')) β F I w where
 len:=by rw [h.len,List.length_set]
 blk:=by
  intro v bl hv
  rw [List.getElem?_set] at hv
  split at hv
  ·rename_i Nn;subst Nn
   split at hv
   ·simp only [Option.some.injEq] at hv;subst hv
    have hr:=h.blk _ _ hu
    generalize F _=H at hr ⊢
    cases hr with
    | bx hb ys cX hr=>
     refine .bx hb ys (by omega) fun j c y h1 h2=>?_
     have hj:j<cells.length:=by rw [← hl];exact (List.getElem?_eq_some_iff.1 h1).1
     exact hc j c _ y h1 (List.getElem?_eq_getElem hj) (hr j _ y (List.getElem?_eq_getElem hj) h2)
   ·cases hv
  ·exact h.blk v bl hv
 st:=by rw [List.length_set];exact h.st
def oN (E:List (Nat×AV)) (t:Nat) (v:AV):List (Nat×AV):=E.map fun x=>bif x.1.beq t then (x.1,v) else x
theorem uJ {t:Nat} {v:AV}:∀ {E:List (Nat×AV)} {s:Nat} {u:AV},bV (oN E t v) s=some u→(s=t∧u=v∧∃ u0,bV E t=some u0)∨(s≠t∧bV E s=some u)
 | [],s,u,h=>by simp [oN,bV] at h
 | (k,x)::r,s,u,h=>by
  have ih:=uJ (t:=t) (v:=v) (E:=r) (s:=s) (u:=u)
  unfold oN at ih h
  rw [List.map_cons] at h
  cases hk:k.beq t with
  | true=>
   have No:=Nat.eq_of_beq_eq_true hk;subst No
   simp only [Nat.beq_refl,cond_true,bV] at h ⊢
   cases hs:k.beq s with
   | true=>
    have:=Nat.eq_of_beq_eq_true hs;subst this
    rw [hs,cond_true,Option.some.injEq] at h
    exact Or.inl ⟨rfl,h.symm,x,rfl⟩
   | false=>
    rw [hs,cond_false] at h
    rcases ih h with ⟨rfl,-,-⟩ | h2
    ·rw [Nat.beq_refl] at hs;cases hs
    ·exact Or.inr h2
  | false=>
   simp only [hk,cond_false,bV] at h ⊢
   cases hs:k.beq s with
   | true=>
    have:=Nat.eq_of_beq_eq_true hs;subst this
    rw [hs,cond_true] at h
    refine Or.inr ⟨?_,h⟩
    rintro rfl;rw [Nat.beq_refl] at hk;cases hk
   | false=>
    rw [hs,cond_false] at h
    exact ih h
def o3:List (Nat×Nat×Nat)→List (Nat×AV)→List ai→Option (List (Nat×AV)×List ai)
 | [],E,M=>some (E,M)
 | (t,T,k)::r,E,M=>match bV E t with
  | some (.d (.v (.slice none 0 0)))=>o3 r (oN E t (.sl M.length 0)) (M++[.rw T k []])
  | _=>none
def o4:List (Nat×Nat×Nat×Nat)→List ai→Option (List ai)
 | [],M=>some M
 | (u,o,T,k)::r,M=>match M[u]? with
  | some (.bx Tb cells)=>(match cells[o]? with
   | some (.d (.v (.slice none 0 0)))=>o4 r ((M++[ai.rw T k []]).set u (.bx Tb (cells.set o (.sl M.length 0))))
   | _=>none)
  | _=>none
theorem AX (h:RM D w0 K0 M β F I w):(β++[((none:Option Addr),0)])[M.length]?=some (none,0):=by rw [List.getElem?_append_right (by rw [h.len];exact Nat.le_refl _),h.len];simp
theorem vB {ev:Nat→Value} {n:Nat}:∀ {ls:List (Nat×Nat×Nat)} {E:List (Nat×AV)} {M:List ai} {β:Beta} {F:Nat→ak},o3 ls E M=some (E1,M1)→n≤M.length→RM D w0 K0 M β F I w→(∀ t v,bV E t=some v→aw (fun w=>K0 w∧Holds w I) β v (ev t))→
  ∃ az F',RM D w0 K0 M1 az F' I w∧Ext β az∧(∀ u,u<n→F' u=F u)∧n≤M1.length∧∀ t v,bV E1 t=some v→aw (fun w=>K0 w∧Holds w I) az v (ev t)
 | [],E,M,β,F,h,hn,hR,hs=>by
  simp only [o3,Option.some.injEq,Prod.mk.injEq] at h;obtain ⟨rfl,rfl⟩:=h
  exact ⟨β,F,hR,fun _ _ h=>h,fun _ _=>rfl,hn,hs⟩
 | (t,T,k)::r,E,M,β,F,h,hn,hR,hs=>by
  unfold o3 at h
  split at h
  ·rename_i ht
   obtain ⟨az,F',h1,h2,h3,h4,h5⟩:=vB h (n:=n) (ev:=ev) (by simp;omega) (hR.nil T k) fun s v hv=>by
    rcases uJ hv with ⟨rfl,rfl,-⟩ | ⟨-,h2⟩
    ·have:=hs s _ ht
     generalize ev s=y at this
     cases this with | d h=>cases h;exact .sl (AX hR)
    ·exact (hs s v h2).mono (fun _ h=>h) (Ext.app β [((none:Option Addr),0)])
   exact ⟨az,F',h1,fun u x hx=>h2 u x (Ext.app β [((none:Option Addr),0)] u x hx),fun u hu=>(h3 u hu).trans (lK (tc:=[]) F [] u (by omega) (by simp)),h4,h5⟩
  ·cases h
theorem vC {ev:Nat→Value} {n:Nat}:∀ {lc:List (Nat×Nat×Nat×Nat)} {M:List ai} {β:Beta} {F:Nat→ak},o4 lc M=some M1→n≤M.length→RM D w0 K0 M β F I w→(∀ t v,bV E t=some v→aw (fun w=>K0 w∧Holds w I) β v (ev t))→
  ∃ az F',RM D w0 K0 M1 az F' I w∧Ext β az∧(∀ u,u<n→F' u=F u)∧n≤M1.length∧∀ t v,bV E t=some v→aw (fun w=>K0 w∧Holds w I) az v (ev t)
 | [],M,β,F,h,hn,hR,hs=>by
  simp only [o4,Option.some.injEq] at h;subst h
  exact ⟨β,F,hR,fun _ _ h=>h,fun _ _=>rfl,hn,hs⟩
 | (u,o,T,k)::r,M,β,F,h,hn,hR,hs=>by
  unfold o4 at h
  split at h
  ·rename_i Tb cells hu
   split at h
   ·rename_i ho
    have Np:=hR.nil T k
    have Nq:=Np.cells (cells':=cells.set o (.sl M.length 0)) (by rw [List.getElem?_append_left (List.getElem?_eq_some_iff.1 hu).1];exact hu) (by simp) fun j c c0 y h1 h2 h3=>by
     rw [List.getElem?_set] at h1
     split at h1
     ·rename_i hj;subst hj
      split at h1
      ·simp only [Option.some.injEq] at h1;subst h1
       rw [ho,Option.some.injEq] at h2;subst h2
       cases h3 with | d h=>cases h;exact .sl (AX hR)
      ·cases h1
     ·rw [h1,Option.some.injEq] at h2;subst h2;exact h3
    obtain ⟨az,F',h1,h2,h3,h4,h5⟩:=vC h (n:=n) (ev:=ev) (by simp;omega) Nq fun s v hv=>(hs s v hv).mono (fun _ h=>h) (Ext.app β [((none:Option Addr),0)])
    exact ⟨az,F',h1,fun u x hx=>h2 u x (Ext.app β [((none:Option Addr),0)] u x hx),fun u hu=>(h3 u hu).trans (lK (tc:=[]) F [] u (by omega) (by simp)),h4,h5⟩
   ·cases h
  ·cases h
theorem ct.fk (r:ct mk D w0 K0 sz E M a w) (ls:List (Nat×Nat×Nat)) (lc:List (Nat×Nat×Nat×Nat)) (h:o3 ls E M=some (E1,M1)) (h2:o4 lc M1=some M2):ct mk D w0 K0 sz E1 M2 a w:=by
 obtain ⟨g1,I,g2,β,F,hR,hs⟩:=r
 obtain ⟨pn,F1,r1,-,-,-,s1⟩:=vB (ev:=fun t=>a.eval (.tmp t)) (n:=0) h (Nat.zero_le _) hR hs
 obtain ⟨iw,F2,r2,-,-,-,s2⟩:=vC (ev:=fun t=>a.eval (.tmp t)) (n:=0) h2 (Nat.zero_le _) r1 s1
 exact ⟨g1,I,g2,iw,F2,r2,s2⟩
theorem ct.cast {E':List (Nat×AV)} {M':List ai} (r:ct mk D w0 K0 sz E M a w) (hE:E=E') (hM:M=M'):ct mk D w0 K0 sz E' M' a w:=hE▸hM▸r
theorem eo.cast {E':List (Nat×AV)} {M':List ai} (r:eo mk D w0 K0 sz b E M a w) (hE:E=E') (hM:M=M'):eo mk D w0 K0 sz b E' M' a w:=hE▸hM▸r
theorem eo.fk (r:eo mk D w0 K0 sz b E M a w) (ls:List (Nat×Nat×Nat)) (lc:List (Nat×Nat×Nat×Nat)) (h:o3 ls E M=some (E1,M1)) (h2:o4 lc M1=some M2):eo mk D w0 K0 sz b E1 M2 a w:=by
 obtain ⟨hb,tc,g1,I,g2,g3,β,F,hR,b8,hs⟩:=r
 obtain ⟨pn,F1,r1,e1,f1,l1,s1⟩:=vB (ev:=fun t=>a.eval (.tmp t)) (n:=b.m) h g3 hR hs
 obtain ⟨iw,F2,r2,e2,f2,l2,s2⟩:=vC (ev:=fun t=>a.eval (.tmp t)) (n:=b.m) h2 l1 r1 s1
 exact ⟨hb,tc,g1,I,g2,l2,iw,F2,r2,⟨fun u x hu hx=>e2 u x (e1 u x (b8.1 u x hu hx)),b8.2.1,fun u hu hn=>(f2 u hu).trans ((f1 u hu).trans (b8.2.2 u hu hn))⟩,s2⟩
end Go.Proofs.YtcnpikbbmbombaaGreatDoor
namespace Go.Proofs.YtcnpikbbmbombaaGreatDoor
open Go.RowKit
variable {mk:Bool} {ro:Option Nat} {P:Program} {T:aN} {cl:fi} {f:FuncId} {R:eX} {a:Act} {w:World} {D:List Nat} {w0:World} {K0:World→Prop} {E:List (Nat×AV)} {M:List ai} {sz:Nat} {tb:di} {todo todo':List Item} {ops:Array Oper} {Q:Exit→Act→World→Prop}
def sg (P:Program) (T:aN) (cl:fi) (sz:Nat) (ops:Array Oper) (oc:List (Nat×aU)) (rd:List Nat) (i:Nat):RS→Option (List Nat×RS)
 | ⟨vc,E,M,tc,mv⟩=>match ops[i]? with
  | some o=>(bif fP sz o.dst then (match lW sz ops E o.guard with
   | some true=>(match step P T cl E M (l4 oc i) o.op with
    | some ⟨mw,av,_,_,_,some jW⟩=>some (jW++rd,⟨vc++mw,gF E o.dst av,M,tc,mv⟩)
    | _=>none)
   | some false=>some (rd,⟨vc,gF E o.dst (.d (.v undef)),M,tc,mv⟩)
   | none=>none) else none)
  | none=>none
def sJ (P:Program) (T:aN) (cl:fi) (sz:Nat) (ops:Array Oper) (oc:List (Nat×aU)) (rd:List Nat) (i:Nat):RS→Option RS
 | ⟨vc,E,M,tc,mv⟩=>match ops[i]? with
  | some o=>(bif fP sz o.dst then (match lW sz ops E o.guard with
   | some true=>(match step P T cl E M (l4 oc i) o.op with
    | some out=>(bif xm rd out.tc&&Nat.ble M.length out.M.length then some ⟨vc++out.vc,gF (oB out.mv E) o.dst out.av,out.M,out.tc++tc,out.mv++mv⟩ else none)
    | none=>none)
   | some false=>some ⟨vc,gF E o.dst (.d (.v undef)),M,tc,mv⟩
   | none=>none) else none)
  | none=>none
def sK (g:Nat→Option (List RS)):List Nat→Option (List RS)
 | []=>some []
 | j::r=>match g j,sK g r with | some l,some l'=>some (l++l') | _,_=>none
theorem uK {g:Nat→Option (List RS)}:∀ {r:List Nat} {l:List RS},sK g r=some l→∀ j ∈ r,∃ l',g j=some l'∧∀ s ∈ l',s ∈ l
 | [],_,_,j,hj=>by cases hj
 | i::r,l,h,j,hj=>by
  unfold sK at h
  split at h
  ·rename_i l1 l2 h1 h2
   simp only [Option.some.injEq] at h;subst h
   rcases List.mem_cons.1 hj with rfl | hj
   ·exact ⟨l1,h1,fun s hs=>List.mem_append_left _ hs⟩
   ·obtain ⟨l',h3,h4⟩:=uK h2 j hj
    exact ⟨l',h3,fun s hs=>List.mem_append_right _ (h4 s hs)⟩
  ·cases h
def l6 (ops:Array Oper) (nl:List Nat) (L:Array Bool):qE:=match Region.ready .any ops L with
 | []=>.fin
 | i::r=>match lG ops L ((i::r).filter fun j=>!(nl.elem j)) with
  | some j=>.look j
  | none=>.bad
theorem zO {nl:List Nat} {L:Array Bool} (h:l6 ops nl L=.fin):Region.ready .any ops L=[]:=by
 unfold l6 at h
 split at h
 ·assumption
 ·split at h<;>cases h
theorem EV {nl:List Nat} {L:Array Bool} {i:Nat} (h:l6 ops nl L=.look i):i ∈ Region.ready .any ops L∧∃ o,ops[i]?=some o∧Region.free .any ops L i=true:=by
 unfold l6 at h
 split at h
 ·cases h
 ·rename_i k r hr
  split at h
  ·rename_i j hj
   simp only [qE.look.injEq] at h;subst h
   obtain ⟨h1,h2⟩:=nO hj
   exact ⟨by rw [hr];exact (List.mem_filter.1 h1).1,h2⟩
  ·cases h
def ki (P:Program) (T:aN) (cl:fi) (sz:Nat) (ops:Array Oper) (oc:List (Nat×aU)) (nl:List Nat):Nat→Array Bool→List Nat→RS→Option (List RS)
 | 0,L,_,s=>(match l6 ops nl L with | .fin=>some [s] | _=>none)
 | fuel+1,L,rd,s=>match l6 ops nl L with
  | .fin=>some [s]
  | .look i=>(match sg P T cl sz ops oc rd i s with
   | some (jW,s1)=>ki P T cl sz ops oc nl fuel (L.setIfInBounds i true) jW s1
   | none=>none)
  | _=>sK (fun j=>match sJ P T cl sz ops oc rd j s with
   | some s1=>ki P T cl sz ops oc nl fuel (L.setIfInBounds j true) rd s1
   | none=>none) (Region.ready .any ops L)
theorem Gm {oc:List (Nat×aU)} {rd jW:List Nat} {i:Nat} {s s1:RS} (h:sg P T cl sz ops oc rd i s=some (jW,s1)) (hv:a8 s1.vc):a8 s.vc:=by
 obtain ⟨vc,E,M,tc,mv⟩:=s
 unfold sg at h
 dsimp only at h
 split at h
 ·rename_i o ho
  cases hd:fP sz o.dst with
  | false=>simp [hd] at h
  | true=>
   simp only [hd,cond_true] at h
   split at h
   ·split at h
    ·simp only [Option.some.injEq,Prod.mk.injEq] at h;obtain ⟨-,rfl⟩:=h;exact (a8.app.1 hv).1
    ·cases h
   ·simp only [Option.some.injEq,Prod.mk.injEq] at h;obtain ⟨-,rfl⟩:=h;exact hv
   ·cases h
 ·cases h
theorem HJ {oc:List (Nat×aU)} {rd:List Nat} {i:Nat} {s s1:RS} (h:sJ P T cl sz ops oc rd i s=some s1) (hv:a8 s1.vc):a8 s.vc:=by
 obtain ⟨vc,E,M,tc,mv⟩:=s
 unfold sJ at h
 dsimp only at h
 split at h
 ·rename_i o ho
  cases hd:fP sz o.dst with
  | false=>simp [hd] at h
  | true=>
   simp only [hd,cond_true] at h
   split at h
   ·split at h
    ·rename_i out _
     cases hc:(xm rd out.tc&&Nat.ble M.length out.M.length) with
     | false=>simp [hc] at h
     | true=>simp only [hc,cond_true,Option.some.injEq] at h;subst h;exact (a8.app.1 hv).1
    ·cases h
   ·simp only [Option.some.injEq] at h;subst h;exact hv
   ·cases h
 ·cases h
theorem yW {nl:List Nat} {L:Array Bool} (h:l6 ops nl L≠.fin):∃ j r,Region.ready .any ops L=j::r:=by
 unfold l6 at h
 cases hr:Region.ready .any ops L with
 | nil=>rw [hr] at h;exact absurd rfl h
 | cons j r=>exact ⟨j,r,rfl⟩
theorem ua {oc:List (Nat×aU)} {nl:List Nat}:∀ (fuel:Nat) (L:Array Bool) (rd:List Nat) (s:RS) {l:List RS},ki P T cl sz ops oc nl fuel L rd s=some l→∃ s' ∈ l,a8 s'.vc→a8 s.vc:=by
 intro fuel
 induction fuel with
 | zero=>
  intro L rd s l h
  unfold ki at h
  split at h
  ·simp only [Option.some.injEq] at h;subst h;exact ⟨s,by simp,id⟩
  ·cases h
 | succ fuel ih=>
  intro L rd s l h
  unfold ki at h
  split at h
  ·simp only [Option.some.injEq] at h;subst h;exact ⟨s,by simp,id⟩
  ·split at h
   ·rename_i hl
    obtain ⟨s',h1,h2⟩:=ih _ _ _ h
    exact ⟨s',h1,fun hv=>Gm hl (h2 hv)⟩
   ·cases h
  ·rename_i hn _
   obtain ⟨j,r,hr⟩:=yW (ops:=ops) (nl:=nl) (L:=L) (by intro hf;exact hn hf)
   obtain ⟨l',h1,h2⟩:=uK h j (by rw [hr];exact List.mem_cons_self)
   split at h1
   ·rename_i ho
    obtain ⟨s',h3,h4⟩:=ih _ _ _ h1
    exact ⟨s',h2 s' h3,fun hv=>HJ ho (h4 hv)⟩
   ·cases h1
theorem Gn (hT:aY P T=true) (cx:iO P cl) {b:ek} (hK:∀ w,Kp D w0 w→K0 w) (gG:Region.noSelect ops=true) (hQ:∀ d v c a w,Q (.panic c) (Act.put a d v) w→Q (.panic c) a w) {oc:List (Nat×aU)} {nl:List Nat}:
  ∀ (fuel:Nat) (L:Array Bool) (rd:List Nat) (s:RS) {l:List RS} (Rk:World→Prop) (β:Beta) (F:Nat→ak) (I:ak) (a:Act) (w:World),ki P T cl sz ops oc nl fuel L rd s=some l→a.tmps.size=sz→Mk mk a.defers I→b.m≤s.M.length→RM D w0 K0 s.M β F I w→Since b s.mv s.tc β F I→
   (∀ t v,bV s.E t=some v→aw (fun w=>K0 w∧Holds w I) β v (a.eval (.tmp t)))→(∀ u ∈ rd,u<s.M.length)→(∀ w,ic K0 I F rd w→Rk w)→(∀ s' ∈ l,a8 s'.vc∧∀ a' w',cY mk D w0 K0 sz b s' a' w'→Q .normal a' w')→jE ro P ops Q Rk fuel L a w:=by
 intro fuel
 induction fuel with
 | zero=>
  intro L rd s l Rk β F I a w h size defers hm Rm b8 hs du fH k
  have C:Ctx D w0 K0 s.E s.M β F I a.eval w:=⟨Rm,hs,fun _=>rfl,fun _=>rfl,fun _=>rfl,hK⟩
  have hR:=fH w (C.wQ du)
  unfold ki at h
  split at h
  ·rename_i hn
   simp only [Option.some.injEq] at h;subst h
   exact ⟨hR,zO hn,(k s (by simp)).2 a w ⟨size,I,defers,hm,β,F,Rm,b8,hs⟩⟩
  ·cases h
 | succ fuel ih=>
  intro L rd s l Rk β F I a w h size defers hm Rm b8 hs du fH k
  have C:Ctx D w0 K0 s.E s.M β F I a.eval w:=⟨Rm,hs,fun _=>rfl,fun _=>rfl,fun _=>rfl,hK⟩
  have hR:=fH w (C.wQ du)
  unfold ki at h
  split at h
  ·rename_i hn
   simp only [Option.some.injEq] at h;subst h
   have hn:=zO hn
   exact ⟨hR,fun _=>(k s (by simp)).2 a w ⟨size,I,defers,hm,β,F,Rm,b8,hs⟩,fun i hi=>by rw [hn] at hi;cases hi⟩
  ·rename_i i hn
   obtain ⟨qG,o',M8,kS⟩:=EV hn
   split at h
   ·rename_i OH s1 hl
    obtain ⟨s',ec,dt⟩:=ua _ _ _ _ h
    have cZ:=dt (k s' ec).1
    obtain ⟨vc,E,M,tc,mv⟩:=s
    dsimp only at hm Rm b8 hs du fH C
    unfold sg at hl
    dsimp only at hl
    split at hl
    ·rename_i o ho
     cases hd:fP sz o.dst with
     | false=>simp [hd] at hl
     | true=>
      simp only [hd,cond_true] at hl
      have nq:=fun j oj hj jq lh iU=>Region.free_spec ho kS j oj hj jq lh iU
      split at hl
      ·rename_i hw
       have eE:=j5 (ops:=ops) size hs hw
       split at hl
       ·rename_i mw av _ _ _ jW bq
        simp only [Option.some.injEq,Prod.mk.injEq] at hl;obtain ⟨rfl,rfl⟩:=hl
        have nB:=n5 (P:=P) hT cx (d:=o.dst) (ty:=o.type) (pos:=o.pos) (aft:=o.after) (gd:=o.guard) bq
        obtain ⟨xn,rfl,-,aM⟩:=nB
        have kY:=(a8.app.1 cZ).2
        obtain ⟨v,kW,kT⟩:=xn C kY
        obtain ⟨e1,e2,e3⟩:=RE.put (E:=E) size defers hs hd kW
        have ke:=ih (L.setIfInBounds i true) _ _ (fun w=>Rk w∧ic K0 I F jW w) β F I (a.put o.dst v) w h e1 e2 hm Rm b8 e3 (fun u hu=>by rcases List.mem_append.1 hu with e | e;exact aM u e;exact du u e)
         (fun w hw=>⟨fH w ⟨hw.1,fun u hu=>hw.2 u (List.mem_append_right _ hu)⟩,hw.1,fun u hu=>hw.2 u (List.mem_append_left _ hu)⟩) k
        exact yC (fun w hw=>hw.1) (yz ho (Region.noSelect_spec gG) (hQ o.dst v) _ L a w nq qG (Or.inl ⟨eE,fun w' dS=>kT w' dS.2⟩) ke)
       ·cases hl
      ·rename_i hw
       simp only [Option.some.injEq,Prod.mk.injEq] at hl;obtain ⟨rfl,rfl⟩:=hl
       have eE:=j5 (ops:=ops) size hs hw
       obtain ⟨e1,e2,e3⟩:=RE.put (E:=E) size defers hs hd (.d (.v undef))
       have ke:=ih (L.setIfInBounds i true) _ _ Rk β F I (a.put o.dst undef) w h e1 e2 hm Rm b8 e3 du fH k
       exact yz ho (Region.noSelect_spec gG) (hQ o.dst undef) _ L a w nq qG (Or.inr ⟨eE,rfl⟩) ke
      ·cases hl
    ·cases hl
   ·cases h
  ·rename_i hn _
   obtain ⟨j0,r0,CR⟩:=yW (ops:=ops) (nl:=nl) (L:=L) (by intro hf;exact hn hf)
   refine ⟨hR,fun h0=>(by rw [CR] at h0;cases h0),fun j hj=>?_⟩
   obtain ⟨l',h1,h2⟩:=uK h j hj
   split at h1
   ·rename_i s1 gQ
    obtain ⟨s',ec,dt⟩:=ua _ _ _ _ h1
    have cZ:=dt (k s' (h2 s' ec)).1
    obtain ⟨vc,E,M,tc,mv⟩:=s
    dsimp only at hm Rm b8 hs du fH C
    unfold sJ at gQ
    dsimp only at gQ
    unfold wpOpIn
    split at gQ
    ·rename_i o ho
     simp only [ho]
     cases hd:fP sz o.dst with
     | false=>simp [hd] at gQ
     | true=>
      simp only [hd,cond_true] at gQ
      split at gQ
      ·rename_i hw
       have eE:=j5 (ops:=ops) size hs hw
       simp only [eE,if_true]
       split at gQ
       ·rename_i out bq
        cases hc:(xm rd out.tc&&Nat.ble M.length out.M.length) with
        | false=>simp [hc] at gQ
        | true=>
         simp only [hc,cond_true,Option.some.injEq] at gQ;subst gQ
         simp only [Bool.and_eq_true] at hc
         have hlen:=Nat.le_of_ble_eq_true hc.2
         have kY:=(a8.app.1 cZ).2
         have nB:=(n5 (P:=P) hT cx (d:=o.dst) (ty:=o.type) (pos:=o.pos) (aft:=o.after) (gd:=o.guard) bq).oT C kY
         refine aT.wp nB ?_
         rintro v w' ⟨az,F',I',R',e,hI,hF,my⟩
         have hk:=tZ (ρ:=a.eval) e hs
         obtain ⟨e1,e2,e3⟩:=RE.put size (defers.grow hI) (fun t v hx=>(hk t v hx).mono (fun w hw=>⟨hw.1,hI.holds w hw.2⟩) (Ext.refl _)) hd my
         refine ih (L.setIfInBounds j true) _ _ Rk az F' I' (a.put o.dst v) w' h1 e1 e2 (Nat.le_trans hm hlen) R' (b8.step hm e hI hF) e3 (fun u hu=>Nat.lt_of_lt_of_le (du u hu) hlen) (fun w hw=>fH w ⟨⟨hw.1.1,hI.holds w hw.1.2⟩,fun u hu=>?_⟩) fun s' ec=>k s' (h2 s' ec)
         have yc:u ∉ out.tc:=by
          have:=List.all_eq_true.1 hc.1 u hu
          simpa using this
         rw [← hF u (du u hu) yc];exact hw.2 u hu
       ·cases gQ
      ·rename_i hw
       simp only [Option.some.injEq] at gQ;subst gQ
       have eE:=j5 (ops:=ops) size hs hw
       simp only [eE,Bool.false_eq_true,if_false]
       obtain ⟨e1,e2,e3⟩:=RE.put (E:=E) size defers hs hd (.d (.v undef))
       exact ⟨fun _ _=>trivial,ih (L.setIfInBounds j true) _ _ Rk β F I (a.put o.dst undef) w h1 e1 e2 hm Rm b8 e3 du fH fun s' ec=>k s' (h2 s' ec)⟩
      ·cases gQ
    ·cases gQ
   ·cases h1
theorem L2 (hT:aY P T=true) (cx:iO P cl) (hm:P.follows .mixedOrders=true) (hK:∀ w,Kp D w0 w→K0 w) (hQ:∀ d v c a w,Q (.panic c) (Act.put a d v) w→Q (.panic c) a w) {b:ek} {s:RS} (R:cY mk D w0 K0 sz b s a w) (oc:List (Nat×aU)) {nl:List Nat} {id:Nat} {l:List RS} (gG:Region.noSelect ops=true)
  (h:ki P T cl sz ops oc nl ops.size (Array.replicate ops.size false) [] s=some l) (k:∀ s' ∈ l,a8 s'.vc∧∀ a' w',cY mk D w0 K0 sz b s' a' w'→Q .normal a' w'):(Code.region id ops true).wpIn (Fl ro) 0 P Q a w:=by
 refine wpIn_region_any hm ?_
 obtain ⟨size,I,defers,hb,β,F,Rm,b8,hs⟩:=R
 have hg:=Gr.drew w
 exact (Gn hT cx hK gG hQ ops.size _ [] s (fun _=>True) β F I a w.drew h size defers hb (Rm.gr hg) b8 hs (by simp) (fun _ _=>trivial) k).to
def n7 (ts:List Nat):List (List Nat)→List RS→Option (List Prop×List (List (Nat×AV)×List ai))
 | [],[]=>some ([],[])
 | l::ls,s::r=>bif nodupB l then (match fG l s.M l,iM l s.E ts,n7 ts ls r with
  | some M',some E',some (A,r')=>some (a8 s.vc::A,(E',M')::r')
  | _,_,_=>none) else none
 | _,_=>none
theorem yX {ts:List Nat} {E':List (Nat×AV)} {M':List ai}:∀ {ls:List (List Nat)} {r:List RS} {A:List Prop} {o:List (List (Nat×AV)×List ai)},n7 ts ls r=some (A,o)→(∀ x ∈ o,x=(E',M'))→a8 A→∀ s ∈ r,a8 s.vc∧∃ l,nodupB l=true∧fG l s.M l=some M'∧iM l s.E ts=some E'
 | [],[],_,_,_,_,_,s,hs=>by cases hs
 | [],_::_,_,_,h,_,_,_,_=>by simp [n7] at h
 | _::_,[],_,_,h,_,_,_,_=>by simp [n7] at h
 | l::ls,s::r,A,o,h,ho,hA,s',ec=>by
  unfold n7 at h
  cases hn:nodupB l with
  | false=>simp [hn] at h
  | true=>
   simp only [hn,cond_true] at h
   split at h
   ·rename_i M1 E1 A1 r1 h1 h2 h3
    simp only [Option.some.injEq,Prod.mk.injEq] at h;obtain ⟨rfl,rfl⟩:=h
    have e:=ho _ List.mem_cons_self
    simp only [Prod.mk.injEq] at e;obtain ⟨rfl,rfl⟩:=e
    rcases List.mem_cons.1 ec with rfl | ec
    ·exact ⟨hA.1,l,hn,h1,h2⟩
    ·exact yX h3 (fun x hx=>ho x (List.mem_cons_of_mem _ hx)) hA.2 s' ec
   ·cases h
def Az (P:Program) (T:aN) (sz:Nat) (tb:di) (n:Nat) (nl:List Nat) (yf:List (List Nat)) (ts:List Nat) (todo:List Item) (E:List (Nat×AV)) (M:List ai):Option (List Item×Prop×List (List (Nat×AV)×List ai)):=
 match dq P T (walk P T 3) sz tb n todo ⟨[],E,M,[],[]⟩ with
 | some (.code (.region id ops true)::k,s)=>bif Region.noSelect ops then (match ki P T (walk P T 3) sz ops (xo tb id) nl ops.size (Array.replicate ops.size false) [] s with
  | some Ls=>(match n7 ts yf Ls with | some (A,o)=>some (k,a8 A,o) | none=>none)
  | none=>none) else none
 | _=>none
theorem AY (hT:aY P T=true) (hm:P.follows .mixedOrders=true) (hK:∀ w,Kp D w0 w→K0 w) (tb:di) (n m:Nat) (nl:List Nat) (yf:List (List Nat)) (ts:List Nat) {A:Prop} {E':List (Nat×AV)} {M':List ai} (r:ct mk D w0 K0 sz E M a w)
  (h:Az P T sz tb n nl yf ts todo E M=some (todo',A,List.replicate m (E',M'))) (hA:A) (k:∀ a' w',ct mk D w0 K0 sz E' M' a' w'→aD P f todo' R a' w'):aD P f todo R a w:=by
 unfold Az at h
 split at h
 ·rename_i id ops k0 s hr
  cases hs:Region.noSelect ops with
  | false=>simp [hs] at h
  | true=>
   simp only [hs,cond_true] at h
   split at h
   ·rename_i Ls hL
    split at h
    ·rename_i A1 o ho
     simp only [Option.some.injEq,Prod.mk.injEq] at h;obtain ⟨rfl,rfl,rfl⟩:=h
     have hl:=yX ho (fun x hx=>List.eq_of_mem_replicate hx) hA
     obtain ⟨s1,h1,h2⟩:=ua _ _ _ _ hL
     obtain ⟨b,rb⟩:=r.b []
     refine ks hT (gW hT hm 3) hm hK n hr rb (h2 (hl s1 h1).1) fun a1 w1 r1=>aD.code ?_
     refine L2 hT (gW hT hm 3) hm hK (by rintro d v c a w ⟨h,-⟩;cases h) r1 _ hs hL fun s' ec=>⟨(hl s' ec).1,fun a' w' r'=>⟨rfl,?_⟩⟩
     obtain ⟨-,l,g1,g2,g3⟩:=hl s' ec
     exact k a' w' (r'.re.ln g1 g2 g3)
    ·cases h
   ·cases h
 ·cases h
def Bx (P:Program) (T:aN) (sz:Nat) (tb:di) (n:Nat) (l ts:List Nat) (todo:List Item) (E:List (Nat×AV)) (M:List ai):Option (List Item×Prop×List (Nat×AV)×List ai):=
 bif nodupB l then (match dq P T (walk P T 3) sz tb n todo ⟨[],E,M,[],[]⟩ with
 | some (t,s)=>kh l ts t s
 | none=>none) else none
theorem B0 (hT:aY P T=true) (hm:P.follows .mixedOrders=true) (hK:∀ w,Kp D w0 w→K0 w) (tb:di) (n:Nat) (l ts:List Nat) {A:Prop} {E':List (Nat×AV)} {M':List ai} (r:ct mk D w0 K0 sz E M a w)
  (h:Bx P T sz tb n l ts todo E M=some (todo',A,E',M')) (hA:A) (k:∀ a' w',ct mk D w0 K0 sz E' M' a' w'→aD P f todo' R a' w'):aD P f todo R a w:=by
 unfold Bx at h
 cases hn:nodupB l with
 | false=>simp [hn] at h
 | true=>
  simp only [hn,cond_true] at h
  split at h
  ·rename_i t s hr
   unfold kh at h
   split at h
   ·rename_i M1 E1 hM hE
    simp only [Option.some.injEq,Prod.mk.injEq] at h
    obtain ⟨rfl,rfl,rfl,rfl⟩:=h
    exact nC hT (gW hT hm 3) hm hK n hr r hA fun a' w' r'=>k a' w' (r'.ln hn hM hE)
   ·cases h
  ·cases h
def ni (id:Nat):Code→List Item→List (List Item)
 | .seq x y,k=>ni id x (.code y::k)++ni id y k
 | .cond _ x y,k=>ni id x k++ni id y k
 | .block i c,k=>ni id c (.inBlock i::k)
 | .loop c,k=>ni id c (.inLoop c::k)
 | .region i _ _,k=>bif i.beq id then [k] else []
 | _,_=>[]
def aft (fn:Func) (id:Nat):List Item:=
 match fn.body with
 | some c=>(match ni id c [] with | t::_=>t | []=>[])
 | none=>[]
end Go.Proofs.YtcnpikbbmbombaaGreatDoor
namespace Go.Proofs.YtcnpikbbmbombaaGreatDoor
open Go.RowKit
variable {mk:Bool} {P:Program} {T:aN} {f:FuncId} {R:eX} {a:Act} {w:World} {D:List Nat} {w0:World} {K0:World→Prop} {E:List (Nat×AV)} {M:List ai} {sz:Nat} {todo todo':List Item} {b:ek}
theorem eo.key (r:eo mk D w0 K0 sz b E M a w):∃ b',cY mk D w0 K0 sz b' ⟨[],E,M,[],[]⟩ a w∧∀ {s:RS} {a':Act} {w':World} {M':List ai} {E':List (Nat×AV)} {l ts:List Nat},nodupB l=true→jD b.m l=true→ig b.m s.mv=true→fG l s.M l=some M'→iM l s.E ts=some E'→cY mk D w0 K0 sz b' s a' w'→eo mk D w0 K0 sz b E' M' a' w':=by
 have hb:=r.1
 obtain ⟨b',rb,aQ,hE,hG,fU⟩:=r.re
 exact ⟨b',rb,fun hn hs hf h3 h4 r'=>eo.from fU hb hE hG (r'.ln (by rw [aQ,fU]) hn (by rw [fU];exact hs) (by rw [fU];exact hf) h3 h4)⟩
def AZ (P:Program) (T:aN) (sz m:Nat) (tb:di) (n:Nat) (l ts:List Nat) (todo:List Item) (E:List (Nat×AV)) (M:List ai):Option (List Item×Prop×List (Nat×AV)×List ai):=
 bif nodupB l&&jD m l then (match dq P T (walk P T 3) sz tb n todo ⟨[],E,M,[],[]⟩ with
 | some (t,s)=>bif ig m s.mv then kh l ts t s else none
 | none=>none) else none
theorem bW (hT:aY P T=true) (hm:P.follows .mixedOrders=true) (hK:∀ w,Kp D w0 w→K0 w) {m:Nat} (ao:b.m=m) (tb:di) (n:Nat) (l ts:List Nat) {A:Prop} {E':List (Nat×AV)} {M':List ai} (r:eo mk D w0 K0 sz b E M a w)
  (h:AZ P T sz m tb n l ts todo E M=some (todo',A,E',M')) (hA:A) (k:∀ a' w',eo mk D w0 K0 sz b E' M' a' w'→aD P f todo' R a' w'):aD P f todo R a w:=by
 subst ao
 obtain ⟨b',rb,key⟩:=r.key
 unfold AZ at h
 cases hn:(nodupB l&&jD b.m l) with
 | false=>simp [hn] at h
 | true=>
  simp only [hn,cond_true] at h
  simp only [Bool.and_eq_true] at hn
  split at h
  ·rename_i t s hr
   cases hf:ig b.m s.mv with
   | false=>simp [hf] at h
   | true=>
    simp only [hf,cond_true] at h
    obtain ⟨rfl,rfl,hM,hE⟩:=nW h
    exact ks hT (gW hT hm 3) hm hK n hr rb hA fun a' w' r'=>k a' w' (key hn.1 hn.2 hf hM hE r')
  ·cases h
end Go.Proofs.YtcnpikbbmbombaaGreatDoor
namespace Go.Proofs.YtcnpikbbmbombaaGreatDoor
open Go.RowKit
variable {mk:Bool} {P:Program} {f:FuncId}
def Le (x x':DV):Prop:=∀ (K:World→Prop) (y:Value) (H:ak),bF K x y H→bF K x' y H
theorem Le.refl (x:DV):Le x x:=fun _ _ _ h=>h
theorem Le.By (T k:Nat):Le (.v (.slice none 0 0)) (.em T k []):=by
 intro K y H h
 cases h
 have:bF K (.em T k []) (.slice none 0 0) ([]++bE ([]:List (List DV)).length k fun _ _=>[]):=.em (fun _=>[]) (fun _ _=>[]) (by simp) (by simpa [lay] using dJ.nil T k none) (by simp)
 simpa [bE] using this
theorem Le.sh (k:Nat):Le (.v (.slice none 0 0)) (.ro k []):=by
 intro K y H h
 cases h
 exact .ro (fun _=>[]) (by simp) ⟨none,0,rfl,Nat.le_refl _⟩ (fun w _=>by simpa [lay] using (dJ.nil 0 k none).src (Holds.nil w)) (by simp)
theorem Le.ag {l l':List DV} (hl:l.length=l'.length) (h:∀ (j:Nat) c c',l[j]?=some c→l'[j]?=some c'→Le c c'):Le (.ag l) (.ag l'):=by
 intro K y H r
 cases r with
 | ag ys F ml hr=>
  rw [hl]
  refine .ag ys F (by omega) fun j c z h1 h2=>?_
  have hj:j<l.length:=by rw [hl];exact (List.getElem?_eq_some_iff.1 h1).1
  exact h j _ c (List.getElem?_eq_getElem hj) h1 K z _ (hr j _ z (List.getElem?_eq_getElem hj) h2)
theorem Le.tu {l l':List DV} (hl:l.length=l'.length) (h:∀ (j:Nat) c c',l[j]?=some c→l'[j]?=some c'→Le c c'):Le (.tu l) (.tu l'):=by
 intro K y H r
 cases r with
 | tu ys F ml hr=>
  rw [hl]
  refine .tu ys F (by omega) fun j c z h1 h2=>?_
  have hj:j<l.length:=by rw [hl];exact (List.getElem?_eq_some_iff.1 h1).1
  exact h j _ c (List.getElem?_eq_getElem hj) h1 K z _ (hr j _ z (List.getElem?_eq_getElem hj) h2)
theorem al.le {args:List AV} {x x':DV} (h:al P f args x) (e:Le x x'):al P f args x':=by
 refine ⟨h.1,fun w K ys hK hl hr=>(h.2 w K ys hK hl hr).mono ?_⟩
 rintro ed w' ⟨v,rfl,g,H,⟨Ho,Hi,rfl,hd⟩,n⟩
 exact ⟨_,rfl,g,_,⟨Ho,Hi,rfl,e _ _ _ hd⟩,n⟩
inductive cS:List DV→List DV→Prop where
 | nil:cS [] []
 | cons {x x':DV} {l l':List DV} (h:Le x x') (t:cS l l'):cS (x::l) (x'::l')
theorem cS.ok {l l':List DV} (h:cS l l'):l.length=l'.length∧∀ (j:Nat) c c',l[j]?=some c→l'[j]?=some c'→Le c c':=by
 induction h with
 | nil=>simp
 | cons h t ih=>
  refine ⟨by simp [ih.1],fun j c c' h1 h2=>?_⟩
  cases j with
  | zero=>simp at h1 h2;subst h1 h2;exact h
  | succ j=>exact ih.2 j c c' (by simpa using h1) (by simpa using h2)
theorem cS.tu {l l':List DV} (h:cS l l'):Le (.tu l) (.tu l'):=Le.tu h.ok.1 h.ok.2
end Go.Proofs.YtcnpikbbmbombaaGreatDoor
namespace Go.Proofs.YtcnpikbbmbombaaGreatDoor
open Go.RowKit
variable {mk:Bool} {P:Program} {T:aN} {f:FuncId} {a:Act} {w:World} {D:List Nat} {w0:World} {K0:World→Prop} {E E1:List (Nat×AV)} {M M1 M2:List ai} {β:Beta} {F:Nat→ak} {I X:ak} {sz:Nat} {b:ek}
def L3:List Nat→List ai→Option (List ai)
 | [],M=>some M
 | u::r,M=>match M[u]? with
  | some (.rw T k rows)=>L3 r (M.set u (.rw T k (cN rows)))
  | _=>none
theorem RM.Bz (R:RM D w0 K0 M β F I w) {v n T k:Nat} {rows:List (List DV)} (hv:M[v]?=some (.rw T k rows)) (hn:n=rows.length):∃ F' I',RM D w0 K0 (M.set v .dead) β F' I' w∧bK I I'∧∀ y,aw (fun w=>K0 w∧Holds w I) β (.sl v n) y→aw (fun w=>K0 w∧Holds w I') β (.d (.ro k (cN rows))) y:=by
 have R1:=R.x.fc hv
 rw [List.nil_append] at R1
 have hB:=R.blk v _ hv
 refine ⟨aL F v [],F v++I,⟨R1.len,fun u bl hu=>(R1.blk u bl hu).mono (fun w hw=>⟨hw.1,(Holds.app.1 hw.2).2⟩) (Ext.refl _),R1.st.perm (List.Perm.append_left _ List.perm_append_comm)⟩,⟨F v,rfl⟩,fun y r=>?_⟩
 generalize F v=Fv at hB ⊢
 cases r with
 | sl hb=>
  cases hB with
  | rw aQ X G hl hs hr=>
   rw [hb] at aQ;cases aQ
   have hd:=bF.em (K:=fun w=>K0 w∧Holds w I) X G hl hs hr
   have:=rJ (K':=fun w=>K0 w∧Holds w (_++I)) hd fun w hw=>⟨⟨hw.1,(Holds.app.1 hw.2).2⟩,(Holds.app.1 hw.2).1⟩
   rw [dK] at this
   rw [hn]
   exact .d this
def qI:List Nat→List (Nat×AV)→List ai→Option (List Prop×List (Nat×AV)×List ai)
 | [],E,M=>some ([],E,M)
 | t::r,E,M=>match bV E t with
  | some (.sl v n)=>(match M[v]? with
   | some (.rw _ k rows)=>(match qI r (oN E t (.d (.ro k (cN rows)))) (M.set v .dead) with | some (p,E',M')=>some ((n=rows.length)::p,E',M') | none=>none)
   | _=>none)
  | _=>none
def qJ:List (Nat×Nat)→List ai→Option (List Prop×List ai)
 | [],M=>some ([],M)
 | (u,o)::r,M=>match M[u]? with
  | some (.bx Tb cells)=>(match cells[o]? with
   | some (.sl v n)=>(match M[v]? with
    | some (.rw _ k rows)=>(match qJ r ((M.set v .dead).set u (.bx Tb (cells.set o (.d (.ro k (cN rows)))))) with | some (p,M')=>some ((n=rows.length)::p,M') | none=>none)
    | _=>none)
   | _=>none)
  | _=>none
theorem A0 {ev:Nat→Value}:∀ {ls:List Nat} {E:List (Nat×AV)} {M:List ai} {F:Nat→ak} {I:ak} {p:List Prop},qI ls E M=some (p,E1,M1)→a8 p→RM D w0 K0 M β F I w→(∀ t v,bV E t=some v→aw (fun w=>K0 w∧Holds w I) β v (ev t))→
  ∃ F' I',RM D w0 K0 M1 β F' I' w∧bK I I'∧∀ t v,bV E1 t=some v→aw (fun w=>K0 w∧Holds w I') β v (ev t)
 | [],E,M,F,I,p,h,_,R,hs=>by
  simp only [qI,Option.some.injEq,Prod.mk.injEq] at h;obtain ⟨-,rfl,rfl⟩:=h
  exact ⟨F,I,R,bK.refl I,hs⟩
 | t::r,E,M,F,I,p,h,hp,R,hs=>by
  unfold qI at h
  split at h
  ·rename_i v n ht
   split at h
   ·rename_i T k rows hv
    split at h
    ·rename_i p' E' M' hr
     simp only [Option.some.injEq,Prod.mk.injEq] at h;obtain ⟨rfl,e1,e2⟩:=h
     rw [e1,e2] at hr
     obtain ⟨F2,I2,R2,g,hA⟩:=R.Bz hv hp.1
     suffices h9:∀ s x,bV (oN E t (.d (.ro k (cN rows)))) s=some x→aw (fun w=>K0 w∧Holds w I2) β x (ev s) by
      obtain ⟨F',I',q1,q2,q3⟩:=A0 (ev:=ev) hr hp.2 R2 h9
      exact ⟨F',I',q1,g.trans q2,q3⟩
     intro s x hx
     rcases uJ hx with ⟨rfl,rfl,-⟩ | ⟨-,h2⟩
     ·exact hA _ (hs _ _ ht)
     ·exact (hs s x h2).mono (fun w hw=>⟨hw.1,g.holds w hw.2⟩) (Ext.refl _)
    ·cases h
   ·cases h
  ·cases h
theorem A2:∀ {lc:List (Nat×Nat)} {M:List ai} {F:Nat→ak} {I:ak} {p:List Prop},qJ lc M=some (p,M1)→a8 p→RM D w0 K0 M β F I w→∃ F' I',RM D w0 K0 M1 β F' I' w∧bK I I'
 | [],M,F,I,p,h,_,R=>by
  simp only [qJ,Option.some.injEq,Prod.mk.injEq] at h;obtain ⟨-,rfl⟩:=h
  exact ⟨F,I,R,bK.refl I⟩
 | (u,o)::r,M,F,I,p,h,hp,R=>by
  unfold qJ at h
  split at h
  ·rename_i Tb cells hu
   split at h
   ·rename_i v n ho
    split at h
    ·rename_i T k rows hv
     split at h
     ·rename_i p' M' hr
      simp only [Option.some.injEq,Prod.mk.injEq] at h;obtain ⟨rfl,e1⟩:=h
      rw [e1] at hr
      have qu:v≠u:=fun e=>by subst e;rw [hu] at hv;cases hv
      obtain ⟨F2,I2,R2,g,hA⟩:=R.Bz hv hp.1
      have hB:=R.blk u _ hu
      obtain ⟨aM,-⟩:=List.getElem?_eq_some_iff.1 hu
      have CS:(M.set v .dead)[u]?=some (.bx Tb cells):=by rw [List.getElem?_set,if_neg qu];exact hu
      have ju:=R2.blk u _ CS
      have gg:bw (fun w=>K0 w∧Holds w I2) β u (.bx Tb (cells.set o (.d (.ro k (cN rows))))) (F2 u):=by
       have bq:∀ {G:ak},bw (fun w=>K0 w∧Holds w I2) β u (.bx Tb cells) G→G=F2 u→bw (fun w=>K0 w∧Holds w I) β u (.bx Tb cells) (F u)→F2 u=F u→bw (fun w=>K0 w∧Holds w I2) β u (.bx Tb (cells.set o (.d (.ro k (cN rows))))) (F2 u):=by
        intro G _ _ h3 h4
        rw [h4]
        generalize F u=Fu at h3 ⊢
        cases h3 with
        | bx hb ys hl jw=>
         refine .bx hb ys (by rw [List.length_set];exact hl) fun j c y h1 h2=>?_
         rw [List.getElem?_set] at h1
         split at h1
         ·rename_i hj;subst hj
          split at h1
          ·simp only [Option.some.injEq] at h1;subst h1
           exact hA _ (jw _ _ _ ho h2)
          ·cases h1
         ·exact (jw j c y h1 h2).mono (fun w hw=>⟨hw.1,g.holds w hw.2⟩) (Ext.refl _)
       have ky:F2 u=F u:=by
        generalize hq:F2 u=q at ju
        generalize Nr:F u=q0 at hB
        cases ju with
        | bx hb ys hl jw=>
         cases hB with
         | bx aQ OI cX BZ=>
          rw [hb] at aQ;cases aQ
          have h1:Holds w (F2 u):=R2.iB CS
          have h2:Holds w (F u):=R.iB hu
          rw [hq] at h1;rw [Nr] at h2
          have e1:=h1.one
          have e2:=h2.one
          rw [e1] at e2
          simp only [Option.some.injEq,Obj.cells.injEq] at e2
          rw [e2.1]
       exact bq ju rfl hB ky
      have R3:RM D w0 K0 ((M.set v .dead).set u (.bx Tb (cells.set o (.d (.ro k (cN rows)))))) β F2 I2 w:=by
       refine ⟨by rw [List.length_set];exact R2.len,fun x bl hx=>?_,by rw [List.length_set];exact R2.st⟩
       rw [List.getElem?_set] at hx
       split at hx
       ·rename_i e;subst e
        split at hx
        ·simp only [Option.some.injEq] at hx;subst hx;exact gg
        ·cases hx
       ·exact R2.blk x bl hx
      obtain ⟨F4,I4,R4,g4⟩:=A2 hr hp.2 R3
      exact ⟨F4,I4,R4,g.trans g4⟩
     ·cases h
    ·cases h
   ·cases h
  ·cases h
theorem ct.stay {E2:List (Nat×AV)} {M3:List ai} {p1 p2:List Prop} (r:ct mk D w0 K0 sz E M a w) (ls:List Nat) (lc:List (Nat×Nat)) (h:qI ls E M=some (p1,E1,M1)) (h2:qJ lc M1=some (p2,M2)) (q1:a8 p1) (q2:a8 p2) (e:E1=E2) (e2:M2=M3):ct mk D w0 K0 sz E2 M3 a w:=by
 subst e e2
 obtain ⟨g1,I,g2,β,F,R,hs⟩:=r
 obtain ⟨F1,I1,R1,gI,s1⟩:=A0 (ev:=fun t=>a.eval (.tmp t)) h q1 R hs
 obtain ⟨F2,I2,R2,g⟩:=A2 h2 q2 R1
 exact ⟨g1,I2,(g2.grow gI).grow g,β,F2,R2,fun t v hv=>(s1 t v hv).mono (fun w hw=>⟨hw.1,g.holds w hw.2⟩) (Ext.refl _)⟩
end Go.Proofs.YtcnpikbbmbombaaGreatDoor
namespace Go.Proofs.YtcnpikbbmbombaaGreatDoor
open Go.RowKit Go.Deep
theorem yY {H:Type} {enc:TypeId×Value→H} {P:Program} (hl:laidOutB P=true) {W W':World} (g:Gr W W'):∀ {ts:List TypeId} {vs:List Value} {ds:List (DataW H)} {ps:List MemPlace},(∀ t ∈ ts,P.readableRec t=true∧t<P.types.size)→DataW.TrodAll enc P W 0 (fun _=>true) true ts vs ds ps→(∀ x ∈ ps,x.block<W.heap.size)→DataW.TrodAll enc P W' 0 (fun b=>decide (b<W.heap.size)) true ts vs ds ps
 | [],[],[],_,_,h,_=>h
 | [],_::_,_,_,_,h,_=>h.elim
 | [],[],_::_,_,_,h,_=>h.elim
 | _::_,[],_,_,_,h,_=>h.elim
 | _::_,_::_,[],_,_,h,_=>h.elim
 | t::ts,v::vs,d::ds,ps,ht,h,hp=>by
  obtain ⟨p,q,h1,h2,rfl⟩:=h
  refine ⟨p,q,Below.trod hl (ht t (by simp)).1 (ht t (by simp)).2 h1 g (fun x hx=>hp x (by simp [hx])),yY hl g (fun t' h'=>ht t' (by simp [h'])) h2 (fun x hx=>hp x (by simp [hx])),rfl⟩
theorem Gp {H:Type} {enc:TypeId×Value→H} {P:Program} {f:Func} {s:ChangeSpec} {W W':World} {args:Array Value} {ds gs:List (DataW H)} {before:List MemPlace} {tb:TypeId} (hl:laidOutB P=true)
  (hp:f.params.toList.all (fun t=>P.readableRec t&&decide (t<P.types.size))=true) (hr:f.resultTypes=#[tb]) (ht:P.underlying tb=some .bool) (hv:s.vars=[])
  (hW:DataW.Whole enc P f.params.toList s.vars false W args.toList ds gs before) (mB:s.fn H (ds++gs)={ results:=[.lit (.bool true)],args:=ds }) (g:Gr W W'):s.post enc P f false true false false W args (.bool true) W':=by
 have yh:=hW
 have aM:=hW.lt
 obtain ⟨p,q,hA,hV,rfl,Ns,fV⟩:=hW
 rw [hv] at hV
 match gs,hV with
 | [],hV=>
  cases hV
  refine ⟨ds,[],_,[],p,[],yh,?_,?_,?_,?_,fun h=>by cases h⟩
  ·rw [mB,hr]
   exact ⟨[],[],⟨1,by simp [DataW.trod,ht,Value.cells]⟩,rfl,rfl⟩
  ·rw [mB]
   refine yY hl g (fun t h=>?_) hA (fun x hx=>aM x (by simp [hx]))
   have:=List.all_eq_true.1 hp t h
   simpa using this
  ·rw [mB,hv];rfl
  ·exact Below.frame g _
def TR (P:Program) (w:World) (t:TypeId) (cs:List Value):Prop:=∃ (H:Type) (enc:TypeId×Value→H) (base:Nat) (sp:Nat→Bool) (held:Bool) (fuel:Nat) (x:DataW H×List MemPlace),DataW.trod enc P w base sp held fuel t cs=some x
theorem TR.of {H:Type} {enc:TypeId×Value→H} {P:Program} {w:World} {base:Nat} {sp:Nat→Bool} {held:Bool} {t:TypeId} {v:Value} {d:DataW H} {ps:List MemPlace} (h:DataW.Trod enc P w base sp held t v d ps):TR P w t v.cells.toList:=by
 obtain ⟨n,h⟩:=h;exact ⟨H,enc,base,sp,held,n,_,h⟩
section
variable {P:Program} {w:World} {t e:TypeId} {cs:List Value}
theorem TR.int {k:IntKind} (ht:P.underlying t=some (.int k)) (h:TR P w t cs):∃ n,cs=[.int k n]∧(Lit.int k n).wf=true:=by
 obtain ⟨H,enc,base,sp,held,fuel,x,h⟩:=h
 cases fuel with
 | zero=>simp [DataW.trod] at h
 | succ fuel=>
  rw [DataW.trod_step] at h;unfold DataW.trodStep at h;simp only [ht] at h
  split at h<;>simp_all
theorem cells?_some {base:Nat} {a:Addr} {n:Nat} {X:List Value} (h:w.cells? base a n=some X):X.length=n∧∀ j (hj:j<X.length),w.cell? (a.add j)=some X[j]:=by
 obtain ⟨_,h1,h2⟩:=World.cells?_some h
 exact ⟨h1,fun j hj=>by rw [h2 j (by omega)];exact List.getElem?_eq_getElem hj⟩
theorem mapM_each {α β:Type} {f:α→Option β}:∀ {l:List α} {r:List β},l.mapM f=some r→∀ x ∈ l,∃ y,f x=some y
 | [],_,_,x,hx=>by simp at hx
 | z::l,r,h,x,hx=>by
  rw [List.mapM_cons] at h
  obtain ⟨y,h1,h2⟩:=Option.bind_eq_some_iff.1 h
  obtain ⟨ys,h3,_⟩:=Option.bind_eq_some_iff.1 h2
  rcases List.mem_cons.1 hx with rfl | hx
  ·exact ⟨y,h1⟩
  ·exact mapM_each h3 x hx
theorem ub {X:Nat→List Value} {c:Nat}:∀ {n:Nat},(∀ i,i<n→(X i).length=c)→((List.range n).flatMap X).length=n*c
 | 0,_=>by simp
 | k+1,h=>by rw [List.range_succ,List.flatMap_append,List.length_append,ub (n:=k) (fun i hi=>h i (by omega))];simp [h k (by omega),Nat.succ_mul]
theorem TR.Gq (ht:P.underlying t=some (.slice e)) (h:TR P w t cs):∃ (v:Value) (n:Nat) (X:Nat→List Value),cs=[v]∧n≤maxLen∧(∀ i,i<n→(X i).length=P.cellsOf e∧TR P w e (X i))∧Src w (P.cellsOf e) v n ((List.range n).flatMap X)∧∃ a c,v=.slice a n c∧n≤c:=by
 obtain ⟨H,enc,base,sp,held,fuel,x,h⟩:=h
 rcases open_slice ht h with ⟨rfl,_⟩ | ⟨a,len,cap,m,n,D,Pl,rfl,_,CT,L4,hm,_,hx⟩
 ·exact ⟨_,0,fun _=>[],rfl,by simp [maxLen],fun i hi=>by omega,by simp [Src],_,_,rfl,Nat.zero_le _⟩
 ·have hle:len≤m:=by rw [hm];split<;>omega
  obtain ⟨X,hX⟩:=choose_lt (n:=len) (α:=List Value) (p:=fun i c=>w.cells? base (a.add (i*P.cellsOf e)) (P.cellsOf e)=some c∧DataW.trod enc P w base sp held n e c=some (D i,Pl i)) (fun i hi=>hx i (by omega))
  have hlen:∀ i,i<len→(X i).length=P.cellsOf e:=fun i hi=>(cells?_some (hX i hi).1).1
  refine ⟨_,len,X,rfl,by omega,fun i hi=>⟨hlen i hi,H,enc,base,sp,held,n,_,(hX i hi).2⟩,⟨?_,?_⟩,⟨a,cap,rfl,CT⟩⟩
  ·exact ub hlen
  ·refine Or.inr ⟨a,cap,rfl,?_⟩
   have key:∀ k,k≤len→∀ j (hj:j<((List.range k).flatMap X).length),w.cell? (a.add j)=some ((List.range k).flatMap X)[j]:=by
    intro k
    induction k with
    | zero=>intro _ j hj;simp at hj
    | succ k ih=>
     intro hk j hj
     have OJ:((List.range k).flatMap X).length=k*P.cellsOf e:=ub (fun i hi=>hlen i (by omega))
     have hE:(List.range (k+1)).flatMap X=(List.range k).flatMap X++X k:=by rw [List.range_succ,List.flatMap_append];simp
     have yi:j<((List.range k).flatMap X++X k).length:=by rw [← hE];exact hj
     have KD:((List.range (k+1)).flatMap X)[j]=((List.range k).flatMap X++X k)[j]:=by congr 1
     rw [KD]
     by_cases h1:j<((List.range k).flatMap X).length
     ·rw [List.getElem_append_left h1];exact ih (by omega) j h1
     ·rw [List.getElem_append_right (by omega)]
      have h2:=(cells?_some (hX k (by omega)).1).2 (j-((List.range k).flatMap X).length) (by rw [List.length_append] at yi;omega)
      rw [← h2,Addr.mJ]
      congr 2
      omega
   exact key len (Nat.le_refl _)
theorem TR.struct {fs:Array Field} (ht:P.underlying t=some (.struct fs)) (h:TR P w t cs):cs.length=P.cellsOf t∧∀ f ∈ fs.toList,TR P w f.type ((cs.drop f.offset).take (P.cellsOf f.type)):=by
 obtain ⟨H,enc,base,sp,held,fuel,x,h⟩:=h
 cases fuel with
 | zero=>simp [DataW.trod] at h
 | succ fuel=>
  rw [DataW.trod_step] at h;unfold DataW.trodStep at h;simp only [ht] at h
  split at h
  ·rename_i hlen
   refine ⟨hlen,fun f hf=>?_⟩
   obtain ⟨xs,h1,_⟩:=Option.map_eq_some_iff.1 h
   obtain ⟨y,hy⟩:=mapM_each h1 f hf
   exact ⟨H,enc,base,sp,held,fuel,_,hy⟩
  ·simp at h
theorem TR.array {n:Nat} (ht:P.underlying t=some (.array n e)) (h:TR P w t cs):cs.length=P.cellsOf t∧∀ i,i<n→TR P w e ((cs.drop (i*P.cellsOf e)).take (P.cellsOf e)):=by
 obtain ⟨H,enc,base,sp,held,fuel,x,h⟩:=h
 cases fuel with
 | zero=>simp [DataW.trod] at h
 | succ fuel=>
  rw [DataW.trod_step] at h;unfold DataW.trodStep at h;simp only [ht] at h
  split at h
  ·rename_i hlen
   refine ⟨hlen,fun i hi=>?_⟩
   obtain ⟨xs,h1,_⟩:=Option.map_eq_some_iff.1 h
   obtain ⟨y,hy⟩:=mapM_each h1 i (by simpa using hi)
   exact ⟨H,enc,base,sp,held,fuel,_,hy⟩
  ·simp at h
end
end Go.Proofs.YtcnpikbbmbombaaGreatDoor
namespace Go.Proofs.YtcnpikbbmbombaaGreatDoor
open Go.RowKit Go.Deep
def jy (w:World) (l:List DV) (cs:List Value):Prop:=cs.length=l.length∧∀ (j:Nat) c v,l[j]?=some c→cs[j]?=some v→bF (Gr w) c v []
theorem jy.one {w:World} {c:DV} {v:Value} (h:bF (Gr w) c v []):jy w [c] [v]:=⟨rfl,fun j c' v' h1 h2=>by
 cases j with
 | zero=>simp at h1 h2;subst h1 h2;exact h
 | succ j=>simp at h1⟩
theorem jy.app {w:World} {l l':List DV} {cs bM:List Value} (h:jy w l cs) (h':jy w l' bM):jy w (l++l') (cs++bM):=⟨by simp [h.1,h'.1],fun j c v h1 h2=>by
 have e:=h.1
 by_cases hj:j<l.length
 ·rw [List.getElem?_append_left hj] at h1;rw [List.getElem?_append_left (by omega)] at h2;exact h.2 j c v h1 h2
 ·rw [List.getElem?_append_right (by omega)] at h1;rw [List.getElem?_append_right (by omega),e] at h2;exact h'.2 _ c v h1 h2⟩
def Rd (P:Program) (w:World) (t:TypeId) {α:Type} (row:α→List DV) (ok:α→Prop):Prop:=∀ cs,TR P w t cs→∃ x,ok x∧jy w (row x) cs
variable {P:Program} {w:World} {t e:TypeId} {α β γ:Type}
theorem Rd.u64 (h:P.underlying t=some (.int .u64)):Rd P w t (fun n:Nat=>[.u n]) fun n=>n≤18446744073709551615:=fun cs hc=>by
 obtain ⟨n,rfl,hw⟩:=hc.int h
 have dS:(0:Int)≤n∧n≤18446744073709551615:=by simpa [Lit.wf,IntKind.min,IntKind.max,IntKind.signed,IntKind.bits] using hw
 have e:n=((n.toNat:Nat):Int):=by omega
 refine ⟨n.toNat,by omega,.one ?_⟩
 show bF _ (.v (.int .u64 ((n.toNat:Nat):Int))) _ _
 rw [← e];exact .v _
theorem Rd.int (h:P.underlying t=some (.int .i64)):Rd P w t (fun n:Int=>[.z n]) fun _=>True:=fun cs hc=>by
 obtain ⟨n,rfl,hw⟩:=hc.int h
 exact ⟨n,trivial,.one (.v _)⟩
theorem Rd.byte (h:P.underlying t=some (.int .u8)):Rd P w t (fun b:UInt8=>[.v (.int .u8 (b.toNat:Int))]) fun _=>True:=fun cs hc=>by
 obtain ⟨n,rfl,hw⟩:=hc.int h
 have dS:(0:Int)≤n∧n≤255:=by simpa [Lit.wf,IntKind.min,IntKind.max,IntKind.signed,IntKind.bits] using hw
 have e:n=(((UInt8.ofNat n.toNat).toNat:Nat):Int):=by simp;omega
 refine ⟨UInt8.ofNat n.toNat,trivial,.one ?_⟩
 rw [← e];exact .v _
theorem Rd.slice [Inhabited α] {k:Nat} {row:α→List DV} {ok:α→Prop} (h:P.underlying t=some (.slice e)) (hk:P.cellsOf e=k) (hr:Rd P w e row ok):Rd P w t (fun l:List α=>[.ro k (l.map row)]) fun l=>l.length≤9223372036854775807∧∀ x ∈ l,ok x:=fun cs hc=>by
 subst hk
 obtain ⟨v,n,X,rfl,hn,hX,hs,dP⟩:=TR.Gq h hc
 obtain ⟨Y,hY⟩:=choose_lt (n:=n) (α:=α) (p:=fun i x=>ok x∧jy w (row x) (X i)) fun i hi=>hr _ (hX i hi).2
 have hg:∀ (i:Nat) r,(((List.range n).map Y).map row)[i]?=some r→i<n∧r=row (Y i):=fun i r hi=>by
  have aM:=(List.getElem?_eq_some_iff.1 hi).1
  simp at aM
  simp [aM] at hi
  exact ⟨aM,hi.symm⟩
 have hl:(((List.range n).map Y).map row).length=n:=by simp
 refine ⟨(List.range n).map Y,⟨by simp;exact Nat.le_trans hn (by decide),?_⟩,.one (.ro X (fun i r hi=>?_) ?_ (fun w' g=>?_) fun i r j c x h1 h2 h3=>?_)⟩
 ·intro x hx
  obtain ⟨i,hi,rfl⟩:=List.mem_map.1 hx
  exact (hY i (by simpa using hi)).1
 ·obtain ⟨qK,rfl⟩:=hg i r hi
  refine ⟨?_,(hX i qK).1⟩
  rw [← (hX i qK).1];exact (hY i qK).2.1.symm
 ·rw [hl];exact dP
 ·rw [hl];exact hs.gr g
 ·obtain ⟨qK,rfl⟩:=hg i r h1
  exact (hY i qK).2.2 j c x h2 h3
theorem Rd.map {row:α→List DV} {ok:α→Prop} (hr:Rd P w t row ok) (g:α→β) {xf:β→List DV} {CU:β→Prop} (h1:∀ x,row x=xf (g x)) (h2:∀ x,ok x→CU (g x)):Rd P w t xf CU:=fun cs hc=>by
 obtain ⟨x,h3,h4⟩:=hr cs hc
 exact ⟨g x,h2 x h3,h1 x▸h4⟩
end Go.Proofs.YtcnpikbbmbombaaGreatDoor
namespace Go.Proofs
open Go.Shelf
def Tryz.DJ:Go.Shelf.Ren:=⟨fun | 137=>102 | 217=>113 | 266=>126 | n=>n,fun | 9=>9 | 5=>5 | 3=>3 | n=>n,fun | n=>n⟩
theorem Tryz.HK:Go.Proofs.Lays.n137 Tryz.prog Tryz.DJ:={
 mixed:=by kernel_rfl
 f137:=Tryz.func102.trans (congrArg some (by kernel_rfl))
 f217:=Tryz.func113.trans (congrArg some (by kernel_rfl))
 f266:=Tryz.func126.trans (congrArg some (by kernel_rfl))
 t3:=Tryz.underlying3
 a3:=Tryz.isAgg3
 z3:=Tryz.sizeOf3
 v3:=Tryz.zeroValue3
 t5:=Tryz.underlying5
 a5:=Tryz.isAgg5
 z5:=Tryz.sizeOf5
 v5:=Tryz.zeroValue5
 t9:=Tryz.underlying9
 a9:=Tryz.isAgg9
 z9:=Tryz.sizeOf9
 v9:=Tryz.zeroValue9 }
open Go.RowKit in
theorem Tryz.strings_IndexByte (s:ByteArray) (c:Int) (w:World):
  Calls Tryz.prog 102 #[.string s,.int .u8 c] w fun e w'=>e=.returned (.int .i64 (Lib.indexByte s.data.toList c.toNat.toUInt8))∧w'=w:=Any.strings_IndexByte Tryz.HK s c w
def Tryz.DK:Go.Shelf.Ren:=⟨fun | 129=>116 | n=>n,fun | 53=>40 | 3=>3 | 4=>4 | 46=>134 | 5=>5 | 9=>9 | n=>n,fun | n=>n⟩
theorem Tryz.HL:Go.Proofs.Lays.n129 Tryz.prog Tryz.DK:={
 mixed:=by kernel_rfl
 f129:=Tryz.func116.trans (congrArg some (by kernel_rfl))
 t3:=Tryz.underlying3
 a3:=Tryz.isAgg3
 z3:=Tryz.sizeOf3
 v3:=Tryz.zeroValue3
 t4:=Tryz.underlying4
 a4:=Tryz.isAgg4
 z4:=Tryz.sizeOf4
 v4:=Tryz.zeroValue4
 t5:=Tryz.underlying5
 a5:=Tryz.isAgg5
 z5:=Tryz.sizeOf5
 v5:=Tryz.zeroValue5
 t9:=Tryz.underlying9
 a9:=Tryz.isAgg9
 z9:=Tryz.sizeOf9
 v9:=Tryz.zeroValue9
 t46:=Tryz.underlying134
 a46:=Tryz.isAgg134
 z46:=Tryz.sizeOf134
 v46:=Tryz.zeroValue134
 t53:=Tryz.underlying40
 a53:=Tryz.isAgg40
 z53:=Tryz.sizeOf40
 v53:=Tryz.zeroValue40 }
theorem Tryz.bits_Len64 (x:Int) (w:World) (h0:0≤x) (h1:x≤18446744073709551615):
  Calls Tryz.prog 116 #[.int .u64 x] w fun e w'=>e=.returned (.int .i64 (Lib.bitLen x.toNat))∧w'=w:=Any.bits_Len64 Tryz.HL x w h0 h1
def Tryz.DL:Go.Shelf.Ren:=⟨fun | 317=>115 | n=>n,fun | 3=>3 | 46=>134 | n=>n,fun | n=>n⟩
theorem Tryz.HM:Go.Proofs.Lays.n317 Tryz.prog Tryz.DL:={
 mixed:=by kernel_rfl
 f317:=Tryz.func115.trans (congrArg some (by kernel_rfl))
 t3:=Tryz.underlying3
 a3:=Tryz.isAgg3
 z3:=Tryz.sizeOf3
 v3:=Tryz.zeroValue3
 t46:=Tryz.underlying134
 a46:=Tryz.isAgg134
 z46:=Tryz.sizeOf134
 v46:=Tryz.zeroValue134 }
open Go.Lib in
theorem Tryz.internal_strconv_log10Pow2 (x:Nat) (h:x≤64) (w:World):
  Calls Tryz.prog 115 #[.int .i64 x] w fun e w'=>e=.returned (.int .i64 (Lib.l10 x))∧w'=w:=Any.internal_strconv_log10Pow2 Tryz.HM x h w
def Tryz.DM:Go.Shelf.Ren:=⟨fun | 318=>117 | n=>n,fun | 3=>3 | 4=>4 | n=>n,fun | n=>n⟩
theorem Tryz.HN:Go.Proofs.Lays.n318 Tryz.prog Tryz.DM:={
 mixed:=by kernel_rfl
 f318:=Tryz.func117.trans (congrArg some (by kernel_rfl))
 t3:=Tryz.underlying3
 a3:=Tryz.isAgg3
 z3:=Tryz.sizeOf3
 v3:=Tryz.zeroValue3
 t4:=Tryz.underlying4
 a4:=Tryz.isAgg4
 z4:=Tryz.sizeOf4
 v4:=Tryz.zeroValue4 }
open Go.Lib in
theorem Tryz.internal_strconv_bool2_int (b:Bool) (w:World):
  Calls Tryz.prog 117 #[.bool b] w fun e w'=>e=.returned (.int .i64 (if b then 1 else 0))∧w'=w:=Any.internal_strconv_bool2_int Tryz.HN b w
def Tryz.DN:Go.Shelf.Ren:=⟨fun | 283=>105 | n=>n,fun | 3=>3 | 9=>9 | 4=>4 | n=>n,fun | n=>n⟩
theorem Tryz.HO:Go.Proofs.Lays.n283 Tryz.prog Tryz.DN:={
 mixed:=by kernel_rfl
 f283:=Tryz.func105.trans (congrArg some (by kernel_rfl))
 t3:=Tryz.underlying3
 a3:=Tryz.isAgg3
 z3:=Tryz.sizeOf3
 v3:=Tryz.zeroValue3
 t4:=Tryz.underlying4
 a4:=Tryz.isAgg4
 z4:=Tryz.sizeOf4
 v4:=Tryz.zeroValue4
 t9:=Tryz.underlying9
 a9:=Tryz.isAgg9
 z9:=Tryz.sizeOf9
 v9:=Tryz.zeroValue9 }
open Go.Lib in
theorem Tryz.internal_strconv_small (i:Nat) (h:i<100) (w:World):
  Calls Tryz.prog 105 #[.int .i64 i] w fun e w'=>e=.returned (.string ⟨(Lib.decDigits i).toArray⟩)∧w'=w:=Any.internal_strconv_small Tryz.HO i h w
def Tryz.DO:Go.Shelf.Ren:=⟨fun | 285=>107 | n=>n,fun | 37=>31 | 53=>40 | 3=>3 | 4=>4 | 51=>159 | 9=>9 | 5=>5 | 0=>0 | n=>n,fun | n=>n⟩
theorem Tryz.HP:Go.Proofs.Lays.n285 Tryz.prog Tryz.DO:={
 mixed:=by kernel_rfl
 f285:=Tryz.func107.trans (congrArg some (by kernel_rfl))
 t0:=Tryz.underlying0
 a0:=Tryz.isAgg0
 z0:=Tryz.sizeOf0
 v0:=Tryz.zeroValue0
 t3:=Tryz.underlying3
 a3:=Tryz.isAgg3
 z3:=Tryz.sizeOf3
 v3:=Tryz.zeroValue3
 t4:=Tryz.underlying4
 a4:=Tryz.isAgg4
 z4:=Tryz.sizeOf4
 v4:=Tryz.zeroValue4
 t5:=Tryz.underlying5
 a5:=Tryz.isAgg5
 z5:=Tryz.sizeOf5
 v5:=Tryz.zeroValue5
 t9:=Tryz.underlying9
 a9:=Tryz.isAgg9
 z9:=Tryz.sizeOf9
 v9:=Tryz.zeroValue9
 t37:=Tryz.underlying31
 a37:=Tryz.isAgg31
 z37:=Tryz.sizeOf31
 v37:=Tryz.zeroValue31
 t51:=Tryz.underlying159
 a51:=Tryz.isAgg159
 z51:=Tryz.sizeOf159
 v51:=Tryz.zeroValue159
 t53:=Tryz.underlying40
 a53:=Tryz.isAgg40
 z53:=Tryz.sizeOf40
 v53:=Tryz.zeroValue40 }
open Go.RowKit Go.Sort Go.Lib in
theorem Tryz.internal_strconv_formatBase10 (blk off cap:Nat) (u:Nat) (d:Array UInt8) (w:World) (hH:Holds (fun (b:UInt8)=>Value.int .u8 (b.toNat:Int)) w blk off d) (hu:u<10 ^ d.size) (kZ:u<18446744073709551616) (bu:d.size<4611686018427387904):
  Calls Tryz.prog 107 #[.slice (some ⟨blk,off,none⟩) d.size cap,.int .u64 u] w fun e w'=>
   e=.returned (.tuple #[])∧∃ (n v':Nat) (dk:Array UInt8),w'=(putRow (fun (b:UInt8)=>Value.int .u8 (b.toNat:Int)) w blk off dk).drewN n∧FmtInv d.size u 0 v' dk:=Any.internal_strconv_formatBase10 Tryz.HP blk off cap u d w hH hu kZ bu
def Tryz.DP:Go.Shelf.Ren:=⟨fun | 171=>70 | 243=>96 | 246=>103 | 283=>105 | 284=>106 | 285=>107 | 286=>108 | 129=>116 | 317=>115 | 318=>117 | 319=>118 | 320=>119 | 337=>127 | 338=>128 | n=>n,fun | 3=>3 | 9=>9 | 2=>2 | 4=>4 | 171=>149 | 0=>0 | 53=>40 | 37=>31 | 5=>5 | 173=>152 | 212=>158 | 51=>159 | 20=>20 | 213=>160 | 46=>134 | 232=>167 | 233=>168 | n=>n,fun | 17=>1 | 18=>3 | 19=>4 | n=>n⟩
theorem Tryz.HQ:Go.Proofs.Lays.n171 Tryz.prog Tryz.DP:={
 mixed:=by kernel_rfl
 f129:=Tryz.func116.trans (congrArg some (by kernel_rfl))
 f171:=Tryz.func70.trans (congrArg some (by kernel_rfl))
 f243:=Tryz.func96.trans (congrArg some (by kernel_rfl))
 f246:=Tryz.func103.trans (congrArg some (by kernel_rfl))
 f283:=Tryz.func105.trans (congrArg some (by kernel_rfl))
 f284:=Tryz.func106.trans (congrArg some (by kernel_rfl))
 f285:=Tryz.func107.trans (congrArg some (by kernel_rfl))
 f286:=Tryz.func108.trans (congrArg some (by kernel_rfl))
 f317:=Tryz.func115.trans (congrArg some (by kernel_rfl))
 f318:=Tryz.func117.trans (congrArg some (by kernel_rfl))
 f319:=Tryz.func118.trans (congrArg some (by kernel_rfl))
 f320:=Tryz.func119.trans (congrArg some (by kernel_rfl))
 f337:=Tryz.func127.trans (congrArg some (by kernel_rfl))
 f338:=Tryz.func128.trans (congrArg some (by kernel_rfl))
 t0:=Tryz.underlying0
 a0:=Tryz.isAgg0
 z0:=Tryz.sizeOf0
 v0:=Tryz.zeroValue0
 t2:=Tryz.underlying2
 a2:=Tryz.isAgg2
 z2:=Tryz.sizeOf2
 v2:=Tryz.zeroValue2
 t3:=Tryz.underlying3
 a3:=Tryz.isAgg3
 z3:=Tryz.sizeOf3
 v3:=Tryz.zeroValue3
 t4:=Tryz.underlying4
 a4:=Tryz.isAgg4
 z4:=Tryz.sizeOf4
 v4:=Tryz.zeroValue4
 t5:=Tryz.underlying5
 a5:=Tryz.isAgg5
 z5:=Tryz.sizeOf5
 v5:=Tryz.zeroValue5
 t9:=Tryz.underlying9
 a9:=Tryz.isAgg9
 z9:=Tryz.sizeOf9
 v9:=Tryz.zeroValue9
 t20:=Tryz.underlying20
 a20:=Tryz.isAgg20
 z20:=Tryz.sizeOf20
 v20:=Tryz.zeroValue20
 t37:=Tryz.underlying31
 a37:=Tryz.isAgg31
 z37:=Tryz.sizeOf31
 v37:=Tryz.zeroValue31
 t46:=Tryz.underlying134
 a46:=Tryz.isAgg134
 z46:=Tryz.sizeOf134
 v46:=Tryz.zeroValue134
 t51:=Tryz.underlying159
 a51:=Tryz.isAgg159
 z51:=Tryz.sizeOf159
 v51:=Tryz.zeroValue159
 t53:=Tryz.underlying40
 a53:=Tryz.isAgg40
 z53:=Tryz.sizeOf40
 v53:=Tryz.zeroValue40
 t171:=Tryz.underlying149
 a171:=Tryz.isAgg149
 z171:=Tryz.sizeOf149
 v171:=Tryz.zeroValue149
 t173:=Tryz.underlying152
 a173:=Tryz.isAgg152
 z173:=Tryz.sizeOf152
 v173:=Tryz.zeroValue152
 t212:=Tryz.underlying158
 a212:=Tryz.isAgg158
 z212:=Tryz.sizeOf158
 v212:=Tryz.zeroValue158
 t213:=Tryz.underlying160
 a213:=Tryz.isAgg160
 z213:=Tryz.sizeOf160
 t232:=Tryz.underlying167
 a232:=Tryz.isAgg167
 z232:=Tryz.sizeOf167
 v232:=Tryz.zeroValue167
 t233:=Tryz.underlying168
 a233:=Tryz.isAgg168
 z233:=Tryz.sizeOf168
 v233:=Tryz.zeroValue168
 g17:=by kernel_rfl
 g18:=by kernel_rfl
 g19:=by kernel_rfl }
open Go.RowKit Go.Sort Go.Lib in
theorem Tryz.strconv_Itoa_small (i:Nat) (hi:i<100) (w:World):
  Calls Tryz.prog 70 #[.int .i64 i] w fun e w'=>e=.returned (.string ⟨(Lib.decDigits i).toArray⟩)∧w'=w:=Any.strconv_Itoa_small Tryz.HQ i hi w
def Tryz.DQ:Go.Shelf.Ren:=⟨fun | 219=>109 | 217=>113 | 225=>120 | 224=>121 | 267=>122 | 266=>126 | 314=>129 | n=>n,fun | 9=>9 | 3=>3 | 4=>4 | 5=>5 | 46=>134 | 146=>165 | 51=>159 | n=>n,fun | 1=>2 | n=>n⟩
theorem Tryz.HR:Go.Proofs.Lays.n219 Tryz.prog Tryz.DQ:={
 mixed:=by kernel_rfl
 f217:=Tryz.func113.trans (congrArg some (by kernel_rfl))
 f219:=Tryz.func109.trans (congrArg some (by kernel_rfl))
 f224:=Tryz.func121.trans (congrArg some (by kernel_rfl))
 f225:=Tryz.func120.trans (congrArg some (by kernel_rfl))
 f266:=Tryz.func126.trans (congrArg some (by kernel_rfl))
 f267:=Tryz.func122.trans (congrArg some (by kernel_rfl))
 f314:=Tryz.func129.trans (congrArg some (by kernel_rfl))
 t3:=Tryz.underlying3
 a3:=Tryz.isAgg3
 z3:=Tryz.sizeOf3
 v3:=Tryz.zeroValue3
 t4:=Tryz.underlying4
 a4:=Tryz.isAgg4
 z4:=Tryz.sizeOf4
 v4:=Tryz.zeroValue4
 t5:=Tryz.underlying5
 a5:=Tryz.isAgg5
 z5:=Tryz.sizeOf5
 v5:=Tryz.zeroValue5
 t9:=Tryz.underlying9
 a9:=Tryz.isAgg9
 z9:=Tryz.sizeOf9
 v9:=Tryz.zeroValue9
 t46:=Tryz.underlying134
 a46:=Tryz.isAgg134
 z46:=Tryz.sizeOf134
 v46:=Tryz.zeroValue134
 t51:=Tryz.underlying159
 a51:=Tryz.isAgg159
 z51:=Tryz.sizeOf159
 v51:=Tryz.zeroValue159
 t146:=Tryz.underlying165
 a146:=Tryz.isAgg165
 z146:=Tryz.sizeOf165
 v146:=Tryz.zeroValue165
 g1:=by kernel_rfl }
open Go.RowKit Go.Lib in
theorem Tryz.stringslite_Index_one (s:ByteArray) (c:UInt8) (w:World):
  Calls Tryz.prog 109 #[.string s,.string ⟨#[c]⟩] w fun e w'=>e=.returned (.int .i64 (Lib.indexByte s.data.toList c))∧w'=w:=Any.stringslite_Index_one Tryz.HR s c w
def Tryz.DR:Go.Shelf.Ren:=⟨fun | 143=>112 | 219=>109 | 217=>113 | 225=>120 | 224=>121 | 267=>122 | 266=>126 | 314=>129 | n=>n,fun | 9=>9 | 3=>3 | 4=>4 | 5=>5 | 46=>134 | 146=>165 | 51=>159 | n=>n,fun | 1=>2 | n=>n⟩
theorem Tryz.HS:Go.Proofs.Lays.n143 Tryz.prog Tryz.DR:={
 mixed:=by kernel_rfl
 f143:=Tryz.func112.trans (congrArg some (by kernel_rfl))
 f217:=Tryz.func113.trans (congrArg some (by kernel_rfl))
 f219:=Tryz.func109.trans (congrArg some (by kernel_rfl))
 f224:=Tryz.func121.trans (congrArg some (by kernel_rfl))
 f225:=Tryz.func120.trans (congrArg some (by kernel_rfl))
 f266:=Tryz.func126.trans (congrArg some (by kernel_rfl))
 f267:=Tryz.func122.trans (congrArg some (by kernel_rfl))
 f314:=Tryz.func129.trans (congrArg some (by kernel_rfl))
 t3:=Tryz.underlying3
 a3:=Tryz.isAgg3
 z3:=Tryz.sizeOf3
 v3:=Tryz.zeroValue3
 t4:=Tryz.underlying4
 a4:=Tryz.isAgg4
 z4:=Tryz.sizeOf4
 v4:=Tryz.zeroValue4
 t5:=Tryz.underlying5
 a5:=Tryz.isAgg5
 z5:=Tryz.sizeOf5
 v5:=Tryz.zeroValue5
 t9:=Tryz.underlying9
 a9:=Tryz.isAgg9
 z9:=Tryz.sizeOf9
 v9:=Tryz.zeroValue9
 t46:=Tryz.underlying134
 a46:=Tryz.isAgg134
 z46:=Tryz.sizeOf134
 v46:=Tryz.zeroValue134
 t51:=Tryz.underlying159
 a51:=Tryz.isAgg159
 z51:=Tryz.sizeOf159
 v51:=Tryz.zeroValue159
 t146:=Tryz.underlying165
 a146:=Tryz.isAgg165
 z146:=Tryz.sizeOf165
 v146:=Tryz.zeroValue165
 g1:=by kernel_rfl }
open Go.RowKit Go.Lib in
theorem Tryz.strings_Index_one (s:ByteArray) (c:UInt8) (w:World):
  Calls Tryz.prog 112 #[.string s,.string ⟨#[c]⟩] w fun e w'=>e=.returned (.int .i64 (Lib.indexByte s.data.toList c))∧w'=w:=Any.strings_Index_one Tryz.HS s c w
def Tryz.DS:Go.Shelf.Ren:=⟨fun | 138=>111 | 195=>123 | 218=>125 | 143=>112 | 219=>109 | 217=>113 | 225=>120 | 224=>121 | 267=>122 | 266=>126 | 314=>129 | n=>n,fun | 9=>9 | 3=>3 | 4=>4 | 5=>5 | 0=>0 | 46=>134 | 146=>165 | 51=>159 | n=>n,fun | 1=>2 | n=>n⟩
theorem Tryz.HT:Go.Proofs.Lays.n138 Tryz.prog Tryz.DS:={
 mixed:=by kernel_rfl
 f138:=Tryz.func111.trans (congrArg some (by kernel_rfl))
 f143:=Tryz.func112.trans (congrArg some (by kernel_rfl))
 f195:=Tryz.func123.trans (congrArg some (by kernel_rfl))
 f217:=Tryz.func113.trans (congrArg some (by kernel_rfl))
 f218:=Tryz.func125.trans (congrArg some (by kernel_rfl))
 f219:=Tryz.func109.trans (congrArg some (by kernel_rfl))
 f224:=Tryz.func121.trans (congrArg some (by kernel_rfl))
 f225:=Tryz.func120.trans (congrArg some (by kernel_rfl))
 f266:=Tryz.func126.trans (congrArg some (by kernel_rfl))
 f267:=Tryz.func122.trans (congrArg some (by kernel_rfl))
 f314:=Tryz.func129.trans (congrArg some (by kernel_rfl))
 t0:=Tryz.underlying0
 a0:=Tryz.isAgg0
 z0:=Tryz.sizeOf0
 v0:=Tryz.zeroValue0
 t3:=Tryz.underlying3
 a3:=Tryz.isAgg3
 z3:=Tryz.sizeOf3
 v3:=Tryz.zeroValue3
 t4:=Tryz.underlying4
 a4:=Tryz.isAgg4
 z4:=Tryz.sizeOf4
 v4:=Tryz.zeroValue4
 t5:=Tryz.underlying5
 a5:=Tryz.isAgg5
 z5:=Tryz.sizeOf5
 v5:=Tryz.zeroValue5
 t9:=Tryz.underlying9
 a9:=Tryz.isAgg9
 z9:=Tryz.sizeOf9
 v9:=Tryz.zeroValue9
 t46:=Tryz.underlying134
 a46:=Tryz.isAgg134
 z46:=Tryz.sizeOf134
 v46:=Tryz.zeroValue134
 t51:=Tryz.underlying159
 a51:=Tryz.isAgg159
 z51:=Tryz.sizeOf159
 v51:=Tryz.zeroValue159
 t146:=Tryz.underlying165
 a146:=Tryz.isAgg165
 z146:=Tryz.sizeOf165
 v146:=Tryz.zeroValue165
 g1:=by kernel_rfl }
open Go.RowKit Go.Lib in
theorem Tryz.strings_Count_one (s:ByteArray) (c:UInt8) (w:World):
  Calls Tryz.prog 111 #[.string s,.string ⟨#[c]⟩] w fun e w'=>e=.returned (.int .i64 (Lib.countByte s.data.toList c))∧w'=w:=Any.strings_Count_one Tryz.HT s c w
end Go.Proofs
namespace Go.Proofs.YtcnpikbbmbombaaGreatDoor
open Go.RowKit
variable {mk:Bool} {P:Program} {T:aN} {f:FuncId} {R:eX} {a:Act} {w:World} {D:List Nat} {w0:World} {K0:World→Prop} {E:List (Nat×AV)} {M:List ai} {β:Beta} {F:Nat→ak} {I:ak} {sz:Nat} {todo todo':List Item}
theorem aD.rangeFunc {g:Operand} {ps:Array Tmp} {cP body:Code} {k:List Item} {l:Nat} {mark:List Deferred} {w1 w2 wd:World} {gf:FuncId} {args:Array Value} {dd:Deferred} (lj:R.ro=none)
  (he:(Instr.enterLoop f a.tmps ps cP body none).run P w=.ok (l,mark) w1) (L5:(resolve a.eval (rangeCall g l) 0).run P w1=.ok dd wd) (hinv:(invoke dd.target dd.args).run P wd=.ok (.enter gf args) w2)
  (hc:Calls P gf args w2 fun e w3=>∃ v,e=.returned v∧∃ j w4,(Instr.endLoop l).run P w3=.ok j w4∧aD P f ((j.map Item.code).toList++k) R { a with defers:=mark++a.defers } w4):aD P f (.code (.rangeFunc g ps cP body)::k) R a w:=by
 intro b cs hb hk hr
 have Nt:b.roundOf=none:=hr.trans lj
 have s1:=stepR_rangeFunc (P:=P) (b:=b) (a:=a) (k:=k) (cs:=cs) (w:=w) (by rw [hb,Nt];exact he) L5 hinv
 obtain ⟨e,w3,fr,⟨v,rfl,j,w4,sH,hg⟩,KE,mB,Ja⟩:=hc (b.atR { a with defers:=mark++a.defers } (.inRangeFunc l::k)::cs)
 have s2:=step_leave_returned (P:=P) (c:=b.atR { a with defers:=mark++a.defers } (.inRangeFunc l::k)) (cs:=cs) Ja
 rw [finish_atR_inRangeFunc] at s2
 have s3:=stepR_endRangeFunc (P:=P) (b:=b) (a:={ a with defers:=mark++a.defers }) (k:=k) (cs:=cs) sH
 have hs:Steps P _ _:=KE
 exact (hg b cs hb hk hr).of ((Steps.one s1).trans (hs.trans ((Steps.one s2).trans (.one s3))))
def p4 (E:List (Nat×AV)):List Nat→Option (List (Nat×AV))
 | []=>some []
 | t::r=>(match bV E t,p4 E r with | some v,some l=>some ((t,v)::l) | _,_=>none)
theorem zP:∀ {ts:List Nat} {E1:List (Nat×AV)},p4 E ts=some E1→∀ x ∈ E1,bV E x.1=some x.2
 | [],E1,h,x,hx=>by simp only [p4,Option.some.injEq] at h;subst h;cases hx
 | t::r,E1,h,x,hx=>by
  unfold p4 at h
  split at h
  ·rename_i v l h1 h2
   simp only [Option.some.injEq] at h;subst h
   rcases List.mem_cons.1 hx with rfl | hx
   ·exact h1
   ·exact zP h2 x hx
  ·simp at h
def LS.still:LS→Bool
 | .busy=>false
 | _=>true
def LS.then:LS→List Item→List Item
 | .left,k=>.code .ret::k
 | _,k=>k
def zQ (P:Program) (T:aN) (f:FuncId) (sz:Nat) (tb:di) (n:Nat) (l ts:List Nat) (x:AV) (M':List ai) (cv wF:List Nat) (todo:List Item) (E:List (Nat×AV)) (M:List ai):Option (List Item×Prop×List (Nat×AV)×List ai):=
 match dq P T (walk P T 3) sz tb n todo ⟨[],E,M,[],[]⟩ with
 | some (.code (.rangeFunc (.tmp g) ps cP body)::k,s)=>(match bV s.E g,p4 s.E ts with
  | some (.fn gf cf),some E1=>(match jJ (l++[s.M.length]) (.yl s.M.length::cf),fG (l++[s.M.length]) (s.M++[.lp .ready f sz E1 ⟨ps,cP,body⟩]) (l++[s.M.length]) with
   | some told,some Ms=>bif nodupB (l++[s.M.length])&&Nat.ble (l++[s.M.length]).length M'.length&&gv P gf&&nodupB cv then
    (match (kV (iE (s.M++[.lp .ready f sz E1 ⟨ps,cP,body⟩]) (l++[s.M.length])++(M'.drop (l++[s.M.length]).length).map (eW (outer (l++[s.M.length]) (s.M.length+1)))) (l++[s.M.length]) ((M'.take (l++[s.M.length]).length).map (eW (outer (l++[s.M.length]) (s.M.length+1)))))[s.M.length]? with
    | some (.lp ls _ _ _ _)=>bif ls.still then kh cv wF (ls.then k) ⟨aC P gf told Ms x M'::s.vc,s.E,(kV (iE (s.M++[.lp .ready f sz E1 ⟨ps,cP,body⟩]) (l++[s.M.length])++(M'.drop (l++[s.M.length]).length).map (eW (outer (l++[s.M.length]) (s.M.length+1)))) (l++[s.M.length]) ((M'.take (l++[s.M.length]).length).map (eW (outer (l++[s.M.length]) (s.M.length+1))))).set s.M.length .dead,[],[]⟩ else none
    | _=>none) else none
   | _,_=>none)
  | _,_=>none)
 | _=>none
theorem Gs {l:Nat} {r:Loop} {ls:LS} (h:w.heap[l]?=some (.loop r)) (bq:ls.still=true) (hs:r.state=ls.state) (hp:r.pending=ls.jM):(Instr.endLoop l).run P w=.ok ls.jM (cd w l (.loop { r with state:=.exhausted })):=by
 unfold Instr.endLoop Instr.getLoop
 simp only [Sem.run_bind,pD h rfl,Result.andThen_ok,Sem.run_pure,hs,hp]
 rw [if_neg (by cases ls<;>first | decide | simp [LS.still] at bq)]
 simp only [Sem.run_bind,rE h rfl,Result.andThen_ok,Sem.run_pure]
theorem LS.then_eq (ls:LS) (k:List Item):(ls.jM.map Item.code).toList++k=ls.then k:=by cases ls<;>rfl
theorem HU (hT:aY P T=true) (hm:P.follows .mixedOrders=true) (hK:∀ w,Kp D w0 w→K0 w) (lj:R.ro=none) (tb:di) (n:Nat) (l ts:List Nat) (x:AV) (M':List ai) (cv wF:List Nat) {A:Prop} {E2:List (Nat×AV)} {M2:List ai} (r:ct true D w0 K0 sz E M a w)
  (h:zQ P T f sz tb n l ts x M' cv wF todo E M=some (todo',A,E2,M2)) (hA:A) (k:∀ a' w',ct true D w0 K0 sz E2 M2 a' w'→aD P f todo' R a' w'):aD P f todo R a w:=by
 unfold zQ at h
 split at h
 rotate_left
 ·simp at h
 rename_i g ps cP body k0 s hr
 split at h
 rotate_left
 ·simp at h
 rename_i gf cf E1 hg yj
 split at h
 rotate_left
 ·simp at h
 rename_i told Ms oz nw
 generalize gl:l++[s.M.length]=l2 at h oz nw
 generalize Nu:(ai.lp .ready f sz E1 ⟨ps,cP,body⟩)=lp at h nw
 cases hc:(nodupB l2&&Nat.ble l2.length M'.length&&gv P gf&&nodupB cv) with
 | false=>simp only [hc,cond_false,reduceCtorEq] at h
 | true=>
  simp only [hc,cond_true] at h
  simp only [Bool.and_eq_true] at hc
  obtain ⟨⟨⟨fV,hle⟩,jK⟩,KF⟩:=hc
  generalize Nv:kV (iE (s.M++[lp]) l2++(M'.drop l2.length).map (eW (outer l2 (s.M.length+1)))) l2 ((M'.take l2.length).map (eW (outer l2 (s.M.length+1))))=Mo at h
  split at h
  rotate_left
  ·simp at h
  rename_i ls f9 OK E9 lq B1
  cases bq:ls.still with
  | false=>simp only [bq,cond_false,reduceCtorEq] at h
  | true=>
  simp only [bq,cond_true] at h
  obtain ⟨rfl,rfl,h3,h4⟩:=nW h
  obtain ⟨fN,qA⟩:=hA
  refine nC hT (gW hT hm 3) hm hK n hr r qA fun a w r=>?_
  obtain ⟨bu,I,lg,β,F,Rm,hs⟩:=r
  have jx:=hs g _ hg
  generalize hy:a.eval (.tmp g)=y at jx
  cases jx with
  | fn cs cx fT=>
   have he:=run_enterLoop_outer (P:=P) (w:=w) f a.tmps ps cP body
   refine aD.rangeFunc (wd:=(w.alloc (.deferred (some []))).alloc (.loop { state:=.ready,pending:=none,fn:=f,tmps:=a.tmps,params:=ps,assign:=cP,body,defers:=w.heap.size })) (w2:=(w.alloc (.deferred (some []))).alloc (.loop { state:=.ready,pending:=none,fn:=f,tmps:=a.tmps,params:=ps,assign:=cP,body,defers:=w.heap.size })) (gf:=gf) (args:=#[.func (.yield (w.heap.size+1)) #[] #[]]++cs.toArray) (dd:={ target:=.fn (.func gf) cs.toArray,args:=#[.func (.yield (w.heap.size+1)) #[] #[]] }) lj he (by
    simp only [resolve,hy]
    simp [go_sem]) (by simp [invoke,go_sem,zz jK]) ?_
   have R1:RM D w0 K0 s.M β F ((w.heap.size,.deferred (some []))::I) (w.alloc (.deferred (some []))):=by
    refine ⟨Rm.len,fun u b hb=>(Rm.blk u b hb).mono (fun w hw=>⟨hw.1,(Holds.app.1 (show Holds w ([_]++I) from hw.2)).2⟩) (Ext.refl _),?_⟩
    have:=Rm.st.alloc (.deferred (some []))
    exact this.perm (by classical rw [List.perm_iff_count];intro z;simp only [List.count_append,List.count_cons];omega)
   have gI:bK I ((w.heap.size,.deferred (some []))::I):=⟨[_],rfl⟩
   have nD:∀ t v,bV s.E t=some v→aw (fun w'=>K0 w'∧Holds w' ((w.heap.size,.deferred (some []))::I)) β v (a.eval (.tmp t)):=fun t v hv=>(hs t v hv).mono (fun w hw=>⟨hw.1,gI.holds w hw.2⟩) (Ext.refl _)
   have R2:=R1.new (q:=(some ⟨w.heap.size+1,0,none⟩,0)) (blk:=lp) (Gr.alloc _ (.loop { state:=.ready,pending:=none,fn:=f,tmps:=a.tmps,params:=ps,assign:=cP,body,defers:=w.heap.size })) (by have:=dh.alloc (w.alloc (.deferred (some []))) (.loop { state:=.ready,pending:=none,fn:=f,tmps:=a.tmps,params:=ps,assign:=cP,body,defers:=w.heap.size });rwa [World.size_alloc] at this) (by
    subst Nu
    exact .lp (bz:=.ready) (hC R1 _) bu fun x hx=>(nD x.1 x.2 (zP yj x hx)).mono (fun _ h=>h) (Ext.app _ _))
   have KG:(s.M++[lp]).length=s.M.length+1:=by simp
   have gP:=hC R1 (some ⟨w.heap.size+1,0,none⟩,0)
   have cJ:=yR (vs:=.yl s.M.length::cf) (ys:=.func (.yield (w.heap.size+1)) #[] #[]::cs) R2 hK (by simp [cx]) (fun j c y e1 e2=>by
    cases j with
    | zero=>simp at e1 e2;subst e1 e2;exact .yl gP
    | succ j=>simp at e1 e2;exact ((fT j c y e1 e2).mono (fun w hw=>⟨hw.1,gI.holds w hw.2⟩) (Ext.refl _)).mono (fun _ h=>h) (Ext.app _ _)) oz nw (nS fV) (Nat.le_of_ble_eq_true hle) fN
   rw [KG,Nv] at cJ
   have KH:(#[.func (.yield (w.heap.size+1)) #[] #[]]++cs.toArray:Array Value)=(Value.func (.yield (w.heap.size+1)) #[] #[]::cs).toArray:=by simp
   rw [KH]
   refine cJ.mono ?_
   rintro e w3 ⟨v,rfl,yt,F3,I3,R3,e3,g3,-,-⟩
   refine ⟨v,rfl,?_⟩
   obtain ⟨H,hF,hB,hH⟩:=R3.at B1
   have Nw:yt[s.M.length]?=some (some ⟨w.heap.size+1,0,none⟩,0):=e3 _ _ (by simp) gP
   cases hB with
   | @lp b0 c0 f0 Nf nn bz E0 Ng tmps hb Oc CR=>
    rw [Nw] at hb;cases hb
    refine ⟨_,_,Gs (ls:=ls) hH.one bq rfl rfl,?_⟩
    rw [LS.then_eq]
    have R4:=R3.x.fc B1
    rw [List.nil_append,hF] at R4
    have R5:RM D w0 K0 (Mo.set s.M.length .dead) yt (aL F3 s.M.length []) I3 (cd w3 (w.heap.size+1) (.loop { state:=.exhausted,pending:=ls.jM,fn:=f9,tmps,params:=lq.ps,assign:=lq.cP,body:=lq.body,defers:=nn })):=by
     refine ⟨R4.len,R4.blk,?_⟩
     have s1:=(R4.st.perm (K:=(w.heap.size+1,.loop { state:=ls.state,pending:=ls.jM,fn:=f9,tmps,params:=lq.ps,assign:=lq.cP,body:=lq.body,defers:=nn })::((List.range (Mo.set s.M.length .dead).length).flatMap (aL F3 s.M.length [])++I3)) (by classical rw [List.perm_iff_count];intro z;simp only [List.count_append,List.count_cons,List.count_nil];omega)).set (.loop { state:=.exhausted,pending:=ls.jM,fn:=f9,tmps,params:=lq.ps,assign:=lq.cP,body:=lq.body,defers:=nn })
     exact St.lD (H:=[_]) s1
    refine k _ _ (ct.ln (mk:=true) (a:={ a with defers:=[{ target:=.collected w.heap.size,args:=#[] }]++a.defers }) (E:=s.E) (M:=Mo.set s.M.length .dead) ⟨bu,I3,?_,yt,_,R5,fun t v hv=>?_⟩ KF h3 h4)
    ·have:=Mk.grow lg (gI.trans g3)
     refine ⟨List.nodup_cons.2 ⟨fun hd=>?_,this.1⟩,fun d hd=>?_⟩
     ·obtain ⟨b,e1,e2⟩:=lg.2 _ hd
      cases e1
      have aM:=(Array.getElem?_eq_some_iff.1 ((Holds.app.1 Rm.st.holds).2 _ e2)).1
      exact absurd aM (Nat.lt_irrefl _)
     rcases List.mem_append.1 hd with hd | hd
     ·rw [List.mem_singleton] at hd;subst hd
      obtain ⟨J,hJ⟩:=g3
      exact ⟨_,rfl,by rw [hJ];exact List.mem_append_right _ List.mem_cons_self⟩
     ·exact this.2 d hd
    ·exact ((nD t v hv).mono (fun w hw=>⟨hw.1,g3.holds w hw.2⟩) (Ext.refl _)).mono (fun _ h=>h) (fun u q hq=>e3 u q (by simp) (Ext.app _ _ _ _ hq))
end Go.Proofs.YtcnpikbbmbombaaGreatDoor
namespace Go.Proofs.YtcnpikbbmbombaaGreatDoor
open Go.RowKit
variable {mk:Bool} {P:Program} {T:aN} {f:FuncId} {R:eX} {Re:Ending→World→Prop} {a:Act} {w:World} {D:List Nat} {w0:World} {K0:World→Prop} {E:List (Nat×AV)} {M:List ai} {β:Beta} {F:Nat→ak} {I H:ak} {sz:Nat} {tb:di} {todo todo':List Item}
def gJ (x:AV):Prop:=∀ (K K':World→Prop) (β:Beta) (y:Value),aw K β x y→aw K' β x y
def iP (b:ai):Prop:=∀ (K K':World→Prop) (β:Beta) (u:Nat) (H:ak),bw K β u b H→bw K' β u b H
theorem gJ.v (x:Value):gJ (.d (.v x)):=fun K K' β y r=>by cases r with | d r=>cases r with | v=>exact .d (.v _)
theorem gJ.pt (u o:Nat):gJ (.pt u o):=fun K K' β y r=>by cases r with | pt h=>exact .pt h
theorem gJ.sl (u n:Nat):gJ (.sl u n):=fun K K' β y r=>by cases r with | sl h=>exact .sl h
theorem iP.bx {T:Nat} {cells:List AV} (h:∀ c ∈ cells,gJ c):iP (.bx T cells):=fun K K' β u H r=>by
 cases r with | bx hb ys hl hr=>exact .bx hb ys hl (fun j c y h1 h2=>h c (List.mem_of_getElem? h1) _ _ _ _ (hr j c y h1 h2))
def sL (P:Program):List Deferred→World→World→Prop
 | [],w,w'=>w=w'
 | d::ds,w,w'=>∃ b w1,d.target=.collected b∧(Instr.takeDeferred b).run P w=.ok [] w1∧sL P ds w1 w'
theorem yZ {cs:List Frame}:∀ {ds:List Deferred} {fr:Frame} {w w':World},fr.mode=.returning→fr.defers=ds→sL P ds w w'→Steps P (lone fr cs w) (lone { fr with defers:=[] } cs w')
 | [],fr,w,w',_,hd,h=>by cases h;rw [show ({ fr with defers:=[] }:Frame)=fr by cases fr;simp_all];exact Steps.refl P _
 | d::ds,fr,w,w',hm,hd,⟨b,w1,h1,h2,h3⟩=>by
  have s1:=step_collected (P:=P) (fr:=fr) (cs:=cs) (by rw [hm];simp) hd h1 h2
  have s2:=yZ (cs:=cs) (ds:=ds) (fr:={ fr with defers:=[]++ds }) hm rfl h3
  exact (Steps.one s1).trans s2
theorem aD.L6 {fn:Func} {k:List Item} (hf:P.funcs[f]?=some fn) {w':World} (hm:sL P a.defers w w') {v:Value} (hr:(results fn a.tmps).run P w'=.ok v w') (h:Re (.returned v) w'):aD P f (.code .ret::k) (.ends Re) a w:=by
 intro b cs hb hk lj
 rw [Frame.atR_of_none lj]
 have s2:=yZ (P:=P) (cs:=cs) (fr:={ b.at a (.code .ret::k) with mode:=.returning }) rfl rfl hm
 exact ⟨.returned v,w',{ b.at a (.code .ret::k) with mode:=.returning,defers:=[] },h,.of_steps ((Steps.one step_ret).trans s2) (Steps.refl P _),hb,rfl,rfl,hk,fn,by rw [← hb] at hf;exact hf,hr⟩
theorem Gt {b:Nat} {w:World} (h:w.heap[b]?=some (.deferred (some []))):(Instr.takeDeferred b).run P w=.ok [] (cd w b (.deferred none)):=by
 unfold Instr.takeDeferred
 simp only [Sem.run_bind,pD h rfl,Result.andThen_ok,Sem.run_pure,rE h rfl]
theorem zR:∀ {ds:List Deferred} {I:ak} {w:World},ds.Nodup→(∀ d ∈ ds,∃ b,d={ target:=.collected b,args:=#[] }∧(b,Obj.deferred (some [])) ∈ I)→St D w0 w (H++I)→∃ w' I',sL P ds w w'∧St D w0 w' (H++I')
 | [],I,w,_,_,s=>⟨w,I,rfl,s⟩
 | d::ds,I,w,hn,h,s=>by
  obtain ⟨b,rfl,hb⟩:=h d List.mem_cons_self
  obtain ⟨s1,s2,rfl⟩:=List.append_of_mem hb
  rw [List.nodup_cons] at hn
  have e1:St D w0 w ((b,.deferred (some []))::(H++(s1++s2))):=s.perm (by classical rw [List.perm_iff_count];intro z;simp only [List.count_append,List.count_cons];omega)
  have e2:=e1.set (.deferred none)
  have e3:St D w0 (cd w b (.deferred none)) (H++((b,.deferred none)::(s1++s2))):=e2.perm (by classical rw [List.perm_iff_count];intro z;simp only [List.count_append,List.count_cons];omega)
  obtain ⟨w',I',g1,g2⟩:=zR (ds:=ds) hn.2 (fun d hd=>by
   obtain ⟨c,rfl,hc⟩:=h d (List.mem_cons_of_mem _ hd)
   refine ⟨c,rfl,?_⟩
   have jq:c≠b:=fun e=>hn.1 (e▸hd)
   rcases List.mem_append.1 hc with hc | hc
   ·exact List.mem_cons_of_mem _ (List.mem_append_left _ hc)
   ·rcases List.mem_cons.1 hc with hc | hc
    ·cases hc;exact absurd rfl jq
    ·exact List.mem_cons_of_mem _ (List.mem_append_right _ hc)) e3
  exact ⟨w',I',⟨b,_,rfl,Gt e1.holds.one,g1⟩,g2⟩
def uL (P:Program) (T:aN) (sz:Nat) (tb:di) (n:Nat) (cv ts:List Nat) (todo:List Item) (E:List (Nat×AV)) (M:List ai):Option (Prop×List (Nat×AV)×List ai):=
 bif nodupB cv then (match dq P T (walk P T 3) sz tb n todo ⟨[],E,M,[],[]⟩ with
 | some (.code .ret::_,s)=>(match fG cv s.M cv,iM cv s.E ts with
  | some M',some E'=>some (a8 s.vc,E',M')
  | _,_=>none)
 | _=>none) else none
theorem Jb (hT:aY P T=true) (hm:P.follows .mixedOrders=true) (hK:∀ w,Kp D w0 w→K0 w) {fn:Func} (hf:P.funcs[f]?=some fn) (tb:di) (n:Nat) (cv ts:List Nat) {A:Prop} {E':List (Nat×AV)} {M':List ai} (r:ct true D w0 K0 sz E M a w)
  (h:uL P T sz tb n cv ts todo E M=some (A,E',M')) (hA:A) (hE:∀ x ∈ E',gJ x.2) (hM:∀ b ∈ M',iP b)
  (k:∀ a' w',cK D w0 K0 sz E' M' a' w'→∃ v,(results fn a'.tmps).run P w'=.ok v w'∧Re (.returned v) w'):aD P f todo (.ends Re) a w:=by
 unfold uL at h
 cases hk:nodupB cv with
 | false=>simp [hk] at h
 | true=>
  simp only [hk,cond_true] at h
  split at h
  rotate_left
  ·simp at h
  rename_i k0 s hr
  split at h
  rotate_left
  ·simp at h
  rename_i M1 E1 s7 yj
  simp only [Option.some.injEq,Prod.mk.injEq] at h
  obtain ⟨ye,rfl,rfl⟩:=h
  refine nC hT (gW hT hm 3) hm hK n hr r (by rw [ye];exact hA) fun a w r=>?_
  obtain ⟨bu,I,lg,β,F,Rm,hs⟩:=ct.ln r hk s7 yj
  obtain ⟨w',I',g1,g2⟩:=zR (P:=P) lg.1 lg.2 Rm.st
  have r':cK D w0 K0 sz E1 M1 { a with defers:=[] } w':=by
   refine ⟨bu,I',rfl,β,F,⟨Rm.len,fun u b hb=>hM b (List.mem_of_getElem? hb) _ _ _ _ _ (Rm.blk u b hb),g2⟩,fun t v hv=>?_⟩
   exact hE (t,v) (lE hv) _ _ _ _ (hs t v hv)
  obtain ⟨v,h1,h2⟩:=k _ _ r'
  exact aD.L6 hf g1 h1 h2
def KI (w0:World) (K0:World→Prop) (x:AV) (M':List ai):Ending→World→Prop:=fun e w'=>∃ v,e=.returned v∧∃ az F' I',RM [] w0 K0 M' az F' I' w'∧aw (fun w=>K0 w∧Holds w I') az x v
abbrev xr (w0:World) (K0:World→Prop) (x:AV) (M':List ai):eX:=.ends (KI w0 K0 x M')
def B2 (T:aN) (rs:List ResultVar) (E:List (Nat×AV)) (M:List ai):Option AV:=match ie T E M rs with | some l=>some (xp l) | none=>none
theorem A3 (hT:aY P T=true) (hm:P.follows .mixedOrders=true) (hK:∀ w,Kp [] w0 w→K0 w) {fn:Func} (hf:P.funcs[f]?=some fn) (tb:di) (n:Nat) (cv ts:List Nat) {A:Prop} {E':List (Nat×AV)} {M':List ai} {x:AV} (r:ct true [] w0 K0 sz E M a w)
  (h:uL P T sz tb n cv ts todo E M=some (A,E',M')) (h2:B2 T fn.results.toList E' M'=some x) (hA:A) (hE:∀ x ∈ E',gJ x.2) (hM:∀ b ∈ M',iP b):aD P f todo (xr w0 K0 x M') a w:=by
 refine Jb hT hm hK hf tb n cv ts r h hA hE hM fun a' w' r'=>?_
 obtain ⟨-,I,-,β,F,Rm,hs⟩:=r'
 unfold B2 at h2
 split at h2
 ·rename_i l hl
  simp only [Option.some.injEq] at h2;subst h2
  obtain ⟨ys,e1,e2,e3⟩:=n6 hT Rm hs hl
  refine ⟨_,rI rfl e1,_,rfl,β,F,I,Rm,?_⟩
  match ys,l,e2,e3 with
  | [],[],_,_=>exact .tu [] rfl (by simp)
  | [y],[v],_,e3=>exact e3 0 v y rfl rfl
  | y::y'::ys,v::v'::l,e2,e3=>exact .tu _ e2 e3
 ·simp at h2
theorem ct.mark (r:ct mk D w0 K0 sz E M a w):ct true D w0 K0 sz E M a w:=by
 cases mk with
 | true=>exact r
 | false=>obtain ⟨h1,I,h2,h3⟩:=r;exact ⟨h1,I,by rw [h2];exact Mk.nil I,h3⟩
end Go.Proofs.YtcnpikbbmbombaaGreatDoor
namespace Go.Proofs.YtcnpikbbmbombaaGreatDoor
open Go.RowKit
variable {P:Program} {f:FuncId}
theorem aC.Jc {fn:Func} {c:Code} {args:List AV} {x:AV} {M':List ai} {g:Nat} {row:List DV} (jK:gv P f=true) (hf:P.funcs[f]?=some fn) (hb:fn.body=some c) (n:Nat) (hn:fn.ntmps=n) (hle:Nat.ble args.length n=true)
  (h:∀ (w0:World) (K0:World→Prop) (a:Act),(∀ w,Kp [] w0 w→K0 w)→cK [] w0 K0 n (gD args 0) [.gw g row] a w0→aD P f [.code c] (xr w0 K0 x M') a w0):aC P f args [.gw g row] (mapA (·+1) x) (.gw g row::M'.map (eW (·+1))):=by
 refine ⟨jK,?_⟩
 intro D w0 K0 β F I w ys Rm hK hl hr
 have hle:=Nat.le_of_ble_eq_true hle
 have ft:β.length=1:=Rm.len
 have lr:=Rm.blk 0 _ rfl
 have oY:F 0=[]:=by
  generalize F 0=H at lr
  cases lr;rfl
 have bq:St D w0 w ([]++I):=by
  have:=Rm.st
  simpa [List.range_succ,oY] using this
 have qz:∀ w',Kp [] w w'→K0 w'∧Holds w' I:=fun w' k=>by
  have t:St [] w w' []:=⟨k,by simp [keys],by simp [keys],Holds.nil _⟩
  have s':=St.call bq rfl t
  rw [List.nil_append] at s'
  exact ⟨hK _ s'.kp,s'.holds⟩
 rw [oY] at lr
 have hg:=h w (fun w=>K0 w∧Holds w I) { tmps:=ys.toArray++Array.replicate (fn.ntmps-ys.toArray.size) undef,defers:=[] } qz ⟨by simp;omega,[],rfl,β,fun _=>[],⟨ft,fun u b hu=>by
   cases u with
   | zero=>simp at hu;subst hu;exact lr.mono (fun w hw=>hw.1) (Ext.refl _)
   | succ u=>simp at hu,by simpa [List.range_succ] using St.none w⟩,by
  intro t v hv
  obtain ⟨y,rfl,rfl,hy⟩:∃ y:Nat×AV,y.1=t∧y.2=v∧y ∈ gD args 0:=⟨(t,v),rfl,rfl,lE hv⟩
  obtain ⟨-,h2⟩:=py args 0 y hy
  simp only [Nat.sub_zero] at h2
  obtain ⟨aM,-⟩:=List.getElem?_eq_some_iff.1 h2
  have im:ys[y.1]?=some ys[y.1]:=List.getElem?_eq_getElem (by omega)
  have he:({ tmps:=ys.toArray++Array.replicate (fn.ntmps-ys.toArray.size) undef,defers:=[] }:Act).eval (.tmp y.1)=ys[y.1]:=by
   have:y.1<ys.length:=by omega
   simp [Act.eval,Array.getD_eq_getD_getElem?,Array.getElem?_append,this]
  rw [he]
  exact (hr y.1 y.2 _ h2 im).mono (fun w hw=>hw.1) (Ext.refl _)⟩
 refine (po hf hb hg).mono ?_
 rintro e w' ⟨v,rfl,az,F',I',R',hx⟩
 have s2:=St.call bq rfl R'.st
 have cm:∀ w,K0 w∧Holds w (I'++I)→(K0 w∧Holds w I)∧Holds w I':=fun w hw=>⟨⟨hw.1,(Holds.app.1 hw.2).2⟩,(Holds.app.1 hw.2).1⟩
 have lA:∀ (u:Nat) q,az[u]?=some q→(β++az)[u+1]?=some q:=fun u q hq=>by
  rw [List.getElem?_append_right (by omega),ft,Nat.add_sub_cancel];exact hq
 refine ⟨v,rfl,β++az,fun u=>match u with | 0=>[] | u+1=>F' u,I'++I,⟨by simp [ft,R'.len];omega,fun u b hu=>?_,?_⟩,Ext.app _ _,⟨I',rfl⟩,mN lA (hx.mono cm (Ext.refl _))⟩
 ·cases u with
  | zero=>
   simp at hu;subst hu
   exact lr.mono (fun w hw=>(cm w hw).1) (Ext.app _ _)
  | succ u=>
   rw [List.getElem?_cons_succ,List.getElem?_map,Option.map_eq_some_iff] at hu
   obtain ⟨b0,dY,rfl⟩:=hu
   exact rK lA ((R'.blk u b0 dY).mono cm (Ext.refl _))
 ·rw [List.append_assoc] at s2
  rw [List.length_cons,List.length_map,List.range_succ_eq_map,List.flatMap_cons,List.nil_append,List.flatMap_map]
  exact s2
def B3:ai→Bool
 | .gw _ _=>true
 | _=>false
theorem aC.HV {fn:Func} {c:Code} {args:List AV} {x:AV} {M' G:List ai} (hG:G.all B3=true) (jK:gv P f=true) (hf:P.funcs[f]?=some fn) (hb:fn.body=some c) (n:Nat) (hn:fn.ntmps=n) (hle:Nat.ble args.length n=true)
  (h:∀ (w0:World) (K0:World→Prop) (a:Act),(∀ w,Kp [] w0 w→K0 w)→cK [] w0 K0 n (gD args 0) G a w0→aD P f [.code c] (xr w0 K0 x M') a w0):aC P f args G (mapA (·+G.length) x) (G++M'.map (eW (·+G.length))):=by
 refine ⟨jK,?_⟩
 intro D w0 K0 β F I w ys Rm hK hl hr
 have hle:=Nat.le_of_ble_eq_true hle
 have ft:β.length=G.length:=Rm.len
 have lr:∀ (u:Nat) b,G[u]?=some b→bw (fun w=>K0 w∧Holds w I) β u b []∧F u=[]:=fun u b hu=>by
  have hg:=List.all_eq_true.1 hG b (List.mem_of_getElem? hu)
  have h:=Rm.blk u b hu
  generalize F u=H at h
  cases b<;>simp [B3] at hg
  cases h with | gw X hl hc hr=>exact ⟨.gw X hl hc hr,rfl⟩
 have dX:(List.range G.length).flatMap F=[]:=by
  rw [List.flatMap_eq_nil_iff]
  intro u hu
  exact (lr u _ (List.getElem?_eq_getElem (List.mem_range.1 hu))).2
 have bq:St D w0 w ([]++I):=by
  have:=Rm.st
  rwa [dX] at this
 have qz:∀ w',Kp [] w w'→K0 w'∧Holds w' I:=fun w' k=>by
  have t:St [] w w' []:=⟨k,by simp [keys],by simp [keys],Holds.nil _⟩
  have s':=St.call bq rfl t
  rw [List.nil_append] at s'
  exact ⟨hK _ s'.kp,s'.holds⟩
 have hg:=h w (fun w=>K0 w∧Holds w I) { tmps:=ys.toArray++Array.replicate (fn.ntmps-ys.toArray.size) undef,defers:=[] } qz ⟨by simp;omega,[],rfl,β,fun _=>[],⟨ft,fun u b hu=>(lr u b hu).1.mono (fun w hw=>hw.1) (Ext.refl _),by rw [show (List.range G.length).flatMap (fun _=>([]:ak))=[] by simp];simpa using St.none w⟩,by
  intro t v hv
  obtain ⟨y,rfl,rfl,hy⟩:∃ y:Nat×AV,y.1=t∧y.2=v∧y ∈ gD args 0:=⟨(t,v),rfl,rfl,lE hv⟩
  obtain ⟨-,h2⟩:=py args 0 y hy
  simp only [Nat.sub_zero] at h2
  obtain ⟨aM,-⟩:=List.getElem?_eq_some_iff.1 h2
  have im:ys[y.1]?=some ys[y.1]:=List.getElem?_eq_getElem (by omega)
  have he:({ tmps:=ys.toArray++Array.replicate (fn.ntmps-ys.toArray.size) undef,defers:=[] }:Act).eval (.tmp y.1)=ys[y.1]:=by
   have:y.1<ys.length:=by omega
   simp [Act.eval,Array.getD_eq_getD_getElem?,Array.getElem?_append,this]
  rw [he]
  exact (hr y.1 y.2 _ h2 im).mono (fun w hw=>hw.1) (Ext.refl _)⟩
 refine (po hf hb hg).mono ?_
 rintro e w' ⟨v,rfl,az,F',I',R',hx⟩
 have s2:=St.call bq rfl R'.st
 have cm:∀ w,K0 w∧Holds w (I'++I)→(K0 w∧Holds w I)∧Holds w I':=fun w hw=>⟨⟨hw.1,(Holds.app.1 hw.2).2⟩,(Holds.app.1 hw.2).1⟩
 have lA:∀ (u:Nat) q,az[u]?=some q→(β++az)[u+G.length]?=some q:=fun u q hq=>by
  rw [List.getElem?_append_right (by omega),ft,Nat.add_sub_cancel];exact hq
 refine ⟨v,rfl,β++az,fun u=>if u<G.length then [] else F' (u-G.length),I'++I,⟨by simp [ft,R'.len],fun u b hu=>?_,?_⟩,Ext.app _ _,⟨I',rfl⟩,mN lA (hx.mono cm (Ext.refl _))⟩
 ·rcases Nat.lt_or_ge u G.length with h | h
  ·rw [List.getElem?_append_left h] at hu
   simp only [h,if_true]
   exact (lr u b hu).1.mono (fun w hw=>(cm w hw).1) (Ext.app _ _)
  ·rw [List.getElem?_append_right h,List.getElem?_map,Option.map_eq_some_iff] at hu
   obtain ⟨b0,dY,rfl⟩:=hu
   have h':¬ u<G.length:=by omega
   simp only [h',if_false]
   have:=rK lA ((R'.blk _ b0 dY).mono cm (Ext.refl _))
   rwa [Nat.sub_add_cancel h] at this
 ·rw [List.append_assoc] at s2
  have e:(List.range (G++M'.map (eW (·+G.length))).length).flatMap (fun u=>if u<G.length then [] else F' (u-G.length))=(List.range M'.length).flatMap F':=by
   rw [List.length_append,List.length_map,List.range_add,List.flatMap_append,List.flatMap_map]
   have e1:(List.range G.length).flatMap (fun u=>if u<G.length then ([]:ak) else F' (u-G.length))=[]:=by
    rw [List.flatMap_eq_nil_iff]
    intro u hu
    simp [List.mem_range.1 hu]
   rw [e1,List.nil_append]
   refine congrArg (fun q=>List.flatMap q _) ?_
   funext u;simp;intro h;omega
  rw [e];exact s2
end Go.Proofs.YtcnpikbbmbombaaGreatDoor
namespace Go.Proofs.YtcnpikbbmbombaaGreatDoor
open Go.RowKit
variable {mk:Bool} {P:Program} {T:aN} {f:FuncId} {R:eX} {a:Act} {w:World} {D:List Nat} {w0:World} {K0:World→Prop} {E:List (Nat×AV)} {M M2:List ai} {β:Beta} {F:Nat→ak} {I H:ak} {sz:Nat} {tb:di} {todo todo':List Item}
theorem ct.word (r:ct mk D w0 K0 sz E M a w) (u:Nat) {b b':ai} (hM:M[u]?=some b) (h:∀ (K:World→Prop) (β:Beta) (H:ak),bw K β u b H→bw K β u b' H):ct mk D w0 K0 sz E (M.set u b') a w:=by
 obtain ⟨h1,I,h2,β,F,Rm,hs⟩:=r
 refine ⟨h1,I,h2,β,F,⟨by rw [List.length_set];exact Rm.len,fun v c hv=>?_,by rw [List.length_set];exact Rm.st⟩,hs⟩
 rw [List.getElem?_set] at hv
 split at hv
 ·rename_i e
  subst e
  split at hv
  ·simp only [Option.some.injEq] at hv;subst hv;exact h _ _ _ (Rm.blk u b hM)
  ·simp at hv
 ·exact Rm.blk v c hv
inductive kA:List (List DV)→List (List DV)→Prop where
 | nil:kA [] []
 | cons {x x':List DV} {l l':List (List DV)} (h:cS x x') (t:kA l l'):kA (x::l) (x'::l')
theorem kA.ok {l l':List (List DV)} (h:kA l l'):l.length=l'.length∧∀ (i:Nat) r r',l[i]?=some r→l'[i]?=some r'→cS r r':=by
 induction h with
 | nil=>simp
 | cons h t ih=>
  refine ⟨by simp [ih.1],fun i r r' h1 h2=>?_⟩
  cases i with
  | zero=>simp at h1 h2;subst h1 h2;exact h
  | succ i=>exact ih.2 i r r' (by simpa using h1) (by simpa using h2)
theorem ct.less (r:ct mk D w0 K0 sz E M a w) (u:Nat) {Tm k:Nat} {rows rows':List (List DV)} (hM:M[u]?=some (.rw Tm k rows)) (h:kA rows rows'):ct mk D w0 K0 sz E (M.set u (.rw Tm k rows')) a w:=
 r.word u hM fun K β H hb=>by
  cases hb with
  | rw hb X G hl hs hr=>
   obtain ⟨e1,e2⟩:=h.ok
   rw [e1] at hs ⊢
   have key:∀ (i:Nat) r',rows'[i]?=some r'→∃ r,rows[i]?=some r∧r.length=r'.length∧∀ (j:Nat) c c',r[j]?=some c→r'[j]?=some c'→Le c c':=fun i r' hi=>by
    have aM:i<rows.length:=by rw [e1];exact (List.getElem?_eq_some_iff.1 hi).1
    have e:=List.getElem?_eq_getElem aM
    exact ⟨_,e,(e2 i _ r' e hi).ok⟩
   refine .rw hb X G (fun i r' hi=>?_) hs fun i r' j c x hi h1 h2=>?_
   ·obtain ⟨r,g1,g2,-⟩:=key i r' hi
    have:=hl i r g1;omega
   ·obtain ⟨r,g1,g2,g3⟩:=key i r' hi
    have hj:j<r.length:=by rw [g2];exact (List.getElem?_eq_some_iff.1 h1).1
    have e:=List.getElem?_eq_getElem hj
    exact g3 j _ c e h1 K x _ (hr i r j _ x g1 e h2)
def l7:Code→List Item→List (RF×List Item)
 | .seq x y,k=>l7 x (.code y::k)++l7 y k
 | .cond _ x y,k=>l7 x k++l7 y k
 | .block i c,k=>l7 c (.inBlock i::k)
 | .loop c,k=>l7 c (.inLoop c::k)
 | .rangeFunc _ ps cP body,k=>[(⟨ps,cP,body⟩,k)]
 | _,_=>[]
def lu (fn:Func) (n:Nat):RF:=match fn.body with | some c=>(match (l7 c [])[n]? with | some x=>x.1 | none=>⟨#[],.skip,.skip⟩) | none=>⟨#[],.skip,.skip⟩
def L7 (fn:Func) (n:Nat):List Item:=match fn.body with | some c=>(match (l7 c [])[n]? with | some x=>x.2 | none=>[]) | none=>[]
def nj (id:Nat):Code→List (Array Oper)
 | .seq x y=>nj id x++nj id y
 | .cond _ x y=>nj id x++nj id y
 | .block _ c=>nj id c
 | .loop c=>nj id c
 | .region i ops _=>bif i.beq id then [ops] else []
 | _=>[]
def ops (fn:Func) (id:Nat):Array Oper:=match fn.body with | some c=>(match nj id c with | o::_=>o | []=>#[]) | none=>#[]
end Go.Proofs.YtcnpikbbmbombaaGreatDoor
namespace Go.Proofs.YtcnpikbbmbombaaGreatDoor
open Go.RowKit
def si (G:List ai) (K:World→Prop):Prop:=∀ (u:Nat) blk,G[u]?=some blk→bw K [] u blk []
theorem si.rm {G:List ai} {K:World→Prop} (h:si G K) (w:World):RM [] w K G (List.replicate G.length (none,0)) (fun _=>[]) [] w:=by
 refine ⟨by simp,fun u blk hu=>(h u blk hu).mono (fun w hw=>hw.1) (fun _ _ he=>by simp at he),?_⟩
 have e:(List.range G.length).flatMap (fun _=>([]:ak))++[]=[]:=by simp
 rw [e];exact St.none w
theorem aC.Jd {P:Program} {f:FuncId} {G:List ai} {args:List AV} {w:World} (h:aC P f args G (.d (.v (.bool true))) G) {ys:List Value} (hG:si G (Gr w)) (hl:ys.length=args.length) (hr:∀ (j:Nat) c y,args[j]?=some c→ys[j]?=some y→aw (Gr w) [] c y):Calls P f ys.toArray w fun e w'=>e=.returned (.bool true)∧Gr w w':=by
 refine (h.2 ys (hG.rm w) (fun w' k=>k.r8) hl fun j c y a b=>(hr j c y a b).mono (fun w hw=>hw.1) fun _ _ he=>by simp at he).mono ?_
 rintro e w' ⟨v,rfl,az,F',I',R',-,-,ha⟩
 cases ha with
 | d hd=>cases hd;exact ⟨rfl,R'.st.kp.r8⟩
end Go.Proofs.YtcnpikbbmbombaaGreatDoor
namespace Go.Proofs.YtcnpikbbmbombaaGreatDoor
open Go.RowKit
structure aG where
 kind:Int
 node:Int
 peer:Int
 n:Int
 bit:Int
 inc:Nat
 body:List UInt8
deriving DecidableEq
structure bN where
 au:Int
 ah:List (Int×Int)
 homes:List Int
deriving DecidableEq
def aG.row (s:aG):List DV:=[.z s.kind,.z s.node,.z s.peer,.z s.n,.z s.bit,.u s.inc,.ro 1 (ae s.body)]
def steps (l:List aG):List (List DV):=l.map aG.row
def ah (l:List (Int×Int)):List (List DV):=l.map fun x=>[.z x.1,.z x.2]
def ints (l:List Int):List (List DV):=l.map fun n=>[.z n]
def strs (l:List (List UInt8)):List (List DV):=l.map fun s=>[.v (.string ⟨s.toArray⟩)]
theorem iy {l:List aG} {i:Nat} {s:aG} (h:l[i]?=some s):(steps l)[i]?=some s.row:=by simp [steps,h]
theorem cB {l:List (Int×Int)} {i:Nat} {x:Int×Int} (h:l[i]?=some x):(ah l)[i]?=some [.z x.1,.z x.2]:=by simp [ah,h]
theorem ints_at {l:List Int} {i:Nat} {x:Int} (h:l[i]?=some x):(ints l)[i]?=some [.z x]:=by simp [ints,h]
theorem rM {l:List (List UInt8)} {i:Nat} {x:List UInt8} (h:l[i]?=some x):(strs l)[i]?=some [.v (.string ⟨x.toArray⟩)]:=by simp [strs,h]
theorem iY {l:List UInt8} {i:Nat} {b:UInt8} (h:l[i]?=some b):(ae l)[i]?=some [.v (.int .u8 (b.toNat:Int))]:=by simp [ae,h]
theorem yG (l:List UInt8) (n:Nat):ae (l.take n)=(ae l).take n:=by simp [ae,List.map_take]
theorem yH (l:List UInt8) (n:Nat):ae (l.drop n)=(ae l).drop n:=by simp [ae,List.map_drop]
theorem qU (l:List UInt8):cN (ae l)=ae l:=by rw [jC];unfold ae;rw [List.map_map];apply List.map_congr_left;intro b _;rfl
theorem o5 {t:TypeId} {xs ys:List Value} {c c':Bool} (e:jI Tryz.prog t xs ys c) (h:c=c'):jI Tryz.prog t xs ys c':=h▸e
theorem oh (a b c d:Int):jI Tryz.prog 60 [.int .i64 a,.int .i64 b] [.int .i64 c,.int .i64 d] (a==c&&b==d):=⟨by kernel_rfl,fun w=>by
 have:=Dz (P:=Tryz.prog) (w:=w) (t:=60) (e:=3) (dp:=9998) (k:=.i64) (a:=a) (b:=b) (c:=c) (d':=d) (by kernel_rfl) (by kernel_rfl) (by kernel_rfl)
 simpa [Op.equal,Op.maxDepth] using this⟩
def kt (c:bN) (n:Int):Prop:=1≤n∧n≤c.au
structure sM (c:bN):Prop where
 head:1≤c.au∧c.au≤4∧c.homes.length≤6
 link:∀ (i:Nat) x,c.ah[i]?=some x→kt c x.1∧kt c x.2∧x.1≠x.2
 lone:∀ (i k:Nat) x o,c.ah[i]?=some x→k<i→c.ah[k]?=some o→¬ (o.1=x.1∧o.2=x.2)∧¬ (o.1=x.2∧o.2=x.1)
 home:∀ (i:Nat) x,c.homes[i]?=some x→kt c x
noncomputable def bS (c:bN):Bool:=@decide (sM c) (Classical.propDecidable _)
section
variable {c:bN} {i k:Nat}
theorem jg (h:bS c=true):sM c:=@of_decide_eq_true _ (Classical.propDecidable _) h
theorem wG (h:sM c):bS c=true:=@decide_eq_true _ (Classical.propDecidable _) h
theorem sj (h:¬ sM c):bS c=false:=@decide_eq_false _ (Classical.propDecidable _) h
theorem dE (h:c.au<1∨4<c.au∨6<(c.homes.length:Int)):bS c=false:=sj fun m=>by have:=m.head;omega
theorem dF {x:Int×Int} (g:c.ah[i]?=some x) (h:x.1<1∨c.au<x.1∨x.2<1∨c.au<x.2∨x.1=x.2):bS c=false:=sj fun m=>by have:=m.link i x g;unfold kt at this;omega
theorem dG {x o:Int×Int} (g:c.ah[i]?=some x) (hk:k<i) (g2:c.ah[k]?=some o) (h:(o.1=x.1∧o.2=x.2)∨(o.1=x.2∧o.2=x.1)):bS c=false:=sj fun m=>by have:=m.lone i k x o g hk g2;omega
theorem dH {x:Int} (g:c.homes[i]?=some x) (h:x<1∨c.au<x):bS c=false:=sj fun m=>by have:=m.home i x g;unfold kt at this;omega
def kj (c:bN) (i:Nat):Prop:=∀ (j:Nat) x,j<i→c.ah[j]?=some x→(kt c x.1∧kt c x.2∧x.1≠x.2)∧∀ (k:Nat) o,k<j→c.ah[k]?=some o→¬ (o.1=x.1∧o.2=x.2)∧¬ (o.1=x.2∧o.2=x.1)
def kl (c:bN) (x:Int×Int) (k:Nat):Prop:=∀ (j:Nat) o,j<k→c.ah[j]?=some o→¬ (o.1=x.1∧o.2=x.2)∧¬ (o.1=x.2∧o.2=x.1)
def km (c:bN) (i:Nat):Prop:=∀ (j:Nat) x,j<i→c.homes[j]?=some x→kt c x
theorem kj.next {x:Int×Int} (h:kj c i) (g:c.ah[i]?=some x) (h1:1≤x.1∧x.1≤c.au∧1≤x.2∧x.2≤c.au∧x.1≠x.2) (h2:kl c x i):kj c (i+1):=fun j y hj gy=>by
 rcases Nat.lt_succ_iff_lt_or_eq.1 hj with h' | rfl
 ·exact h j y h' gy
 ·rw [g] at gy;cases gy
  exact ⟨⟨⟨h1.1,h1.2.1⟩,⟨h1.2.2.1,h1.2.2.2.1⟩,h1.2.2.2.2⟩,h2⟩
theorem kl.next {x o:Int×Int} (h:kl c x k) (g:c.ah[k]?=some o) (h1:¬ (o.1=x.1∧o.2=x.2)∧¬ (o.1=x.2∧o.2=x.1)):kl c x (k+1):=fun j y hj gy=>by
 rcases Nat.lt_succ_iff_lt_or_eq.1 hj with h' | rfl
 ·exact h j y h' gy
 ·rw [g] at gy;cases gy;exact h1
theorem kl.none (x:Int×Int):kl c x 0:=fun _ _ h=>absurd h (Nat.not_lt_zero _)
theorem kj.none:kj c 0:=fun _ _ h=>absurd h (Nat.not_lt_zero _)
theorem km.none:km c 0:=fun _ _ h=>absurd h (Nat.not_lt_zero _)
theorem km.next {x:Int} (h:km c i) (g:c.homes[i]?=some x) (h1:1≤x∧x≤c.au):km c (i+1):=fun j y hj gy=>by
 rcases Nat.lt_succ_iff_lt_or_eq.1 hj with h' | rfl
 ·exact h j y h' gy
 ·rw [g] at gy;cases gy;exact h1
theorem dI (h0:1≤c.au∧c.au≤4∧(c.homes.length:Int)≤6) (h1:kj c i) (hi:c.ah.length≤i) (h2:km c k) (hk:c.homes.length≤k):bS c=true:=wG
 ⟨by omega,fun j x g=>(h1 j x (by have:=(List.getElem?_eq_some_iff.1 g).1;omega) g).1,fun j k x o g hk g2=>(h1 j x (by have:=(List.getElem?_eq_some_iff.1 g).1;omega) g).2 k o hk g2,fun j x g=>h2 j x (by have:=(List.getElem?_eq_some_iff.1 g).1;omega) g⟩
end
theorem dQ {a b c d:Int}:(a==c&&b==d)=true→a=c∧b=d:=by simp
theorem BA {a b c d:Int}:(a==c&&b==d)=false→¬ (a=c∧b=d):=by simp
set_option maxRecDepth 100000 in
theorem p5 (c:bN) (hl:c.ah.length≤9223372036854775807) (hh:c.homes.length≤9223372036854775807):al Tryz.prog 21 [.ag [.z c.au,.d (.ro 2 (ah c.ah)),.d (.ro 1 (ints c.homes))]] (.v (.bool (bS c))):=by
 refine al.intro (by kernel_rfl) rfl rfl 87 rfl rfl fun w0 K ac hK r=>?_
 cases h0:(decide ((c.au:Int)<1)) with
 | false=>
  have bo:=of_decide_eq_false h0
  cases h1:(decide ((4:Int)<c.au)) with
  | false=>
   have bO:=of_decide_eq_false h1
   have u0:=((by first | rfl | (simp [ah];omega) | simp [ae,ah,ints]):(((ints c.homes).length:Nat):Int)=((c.homes.length:Nat):Int))
   cases h2:(decide ((6:Int)<((c.homes.length:Nat):Int))) with
   | false=>
    have cQ:=of_decide_eq_false h2
    refine aS (todo':=hd Tryz.f21 0) (E':=[(1,.pt 0 0),(3,.fn 52 [.pt 0 0]),(26,.d (.ro 2 (ah c.ah))),(27,.n c.ah.length),(28,.n 0)]) (M':=[.bx 25 [.z c.au,.d (.ro 2 (ah c.ah)),.d (.ro 1 (ints c.homes))]]) tk mo hK [(1,[(2,.b false),(6,.b false),(11,.z (((c.homes.length:Nat):Int))),(12,.b false)]),(4,[(2,.z (((c.ah.length:Nat):Int)))])] 2000 [0] [1,3,26,27,28] r (by kernel_rfl) (U h0 (U h1 (U u0 (U h2 (U ((by first | rfl | (simp [ah];omega) | simp [ae,ah,ints]):(((ah c.ah).length:Nat):Int)=((c.ah.length:Nat):Int)) trivial))))) fun ac wd r=>?_
    refine aD.rounds (Φ:=fun (i:Nat) ac wd=>(kj c i)∧cK [] w0 K 87 [(1,.pt 0 0),(3,.fn 52 [.pt 0 0]),(26,.d (.ro 2 (ah c.ah))),(27,.n c.ah.length),(28,.n i)] [.bx 25 [.z c.au,.d (.ro 2 (ah c.ah)),.d (.ro 1 (ints c.homes))]] ac wd) (c.ah.length) ?_ (Nat.zero_le _) ⟨kj.none,r⟩
    clear r
    rintro i dv bH ac wd ⟨aq,r⟩
    cases h3:(decide ((((i:Nat):Int):Int)<((c.ah.length:Nat):Int))) with
    | false=>
     have dB:=of_decide_eq_false h3
     refine aS (todo':=hd Tryz.f21 2) (E':=[(1,.pt 0 0),(3,.fn 52 [.pt 0 0]),(76,.d (.ro 1 (ints c.homes))),(77,.n c.homes.length),(78,.n 0)]) (M':=[.bx 25 [.z c.au,.d (.ro 2 (ah c.ah)),.d (.ro 1 (ints c.homes))]]) tk mo hK [(5,[(0,.b false)]),(16,[(2,.z (((c.homes.length:Nat):Int)))])] 2000 [0] [1,3,76,77,78] r (by kernel_rfl) (U h3 (U u0 trivial)) fun ac wd r=>?_
     refine aD.rounds (Φ:=fun (i:Nat) ac wd=>(km c i)∧cK [] w0 K 87 [(1,.pt 0 0),(3,.fn 52 [.pt 0 0]),(76,.d (.ro 1 (ints c.homes))),(77,.n c.homes.length),(78,.n i)] [.bx 25 [.z c.au,.d (.ro 2 (ah c.ah)),.d (.ro 1 (ints c.homes))]] ac wd) (c.homes.length) ?_ (Nat.zero_le _) ⟨km.none,r⟩
     clear r
     rintro i Nx vD ac wd ⟨da,r⟩
     cases h4:(decide ((((i:Nat):Int):Int)<((c.homes.length:Nat):Int))) with
     | false=>
      have eM:=of_decide_eq_false h4
      rw [show (.v (.bool (bS c)):DV)=.v (.bool true) from (bv (by first | exact dI (by omega) aq (by omega) da (by omega) | exact dE (by omega) | exact dH ca (by omega) | exact dG bd (by omega) cb (by first | omega | exact .inl (dQ (by assumption)) | exact .inr (dQ (by assumption))) | exact dF bd (by omega)))]
      exact aH tk mo hK rfl [(17,[(0,.b false)])] 2000 r (by kernel_rfl) (U h4 trivial)
     | true=>
      have eM:=of_decide_eq_true h4
      obtain ⟨cM,ca⟩:∃ x_,c.homes[i]?=some x_:=⟨_,List.getElem?_eq_getElem (by omega)⟩
      cases h5:(decide ((1:Int)≤cM)) with
      | false=>
       have eO:=of_decide_eq_false h5
       rw [show (.v (.bool (bS c)):DV)=.v (.bool false) from (bv (by first | exact dI (by omega) aq (by omega) da (by omega) | exact dE (by omega) | exact dH ca (by omega) | exact dG bd (by omega) cb (by first | omega | exact .inl (dQ (by assumption)) | exact .inr (dQ (by assumption))) | exact dF bd (by omega)))]
       exact aH tk mo hK rfl [(17,[(0,.b true)]),(18,[(0,.ix (i) [.z cM])]),(19,[(2,.bP 200 [(1,[(1,.b false)])])])] 2000 r (by kernel_rfl) (U h4 (U (aB ((i:Nat):Int)) (U (ints_at ca) (U h5 trivial))))
      | true=>
       have eO:=of_decide_eq_true h5
       cases h6:(decide ((cM:Int)≤c.au)) with
       | false=>
        have fX:=of_decide_eq_false h6
        rw [show (.v (.bool (bS c)):DV)=.v (.bool false) from (bv (by first | exact dI (by omega) aq (by omega) da (by omega) | exact dE (by omega) | exact dH ca (by omega) | exact dG bd (by omega) cb (by first | omega | exact .inl (dQ (by assumption)) | exact .inr (dQ (by assumption))) | exact dF bd (by omega)))]
        exact aH tk mo hK rfl [(17,[(0,.b true)]),(18,[(0,.ix (i) [.z cM])]),(19,[(2,.bP 200 [(1,[(1,.b true),(6,.b false)])])])] 2000 r (by kernel_rfl) (U h4 (U (aB ((i:Nat):Int)) (U (ints_at ca) (U h5 (U h6 trivial)))))
       | true=>
        have fX:=of_decide_eq_true h6
        exact aS (todo':=hd Tryz.f21 2) tk mo hK [(17,[(0,.b true)]),(18,[(0,.ix (i) [.z cM])]),(19,[(2,.bP 200 [(1,[(1,.b true),(6,.b true)])])]),(21,[(0,.z (((i+1:Nat):Int)))])] 2000 [0] [1,3,76,77,78] r (by kernel_rfl) (U h4 (U (aB ((i:Nat):Int)) (U (ints_at ca) (U h5 (U h6 (U ((wi (by omega)):IntKind.i64.wrap ((((i:Nat):Int):Int)+1)=((i+1:Nat):Int)) trivial)))))) fun ac wd r=>vD (by omega) ac wd ⟨(da.next ca (by omega)),r⟩
    | true=>
     have dB:=of_decide_eq_true h3
     obtain ⟨aJ,bd⟩:∃ x_,c.ah[i]?=some x_:=⟨_,List.getElem?_eq_getElem (by omega)⟩
     cases h7:(decide ((1:Int)≤aJ.1)) with
     | false=>
      have dT:=of_decide_eq_false h7
      rw [show (.v (.bool (bS c)):DV)=.v (.bool false) from (bv (by first | exact dI (by omega) aq (by omega) da (by omega) | exact dE (by omega) | exact dH ca (by omega) | exact dG bd (by omega) cb (by first | omega | exact .inl (dQ (by assumption)) | exact .inr (dQ (by assumption))) | exact dF bd (by omega)))]
      exact aH tk mo hK rfl [(5,[(0,.b true)]),(6,[(1,.ix (i) [.z aJ.1,.z aJ.2])]),(7,[(1,.n 0),(3,.bP 200 [(1,[(1,.b false)])])])] 2000 r (by kernel_rfl) (U h3 (U (aB ((i:Nat):Int)) (U (cB bd) (U (rfl:(0)=((0:Nat):Int)) (U ((by omega):(0)<2) (U h7 trivial))))))
     | true=>
      have dT:=of_decide_eq_true h7
      cases h8:(decide ((aJ.1:Int)≤c.au)) with
      | false=>
       have fu:=of_decide_eq_false h8
       rw [show (.v (.bool (bS c)):DV)=.v (.bool false) from (bv (by first | exact dI (by omega) aq (by omega) da (by omega) | exact dE (by omega) | exact dH ca (by omega) | exact dG bd (by omega) cb (by first | omega | exact .inl (dQ (by assumption)) | exact .inr (dQ (by assumption))) | exact dF bd (by omega)))]
       exact aH tk mo hK rfl [(5,[(0,.b true)]),(6,[(1,.ix (i) [.z aJ.1,.z aJ.2])]),(7,[(1,.n 0),(3,.bP 200 [(1,[(1,.b true),(6,.b false)])])])] 2000 r (by kernel_rfl) (U h3 (U (aB ((i:Nat):Int)) (U (cB bd) (U (rfl:(0)=((0:Nat):Int)) (U ((by omega):(0)<2) (U h7 (U h8 trivial)))))))
      | true=>
       have fu:=of_decide_eq_true h8
       cases h9:(decide ((1:Int)≤aJ.2)) with
       | false=>
        have kB:=of_decide_eq_false h9
        rw [show (.v (.bool (bS c)):DV)=.v (.bool false) from (bv (by first | exact dI (by omega) aq (by omega) da (by omega) | exact dE (by omega) | exact dH ca (by omega) | exact dG bd (by omega) cb (by first | omega | exact .inl (dQ (by assumption)) | exact .inr (dQ (by assumption))) | exact dF bd (by omega)))]
        exact aH tk mo hK rfl [(5,[(0,.b true)]),(6,[(1,.ix (i) [.z aJ.1,.z aJ.2])]),(7,[(1,.n 0),(3,.bP 200 [(1,[(1,.b true),(6,.b true)])]),(7,.n 1),(9,.bP 200 [(1,[(1,.b false)])])])] 2000 r (by kernel_rfl) (U h3 (U (aB ((i:Nat):Int)) (U (cB bd) (U (rfl:(0)=((0:Nat):Int)) (U ((by omega):(0)<2) (U h7 (U h8 (U (rfl:(1)=((1:Nat):Int)) (U ((by omega):(1)<2) (U h9 trivial))))))))))
       | true=>
        have kB:=of_decide_eq_true h9
        cases cn:(decide ((aJ.2:Int)≤c.au)) with
        | false=>
         have k4:=of_decide_eq_false cn
         rw [show (.v (.bool (bS c)):DV)=.v (.bool false) from (bv (by first | exact dI (by omega) aq (by omega) da (by omega) | exact dE (by omega) | exact dH ca (by omega) | exact dG bd (by omega) cb (by first | omega | exact .inl (dQ (by assumption)) | exact .inr (dQ (by assumption))) | exact dF bd (by omega)))]
         exact aH tk mo hK rfl [(5,[(0,.b true)]),(6,[(1,.ix (i) [.z aJ.1,.z aJ.2])]),(7,[(1,.n 0),(3,.bP 200 [(1,[(1,.b true),(6,.b true)])]),(7,.n 1),(9,.bP 200 [(1,[(1,.b true),(6,.b false)])])])] 2000 r (by kernel_rfl) (U h3 (U (aB ((i:Nat):Int)) (U (cB bd) (U (rfl:(0)=((0:Nat):Int)) (U ((by omega):(0)<2) (U h7 (U h8 (U (rfl:(1)=((1:Nat):Int)) (U ((by omega):(1)<2) (U h9 (U cn trivial)))))))))))
        | true=>
         have k4:=of_decide_eq_true cn
         cases dN:((aJ.1:Int)==aJ.2) with
         | false=>
          have xu:=ne_of_beq_false dN
          refine aS (todo':=hd Tryz.f21 1) (E':=[(1,.pt 0 0),(3,.fn 52 [.pt 0 0]),(26,.d (.ro 2 (ah c.ah))),(27,.n c.ah.length),(28,.n i),(55,.d (.ro 2 (List.take (i) (ah c.ah)))),(56,.n i),(57,.n 0),(5,.pt 1 0)]) (M':=[.bx 25 [.z c.au,.d (.ro 2 (ah c.ah)),.d (.ro 1 (ints c.homes))],.bx 60 [.z aJ.1,.z aJ.2]]) tk mo hK [(5,[(0,.b true)]),(6,[(1,.ix (i) [.z aJ.1,.z aJ.2])]),(7,[(1,.n 0),(3,.bP 200 [(1,[(1,.b true),(6,.b true)])]),(7,.n 1),(9,.bP 200 [(1,[(1,.b true),(6,.b true)])]),(13,.n 0),(15,.n 1),(17,.b false)]),(9,[(3,.n2 (i) (0)),(4,.z (((i:Nat):Int)))])] 2000 [0,1] [1,3,26,27,28,55,56,57,5] r (by kernel_rfl) (U h3 (U (aB ((i:Nat):Int)) (U (cB bd) (U (rfl:(0)=((0:Nat):Int)) (U ((by omega):(0)<2) (U h7 (U h8 (U (rfl:(1)=((1:Nat):Int)) (U ((by omega):(1)<2) (U h9 (U cn (U (rfl:(0)=((0:Nat):Int)) (U ((by omega):(0)<2) (U (rfl:(1)=((1:Nat):Int)) (U ((by omega):(1)<2) (U dN (U (aB ((i:Nat):Int)) (U ((by first | omega | (simp [ae,ah,ints,steps,strs];done) | (simp [ae,ah,ints,steps,strs];omega)):(i)≤(ah c.ah:List (List DV)).length) (U ((by first | rfl | (simp [ah];omega) | simp [ae,ah,ints]):(((List.take (i) (ah c.ah)).length:Nat):Int)=((i:Nat):Int)) trivial))))))))))))))))))) fun ac wd r=>?_
          refine aD.rounds (Φ:=fun (k:Nat) ac wd=>(kl c aJ k)∧cK [] w0 K 87 [(1,.pt 0 0),(3,.fn 52 [.pt 0 0]),(26,.d (.ro 2 (ah c.ah))),(27,.n c.ah.length),(28,.n i),(55,.d (.ro 2 (List.take (i) (ah c.ah)))),(56,.n i),(57,.n k),(5,.pt 1 0)] [.bx 25 [.z c.au,.d (.ro 2 (ah c.ah)),.d (.ro 1 (ints c.homes))],.bx 60 [.z aJ.1,.z aJ.2]] ac wd) (i) ?_ (Nat.zero_le _) ⟨kl.none _,r⟩
          clear r
          rintro k nE fC ac wd ⟨cZ,r⟩
          cases c6:(decide ((((k:Nat):Int):Int)<((i:Nat):Int))) with
          | false=>
           have xv:=of_decide_eq_false c6
           exact aS (todo':=hd Tryz.f21 0) tk mo hK [(10,[(0,.b false)]),(15,[(0,.z (((i+1:Nat):Int)))])] 2000 [0] [1,3,26,27,28] r (by kernel_rfl) (U c6 (U ((wi (by omega)):IntKind.i64.wrap ((((i:Nat):Int):Int)+1)=((i+1:Nat):Int)) trivial)) fun ac wd r=>bH (by omega) ac wd ⟨(aq.next bd (by omega) (fun j o hj hx=>cZ j o (by omega) hx)),r⟩
          | true=>
           have xv:=of_decide_eq_true c6
           obtain ⟨bX,cb⟩:∃ x_,c.ah[k]?=some x_:=⟨_,List.getElem?_eq_getElem (by omega)⟩
           have u1:=((by rw [List.getElem?_take,if_pos (by omega)];exact cB cb):(List.take (i) (ah c.ah))[k]?=some [.z bX.1,.z bX.2])
           cases dU:(bX.1==aJ.1&&bX.2==aJ.2) with
           | false=>
            have u2:=((o5 (oh _ _ _ _) dU):jI Tryz.prog 60 [(.int .i64 (bX.1)),(.int .i64 (bX.2))] [(.int .i64 (aJ.1)),(.int .i64 (aJ.2))] false)
            cases ir:(bX.1==aJ.2&&bX.2==aJ.1) with
            | false=>
             exact aS (todo':=hd Tryz.f21 1) tk mo hK [(10,[(0,.b true)]),(11,[(0,.ix (k) [.z bX.1,.z bX.2])]),(12,[(2,.b false),(5,.n 1),(7,.n 0),(10,.b false)]),(14,[(0,.z (((k+1:Nat):Int)))])] 2000 [0,1] [1,3,26,27,28,55,56,57,5] r (by kernel_rfl) (U c6 (U (aB ((k:Nat):Int)) (U u1 (U u2 (U (rfl:(1)=((1:Nat):Int)) (U ((by omega):(1)<2) (U (rfl:(0)=((0:Nat):Int)) (U ((by omega):(0)<2) (U ((o5 (oh _ _ _ _) ir):jI Tryz.prog 60 [(.int .i64 (bX.1)),(.int .i64 (bX.2))] [(.int .i64 (aJ.2)),(.int .i64 (aJ.1))] false) (U ((wi (by omega)):IntKind.i64.wrap ((((k:Nat):Int):Int)+1)=((k+1:Nat):Int)) trivial)))))))))) fun ac wd r=>fC (by omega) ac wd ⟨(cZ.next cb ⟨by first | exact BA (by assumption) | omega,by first | exact BA (by assumption) | omega⟩),r⟩
            | true=>
             rw [show (.v (.bool (bS c)):DV)=.v (.bool false) from (bv (by first | exact dI (by omega) aq (by omega) da (by omega) | exact dE (by omega) | exact dH ca (by omega) | exact dG bd (by omega) cb (by first | omega | exact .inl (dQ (by assumption)) | exact .inr (dQ (by assumption))) | exact dF bd (by omega)))]
             exact aH tk mo hK rfl [(10,[(0,.b true)]),(11,[(0,.ix (k) [.z bX.1,.z bX.2])]),(12,[(2,.b false),(5,.n 1),(7,.n 0),(10,.b true)])] 2000 r (by kernel_rfl) (U c6 (U (aB ((k:Nat):Int)) (U u1 (U u2 (U (rfl:(1)=((1:Nat):Int)) (U ((by omega):(1)<2) (U (rfl:(0)=((0:Nat):Int)) (U ((by omega):(0)<2) (U ((o5 (oh _ _ _ _) ir):jI Tryz.prog 60 [(.int .i64 (bX.1)),(.int .i64 (bX.2))] [(.int .i64 (aJ.2)),(.int .i64 (aJ.1))] true) trivial)))))))))
           | true=>
            rw [show (.v (.bool (bS c)):DV)=.v (.bool false) from (bv (by first | exact dI (by omega) aq (by omega) da (by omega) | exact dE (by omega) | exact dH ca (by omega) | exact dG bd (by omega) cb (by first | omega | exact .inl (dQ (by assumption)) | exact .inr (dQ (by assumption))) | exact dF bd (by omega)))]
            exact aH tk mo hK rfl [(10,[(0,.b true)]),(11,[(0,.ix (k) [.z bX.1,.z bX.2])]),(12,[(2,.b true)])] 2000 r (by kernel_rfl) (U c6 (U (aB ((k:Nat):Int)) (U u1 (U ((o5 (oh _ _ _ _) dU):jI Tryz.prog 60 [(.int .i64 (bX.1)),(.int .i64 (bX.2))] [(.int .i64 (aJ.1)),(.int .i64 (aJ.2))] true) trivial))))
         | true=>
          have xu:=eq_of_beq dN
          rw [show (.v (.bool (bS c)):DV)=.v (.bool false) from (bv (by first | exact dI (by omega) aq (by omega) da (by omega) | exact dE (by omega) | exact dH ca (by omega) | exact dG bd (by omega) cb (by first | omega | exact .inl (dQ (by assumption)) | exact .inr (dQ (by assumption))) | exact dF bd (by omega)))]
          exact aH tk mo hK rfl [(5,[(0,.b true)]),(6,[(1,.ix (i) [.z aJ.1,.z aJ.2])]),(7,[(1,.n 0),(3,.bP 200 [(1,[(1,.b true),(6,.b true)])]),(7,.n 1),(9,.bP 200 [(1,[(1,.b true),(6,.b true)])]),(13,.n 0),(15,.n 1),(17,.b true)])] 2000 r (by kernel_rfl) (U h3 (U (aB ((i:Nat):Int)) (U (cB bd) (U (rfl:(0)=((0:Nat):Int)) (U ((by omega):(0)<2) (U h7 (U h8 (U (rfl:(1)=((1:Nat):Int)) (U ((by omega):(1)<2) (U h9 (U cn (U (rfl:(0)=((0:Nat):Int)) (U ((by omega):(0)<2) (U (rfl:(1)=((1:Nat):Int)) (U ((by omega):(1)<2) (U dN trivial))))))))))))))))
   | true=>
    have cQ:=of_decide_eq_true h2
    rw [show (.v (.bool (bS c)):DV)=.v (.bool false) from (bv (by first | exact dI (by omega) aq (by omega) da (by omega) | exact dE (by omega) | exact dH ca (by omega) | exact dG bd (by omega) cb (by first | omega | exact .inl (dQ (by assumption)) | exact .inr (dQ (by assumption))) | exact dF bd (by omega)))]
    exact aH tk mo hK rfl [(1,[(2,.b false),(6,.b false),(11,.z (((c.homes.length:Nat):Int))),(12,.b true)])] 2000 r (by kernel_rfl) (U h0 (U h1 (U u0 (U h2 trivial))))
  | true=>
   have bO:=of_decide_eq_true h1
   rw [show (.v (.bool (bS c)):DV)=.v (.bool false) from (bv (by first | exact dI (by omega) aq (by omega) da (by omega) | exact dE (by omega) | exact dH ca (by omega) | exact dG bd (by omega) cb (by first | omega | exact .inl (dQ (by assumption)) | exact .inr (dQ (by assumption))) | exact dF bd (by omega)))]
   exact aH tk mo hK rfl [(1,[(2,.b false),(6,.b true)])] 2000 r (by kernel_rfl) (U h0 (U h1 trivial))
 | true=>
  have bo:=of_decide_eq_true h0
  rw [show (.v (.bool (bS c)):DV)=.v (.bool false) from (bv (by first | exact dI (by omega) aq (by omega) da (by omega) | exact dE (by omega) | exact dH ca (by omega) | exact dG bd (by omega) cb (by first | omega | exact .inl (dQ (by assumption)) | exact .inr (dQ (by assumption))) | exact dF bd (by omega)))]
  exact aH tk mo hK rfl [(1,[(2,.b true)])] 2000 r (by kernel_rfl) (U h0 trivial)
end Go.Proofs.YtcnpikbbmbombaaGreatDoor
namespace Go.Proofs.YtcnpikbbmbombaaGreatDoor
open Go.RowKit
set_option maxRecDepth 100000 in
theorem zS (c:bN) (hl:c.ah.length≤9223372036854775807) (hh:c.homes.length≤9223372036854775807):al Tryz.prog 28 [.ag [.z c.au,.d (.ro 2 (ah c.ah)),.d (.ro 1 (ints c.homes))]] (.v (.bool (bS c))):=by
 refine al.intro (by kernel_rfl) rfl rfl 124 rfl rfl fun w0 K ac hK r=>?_
 cases h0:(decide ((c.au:Int)<1)) with
 | false=>
  have bo:=of_decide_eq_false h0
  cases h1:(decide ((4:Int)<c.au)) with
  | false=>
   have bO:=of_decide_eq_false h1
   have u0:=((by first | rfl | simp [ae,ah,ints,steps,strs]):(((ints c.homes).length:Nat):Int)=((c.homes.length:Nat):Int))
   cases h2:(decide ((6:Int)<((c.homes.length:Nat):Int))) with
   | false=>
    have cQ:=of_decide_eq_false h2
    refine aS (todo':=hd Tryz.f28 0) (E':=[(1,.pt 0 0),(3,.n 0)]) (M':=[.bx 25 [.z c.au,.d (.ro 2 (ah c.ah)),.d (.ro 1 (ints c.homes))]]) tk mo hK [(1,[(2,.b false),(6,.b false),(11,.z (((c.homes.length:Nat):Int))),(12,.b false)])] 2000 [0] [1,3] r (by kernel_rfl) (U h0 (U h1 (U u0 (U h2 trivial)))) fun ac wd r=>?_
    refine aD.rounds (Φ:=fun (i:Nat) ac wd=>(kj c i)∧cK [] w0 K 124 [(1,.pt 0 0),(3,.n i)] [.bx 25 [.z c.au,.d (.ro 2 (ah c.ah)),.d (.ro 1 (ints c.homes))]] ac wd) (c.ah.length) ?_ (Nat.zero_le _) ⟨kj.none,r⟩
    clear r
    rintro i dv bH ac wd ⟨aq,r⟩
    have u1:=((by first | rfl | simp [ae,ah,ints,steps,strs]):(((ah c.ah).length:Nat):Int)=((c.ah.length:Nat):Int))
    cases h3:(decide ((((i:Nat):Int):Int)<((c.ah.length:Nat):Int))) with
    | false=>
     have dB:=of_decide_eq_false h3
     refine aS (todo':=hd Tryz.f28 2) (E':=[(1,.pt 0 0),(9,.n 0)]) (M':=[.bx 25 [.z c.au,.d (.ro 2 (ah c.ah)),.d (.ro 1 (ints c.homes))]]) tk mo hK [(4,[(3,.z (((c.ah.length:Nat):Int))),(4,.b false)])] 2000 [0] [1,9] r (by kernel_rfl) (U u1 (U h3 trivial)) fun ac wd r=>?_
     refine aD.rounds (Φ:=fun (i:Nat) ac wd=>(km c i)∧cK [] w0 K 124 [(1,.pt 0 0),(9,.n i)] [.bx 25 [.z c.au,.d (.ro 2 (ah c.ah)),.d (.ro 1 (ints c.homes))]] ac wd) (c.homes.length) ?_ (Nat.zero_le _) ⟨km.none,r⟩
     clear r
     rintro i Nx vD ac wd ⟨da,r⟩
     cases h4:(decide ((((i:Nat):Int):Int)<((c.homes.length:Nat):Int))) with
     | false=>
      have eM:=of_decide_eq_false h4
      rw [show (.v (.bool (bS c)):DV)=.v (.bool true) from (bv (by first | exact dI (by omega) aq (by omega) da (by omega) | exact dE (by omega) | exact dH ca (by omega) | exact dG bd (by omega) cb (by omega) | exact dF bd (by omega)))]
      exact aH tk mo hK rfl [(16,[(3,.z (((c.homes.length:Nat):Int))),(4,.b false)])] 2000 r (by kernel_rfl) (U u0 (U h4 trivial))
     | true=>
      have eM:=of_decide_eq_true h4
      obtain ⟨cM,ca⟩:∃ x_,c.homes[i]?=some x_:=⟨_,List.getElem?_eq_getElem (by omega)⟩
      cases h5:(decide ((cM:Int)<1)) with
      | false=>
       have eO:=of_decide_eq_false h5
       cases h6:(decide ((c.au:Int)<cM)) with
       | false=>
        have fX:=of_decide_eq_false h6
        exact aS (todo':=hd Tryz.f28 2) tk mo hK [(16,[(3,.z (((c.homes.length:Nat):Int))),(4,.b true)]),(17,[(1,.z (((i+1:Nat):Int)))]),(18,[(3,.ix (i) [.z cM]),(5,.b false),(10,.ix (i) [.z cM]),(14,.b false)])] 2000 [0] [1,9] r (by kernel_rfl) (U u0 (U h4 (U (aB ((i:Nat):Int)) (U (ints_at ca) (U h5 (U (aB ((i:Nat):Int)) (U (ints_at ca) (U h6 (U ((wi (by omega)):IntKind.i64.wrap ((((i:Nat):Int):Int)+1)=((i+1:Nat):Int)) trivial))))))))) fun ac wd r=>vD (by omega) ac wd ⟨(da.next ca (by omega)),r⟩
       | true=>
        have fX:=of_decide_eq_true h6
        rw [show (.v (.bool (bS c)):DV)=.v (.bool false) from (bv (by first | exact dI (by omega) aq (by omega) da (by omega) | exact dE (by omega) | exact dH ca (by omega) | exact dG bd (by omega) cb (by omega) | exact dF bd (by omega)))]
        exact aH tk mo hK rfl [(16,[(3,.z (((c.homes.length:Nat):Int))),(4,.b true)]),(18,[(3,.ix (i) [.z cM]),(5,.b false),(10,.ix (i) [.z cM]),(14,.b true)])] 2000 r (by kernel_rfl) (U u0 (U h4 (U (aB ((i:Nat):Int)) (U (ints_at ca) (U h5 (U (aB ((i:Nat):Int)) (U (ints_at ca) (U h6 trivial))))))))
      | true=>
       have eO:=of_decide_eq_true h5
       rw [show (.v (.bool (bS c)):DV)=.v (.bool false) from (bv (by first | exact dI (by omega) aq (by omega) da (by omega) | exact dE (by omega) | exact dH ca (by omega) | exact dG bd (by omega) cb (by omega) | exact dF bd (by omega)))]
       exact aH tk mo hK rfl [(16,[(3,.z (((c.homes.length:Nat):Int))),(4,.b true)]),(18,[(3,.ix (i) [.z cM]),(5,.b true)])] 2000 r (by kernel_rfl) (U u0 (U h4 (U (aB ((i:Nat):Int)) (U (ints_at ca) (U h5 trivial)))))
    | true=>
     have dB:=of_decide_eq_true h3
     obtain ⟨aJ,bd⟩:∃ x_,c.ah[i]?=some x_:=⟨_,List.getElem?_eq_getElem (by omega)⟩
     cases h7:(decide ((aJ.1:Int)<1)) with
     | false=>
      have dT:=of_decide_eq_false h7
      cases h8:(decide ((aJ.2:Int)<1)) with
      | false=>
       have fu:=of_decide_eq_false h8
       cases h9:(decide ((c.au:Int)<aJ.1)) with
       | false=>
        have kB:=of_decide_eq_false h9
        cases cn:(decide ((c.au:Int)<aJ.2)) with
        | false=>
         have k4:=of_decide_eq_false cn
         cases dN:((aJ.1:Int)==aJ.2) with
         | false=>
          have xu:=ne_of_beq_false dN
          refine aS (todo':=hd Tryz.f28 1) (E':=[(1,.pt 0 0),(3,.n i),(4,.z aJ.1),(5,.z aJ.2),(6,.n 0)]) (M':=[.bx 25 [.z c.au,.d (.ro 2 (ah c.ah)),.d (.ro 1 (ints c.homes))]]) tk mo hK [(4,[(3,.z (((c.ah.length:Nat):Int))),(4,.b true)]),(6,[(3,.ix (i) [.z aJ.1,.z aJ.2]),(4,.n 0),(9,.ix (i) [.z aJ.1,.z aJ.2]),(10,.n 1)]),(7,[(1,.b false),(4,.b false),(10,.b false),(16,.b false),(21,.b false)])] 2000 [0] [1,3,4,5,6] r (by kernel_rfl) (U u1 (U h3 (U (aB ((i:Nat):Int)) (U (cB bd) (U (rfl:(0)=((0:Nat):Int)) (U ((by omega):(0)<2) (U (aB ((i:Nat):Int)) (U (cB bd) (U (rfl:(1)=((1:Nat):Int)) (U ((by omega):(1)<2) (U h7 (U h8 (U h9 (U cn (U dN trivial))))))))))))))) fun ac wd r=>?_
          refine aD.rounds (Φ:=fun (k:Nat) ac wd=>(kl c aJ k)∧cK [] w0 K 124 [(1,.pt 0 0),(3,.n i),(4,.z aJ.1),(5,.z aJ.2),(6,.n k)] [.bx 25 [.z c.au,.d (.ro 2 (ah c.ah)),.d (.ro 1 (ints c.homes))]] ac wd) (i) ?_ (Nat.zero_le _) ⟨kl.none _,r⟩
          clear r
          rintro k nE fC ac wd ⟨cZ,r⟩
          cases c6:(decide ((((k:Nat):Int):Int)<((i:Nat):Int))) with
          | false=>
           have xv:=of_decide_eq_false c6
           exact aS (todo':=hd Tryz.f28 0) tk mo hK [(5,[(1,.z (((i+1:Nat):Int)))]),(10,[(2,.b false)])] 2000 [0] [1,3] r (by kernel_rfl) (U c6 (U ((wi (by omega)):IntKind.i64.wrap ((((i:Nat):Int):Int)+1)=((i+1:Nat):Int)) trivial)) fun ac wd r=>bH (by omega) ac wd ⟨(aq.next bd (by omega) (fun j o hj hx=>cZ j o (by omega) hx)),r⟩
          | true=>
           have xv:=of_decide_eq_true c6
           obtain ⟨bX,cb⟩:∃ x_,c.ah[k]?=some x_:=⟨_,List.getElem?_eq_getElem (by omega)⟩
           cases dU:((bX.1:Int)==aJ.1) with
           | false=>
            have L8:=ne_of_beq_false dU
            cases ir:((bX.1:Int)==aJ.2) with
            | false=>
             have L9:=ne_of_beq_false ir
             exact aS (todo':=hd Tryz.f28 1) tk mo hK [(10,[(2,.b true)]),(11,[(1,.z (((k+1:Nat):Int)))]),(12,[(3,.ix (k) [.z bX.1,.z bX.2]),(4,.n 0),(9,.ix (k) [.z bX.1,.z bX.2]),(10,.n 1)]),(13,[(2,.b false),(11,.b false)])] 2000 [0] [1,3,4,5,6] r (by kernel_rfl) (U c6 (U (aB ((k:Nat):Int)) (U (cB cb) (U (rfl:(0)=((0:Nat):Int)) (U ((by omega):(0)<2) (U (aB ((k:Nat):Int)) (U (cB cb) (U (rfl:(1)=((1:Nat):Int)) (U ((by omega):(1)<2) (U dU (U ir (U ((wi (by omega)):IntKind.i64.wrap ((((k:Nat):Int):Int)+1)=((k+1:Nat):Int)) trivial)))))))))))) fun ac wd r=>fC (by omega) ac wd ⟨(cZ.next cb (by omega)),r⟩
            | true=>
             have L9:=eq_of_beq ir
             cases lx:((bX.2:Int)==aJ.1) with
             | false=>
              have Ma:=ne_of_beq_false lx
              exact aS (todo':=hd Tryz.f28 1) tk mo hK [(10,[(2,.b true)]),(11,[(1,.z (((k+1:Nat):Int)))]),(12,[(3,.ix (k) [.z bX.1,.z bX.2]),(4,.n 0),(9,.ix (k) [.z bX.1,.z bX.2]),(10,.n 1)]),(13,[(2,.b false),(11,.b true),(15,.b false)])] 2000 [0] [1,3,4,5,6] r (by kernel_rfl) (U c6 (U (aB ((k:Nat):Int)) (U (cB cb) (U (rfl:(0)=((0:Nat):Int)) (U ((by omega):(0)<2) (U (aB ((k:Nat):Int)) (U (cB cb) (U (rfl:(1)=((1:Nat):Int)) (U ((by omega):(1)<2) (U dU (U ir (U lx (U ((wi (by omega)):IntKind.i64.wrap ((((k:Nat):Int):Int)+1)=((k+1:Nat):Int)) trivial))))))))))))) fun ac wd r=>fC (by omega) ac wd ⟨(cZ.next cb (by omega)),r⟩
             | true=>
              have Ma:=eq_of_beq lx
              rw [show (.v (.bool (bS c)):DV)=.v (.bool false) from (bv (by first | exact dI (by omega) aq (by omega) da (by omega) | exact dE (by omega) | exact dH ca (by omega) | exact dG bd (by omega) cb (by omega) | exact dF bd (by omega)))]
              exact aH tk mo hK rfl [(10,[(2,.b true)]),(12,[(3,.ix (k) [.z bX.1,.z bX.2]),(4,.n 0),(9,.ix (k) [.z bX.1,.z bX.2]),(10,.n 1)]),(13,[(2,.b false),(11,.b true),(15,.b true)])] 2000 r (by kernel_rfl) (U c6 (U (aB ((k:Nat):Int)) (U (cB cb) (U (rfl:(0)=((0:Nat):Int)) (U ((by omega):(0)<2) (U (aB ((k:Nat):Int)) (U (cB cb) (U (rfl:(1)=((1:Nat):Int)) (U ((by omega):(1)<2) (U dU (U ir (U lx trivial))))))))))))
           | true=>
            have L8:=eq_of_beq dU
            cases o6:((bX.2:Int)==aJ.2) with
            | false=>
             have Mb:=ne_of_beq_false o6
             cases qL:((bX.1:Int)==aJ.2) with
             | false=>
              have Mc:=ne_of_beq_false qL
              exact aS (todo':=hd Tryz.f28 1) tk mo hK [(10,[(2,.b true)]),(11,[(1,.z (((k+1:Nat):Int)))]),(12,[(3,.ix (k) [.z bX.1,.z bX.2]),(4,.n 0),(9,.ix (k) [.z bX.1,.z bX.2]),(10,.n 1)]),(13,[(2,.b true),(6,.b false),(11,.b false)])] 2000 [0] [1,3,4,5,6] r (by kernel_rfl) (U c6 (U (aB ((k:Nat):Int)) (U (cB cb) (U (rfl:(0)=((0:Nat):Int)) (U ((by omega):(0)<2) (U (aB ((k:Nat):Int)) (U (cB cb) (U (rfl:(1)=((1:Nat):Int)) (U ((by omega):(1)<2) (U dU (U o6 (U qL (U ((wi (by omega)):IntKind.i64.wrap ((((k:Nat):Int):Int)+1)=((k+1:Nat):Int)) trivial))))))))))))) fun ac wd r=>fC (by omega) ac wd ⟨(cZ.next cb (by omega)),r⟩
             | true=>
              have Mc:=eq_of_beq qL
              cases ta:((bX.2:Int)==aJ.1) with
              | false=>
               have Md:=ne_of_beq_false ta
               exact aS (todo':=hd Tryz.f28 1) tk mo hK [(10,[(2,.b true)]),(11,[(1,.z (((k+1:Nat):Int)))]),(12,[(3,.ix (k) [.z bX.1,.z bX.2]),(4,.n 0),(9,.ix (k) [.z bX.1,.z bX.2]),(10,.n 1)]),(13,[(2,.b true),(6,.b false),(11,.b true),(15,.b false)])] 2000 [0] [1,3,4,5,6] r (by kernel_rfl) (U c6 (U (aB ((k:Nat):Int)) (U (cB cb) (U (rfl:(0)=((0:Nat):Int)) (U ((by omega):(0)<2) (U (aB ((k:Nat):Int)) (U (cB cb) (U (rfl:(1)=((1:Nat):Int)) (U ((by omega):(1)<2) (U dU (U o6 (U qL (U ta (U ((wi (by omega)):IntKind.i64.wrap ((((k:Nat):Int):Int)+1)=((k+1:Nat):Int)) trivial)))))))))))))) fun ac wd r=>fC (by omega) ac wd ⟨(cZ.next cb (by omega)),r⟩
              | true=>
               have Md:=eq_of_beq ta
               rw [show (.v (.bool (bS c)):DV)=.v (.bool false) from (bv (by first | exact dI (by omega) aq (by omega) da (by omega) | exact dE (by omega) | exact dH ca (by omega) | exact dG bd (by omega) cb (by omega) | exact dF bd (by omega)))]
               exact aH tk mo hK rfl [(10,[(2,.b true)]),(12,[(3,.ix (k) [.z bX.1,.z bX.2]),(4,.n 0),(9,.ix (k) [.z bX.1,.z bX.2]),(10,.n 1)]),(13,[(2,.b true),(6,.b false),(11,.b true),(15,.b true)])] 2000 r (by kernel_rfl) (U c6 (U (aB ((k:Nat):Int)) (U (cB cb) (U (rfl:(0)=((0:Nat):Int)) (U ((by omega):(0)<2) (U (aB ((k:Nat):Int)) (U (cB cb) (U (rfl:(1)=((1:Nat):Int)) (U ((by omega):(1)<2) (U dU (U o6 (U qL (U ta trivial)))))))))))))
            | true=>
             have Mb:=eq_of_beq o6
             rw [show (.v (.bool (bS c)):DV)=.v (.bool false) from (bv (by first | exact dI (by omega) aq (by omega) da (by omega) | exact dE (by omega) | exact dH ca (by omega) | exact dG bd (by omega) cb (by omega) | exact dF bd (by omega)))]
             exact aH tk mo hK rfl [(10,[(2,.b true)]),(12,[(3,.ix (k) [.z bX.1,.z bX.2]),(4,.n 0),(9,.ix (k) [.z bX.1,.z bX.2]),(10,.n 1)]),(13,[(2,.b true),(6,.b true)])] 2000 r (by kernel_rfl) (U c6 (U (aB ((k:Nat):Int)) (U (cB cb) (U (rfl:(0)=((0:Nat):Int)) (U ((by omega):(0)<2) (U (aB ((k:Nat):Int)) (U (cB cb) (U (rfl:(1)=((1:Nat):Int)) (U ((by omega):(1)<2) (U dU (U o6 trivial)))))))))))
         | true=>
          have xu:=eq_of_beq dN
          rw [show (.v (.bool (bS c)):DV)=.v (.bool false) from (bv (by first | exact dI (by omega) aq (by omega) da (by omega) | exact dE (by omega) | exact dH ca (by omega) | exact dG bd (by omega) cb (by omega) | exact dF bd (by omega)))]
          exact aH tk mo hK rfl [(4,[(3,.z (((c.ah.length:Nat):Int))),(4,.b true)]),(6,[(3,.ix (i) [.z aJ.1,.z aJ.2]),(4,.n 0),(9,.ix (i) [.z aJ.1,.z aJ.2]),(10,.n 1)]),(7,[(1,.b false),(4,.b false),(10,.b false),(16,.b false),(21,.b true)])] 2000 r (by kernel_rfl) (U u1 (U h3 (U (aB ((i:Nat):Int)) (U (cB bd) (U (rfl:(0)=((0:Nat):Int)) (U ((by omega):(0)<2) (U (aB ((i:Nat):Int)) (U (cB bd) (U (rfl:(1)=((1:Nat):Int)) (U ((by omega):(1)<2) (U h7 (U h8 (U h9 (U cn (U dN trivial)))))))))))))))
        | true=>
         have k4:=of_decide_eq_true cn
         rw [show (.v (.bool (bS c)):DV)=.v (.bool false) from (bv (by first | exact dI (by omega) aq (by omega) da (by omega) | exact dE (by omega) | exact dH ca (by omega) | exact dG bd (by omega) cb (by omega) | exact dF bd (by omega)))]
         exact aH tk mo hK rfl [(4,[(3,.z (((c.ah.length:Nat):Int))),(4,.b true)]),(6,[(3,.ix (i) [.z aJ.1,.z aJ.2]),(4,.n 0),(9,.ix (i) [.z aJ.1,.z aJ.2]),(10,.n 1)]),(7,[(1,.b false),(4,.b false),(10,.b false),(16,.b true)])] 2000 r (by kernel_rfl) (U u1 (U h3 (U (aB ((i:Nat):Int)) (U (cB bd) (U (rfl:(0)=((0:Nat):Int)) (U ((by omega):(0)<2) (U (aB ((i:Nat):Int)) (U (cB bd) (U (rfl:(1)=((1:Nat):Int)) (U ((by omega):(1)<2) (U h7 (U h8 (U h9 (U cn trivial))))))))))))))
       | true=>
        have kB:=of_decide_eq_true h9
        rw [show (.v (.bool (bS c)):DV)=.v (.bool false) from (bv (by first | exact dI (by omega) aq (by omega) da (by omega) | exact dE (by omega) | exact dH ca (by omega) | exact dG bd (by omega) cb (by omega) | exact dF bd (by omega)))]
        exact aH tk mo hK rfl [(4,[(3,.z (((c.ah.length:Nat):Int))),(4,.b true)]),(6,[(3,.ix (i) [.z aJ.1,.z aJ.2]),(4,.n 0),(9,.ix (i) [.z aJ.1,.z aJ.2]),(10,.n 1)]),(7,[(1,.b false),(4,.b false),(10,.b true)])] 2000 r (by kernel_rfl) (U u1 (U h3 (U (aB ((i:Nat):Int)) (U (cB bd) (U (rfl:(0)=((0:Nat):Int)) (U ((by omega):(0)<2) (U (aB ((i:Nat):Int)) (U (cB bd) (U (rfl:(1)=((1:Nat):Int)) (U ((by omega):(1)<2) (U h7 (U h8 (U h9 trivial)))))))))))))
      | true=>
       have fu:=of_decide_eq_true h8
       rw [show (.v (.bool (bS c)):DV)=.v (.bool false) from (bv (by first | exact dI (by omega) aq (by omega) da (by omega) | exact dE (by omega) | exact dH ca (by omega) | exact dG bd (by omega) cb (by omega) | exact dF bd (by omega)))]
       exact aH tk mo hK rfl [(4,[(3,.z (((c.ah.length:Nat):Int))),(4,.b true)]),(6,[(3,.ix (i) [.z aJ.1,.z aJ.2]),(4,.n 0),(9,.ix (i) [.z aJ.1,.z aJ.2]),(10,.n 1)]),(7,[(1,.b false),(4,.b true)])] 2000 r (by kernel_rfl) (U u1 (U h3 (U (aB ((i:Nat):Int)) (U (cB bd) (U (rfl:(0)=((0:Nat):Int)) (U ((by omega):(0)<2) (U (aB ((i:Nat):Int)) (U (cB bd) (U (rfl:(1)=((1:Nat):Int)) (U ((by omega):(1)<2) (U h7 (U h8 trivial))))))))))))
     | true=>
      have dT:=of_decide_eq_true h7
      rw [show (.v (.bool (bS c)):DV)=.v (.bool false) from (bv (by first | exact dI (by omega) aq (by omega) da (by omega) | exact dE (by omega) | exact dH ca (by omega) | exact dG bd (by omega) cb (by omega) | exact dF bd (by omega)))]
      exact aH tk mo hK rfl [(4,[(3,.z (((c.ah.length:Nat):Int))),(4,.b true)]),(6,[(3,.ix (i) [.z aJ.1,.z aJ.2]),(4,.n 0),(9,.ix (i) [.z aJ.1,.z aJ.2]),(10,.n 1)]),(7,[(1,.b true)])] 2000 r (by kernel_rfl) (U u1 (U h3 (U (aB ((i:Nat):Int)) (U (cB bd) (U (rfl:(0)=((0:Nat):Int)) (U ((by omega):(0)<2) (U (aB ((i:Nat):Int)) (U (cB bd) (U (rfl:(1)=((1:Nat):Int)) (U ((by omega):(1)<2) (U h7 trivial)))))))))))
   | true=>
    have cQ:=of_decide_eq_true h2
    rw [show (.v (.bool (bS c)):DV)=.v (.bool false) from (bv (by first | exact dI (by omega) aq (by omega) da (by omega) | exact dE (by omega) | exact dH ca (by omega) | exact dG bd (by omega) cb (by omega) | exact dF bd (by omega)))]
    exact aH tk mo hK rfl [(1,[(2,.b false),(6,.b false),(11,.z (((c.homes.length:Nat):Int))),(12,.b true)])] 2000 r (by kernel_rfl) (U h0 (U h1 (U u0 (U h2 trivial))))
  | true=>
   have bO:=of_decide_eq_true h1
   rw [show (.v (.bool (bS c)):DV)=.v (.bool false) from (bv (by first | exact dI (by omega) aq (by omega) da (by omega) | exact dE (by omega) | exact dH ca (by omega) | exact dG bd (by omega) cb (by omega) | exact dF bd (by omega)))]
   exact aH tk mo hK rfl [(1,[(2,.b false),(6,.b true)])] 2000 r (by kernel_rfl) (U h0 (U h1 trivial))
 | true=>
  have bo:=of_decide_eq_true h0
  rw [show (.v (.bool (bS c)):DV)=.v (.bool false) from (bv (by first | exact dI (by omega) aq (by omega) da (by omega) | exact dE (by omega) | exact dH ca (by omega) | exact dG bd (by omega) cb (by omega) | exact dF bd (by omega)))]
  exact aH tk mo hK rfl [(1,[(2,.b true)])] 2000 r (by kernel_rfl) (U h0 trivial)
structure jz where
 word:List UInt8
 node:Bool
 peer:Bool
 n:Bool
 bit:Bool
 inc:Bool
 body:Bool
def eC:List jz:=[⟨[110,111,110,101],false,false,false,false,false,false⟩,⟨[116,105,99,107],true,false,false,false,false,false⟩,⟨[100,101,108,105,118,101,114],true,true,true,false,false,false⟩,⟨[100,114,111,112],true,true,true,false,false,false⟩,⟨[100,111,117,98,108,101],true,true,true,false,false,false⟩,⟨[115,112,111,105,108],true,true,true,true,false,false⟩,⟨[99,117,116],true,true,false,false,false,false⟩,⟨[104,101,97,108],true,true,false,false,false,false⟩,⟨[99,114,97,115,104],true,false,false,false,false,false⟩,⟨[115,116,97,114,116],true,false,false,false,true,false⟩,⟨[115,101,110,100],true,false,false,false,false,true⟩,⟨[98,108,111,99,107,111,107],true,false,false,false,false,false⟩,⟨[106,111,105,110],true,false,false,false,false,false⟩,⟨[108,101,97,118,101],true,false,false,false,false,false⟩]
def Je:List (List UInt8):=[[],[110],[110,112,105],[110,112,105],[110,112,105],[110,112,105,98],[110,112],[110,112],[110],[110,99],[110,116],[110],[110],[110]]
def af (k:Nat):jz:=eC.getD k ⟨[],false,false,false,false,false,false⟩
def er (k:Nat):List UInt8:=Je.getD k []
def jz.row (x:jz):List DV:=[.v (.string ⟨x.word.toArray⟩),.v (.bool x.node),.v (.bool x.peer),.v (.bool x.n),.v (.bool x.bit),.v (.bool x.inc),.v (.bool x.body)]
def aj:List DV:=eC.flatMap jz.row
theorem lO {p:Nat→Prop} (h0:p 0) (h1:p 1) (h2:p 2) (h3:p 3) (h4:p 4) (h5:p 5) (h6:p 6) (h7:p 7) (h8:p 8) (h9:p 9) (cn:p 10) (dN:p 11) (c6:p 12) (dU:p 13) {k:Nat} (h:k<14):p k:=
 match k,h with
 | 0,_=>h0 | 1,_=>h1 | 2,_=>h2 | 3,_=>h3 | 4,_=>h4 | 5,_=>h5 | 6,_=>h6 | 7,_=>h7 | 8,_=>h8 | 9,_=>h9 | 10,_=>cn | 11,_=>dN | 12,_=>c6 | 13,_=>dU
theorem mH {k:Nat} (h:k<14):List.take 7 (List.drop (k*7) aj)=(af k).row:=lO (p:=fun k=>List.take 7 (List.drop (k*7) aj)=(af k).row) rfl rfl rfl rfl rfl rfl rfl rfl rfl rfl rfl rfl rfl rfl h
def fieldsOf (k:Int):List UInt8:=if 0≤k∧k<14 then er k.toNat else [45]
theorem qV {k:Int} (h:k<0∨14≤k):fieldsOf k=[45]:=by unfold fieldsOf;rw [if_neg (by omega)]
theorem qT {k:Int} (h:0≤k) (h2:k<14):fieldsOf k=er k.toNat:=by unfold fieldsOf;rw [if_pos ⟨h,h2⟩]
theorem sv {a b:List UInt8} (h:a=b):DV.v (.string ⟨a.toArray⟩)=.v (.string ⟨b.toArray⟩):=by rw [h]
def a7 (l:List UInt8) (f:Nat):Bool:=l.any fun b=>b.toNat==f
theorem zo {l:List UInt8} {f i:Nat} {b:UInt8} (g:l[i]?=some b) (h:((b.toNat:Nat):Int)=(f:Int)):a7 l f=true:=by
 unfold a7;rw [List.any_eq_true];exact ⟨b,List.mem_of_getElem? g,by simp;omega⟩
theorem zT {l:List UInt8} {f i:Nat} (hi:l.length≤i) (h:∀ (j:Nat) b,j<i→l[j]?=some b→((b.toNat:Nat):Int)≠(f:Int)):a7 l f=false:=by
 unfold a7;rw [List.any_eq_false];intro b hb
 obtain ⟨j,hj,rfl⟩:=List.getElem_of_mem hb
 have:=h j _ (by omega) (List.getElem?_eq_getElem hj)
 simp;omega
def c8 (has:Bool) (n most:Int):Bool:=decide (n=0)||(has&&(decide (0<n)&&decide (n≤most)))
def fe (s:aG) (x:jz):Bool:=c8 x.node s.node 255&&(c8 x.peer s.peer 255&&(c8 x.n s.n 255&&(c8 x.bit s.bit 65535&&(c8 x.body s.body.length 255&&(x.inc||decide ((s.inc:Int)=0))))))
def hasB (s:aG):Bool:=decide (0≤s.kind)&&(decide (s.kind<14)&&fe s (af s.kind.toNat))
theorem gA {s:aG} (h:s.kind<0∨14≤s.kind):hasB s=false:=by unfold hasB;simp;omega
theorem gx {s:aG} {b:Bool} (h:0≤s.kind) (h2:s.kind<14) (e:fe s (af s.kind.toNat)=b):hasB s=b:=by unfold hasB;rw [decide_eq_true h,decide_eq_true h2,Bool.true_and,Bool.true_and,e]
set_option maxRecDepth 100000 in
theorem EW (n most:Int):al Tryz.prog 54 [.d (.v (.bool true)),.z n,.z most] (.v (.bool (c8 true n most))):=by
 refine al.intro (by kernel_rfl) rfl rfl 21 rfl rfl fun w0 K ac hK r=>?_
 cases h0:((n:Int)==0) with
 | false=>
  have bo:=ne_of_beq_false h0
  cases h1:(decide ((0:Int)<n)) with
  | false=>
   have bO:=of_decide_eq_false h1
   rw [show (.v (.bool (c8 true n most)):DV)=.v (.bool false) from (bv (by unfold c8;simp<;>omega))]
   exact aH tk mo hK rfl [(1,[(1,.b false),(6,.b false)])] 2000 r (by kernel_rfl) (U h0 (U h1 trivial))
  | true=>
   have bO:=of_decide_eq_true h1
   cases h2:(decide ((n:Int)≤most)) with
   | false=>
    have cQ:=of_decide_eq_false h2
    rw [show (.v (.bool (c8 true n most)):DV)=.v (.bool false) from (bv (by unfold c8;simp<;>omega))]
    exact aH tk mo hK rfl [(1,[(1,.b false),(6,.b true),(11,.b false)])] 2000 r (by kernel_rfl) (U h0 (U h1 (U h2 trivial)))
   | true=>
    have cQ:=of_decide_eq_true h2
    rw [show (.v (.bool (c8 true n most)):DV)=.v (.bool true) from (bv (by unfold c8;simp<;>omega))]
    exact aH tk mo hK rfl [(1,[(1,.b false),(6,.b true),(11,.b true)])] 2000 r (by kernel_rfl) (U h0 (U h1 (U h2 trivial)))
 | true=>
  have bo:=eq_of_beq h0
  rw [show (.v (.bool (c8 true n most)):DV)=.v (.bool true) from (bv (by unfold c8;simp<;>omega))]
  exact aH tk mo hK rfl [(1,[(1,.b true)])] 2000 r (by kernel_rfl) (U h0 trivial)
set_option maxRecDepth 100000 in
theorem Eb (n most:Int):al Tryz.prog 54 [.d (.v (.bool false)),.z n,.z most] (.v (.bool (c8 false n most))):=by
 refine al.intro (by kernel_rfl) rfl rfl 21 rfl rfl fun w0 K ac hK r=>?_
 cases h0:((n:Int)==0) with
 | false=>
  have bo:=ne_of_beq_false h0
  rw [show (.v (.bool (c8 false n most)):DV)=.v (.bool false) from (bv (by unfold c8;simp<;>omega))]
  exact aH tk mo hK rfl [(1,[(1,.b false)])] 2000 r (by kernel_rfl) (U h0 trivial)
 | true=>
  have bo:=eq_of_beq h0
  rw [show (.v (.bool (c8 false n most)):DV)=.v (.bool true) from (bv (by unfold c8;simp<;>omega))]
  exact aH tk mo hK rfl [(1,[(1,.b true)])] 2000 r (by kernel_rfl) (U h0 trivial)
theorem fb (has:Bool) (n most:Int):al Tryz.prog 54 [.d (.v (.bool has)),.z n,.z most] (.v (.bool (c8 has n most))):=by
 cases has with
 | true=>exact EW n most
 | false=>exact Eb n most
set_option maxRecDepth 100000 in
theorem n8 (l:List UInt8) (f:Nat) (hl:l.length≤9223372036854775807):al Tryz.prog 60 [.d (.v (.string ⟨l.toArray⟩)),.d (.v (.int .u8 (((f:Nat):Int))))] (.v (.bool (a7 l f))):=by
 refine al.intro (by kernel_rfl) rfl rfl 17 rfl rfl fun w0 K ac hK r=>?_
 refine aS (todo':=hd Tryz.f60 0) (E':=[(0,.d (.v (.string ⟨l.toArray⟩))),(1,.d (.v (.int .u8 (((f:Nat):Int))))),(5,.n 0)]) (M':=[]) tk mo hK [] 2000 [] [0,1,5] r (by kernel_rfl) trivial fun ac wd r=>?_
 refine aD.rounds (Φ:=fun (i:Nat) ac wd=>(∀ (j:Nat) b,j<i→l[j]?=some b→((b.toNat:Nat):Int)≠(f:Int))∧cK [] w0 K 17 [(0,.d (.v (.string ⟨l.toArray⟩))),(1,.d (.v (.int .u8 (((f:Nat):Int))))),(5,.n i)] [] ac wd) (l.length) ?_ (Nat.zero_le _) ⟨(fun j b h=>absurd h (Nat.not_lt_zero _)),r⟩
 clear r
 rintro i dv bH ac wd ⟨aq,r⟩
 cases h0:(decide ((((i:Nat):Int):Int)<((l.length:Nat):Int))) with
 | false=>
  have bo:=of_decide_eq_false h0
  rw [show (.v (.bool (a7 l f)):DV)=.v (.bool false) from (bv (by first | exact zo b7 (by omega) | exact zT (by omega) aq))]
  exact aH tk mo hK rfl [(2,[(3,.b false)])] 2000 r (by kernel_rfl) (U h0 trivial)
 | true=>
  have bo:=of_decide_eq_true h0
  obtain ⟨ay,b7⟩:∃ x_,l[i]?=some x_:=⟨_,List.getElem?_eq_getElem (by omega)⟩
  have u0:=(⟨_,b7,rfl⟩:∃ u:UInt8,(l:List UInt8)[i]?=some u∧(.v (.int .u8 (((ay.toNat:Nat):Int))):DV)=.v (.int .u8 (u.toNat:Int)))
  cases h1:((((ay.toNat:Nat):Int):Int)==((f:Nat):Int)) with
  | false=>
   have bO:=ne_of_beq_false h1
   exact aS (todo':=hd Tryz.f60 0) tk mo hK [(2,[(3,.b true)]),(3,[(1,.z (((i+1:Nat):Int)))]),(4,[(2,.ix (i) [.v (.int .u8 (((ay.toNat:Nat):Int)))]),(4,.b false)])] 2000 [] [0,1,5] r (by kernel_rfl) (U h0 (U (aB ((i:Nat):Int)) (U u0 (U h1 (U ((wi (by omega)):IntKind.i64.wrap ((((i:Nat):Int):Int)+1)=((i+1:Nat):Int)) trivial))))) fun ac wd r=>bH (by omega) ac wd ⟨(fun j o hj hx=>by rcases Nat.lt_succ_iff_lt_or_eq.1 hj with h | rfl;exact aq j o h hx;rw [b7] at hx;cases hx;omega),r⟩
  | true=>
   have bO:=eq_of_beq h1
   rw [show (.v (.bool (a7 l f)):DV)=.v (.bool true) from (bv (by first | exact zo b7 (by omega) | exact zT (by omega) aq))]
   exact aH tk mo hK rfl [(2,[(3,.b true)]),(4,[(2,.ix (i) [.v (.int .u8 (((ay.toNat:Nat):Int)))]),(4,.b true)])] 2000 r (by kernel_rfl) (U h0 (U (aB ((i:Nat):Int)) (U u0 (U h1 trivial))))
theorem EX {k:Nat} (h:k<14):([[.v (.string .empty)],[.v (.string ⟨([110]).toArray⟩)],[.v (.string ⟨([110,112,105]).toArray⟩)],[.v (.string ⟨([110,112,105]).toArray⟩)],[.v (.string ⟨([110,112,105]).toArray⟩)],[.v (.string ⟨([110,112,105,98]).toArray⟩)],[.v (.string ⟨([110,112]).toArray⟩)],[.v (.string ⟨([110,112]).toArray⟩)],[.v (.string ⟨([110]).toArray⟩)],[.v (.string ⟨([110,99]).toArray⟩)],[.v (.string ⟨([110,116]).toArray⟩)],[.v (.string ⟨([110]).toArray⟩)],[.v (.string ⟨([110]).toArray⟩)],[.v (.string ⟨([110]).toArray⟩)]]:List (List DV))[k]?=some [.v (.string ⟨(er k).toArray⟩)]:=lO (p:=fun k=>([[.v (.string .empty)],[.v (.string ⟨([110]).toArray⟩)],[.v (.string ⟨([110,112,105]).toArray⟩)],[.v (.string ⟨([110,112,105]).toArray⟩)],[.v (.string ⟨([110,112,105]).toArray⟩)],[.v (.string ⟨([110,112,105,98]).toArray⟩)],[.v (.string ⟨([110,112]).toArray⟩)],[.v (.string ⟨([110,112]).toArray⟩)],[.v (.string ⟨([110]).toArray⟩)],[.v (.string ⟨([110,99]).toArray⟩)],[.v (.string ⟨([110,116]).toArray⟩)],[.v (.string ⟨([110]).toArray⟩)],[.v (.string ⟨([110]).toArray⟩)],[.v (.string ⟨([110]).toArray⟩)]]:List (List DV))[k]?=some [.v (.string ⟨(er k).toArray⟩)]) rfl rfl rfl rfl rfl rfl rfl rfl rfl rfl rfl rfl rfl rfl h
set_option maxRecDepth 100000 in
theorem de (k:Int):al Tryz.prog 59 [.z k] (.v (.string ⟨(fieldsOf k).toArray⟩)):=by
 refine al.intro (by kernel_rfl) rfl rfl 17 rfl rfl fun w0 K ac hK r=>?_
 cases h0:(decide ((k:Int)<0)) with
 | false=>
  have bo:=of_decide_eq_false h0
  cases h1:(decide ((((14:Nat):Int):Int)≤k)) with
  | false=>
   have bO:=of_decide_eq_false h1
   rw [show (.v (.string ⟨(fieldsOf k).toArray⟩):DV)=.v (.string ⟨(er k.toNat).toArray⟩) from (by first | exact sv (qT (by omega) (by omega)) | exact sv (qV (by omega)))]
   exact aH tk mo hK rfl [(2,[(1,.b false),(6,.b false)]),(4,[(2,.n (k.toNat)),(3,.ix 0 [.v (.string ⟨(er k.toNat).toArray⟩)])])] 2000 r (by kernel_rfl) (U h0 (U h1 (U ((by omega):(k)=((k.toNat:Nat):Int)) (U ((by first | omega | decide | (simp;done) | (simp;omega)):(k.toNat)<(14)) (U ((by first | rfl | (simp;done) | (simp<;>omega)):(14)≤([[.v (.string .empty)],[.v (.string ⟨([110]).toArray⟩)],[.v (.string ⟨([110,112,105]).toArray⟩)],[.v (.string ⟨([110,112,105]).toArray⟩)],[.v (.string ⟨([110,112,105]).toArray⟩)],[.v (.string ⟨([110,112,105,98]).toArray⟩)],[.v (.string ⟨([110,112]).toArray⟩)],[.v (.string ⟨([110,112]).toArray⟩)],[.v (.string ⟨([110]).toArray⟩)],[.v (.string ⟨([110,99]).toArray⟩)],[.v (.string ⟨([110,116]).toArray⟩)],[.v (.string ⟨([110]).toArray⟩)],[.v (.string ⟨([110]).toArray⟩)],[.v (.string ⟨([110]).toArray⟩)]]:List (List DV)).length) (U (EX (by omega):([[.v (.string .empty)],[.v (.string ⟨([110]).toArray⟩)],[.v (.string ⟨([110,112,105]).toArray⟩)],[.v (.string ⟨([110,112,105]).toArray⟩)],[.v (.string ⟨([110,112,105]).toArray⟩)],[.v (.string ⟨([110,112,105,98]).toArray⟩)],[.v (.string ⟨([110,112]).toArray⟩)],[.v (.string ⟨([110,112]).toArray⟩)],[.v (.string ⟨([110]).toArray⟩)],[.v (.string ⟨([110,99]).toArray⟩)],[.v (.string ⟨([110,116]).toArray⟩)],[.v (.string ⟨([110]).toArray⟩)],[.v (.string ⟨([110]).toArray⟩)],[.v (.string ⟨([110]).toArray⟩)]]:List (List DV))[k.toNat]?=some [.v (.string ⟨(er k.toNat).toArray⟩)]) trivial))))))
  | true=>
   have bO:=of_decide_eq_true h1
   rw [show (.v (.string ⟨(fieldsOf k).toArray⟩):DV)=.v (.string ⟨([45]).toArray⟩) from (by first | exact sv (qT (by omega) (by omega)) | exact sv (qV (by omega)))]
   exact aH tk mo hK rfl [(2,[(1,.b false),(6,.b true)])] 2000 r (by kernel_rfl) (U h0 (U h1 trivial))
 | true=>
  have bo:=of_decide_eq_true h0
  rw [show (.v (.string ⟨(fieldsOf k).toArray⟩):DV)=.v (.string ⟨([45]).toArray⟩) from (by first | exact sv (qT (by omega) (by omega)) | exact sv (qV (by omega)))]
  exact aH tk mo hK rfl [(2,[(1,.b true)])] 2000 r (by kernel_rfl) (U h0 trivial)
set_option maxRecDepth 100000 in
theorem wH (s:aG):aC Tryz.prog 24 [.ag [.z s.kind,.z s.node,.z s.peer,.z s.n,.z s.bit,.u s.inc,.d (.ro 1 (ae s.body))]] [.gw 0 aj] (.d (.v (.bool (hasB s)))) ([.gw 0 aj]):=by
 refine aC.intro (by kernel_rfl) rfl rfl 59 rfl rfl fun D w0 K bs ac wd hK (ao:bs.m=1) r=>?_
 cases h0:(decide ((s.kind:Int)<0)) with
 | false=>
  have bo:=of_decide_eq_false h0
  cases h1:(decide ((14:Int)≤s.kind)) with
  | false=>
   have bO:=of_decide_eq_false h1
   cases h2:((af s.kind.toNat).inc) with
   | false=>
    have u0:=((by rw [mH (by omega)];unfold jz.row;rw [h2]):List.take 7 (List.drop ((s.kind.toNat)*7) (aj:List DV))=([.v (.string ⟨((af s.kind.toNat).word).toArray⟩),.v (.bool ((af s.kind.toNat).node)),.v (.bool ((af s.kind.toNat).peer)),.v (.bool ((af s.kind.toNat).n)),.v (.bool ((af s.kind.toNat).bit)),.v (.bool false),.v (.bool ((af s.kind.toNat).body))]:List DV))
    cases h3:(c8 ((af s.kind.toNat).node) s.node 255) with
    | false=>
     refine bg (y:=.d (.v (.bool false))) (N':=[.gw 0 aj]) ((congrArg (fun b=>AV.d (.v (.bool b))) (by first | exact gA (by omega) | exact gx (by omega) (by omega) (by unfold fe;simp [h0,h1,h2,h3]<;>omega)))) (rfl) ?_
     exact bf tk mo hK rfl ao [(1,[(2,.b false),(6,.b false)]),(3,[(2,.ix (s.kind.toNat) [.v (.string ⟨((af s.kind.toNat).word).toArray⟩),.v (.bool ((af s.kind.toNat).node)),.v (.bool ((af s.kind.toNat).peer)),.v (.bool ((af s.kind.toNat).n)),.v (.bool ((af s.kind.toNat).bit)),.v (.bool false),.v (.bool ((af s.kind.toNat).body))])]),(4,[(4,.ax (.v (.bool false)))])] 2000 [0] r (by kernel_rfl) (U h0 (U h1 (U ((by omega):(s.kind)=((s.kind.toNat:Nat):Int)) (U ((by omega):(s.kind.toNat)<14) (U u0 (U ((by have k:=fb ((af s.kind.toNat).node) s.node 255;rw [h3] at k;exact k):al Tryz.prog 54 [.d (.v (.bool ((af s.kind.toNat).node))),.z s.node,.z 255] (.v (.bool false))) trivial))))))
    | true=>
     have u1:=((by have k:=fb ((af s.kind.toNat).node) s.node 255;rw [h3] at k;exact k):al Tryz.prog 54 [.d (.v (.bool ((af s.kind.toNat).node))),.z s.node,.z 255] (.v (.bool true)))
     cases h4:(c8 ((af s.kind.toNat).peer) s.peer 255) with
     | false=>
      refine bg (y:=.d (.v (.bool false))) (N':=[.gw 0 aj]) ((congrArg (fun b=>AV.d (.v (.bool b))) (by first | exact gA (by omega) | exact gx (by omega) (by omega) (by unfold fe;simp [h0,h1,h2,h3,h4]<;>omega)))) (rfl) ?_
      exact bf tk mo hK rfl ao [(1,[(2,.b false),(6,.b false)]),(3,[(2,.ix (s.kind.toNat) [.v (.string ⟨((af s.kind.toNat).word).toArray⟩),.v (.bool ((af s.kind.toNat).node)),.v (.bool ((af s.kind.toNat).peer)),.v (.bool ((af s.kind.toNat).n)),.v (.bool ((af s.kind.toNat).bit)),.v (.bool false),.v (.bool ((af s.kind.toNat).body))])]),(4,[(4,.ax (.v (.bool true))),(10,.ax (.v (.bool false)))])] 2000 [0] r (by kernel_rfl) (U h0 (U h1 (U ((by omega):(s.kind)=((s.kind.toNat:Nat):Int)) (U ((by omega):(s.kind.toNat)<14) (U u0 (U u1 (U ((by have k:=fb ((af s.kind.toNat).peer) s.peer 255;rw [h4] at k;exact k):al Tryz.prog 54 [.d (.v (.bool ((af s.kind.toNat).peer))),.z s.peer,.z 255] (.v (.bool false))) trivial)))))))
     | true=>
      have u2:=((by have k:=fb ((af s.kind.toNat).peer) s.peer 255;rw [h4] at k;exact k):al Tryz.prog 54 [.d (.v (.bool ((af s.kind.toNat).peer))),.z s.peer,.z 255] (.v (.bool true)))
      cases h5:(c8 ((af s.kind.toNat).n) s.n 255) with
      | false=>
       refine bg (y:=.d (.v (.bool false))) (N':=[.gw 0 aj]) ((congrArg (fun b=>AV.d (.v (.bool b))) (by first | exact gA (by omega) | exact gx (by omega) (by omega) (by unfold fe;simp [h0,h1,h2,h3,h4,h5]<;>omega)))) (rfl) ?_
       exact bf tk mo hK rfl ao [(1,[(2,.b false),(6,.b false)]),(3,[(2,.ix (s.kind.toNat) [.v (.string ⟨((af s.kind.toNat).word).toArray⟩),.v (.bool ((af s.kind.toNat).node)),.v (.bool ((af s.kind.toNat).peer)),.v (.bool ((af s.kind.toNat).n)),.v (.bool ((af s.kind.toNat).bit)),.v (.bool false),.v (.bool ((af s.kind.toNat).body))])]),(4,[(4,.ax (.v (.bool true))),(10,.ax (.v (.bool true))),(17,.ax (.v (.bool false)))])] 2000 [0] r (by kernel_rfl) (U h0 (U h1 (U ((by omega):(s.kind)=((s.kind.toNat:Nat):Int)) (U ((by omega):(s.kind.toNat)<14) (U u0 (U u1 (U u2 (U ((by have k:=fb ((af s.kind.toNat).n) s.n 255;rw [h5] at k;exact k):al Tryz.prog 54 [.d (.v (.bool ((af s.kind.toNat).n))),.z s.n,.z 255] (.v (.bool false))) trivial))))))))
      | true=>
       have u3:=((by have k:=fb ((af s.kind.toNat).n) s.n 255;rw [h5] at k;exact k):al Tryz.prog 54 [.d (.v (.bool ((af s.kind.toNat).n))),.z s.n,.z 255] (.v (.bool true)))
       cases h6:(c8 ((af s.kind.toNat).bit) s.bit 65535) with
       | false=>
        refine bg (y:=.d (.v (.bool false))) (N':=[.gw 0 aj]) ((congrArg (fun b=>AV.d (.v (.bool b))) (by first | exact gA (by omega) | exact gx (by omega) (by omega) (by unfold fe;simp [h0,h1,h2,h3,h4,h5,h6]<;>omega)))) (rfl) ?_
        exact bf tk mo hK rfl ao [(1,[(2,.b false),(6,.b false)]),(3,[(2,.ix (s.kind.toNat) [.v (.string ⟨((af s.kind.toNat).word).toArray⟩),.v (.bool ((af s.kind.toNat).node)),.v (.bool ((af s.kind.toNat).peer)),.v (.bool ((af s.kind.toNat).n)),.v (.bool ((af s.kind.toNat).bit)),.v (.bool false),.v (.bool ((af s.kind.toNat).body))])]),(4,[(4,.ax (.v (.bool true))),(10,.ax (.v (.bool true))),(17,.ax (.v (.bool true))),(24,.ax (.v (.bool false)))])] 2000 [0] r (by kernel_rfl) (U h0 (U h1 (U ((by omega):(s.kind)=((s.kind.toNat:Nat):Int)) (U ((by omega):(s.kind.toNat)<14) (U u0 (U u1 (U u2 (U u3 (U ((by have k:=fb ((af s.kind.toNat).bit) s.bit 65535;rw [h6] at k;exact k):al Tryz.prog 54 [.d (.v (.bool ((af s.kind.toNat).bit))),.z s.bit,.z 65535] (.v (.bool false))) trivial)))))))))
       | true=>
        have u4:=((by have k:=fb ((af s.kind.toNat).bit) s.bit 65535;rw [h6] at k;exact k):al Tryz.prog 54 [.d (.v (.bool ((af s.kind.toNat).bit))),.z s.bit,.z 65535] (.v (.bool true)))
        have u5:=((by first | rfl | simp [ae,ah,ints,steps,strs]):(((ae s.body).length:Nat):Int)=((s.body.length:Nat):Int))
        cases h7:(c8 ((af s.kind.toNat).body) ((s.body.length:Nat):Int) 255) with
        | false=>
         refine bg (y:=.d (.v (.bool false))) (N':=[.gw 0 aj]) ((congrArg (fun b=>AV.d (.v (.bool b))) (by first | exact gA (by omega) | exact gx (by omega) (by omega) (by unfold fe;simp [h0,h1,h2,h3,h4,h5,h6,h7]<;>omega)))) (rfl) ?_
         exact bf tk mo hK rfl ao [(1,[(2,.b false),(6,.b false)]),(3,[(2,.ix (s.kind.toNat) [.v (.string ⟨((af s.kind.toNat).word).toArray⟩),.v (.bool ((af s.kind.toNat).node)),.v (.bool ((af s.kind.toNat).peer)),.v (.bool ((af s.kind.toNat).n)),.v (.bool ((af s.kind.toNat).bit)),.v (.bool false),.v (.bool ((af s.kind.toNat).body))])]),(4,[(4,.ax (.v (.bool true))),(10,.ax (.v (.bool true))),(17,.ax (.v (.bool true))),(24,.ax (.v (.bool true))),(31,.z (((s.body.length:Nat):Int))),(32,.ax (.v (.bool false)))])] 2000 [0] r (by kernel_rfl) (U h0 (U h1 (U ((by omega):(s.kind)=((s.kind.toNat:Nat):Int)) (U ((by omega):(s.kind.toNat)<14) (U u0 (U u1 (U u2 (U u3 (U u4 (U u5 (U ((by have k:=fb ((af s.kind.toNat).body) ((s.body.length:Nat):Int) 255;rw [h7] at k;exact k):al Tryz.prog 54 [.d (.v (.bool ((af s.kind.toNat).body))),.n s.body.length,.z 255] (.v (.bool false))) trivial)))))))))))
        | true=>
         have u6:=((by have k:=fb ((af s.kind.toNat).body) ((s.body.length:Nat):Int) 255;rw [h7] at k;exact k):al Tryz.prog 54 [.d (.v (.bool ((af s.kind.toNat).body))),.n s.body.length,.z 255] (.v (.bool true)))
         cases h8:((((s.inc:Nat):Int):Int)==0) with
         | false=>
          have fu:=ne_of_beq_false h8
          refine bg (y:=.d (.v (.bool false))) (N':=[.gw 0 aj]) ((congrArg (fun b=>AV.d (.v (.bool b))) (by first | exact gA (by omega) | exact gx (by omega) (by omega) (by unfold fe;simp [h0,h1,h2,h3,h4,h5,h6,h7,h8]<;>omega)))) (rfl) ?_
          exact bf tk mo hK rfl ao [(1,[(2,.b false),(6,.b false)]),(3,[(2,.ix (s.kind.toNat) [.v (.string ⟨((af s.kind.toNat).word).toArray⟩),.v (.bool ((af s.kind.toNat).node)),.v (.bool ((af s.kind.toNat).peer)),.v (.bool ((af s.kind.toNat).n)),.v (.bool ((af s.kind.toNat).bit)),.v (.bool false),.v (.bool ((af s.kind.toNat).body))])]),(4,[(4,.ax (.v (.bool true))),(10,.ax (.v (.bool true))),(17,.ax (.v (.bool true))),(24,.ax (.v (.bool true))),(31,.z (((s.body.length:Nat):Int))),(32,.ax (.v (.bool true))),(40,.b false)])] 2000 [0] r (by kernel_rfl) (U h0 (U h1 (U ((by omega):(s.kind)=((s.kind.toNat:Nat):Int)) (U ((by omega):(s.kind.toNat)<14) (U u0 (U u1 (U u2 (U u3 (U u4 (U u5 (U u6 (U h8 trivial))))))))))))
         | true=>
          have fu:=eq_of_beq h8
          refine bg (y:=.d (.v (.bool true))) (N':=[.gw 0 aj]) ((congrArg (fun b=>AV.d (.v (.bool b))) (by first | exact gA (by omega) | exact gx (by omega) (by omega) (by unfold fe;simp [h0,h1,h2,h3,h4,h5,h6,h7,h8]<;>omega)))) (rfl) ?_
          exact bf tk mo hK rfl ao [(1,[(2,.b false),(6,.b false)]),(3,[(2,.ix (s.kind.toNat) [.v (.string ⟨((af s.kind.toNat).word).toArray⟩),.v (.bool ((af s.kind.toNat).node)),.v (.bool ((af s.kind.toNat).peer)),.v (.bool ((af s.kind.toNat).n)),.v (.bool ((af s.kind.toNat).bit)),.v (.bool false),.v (.bool ((af s.kind.toNat).body))])]),(4,[(4,.ax (.v (.bool true))),(10,.ax (.v (.bool true))),(17,.ax (.v (.bool true))),(24,.ax (.v (.bool true))),(31,.z (((s.body.length:Nat):Int))),(32,.ax (.v (.bool true))),(40,.b true)])] 2000 [0] r (by kernel_rfl) (U h0 (U h1 (U ((by omega):(s.kind)=((s.kind.toNat:Nat):Int)) (U ((by omega):(s.kind.toNat)<14) (U u0 (U u1 (U u2 (U u3 (U u4 (U u5 (U u6 (U h8 trivial))))))))))))
   | true=>
    have u7:=((by rw [mH (by omega)];unfold jz.row;rw [h2]):List.take 7 (List.drop ((s.kind.toNat)*7) (aj:List DV))=([.v (.string ⟨((af s.kind.toNat).word).toArray⟩),.v (.bool ((af s.kind.toNat).node)),.v (.bool ((af s.kind.toNat).peer)),.v (.bool ((af s.kind.toNat).n)),.v (.bool ((af s.kind.toNat).bit)),.v (.bool true),.v (.bool ((af s.kind.toNat).body))]:List DV))
    cases h9:(c8 ((af s.kind.toNat).node) s.node 255) with
    | false=>
     refine bg (y:=.d (.v (.bool false))) (N':=[.gw 0 aj]) ((congrArg (fun b=>AV.d (.v (.bool b))) (by first | exact gA (by omega) | exact gx (by omega) (by omega) (by unfold fe;simp [h0,h1,h2,h9]<;>omega)))) (rfl) ?_
     exact bf tk mo hK rfl ao [(1,[(2,.b false),(6,.b false)]),(3,[(2,.ix (s.kind.toNat) [.v (.string ⟨((af s.kind.toNat).word).toArray⟩),.v (.bool ((af s.kind.toNat).node)),.v (.bool ((af s.kind.toNat).peer)),.v (.bool ((af s.kind.toNat).n)),.v (.bool ((af s.kind.toNat).bit)),.v (.bool true),.v (.bool ((af s.kind.toNat).body))])]),(4,[(4,.ax (.v (.bool false)))])] 2000 [0] r (by kernel_rfl) (U h0 (U h1 (U ((by omega):(s.kind)=((s.kind.toNat:Nat):Int)) (U ((by omega):(s.kind.toNat)<14) (U u7 (U ((by have k:=fb ((af s.kind.toNat).node) s.node 255;rw [h9] at k;exact k):al Tryz.prog 54 [.d (.v (.bool ((af s.kind.toNat).node))),.z s.node,.z 255] (.v (.bool false))) trivial))))))
    | true=>
     have u8:=((by have k:=fb ((af s.kind.toNat).node) s.node 255;rw [h9] at k;exact k):al Tryz.prog 54 [.d (.v (.bool ((af s.kind.toNat).node))),.z s.node,.z 255] (.v (.bool true)))
     cases cn:(c8 ((af s.kind.toNat).peer) s.peer 255) with
     | false=>
      refine bg (y:=.d (.v (.bool false))) (N':=[.gw 0 aj]) ((congrArg (fun b=>AV.d (.v (.bool b))) (by first | exact gA (by omega) | exact gx (by omega) (by omega) (by unfold fe;simp [h0,h1,h2,h9,cn]<;>omega)))) (rfl) ?_
      exact bf tk mo hK rfl ao [(1,[(2,.b false),(6,.b false)]),(3,[(2,.ix (s.kind.toNat) [.v (.string ⟨((af s.kind.toNat).word).toArray⟩),.v (.bool ((af s.kind.toNat).node)),.v (.bool ((af s.kind.toNat).peer)),.v (.bool ((af s.kind.toNat).n)),.v (.bool ((af s.kind.toNat).bit)),.v (.bool true),.v (.bool ((af s.kind.toNat).body))])]),(4,[(4,.ax (.v (.bool true))),(10,.ax (.v (.bool false)))])] 2000 [0] r (by kernel_rfl) (U h0 (U h1 (U ((by omega):(s.kind)=((s.kind.toNat:Nat):Int)) (U ((by omega):(s.kind.toNat)<14) (U u7 (U u8 (U ((by have k:=fb ((af s.kind.toNat).peer) s.peer 255;rw [cn] at k;exact k):al Tryz.prog 54 [.d (.v (.bool ((af s.kind.toNat).peer))),.z s.peer,.z 255] (.v (.bool false))) trivial)))))))
     | true=>
      have u9:=((by have k:=fb ((af s.kind.toNat).peer) s.peer 255;rw [cn] at k;exact k):al Tryz.prog 54 [.d (.v (.bool ((af s.kind.toNat).peer))),.z s.peer,.z 255] (.v (.bool true)))
      cases dN:(c8 ((af s.kind.toNat).n) s.n 255) with
      | false=>
       refine bg (y:=.d (.v (.bool false))) (N':=[.gw 0 aj]) ((congrArg (fun b=>AV.d (.v (.bool b))) (by first | exact gA (by omega) | exact gx (by omega) (by omega) (by unfold fe;simp [h0,h1,h2,h9,cn,dN]<;>omega)))) (rfl) ?_
       exact bf tk mo hK rfl ao [(1,[(2,.b false),(6,.b false)]),(3,[(2,.ix (s.kind.toNat) [.v (.string ⟨((af s.kind.toNat).word).toArray⟩),.v (.bool ((af s.kind.toNat).node)),.v (.bool ((af s.kind.toNat).peer)),.v (.bool ((af s.kind.toNat).n)),.v (.bool ((af s.kind.toNat).bit)),.v (.bool true),.v (.bool ((af s.kind.toNat).body))])]),(4,[(4,.ax (.v (.bool true))),(10,.ax (.v (.bool true))),(17,.ax (.v (.bool false)))])] 2000 [0] r (by kernel_rfl) (U h0 (U h1 (U ((by omega):(s.kind)=((s.kind.toNat:Nat):Int)) (U ((by omega):(s.kind.toNat)<14) (U u7 (U u8 (U u9 (U ((by have k:=fb ((af s.kind.toNat).n) s.n 255;rw [dN] at k;exact k):al Tryz.prog 54 [.d (.v (.bool ((af s.kind.toNat).n))),.z s.n,.z 255] (.v (.bool false))) trivial))))))))
      | true=>
       have gR:=((by have k:=fb ((af s.kind.toNat).n) s.n 255;rw [dN] at k;exact k):al Tryz.prog 54 [.d (.v (.bool ((af s.kind.toNat).n))),.z s.n,.z 255] (.v (.bool true)))
       cases c6:(c8 ((af s.kind.toNat).bit) s.bit 65535) with
       | false=>
        refine bg (y:=.d (.v (.bool false))) (N':=[.gw 0 aj]) ((congrArg (fun b=>AV.d (.v (.bool b))) (by first | exact gA (by omega) | exact gx (by omega) (by omega) (by unfold fe;simp [h0,h1,h2,h9,cn,dN,c6]<;>omega)))) (rfl) ?_
        exact bf tk mo hK rfl ao [(1,[(2,.b false),(6,.b false)]),(3,[(2,.ix (s.kind.toNat) [.v (.string ⟨((af s.kind.toNat).word).toArray⟩),.v (.bool ((af s.kind.toNat).node)),.v (.bool ((af s.kind.toNat).peer)),.v (.bool ((af s.kind.toNat).n)),.v (.bool ((af s.kind.toNat).bit)),.v (.bool true),.v (.bool ((af s.kind.toNat).body))])]),(4,[(4,.ax (.v (.bool true))),(10,.ax (.v (.bool true))),(17,.ax (.v (.bool true))),(24,.ax (.v (.bool false)))])] 2000 [0] r (by kernel_rfl) (U h0 (U h1 (U ((by omega):(s.kind)=((s.kind.toNat:Nat):Int)) (U ((by omega):(s.kind.toNat)<14) (U u7 (U u8 (U u9 (U gR (U ((by have k:=fb ((af s.kind.toNat).bit) s.bit 65535;rw [c6] at k;exact k):al Tryz.prog 54 [.d (.v (.bool ((af s.kind.toNat).bit))),.z s.bit,.z 65535] (.v (.bool false))) trivial)))))))))
       | true=>
        have nF:=((by have k:=fb ((af s.kind.toNat).bit) s.bit 65535;rw [c6] at k;exact k):al Tryz.prog 54 [.d (.v (.bool ((af s.kind.toNat).bit))),.z s.bit,.z 65535] (.v (.bool true)))
        have o7:=((by first | rfl | simp [ae,ah,ints,steps,strs]):(((ae s.body).length:Nat):Int)=((s.body.length:Nat):Int))
        cases dU:(c8 ((af s.kind.toNat).body) ((s.body.length:Nat):Int) 255) with
        | false=>
         refine bg (y:=.d (.v (.bool false))) (N':=[.gw 0 aj]) ((congrArg (fun b=>AV.d (.v (.bool b))) (by first | exact gA (by omega) | exact gx (by omega) (by omega) (by unfold fe;simp [h0,h1,h2,h9,cn,dN,c6,dU]<;>omega)))) (rfl) ?_
         exact bf tk mo hK rfl ao [(1,[(2,.b false),(6,.b false)]),(3,[(2,.ix (s.kind.toNat) [.v (.string ⟨((af s.kind.toNat).word).toArray⟩),.v (.bool ((af s.kind.toNat).node)),.v (.bool ((af s.kind.toNat).peer)),.v (.bool ((af s.kind.toNat).n)),.v (.bool ((af s.kind.toNat).bit)),.v (.bool true),.v (.bool ((af s.kind.toNat).body))])]),(4,[(4,.ax (.v (.bool true))),(10,.ax (.v (.bool true))),(17,.ax (.v (.bool true))),(24,.ax (.v (.bool true))),(31,.z (((s.body.length:Nat):Int))),(32,.ax (.v (.bool false)))])] 2000 [0] r (by kernel_rfl) (U h0 (U h1 (U ((by omega):(s.kind)=((s.kind.toNat:Nat):Int)) (U ((by omega):(s.kind.toNat)<14) (U u7 (U u8 (U u9 (U gR (U nF (U o7 (U ((by have k:=fb ((af s.kind.toNat).body) ((s.body.length:Nat):Int) 255;rw [dU] at k;exact k):al Tryz.prog 54 [.d (.v (.bool ((af s.kind.toNat).body))),.n s.body.length,.z 255] (.v (.bool false))) trivial)))))))))))
        | true=>
         refine bg (y:=.d (.v (.bool true))) (N':=[.gw 0 aj]) ((congrArg (fun b=>AV.d (.v (.bool b))) (by first | exact gA (by omega) | exact gx (by omega) (by omega) (by unfold fe;simp [h0,h1,h2,h9,cn,dN,c6,dU]<;>omega)))) (rfl) ?_
         exact bf tk mo hK rfl ao [(1,[(2,.b false),(6,.b false)]),(3,[(2,.ix (s.kind.toNat) [.v (.string ⟨((af s.kind.toNat).word).toArray⟩),.v (.bool ((af s.kind.toNat).node)),.v (.bool ((af s.kind.toNat).peer)),.v (.bool ((af s.kind.toNat).n)),.v (.bool ((af s.kind.toNat).bit)),.v (.bool true),.v (.bool ((af s.kind.toNat).body))])]),(4,[(4,.ax (.v (.bool true))),(10,.ax (.v (.bool true))),(17,.ax (.v (.bool true))),(24,.ax (.v (.bool true))),(31,.z (((s.body.length:Nat):Int))),(32,.ax (.v (.bool true)))])] 2000 [0] r (by kernel_rfl) (U h0 (U h1 (U ((by omega):(s.kind)=((s.kind.toNat:Nat):Int)) (U ((by omega):(s.kind.toNat)<14) (U u7 (U u8 (U u9 (U gR (U nF (U o7 (U ((by have k:=fb ((af s.kind.toNat).body) ((s.body.length:Nat):Int) 255;rw [dU] at k;exact k):al Tryz.prog 54 [.d (.v (.bool ((af s.kind.toNat).body))),.n s.body.length,.z 255] (.v (.bool true))) trivial)))))))))))
  | true=>
   have bO:=of_decide_eq_true h1
   refine bg (y:=.d (.v (.bool false))) (N':=[.gw 0 aj]) ((congrArg (fun b=>AV.d (.v (.bool b))) (by first | exact gA (by omega) | exact gx (by omega) (by omega) (by unfold fe;simp [h0,h1]<;>omega)))) (rfl) ?_
   exact bf tk mo hK rfl ao [(1,[(2,.b false),(6,.b true)])] 2000 [0] r (by kernel_rfl) (U h0 (U h1 trivial))
 | true=>
  have bo:=of_decide_eq_true h0
  refine bg (y:=.d (.v (.bool false))) (N':=[.gw 0 aj]) ((congrArg (fun b=>AV.d (.v (.bool b))) (by first | exact gA (by omega) | exact gx (by omega) (by omega) (by unfold fe;simp [h0]<;>omega)))) (rfl) ?_
  exact bf tk mo hK rfl ao [(1,[(2,.b true)])] 2000 [0] r (by kernel_rfl) (U h0 trivial)
end Go.Proofs.YtcnpikbbmbombaaGreatDoor
namespace Go.Proofs.YtcnpikbbmbombaaGreatDoor
open Go.RowKit
theorem HW {k:Nat} (h:k<14):(er k).length≤4:=lO (p:=fun k=>(er k).length≤4) (by decide) (by decide) (by decide) (by decide) (by decide) (by decide) (by decide) (by decide) (by decide) (by decide) (by decide) (by decide) (by decide) (by decide) h
theorem nP (k:Int):(fieldsOf k).length≤9223372036854775807:=by
 unfold fieldsOf;split
 ·have:=HW (k:=k.toNat) (by omega);omega
 ·decide
theorem Jf {k:Nat} (h:k<14):(er k==[45])=false:=lO (p:=fun k=>(er k==[45])=false) (by decide) (by decide) (by decide) (by decide) (by decide) (by decide) (by decide) (by decide) (by decide) (by decide) (by decide) (by decide) (by decide) (by decide) h
theorem EY {k:Nat} (h:k<14):a7 (er k) 110=(af k).node∧a7 (er k) 112=(af k).peer∧a7 (er k) 105=(af k).n∧a7 (er k) 98=(af k).bit∧a7 (er k) 99=(af k).inc∧a7 (er k) 116=(af k).body:=
 lO (p:=fun k=>a7 (er k) 110=(af k).node∧a7 (er k) 112=(af k).peer∧a7 (er k) 105=(af k).n∧a7 (er k) 98=(af k).bit∧a7 (er k) 99=(af k).inc∧a7 (er k) 116=(af k).body) (by decide) (by decide) (by decide) (by decide) (by decide) (by decide) (by decide) (by decide) (by decide) (by decide) (by decide) (by decide) (by decide) (by decide) h
def fo (s:aG):Bool:=bif fieldsOf s.kind==([45]:List UInt8) then false else (bif decide ((s.node:Int)<0) then false else (bif decide ((255:Int)<s.node) then false else (bif decide ((s.peer:Int)<0) then false else (bif decide ((255:Int)<s.peer) then false else (bif decide ((s.n:Int)<0) then false else (bif decide ((255:Int)<s.n) then false else (bif decide ((s.bit:Int)<0) then false else (bif decide ((65535:Int)<s.bit) then false else (bif decide ((255:Int)<((s.body.length:Nat):Int)) then false else (bif ((s.node:Int)==0||a7 (fieldsOf s.kind) 110) then (bif ((s.peer:Int)==0||a7 (fieldsOf s.kind) 112) then (bif ((s.n:Int)==0||a7 (fieldsOf s.kind) 105) then (bif ((s.bit:Int)==0||a7 (fieldsOf s.kind) 98) then (bif ((((s.inc:Nat):Int):Int)==0||a7 (fieldsOf s.kind) 99) then (((((s.body.length:Nat):Int):Int)==0||a7 (fieldsOf s.kind) 116)) else false) else false) else false) else false) else false))))))))))
theorem Ny (c y:Bool):(bif c then false else y)=(!c&&y):=by cases c<;>rfl
theorem Nz (c y:Bool):(bif c then y else false)=(c&&y):=by cases c<;>rfl
theorem fJ (s:aG):fo s=hasB s:=by
 unfold fo hasB
 by_cases hk:0≤s.kind∧s.kind<14
 ·obtain ⟨h1,h2⟩:=hk
  rw [qT h1 h2,Jf (by omega)]
  obtain ⟨e1,e2,e3,e4,e5,e6⟩:=EY (k:=s.kind.toNat) (by omega)
  rw [e1,e2,e3,e4,e5,e6,decide_eq_true h1,decide_eq_true h2]
  unfold fe c8
  generalize af s.kind.toNat=x
  simp only [Ny,Nz]
  rw [Bool.eq_iff_iff]
  simp only [Bool.not_false,Bool.true_and,Bool.and_eq_true,Bool.or_eq_true,decide_eq_true_eq,Bool.not_eq_true',decide_eq_false_iff_not,beq_iff_eq]
  cases x.node<;>cases x.peer<;>cases x.n<;>cases x.bit<;>cases x.inc<;>cases x.body<;>simp only [Bool.false_eq_true,false_and,or_false,true_and,or_true,and_true,true_or,false_or]<;>omega
 ·rw [qV (by omega)]
  have:(decide (0≤s.kind)&&decide (s.kind<14))=false:=by simp;omega
  rw [show (decide (0≤s.kind)&&(decide (s.kind<14)&&fe s (af s.kind.toNat)))=false by rw [← Bool.and_assoc,this];rfl];rfl
set_option maxRecDepth 100000 in
theorem zU (s:aG) (hb:s.body.length≤9223372036854775807):al Tryz.prog 30 [.ag [.z s.kind,.z s.node,.z s.peer,.z s.n,.z s.bit,.u s.inc,.d (.ro 1 (ae s.body))]] (.v (.bool (hasB s))):=by
 refine al.intro (by kernel_rfl) rfl rfl 108 rfl rfl fun w0 K ac hK r=>?_
 cases h0:((fieldsOf s.kind)==([45]:List UInt8)) with
 | false=>
  cases h1:(decide ((s.node:Int)<0)) with
  | false=>
   have bO:=of_decide_eq_false h1
   cases h2:(decide ((255:Int)<s.node)) with
   | false=>
    have cQ:=of_decide_eq_false h2
    cases h3:(decide ((s.peer:Int)<0)) with
    | false=>
     have dB:=of_decide_eq_false h3
     cases h4:(decide ((255:Int)<s.peer)) with
     | false=>
      have eM:=of_decide_eq_false h4
      cases h5:(decide ((s.n:Int)<0)) with
      | false=>
       have eO:=of_decide_eq_false h5
       cases h6:(decide ((255:Int)<s.n)) with
       | false=>
        have fX:=of_decide_eq_false h6
        cases h7:(decide ((s.bit:Int)<0)) with
        | false=>
         have dT:=of_decide_eq_false h7
         cases h8:(decide ((65535:Int)<s.bit)) with
         | false=>
          have fu:=of_decide_eq_false h8
          have u0:=((by first | rfl | simp [ae,ah,ints,steps,strs]):(((ae s.body).length:Nat):Int)=((s.body.length:Nat):Int))
          cases h9:(decide ((255:Int)<((s.body.length:Nat):Int))) with
          | false=>
           have kB:=of_decide_eq_false h9
           have u1:=(o2 _:(fB (Value.bool ((s.node:Int)==0))==some false)=(!((s.node:Int)==0)))
           have u2:=(fun hc=>⟨(by rw [hc];exact n8 (fieldsOf s.kind) 110 (nP _)),trivial⟩:(!((s.node:Int)==0))=true→(al Tryz.prog 60 [.d (.v (bif (!((s.node:Int)==0)) then ((.string ⟨(fieldsOf s.kind).toArray⟩)) else undef)),.d (.v (.int .u8 110))] (.v (.bool ((a7 (fieldsOf s.kind) 110)))))∧True)
           cases cn:((((s.node:Int)==0)||(a7 (fieldsOf s.kind) 110))) with
           | false=>
            rw [show (.v (.bool (hasB s)):DV)=.v (.bool false) from (bv (by rw [← fJ];unfold fo;simp only [cond_true,cond_false,h0,h1,h2,h3,h4,h5,h6,h7,h8,h9,cn]))]
            exact aH tk mo hK rfl [(1,[(2,.ax (.v (.string ⟨(fieldsOf s.kind).toArray⟩)))]),(2,[(1,.b false),(5,.b false),(10,.b false),(15,.b false),(20,.b false),(25,.b false),(30,.b false),(35,.b false),(40,.b false),(45,.z (((s.body.length:Nat):Int))),(46,.b false)]),(4,[(4,.may (!((s.node:Int)==0)) (.n 0)),(5,.may (!((s.node:Int)==0)) (.ax (.v (.bool ((a7 (fieldsOf s.kind) 110)))))),(6,.res (.v (.bool false)))])] 2000 r (by kernel_rfl) (U (de s.kind) (U h0 (U h1 (U h2 (U h3 (U h4 (U h5 (U h6 (U h7 (U h8 (U u0 (U h9 (U u1 (U (fun hc=>trivial:(!((s.node:Int)==0))=true→True) (U u1 (U u2 (U ((by have k:=jm ((s.node:Int)==0) (a7 (fieldsOf s.kind) 110);rw [cn] at k;exact k):∃ b0:Bool,(Value.bool ((s.node:Int)==0))=.bool b0∧(bif b0 then Value.bool true else (bif (!((s.node:Int)==0)) then Value.bool (a7 (fieldsOf s.kind) 110) else undef))=.bool false) trivial)))))))))))))))))
           | true=>
            have u3:=((by have k:=jm ((s.node:Int)==0) (a7 (fieldsOf s.kind) 110);rw [cn] at k;exact k):∃ b0:Bool,(Value.bool ((s.node:Int)==0))=.bool b0∧(bif b0 then Value.bool true else (bif (!((s.node:Int)==0)) then Value.bool (a7 (fieldsOf s.kind) 110) else undef))=.bool true)
            have u4:=(o2 _:(fB (Value.bool ((s.peer:Int)==0))==some false)=(!((s.peer:Int)==0)))
            have u5:=(fun hc=>⟨(by rw [hc];exact n8 (fieldsOf s.kind) 112 (nP _)),trivial⟩:(!((s.peer:Int)==0))=true→(al Tryz.prog 60 [.d (.v (bif (!((s.peer:Int)==0)) then ((.string ⟨(fieldsOf s.kind).toArray⟩)) else undef)),.d (.v (.int .u8 112))] (.v (.bool ((a7 (fieldsOf s.kind) 112)))))∧True)
            cases dN:((((s.peer:Int)==0)||(a7 (fieldsOf s.kind) 112))) with
            | false=>
             rw [show (.v (.bool (hasB s)):DV)=.v (.bool false) from (bv (by rw [← fJ];unfold fo;simp only [cond_true,cond_false,h0,h1,h2,h3,h4,h5,h6,h7,h8,h9,cn,dN]))]
             exact aH tk mo hK rfl [(1,[(2,.ax (.v (.string ⟨(fieldsOf s.kind).toArray⟩)))]),(2,[(1,.b false),(5,.b false),(10,.b false),(15,.b false),(20,.b false),(25,.b false),(30,.b false),(35,.b false),(40,.b false),(45,.z (((s.body.length:Nat):Int))),(46,.b false)]),(4,[(4,.may (!((s.node:Int)==0)) (.n 0)),(5,.may (!((s.node:Int)==0)) (.ax (.v (.bool ((a7 (fieldsOf s.kind) 110)))))),(6,.res (.v (.bool true))),(12,.may (!((s.peer:Int)==0)) (.n 0)),(13,.may (!((s.peer:Int)==0)) (.ax (.v (.bool ((a7 (fieldsOf s.kind) 112)))))),(14,.res (.v (.bool false)))])] 2000 r (by kernel_rfl) (U (de s.kind) (U h0 (U h1 (U h2 (U h3 (U h4 (U h5 (U h6 (U h7 (U h8 (U u0 (U h9 (U u1 (U (fun hc=>trivial:(!((s.node:Int)==0))=true→True) (U u1 (U u2 (U u3 (U u4 (U (fun hc=>trivial:(!((s.peer:Int)==0))=true→True) (U u4 (U u5 (U ((by have k:=jm ((s.peer:Int)==0) (a7 (fieldsOf s.kind) 112);rw [dN] at k;exact k):∃ b0:Bool,(Value.bool ((s.peer:Int)==0))=.bool b0∧(bif b0 then Value.bool true else (bif (!((s.peer:Int)==0)) then Value.bool (a7 (fieldsOf s.kind) 112) else undef))=.bool false) trivial))))))))))))))))))))))
            | true=>
             have u6:=((by have k:=jm ((s.peer:Int)==0) (a7 (fieldsOf s.kind) 112);rw [dN] at k;exact k):∃ b0:Bool,(Value.bool ((s.peer:Int)==0))=.bool b0∧(bif b0 then Value.bool true else (bif (!((s.peer:Int)==0)) then Value.bool (a7 (fieldsOf s.kind) 112) else undef))=.bool true)
             have u7:=(o2 _:(fB (Value.bool ((s.n:Int)==0))==some false)=(!((s.n:Int)==0)))
             have u8:=(fun hc=>⟨(by rw [hc];exact n8 (fieldsOf s.kind) 105 (nP _)),trivial⟩:(!((s.n:Int)==0))=true→(al Tryz.prog 60 [.d (.v (bif (!((s.n:Int)==0)) then ((.string ⟨(fieldsOf s.kind).toArray⟩)) else undef)),.d (.v (.int .u8 105))] (.v (.bool ((a7 (fieldsOf s.kind) 105)))))∧True)
             cases c6:((((s.n:Int)==0)||(a7 (fieldsOf s.kind) 105))) with
             | false=>
              rw [show (.v (.bool (hasB s)):DV)=.v (.bool false) from (bv (by rw [← fJ];unfold fo;simp only [cond_true,cond_false,h0,h1,h2,h3,h4,h5,h6,h7,h8,h9,cn,dN,c6]))]
              exact aH tk mo hK rfl [(1,[(2,.ax (.v (.string ⟨(fieldsOf s.kind).toArray⟩)))]),(2,[(1,.b false),(5,.b false),(10,.b false),(15,.b false),(20,.b false),(25,.b false),(30,.b false),(35,.b false),(40,.b false),(45,.z (((s.body.length:Nat):Int))),(46,.b false)]),(4,[(4,.may (!((s.node:Int)==0)) (.n 0)),(5,.may (!((s.node:Int)==0)) (.ax (.v (.bool ((a7 (fieldsOf s.kind) 110)))))),(6,.res (.v (.bool true))),(12,.may (!((s.peer:Int)==0)) (.n 0)),(13,.may (!((s.peer:Int)==0)) (.ax (.v (.bool ((a7 (fieldsOf s.kind) 112)))))),(14,.res (.v (.bool true))),(21,.may (!((s.n:Int)==0)) (.n 0)),(22,.may (!((s.n:Int)==0)) (.ax (.v (.bool ((a7 (fieldsOf s.kind) 105)))))),(23,.res (.v (.bool false)))])] 2000 r (by kernel_rfl) (U (de s.kind) (U h0 (U h1 (U h2 (U h3 (U h4 (U h5 (U h6 (U h7 (U h8 (U u0 (U h9 (U u1 (U (fun hc=>trivial:(!((s.node:Int)==0))=true→True) (U u1 (U u2 (U u3 (U u4 (U (fun hc=>trivial:(!((s.peer:Int)==0))=true→True) (U u4 (U u5 (U u6 (U u7 (U (fun hc=>trivial:(!((s.n:Int)==0))=true→True) (U u7 (U u8 (U ((by have k:=jm ((s.n:Int)==0) (a7 (fieldsOf s.kind) 105);rw [c6] at k;exact k):∃ b0:Bool,(Value.bool ((s.n:Int)==0))=.bool b0∧(bif b0 then Value.bool true else (bif (!((s.n:Int)==0)) then Value.bool (a7 (fieldsOf s.kind) 105) else undef))=.bool false) trivial)))))))))))))))))))))))))))
             | true=>
              have u9:=((by have k:=jm ((s.n:Int)==0) (a7 (fieldsOf s.kind) 105);rw [c6] at k;exact k):∃ b0:Bool,(Value.bool ((s.n:Int)==0))=.bool b0∧(bif b0 then Value.bool true else (bif (!((s.n:Int)==0)) then Value.bool (a7 (fieldsOf s.kind) 105) else undef))=.bool true)
              have gR:=(o2 _:(fB (Value.bool ((s.bit:Int)==0))==some false)=(!((s.bit:Int)==0)))
              have nF:=(fun hc=>⟨(by rw [hc];exact n8 (fieldsOf s.kind) 98 (nP _)),trivial⟩:(!((s.bit:Int)==0))=true→(al Tryz.prog 60 [.d (.v (bif (!((s.bit:Int)==0)) then ((.string ⟨(fieldsOf s.kind).toArray⟩)) else undef)),.d (.v (.int .u8 98))] (.v (.bool ((a7 (fieldsOf s.kind) 98)))))∧True)
              cases dU:((((s.bit:Int)==0)||(a7 (fieldsOf s.kind) 98))) with
              | false=>
               rw [show (.v (.bool (hasB s)):DV)=.v (.bool false) from (bv (by rw [← fJ];unfold fo;simp only [cond_true,cond_false,h0,h1,h2,h3,h4,h5,h6,h7,h8,h9,cn,dN,c6,dU]))]
               exact aH tk mo hK rfl [(1,[(2,.ax (.v (.string ⟨(fieldsOf s.kind).toArray⟩)))]),(2,[(1,.b false),(5,.b false),(10,.b false),(15,.b false),(20,.b false),(25,.b false),(30,.b false),(35,.b false),(40,.b false),(45,.z (((s.body.length:Nat):Int))),(46,.b false)]),(4,[(4,.may (!((s.node:Int)==0)) (.n 0)),(5,.may (!((s.node:Int)==0)) (.ax (.v (.bool ((a7 (fieldsOf s.kind) 110)))))),(6,.res (.v (.bool true))),(12,.may (!((s.peer:Int)==0)) (.n 0)),(13,.may (!((s.peer:Int)==0)) (.ax (.v (.bool ((a7 (fieldsOf s.kind) 112)))))),(14,.res (.v (.bool true))),(21,.may (!((s.n:Int)==0)) (.n 0)),(22,.may (!((s.n:Int)==0)) (.ax (.v (.bool ((a7 (fieldsOf s.kind) 105)))))),(23,.res (.v (.bool true))),(30,.may (!((s.bit:Int)==0)) (.n 0)),(31,.may (!((s.bit:Int)==0)) (.ax (.v (.bool ((a7 (fieldsOf s.kind) 98)))))),(32,.res (.v (.bool false)))])] 2000 r (by kernel_rfl) (U (de s.kind) (U h0 (U h1 (U h2 (U h3 (U h4 (U h5 (U h6 (U h7 (U h8 (U u0 (U h9 (U u1 (U (fun hc=>trivial:(!((s.node:Int)==0))=true→True) (U u1 (U u2 (U u3 (U u4 (U (fun hc=>trivial:(!((s.peer:Int)==0))=true→True) (U u4 (U u5 (U u6 (U u7 (U (fun hc=>trivial:(!((s.n:Int)==0))=true→True) (U u7 (U u8 (U u9 (U gR (U (fun hc=>trivial:(!((s.bit:Int)==0))=true→True) (U gR (U nF (U ((by have k:=jm ((s.bit:Int)==0) (a7 (fieldsOf s.kind) 98);rw [dU] at k;exact k):∃ b0:Bool,(Value.bool ((s.bit:Int)==0))=.bool b0∧(bif b0 then Value.bool true else (bif (!((s.bit:Int)==0)) then Value.bool (a7 (fieldsOf s.kind) 98) else undef))=.bool false) trivial))))))))))))))))))))))))))))))))
              | true=>
               have o7:=((by have k:=jm ((s.bit:Int)==0) (a7 (fieldsOf s.kind) 98);rw [dU] at k;exact k):∃ b0:Bool,(Value.bool ((s.bit:Int)==0))=.bool b0∧(bif b0 then Value.bool true else (bif (!((s.bit:Int)==0)) then Value.bool (a7 (fieldsOf s.kind) 98) else undef))=.bool true)
               have o8:=(o2 _:(fB (Value.bool ((((s.inc:Nat):Int):Int)==0))==some false)=(!((((s.inc:Nat):Int):Int)==0)))
               have ym:=(fun hc=>trivial:(!((((s.inc:Nat):Int):Int)==0))=true→True)
               have yn:=(fun hc=>⟨(by rw [hc];exact n8 (fieldsOf s.kind) 99 (nP _)),trivial⟩:(!((((s.inc:Nat):Int):Int)==0))=true→(al Tryz.prog 60 [.d (.v (bif (!((((s.inc:Nat):Int):Int)==0)) then ((.string ⟨(fieldsOf s.kind).toArray⟩)) else undef)),.d (.v (.int .u8 99))] (.v (.bool ((a7 (fieldsOf s.kind) 99)))))∧True)
               cases ir:((((((s.inc:Nat):Int):Int)==0)||(a7 (fieldsOf s.kind) 99))) with
               | false=>
                rw [show (.v (.bool (hasB s)):DV)=.v (.bool false) from (bv (by rw [← fJ];unfold fo;simp only [cond_true,cond_false,h0,h1,h2,h3,h4,h5,h6,h7,h8,h9,cn,dN,c6,dU,ir]))]
                exact aH tk mo hK rfl [(1,[(2,.ax (.v (.string ⟨(fieldsOf s.kind).toArray⟩)))]),(2,[(1,.b false),(5,.b false),(10,.b false),(15,.b false),(20,.b false),(25,.b false),(30,.b false),(35,.b false),(40,.b false),(45,.z (((s.body.length:Nat):Int))),(46,.b false)]),(4,[(4,.may (!((s.node:Int)==0)) (.n 0)),(5,.may (!((s.node:Int)==0)) (.ax (.v (.bool ((a7 (fieldsOf s.kind) 110)))))),(6,.res (.v (.bool true))),(12,.may (!((s.peer:Int)==0)) (.n 0)),(13,.may (!((s.peer:Int)==0)) (.ax (.v (.bool ((a7 (fieldsOf s.kind) 112)))))),(14,.res (.v (.bool true))),(21,.may (!((s.n:Int)==0)) (.n 0)),(22,.may (!((s.n:Int)==0)) (.ax (.v (.bool ((a7 (fieldsOf s.kind) 105)))))),(23,.res (.v (.bool true))),(30,.may (!((s.bit:Int)==0)) (.n 0)),(31,.may (!((s.bit:Int)==0)) (.ax (.v (.bool ((a7 (fieldsOf s.kind) 98)))))),(32,.res (.v (.bool true))),(39,.may (!((((s.inc:Nat):Int):Int)==0)) (.n 0)),(40,.may (!((((s.inc:Nat):Int):Int)==0)) (.ax (.v (.bool ((a7 (fieldsOf s.kind) 99)))))),(41,.res (.v (.bool false)))])] 2000 r (by kernel_rfl) (U (de s.kind) (U h0 (U h1 (U h2 (U h3 (U h4 (U h5 (U h6 (U h7 (U h8 (U u0 (U h9 (U u1 (U (fun hc=>trivial:(!((s.node:Int)==0))=true→True) (U u1 (U u2 (U u3 (U u4 (U (fun hc=>trivial:(!((s.peer:Int)==0))=true→True) (U u4 (U u5 (U u6 (U u7 (U (fun hc=>trivial:(!((s.n:Int)==0))=true→True) (U u7 (U u8 (U u9 (U gR (U (fun hc=>trivial:(!((s.bit:Int)==0))=true→True) (U gR (U nF (U o7 (U o8 (U ym (U o8 (U yn (U ((by have k:=jm ((((s.inc:Nat):Int):Int)==0) (a7 (fieldsOf s.kind) 99);rw [ir] at k;exact k):∃ b0:Bool,(Value.bool ((((s.inc:Nat):Int):Int)==0))=.bool b0∧(bif b0 then Value.bool true else (bif (!((((s.inc:Nat):Int):Int)==0)) then Value.bool (a7 (fieldsOf s.kind) 99) else undef))=.bool false) trivial)))))))))))))))))))))))))))))))))))))
               | true=>
                have u16:=((by have k:=jm ((((s.inc:Nat):Int):Int)==0) (a7 (fieldsOf s.kind) 99);rw [ir] at k;exact k):∃ b0:Bool,(Value.bool ((((s.inc:Nat):Int):Int)==0))=.bool b0∧(bif b0 then Value.bool true else (bif (!((((s.inc:Nat):Int):Int)==0)) then Value.bool (a7 (fieldsOf s.kind) 99) else undef))=.bool true)
                have td:=(o2 _:(fB (Value.bool ((((s.body.length:Nat):Int):Int)==0))==some false)=(!((((s.body.length:Nat):Int):Int)==0)))
                have CV:=(fun hc=>trivial:(!((((s.body.length:Nat):Int):Int)==0))=true→True)
                have CW:=(fun hc=>⟨(by rw [hc];exact n8 (fieldsOf s.kind) 116 (nP _)),trivial⟩:(!((((s.body.length:Nat):Int):Int)==0))=true→(al Tryz.prog 60 [.d (.v (bif (!((((s.body.length:Nat):Int):Int)==0)) then ((.string ⟨(fieldsOf s.kind).toArray⟩)) else undef)),.d (.v (.int .u8 116))] (.v (.bool ((a7 (fieldsOf s.kind) 116)))))∧True)
                cases lx:((((((s.body.length:Nat):Int):Int)==0)||(a7 (fieldsOf s.kind) 116))) with
                | false=>
                 rw [show (.v (.bool (hasB s)):DV)=.v (.bool false) from (bv (by rw [← fJ];unfold fo;simp only [cond_true,cond_false,h0,h1,h2,h3,h4,h5,h6,h7,h8,h9,cn,dN,c6,dU,ir,lx]))]
                 exact aH tk mo hK rfl [(1,[(2,.ax (.v (.string ⟨(fieldsOf s.kind).toArray⟩)))]),(2,[(1,.b false),(5,.b false),(10,.b false),(15,.b false),(20,.b false),(25,.b false),(30,.b false),(35,.b false),(40,.b false),(45,.z (((s.body.length:Nat):Int))),(46,.b false)]),(4,[(4,.may (!((s.node:Int)==0)) (.n 0)),(5,.may (!((s.node:Int)==0)) (.ax (.v (.bool ((a7 (fieldsOf s.kind) 110)))))),(6,.res (.v (.bool true))),(12,.may (!((s.peer:Int)==0)) (.n 0)),(13,.may (!((s.peer:Int)==0)) (.ax (.v (.bool ((a7 (fieldsOf s.kind) 112)))))),(14,.res (.v (.bool true))),(21,.may (!((s.n:Int)==0)) (.n 0)),(22,.may (!((s.n:Int)==0)) (.ax (.v (.bool ((a7 (fieldsOf s.kind) 105)))))),(23,.res (.v (.bool true))),(30,.may (!((s.bit:Int)==0)) (.n 0)),(31,.may (!((s.bit:Int)==0)) (.ax (.v (.bool ((a7 (fieldsOf s.kind) 98)))))),(32,.res (.v (.bool true))),(39,.may (!((((s.inc:Nat):Int):Int)==0)) (.n 0)),(40,.may (!((((s.inc:Nat):Int):Int)==0)) (.ax (.v (.bool ((a7 (fieldsOf s.kind) 99)))))),(41,.res (.v (.bool true))),(46,.z (((s.body.length:Nat):Int))),(49,.may (!((((s.body.length:Nat):Int):Int)==0)) (.n 0)),(50,.may (!((((s.body.length:Nat):Int):Int)==0)) (.ax (.v (.bool ((a7 (fieldsOf s.kind) 116)))))),(51,.res (.v (.bool false)))])] 2000 r (by kernel_rfl) (U (de s.kind) (U h0 (U h1 (U h2 (U h3 (U h4 (U h5 (U h6 (U h7 (U h8 (U u0 (U h9 (U u1 (U (fun hc=>trivial:(!((s.node:Int)==0))=true→True) (U u1 (U u2 (U u3 (U u4 (U (fun hc=>trivial:(!((s.peer:Int)==0))=true→True) (U u4 (U u5 (U u6 (U u7 (U (fun hc=>trivial:(!((s.n:Int)==0))=true→True) (U u7 (U u8 (U u9 (U gR (U (fun hc=>trivial:(!((s.bit:Int)==0))=true→True) (U gR (U nF (U o7 (U o8 (U ym (U o8 (U yn (U u16 (U u0 (U td (U CV (U td (U CW (U ((by have k:=jm ((((s.body.length:Nat):Int):Int)==0) (a7 (fieldsOf s.kind) 116);rw [lx] at k;exact k):∃ b0:Bool,(Value.bool ((((s.body.length:Nat):Int):Int)==0))=.bool b0∧(bif b0 then Value.bool true else (bif (!((((s.body.length:Nat):Int):Int)==0)) then Value.bool (a7 (fieldsOf s.kind) 116) else undef))=.bool false) trivial)))))))))))))))))))))))))))))))))))))))))))
                | true=>
                 rw [show (.v (.bool (hasB s)):DV)=.v (.bool true) from (bv (by rw [← fJ];unfold fo;simp only [cond_true,cond_false,h0,h1,h2,h3,h4,h5,h6,h7,h8,h9,cn,dN,c6,dU,ir,lx]))]
                 exact aH tk mo hK rfl [(1,[(2,.ax (.v (.string ⟨(fieldsOf s.kind).toArray⟩)))]),(2,[(1,.b false),(5,.b false),(10,.b false),(15,.b false),(20,.b false),(25,.b false),(30,.b false),(35,.b false),(40,.b false),(45,.z (((s.body.length:Nat):Int))),(46,.b false)]),(4,[(4,.may (!((s.node:Int)==0)) (.n 0)),(5,.may (!((s.node:Int)==0)) (.ax (.v (.bool ((a7 (fieldsOf s.kind) 110)))))),(6,.res (.v (.bool true))),(12,.may (!((s.peer:Int)==0)) (.n 0)),(13,.may (!((s.peer:Int)==0)) (.ax (.v (.bool ((a7 (fieldsOf s.kind) 112)))))),(14,.res (.v (.bool true))),(21,.may (!((s.n:Int)==0)) (.n 0)),(22,.may (!((s.n:Int)==0)) (.ax (.v (.bool ((a7 (fieldsOf s.kind) 105)))))),(23,.res (.v (.bool true))),(30,.may (!((s.bit:Int)==0)) (.n 0)),(31,.may (!((s.bit:Int)==0)) (.ax (.v (.bool ((a7 (fieldsOf s.kind) 98)))))),(32,.res (.v (.bool true))),(39,.may (!((((s.inc:Nat):Int):Int)==0)) (.n 0)),(40,.may (!((((s.inc:Nat):Int):Int)==0)) (.ax (.v (.bool ((a7 (fieldsOf s.kind) 99)))))),(41,.res (.v (.bool true))),(46,.z (((s.body.length:Nat):Int))),(49,.may (!((((s.body.length:Nat):Int):Int)==0)) (.n 0)),(50,.may (!((((s.body.length:Nat):Int):Int)==0)) (.ax (.v (.bool ((a7 (fieldsOf s.kind) 116)))))),(51,.res (.v (.bool true)))])] 2000 r (by kernel_rfl) (U (de s.kind) (U h0 (U h1 (U h2 (U h3 (U h4 (U h5 (U h6 (U h7 (U h8 (U u0 (U h9 (U u1 (U (fun hc=>trivial:(!((s.node:Int)==0))=true→True) (U u1 (U u2 (U u3 (U u4 (U (fun hc=>trivial:(!((s.peer:Int)==0))=true→True) (U u4 (U u5 (U u6 (U u7 (U (fun hc=>trivial:(!((s.n:Int)==0))=true→True) (U u7 (U u8 (U u9 (U gR (U (fun hc=>trivial:(!((s.bit:Int)==0))=true→True) (U gR (U nF (U o7 (U o8 (U ym (U o8 (U yn (U u16 (U u0 (U td (U CV (U td (U CW (U ((by have k:=jm ((((s.body.length:Nat):Int):Int)==0) (a7 (fieldsOf s.kind) 116);rw [lx] at k;exact k):∃ b0:Bool,(Value.bool ((((s.body.length:Nat):Int):Int)==0))=.bool b0∧(bif b0 then Value.bool true else (bif (!((((s.body.length:Nat):Int):Int)==0)) then Value.bool (a7 (fieldsOf s.kind) 116) else undef))=.bool true) trivial)))))))))))))))))))))))))))))))))))))))))))
          | true=>
           have kB:=of_decide_eq_true h9
           rw [show (.v (.bool (hasB s)):DV)=.v (.bool false) from (bv (by rw [← fJ];unfold fo;simp only [cond_true,cond_false,h0,h1,h2,h3,h4,h5,h6,h7,h8,h9]))]
           exact aH tk mo hK rfl [(1,[(2,.ax (.v (.string ⟨(fieldsOf s.kind).toArray⟩)))]),(2,[(1,.b false),(5,.b false),(10,.b false),(15,.b false),(20,.b false),(25,.b false),(30,.b false),(35,.b false),(40,.b false),(45,.z (((s.body.length:Nat):Int))),(46,.b true)])] 2000 r (by kernel_rfl) (U (de s.kind) (U h0 (U h1 (U h2 (U h3 (U h4 (U h5 (U h6 (U h7 (U h8 (U u0 (U h9 trivial))))))))))))
         | true=>
          have fu:=of_decide_eq_true h8
          rw [show (.v (.bool (hasB s)):DV)=.v (.bool false) from (bv (by rw [← fJ];unfold fo;simp only [cond_true,cond_false,h0,h1,h2,h3,h4,h5,h6,h7,h8]))]
          exact aH tk mo hK rfl [(1,[(2,.ax (.v (.string ⟨(fieldsOf s.kind).toArray⟩)))]),(2,[(1,.b false),(5,.b false),(10,.b false),(15,.b false),(20,.b false),(25,.b false),(30,.b false),(35,.b false),(40,.b true)])] 2000 r (by kernel_rfl) (U (de s.kind) (U h0 (U h1 (U h2 (U h3 (U h4 (U h5 (U h6 (U h7 (U h8 trivial))))))))))
        | true=>
         have dT:=of_decide_eq_true h7
         rw [show (.v (.bool (hasB s)):DV)=.v (.bool false) from (bv (by rw [← fJ];unfold fo;simp only [cond_true,cond_false,h0,h1,h2,h3,h4,h5,h6,h7]))]
         exact aH tk mo hK rfl [(1,[(2,.ax (.v (.string ⟨(fieldsOf s.kind).toArray⟩)))]),(2,[(1,.b false),(5,.b false),(10,.b false),(15,.b false),(20,.b false),(25,.b false),(30,.b false),(35,.b true)])] 2000 r (by kernel_rfl) (U (de s.kind) (U h0 (U h1 (U h2 (U h3 (U h4 (U h5 (U h6 (U h7 trivial)))))))))
       | true=>
        have fX:=of_decide_eq_true h6
        rw [show (.v (.bool (hasB s)):DV)=.v (.bool false) from (bv (by rw [← fJ];unfold fo;simp only [cond_true,cond_false,h0,h1,h2,h3,h4,h5,h6]))]
        exact aH tk mo hK rfl [(1,[(2,.ax (.v (.string ⟨(fieldsOf s.kind).toArray⟩)))]),(2,[(1,.b false),(5,.b false),(10,.b false),(15,.b false),(20,.b false),(25,.b false),(30,.b true)])] 2000 r (by kernel_rfl) (U (de s.kind) (U h0 (U h1 (U h2 (U h3 (U h4 (U h5 (U h6 trivial))))))))
      | true=>
       have eO:=of_decide_eq_true h5
       rw [show (.v (.bool (hasB s)):DV)=.v (.bool false) from (bv (by rw [← fJ];unfold fo;simp only [cond_true,cond_false,h0,h1,h2,h3,h4,h5]))]
       exact aH tk mo hK rfl [(1,[(2,.ax (.v (.string ⟨(fieldsOf s.kind).toArray⟩)))]),(2,[(1,.b false),(5,.b false),(10,.b false),(15,.b false),(20,.b false),(25,.b true)])] 2000 r (by kernel_rfl) (U (de s.kind) (U h0 (U h1 (U h2 (U h3 (U h4 (U h5 trivial)))))))
     | true=>
      have eM:=of_decide_eq_true h4
      rw [show (.v (.bool (hasB s)):DV)=.v (.bool false) from (bv (by rw [← fJ];unfold fo;simp only [cond_true,cond_false,h0,h1,h2,h3,h4]))]
      exact aH tk mo hK rfl [(1,[(2,.ax (.v (.string ⟨(fieldsOf s.kind).toArray⟩)))]),(2,[(1,.b false),(5,.b false),(10,.b false),(15,.b false),(20,.b true)])] 2000 r (by kernel_rfl) (U (de s.kind) (U h0 (U h1 (U h2 (U h3 (U h4 trivial))))))
    | true=>
     have dB:=of_decide_eq_true h3
     rw [show (.v (.bool (hasB s)):DV)=.v (.bool false) from (bv (by rw [← fJ];unfold fo;simp only [cond_true,cond_false,h0,h1,h2,h3]))]
     exact aH tk mo hK rfl [(1,[(2,.ax (.v (.string ⟨(fieldsOf s.kind).toArray⟩)))]),(2,[(1,.b false),(5,.b false),(10,.b false),(15,.b true)])] 2000 r (by kernel_rfl) (U (de s.kind) (U h0 (U h1 (U h2 (U h3 trivial)))))
   | true=>
    have cQ:=of_decide_eq_true h2
    rw [show (.v (.bool (hasB s)):DV)=.v (.bool false) from (bv (by rw [← fJ];unfold fo;simp only [cond_true,cond_false,h0,h1,h2]))]
    exact aH tk mo hK rfl [(1,[(2,.ax (.v (.string ⟨(fieldsOf s.kind).toArray⟩)))]),(2,[(1,.b false),(5,.b false),(10,.b true)])] 2000 r (by kernel_rfl) (U (de s.kind) (U h0 (U h1 (U h2 trivial))))
  | true=>
   have bO:=of_decide_eq_true h1
   rw [show (.v (.bool (hasB s)):DV)=.v (.bool false) from (bv (by rw [← fJ];unfold fo;simp only [cond_true,cond_false,h0,h1]))]
   exact aH tk mo hK rfl [(1,[(2,.ax (.v (.string ⟨(fieldsOf s.kind).toArray⟩)))]),(2,[(1,.b false),(5,.b true)])] 2000 r (by kernel_rfl) (U (de s.kind) (U h0 (U h1 trivial)))
 | true=>
  rw [show (.v (.bool (hasB s)):DV)=.v (.bool false) from (bv (by rw [← fJ];unfold fo;simp only [cond_true,cond_false,h0]))]
  exact aH tk mo hK rfl [(1,[(2,.ax (.v (.string ⟨(fieldsOf s.kind).toArray⟩)))]),(2,[(1,.b true)])] 2000 r (by kernel_rfl) (U (de s.kind) (U h0 trivial))
end Go.Proofs.YtcnpikbbmbombaaGreatDoor
