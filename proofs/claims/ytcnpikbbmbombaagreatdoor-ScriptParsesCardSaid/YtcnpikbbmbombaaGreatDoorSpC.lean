/-
  scriptParses_card, part 3 of 6: merged by program from the texts that it needs.
-/
import Derived.Test.YtcnpikbbmbombaaGreatDoorSpB
set_option linter.unusedSimpArgs false
set_option linter.unusedVariables false
set_option linter.unnecessarySimpa false
namespace Go.Proofs.YtcnpikbbmbombaaGreatDoor
open Go.RowKit
def C7 (w:World) (K:World→Prop) (x:DV):Ending→World→Prop:=Dz w fun r H=>∃ Ho Hi,H=Ho++Hi∧bV (fun w=>K w∧Holds w Hi) x r Ho
abbrev p9 (w:World) (K:World→Prop) (x:DV):fW:=.ends (C7 w K x)
def iZ:List AV→Nat→List (Nat×AV)
 | [],_=>[]
 | v::r,i=>(i,v)::iZ r (i+1)
theorem qM:∀ (vs:List AV) (i:Nat) (x:Nat×AV),x ∈ iZ vs i→i≤x.1∧vs[x.1-i]?=some x.2:=by
 intro vs
 induction vs with
 | nil=>intro i x hx;simp [iZ] at hx
 | cons v r ih=>
  intro i x hx
  simp only [iZ,List.mem_cons] at hx
  rcases hx with e | e
  ·subst e;simp
  ·obtain ⟨h1,h2⟩:=ih (i+1) x e
   refine ⟨by omega,?_⟩
   rw [show x.1-i=(x.1-(i+1))+1 by omega];simpa using h2
variable {mk:Bool} {P:Program} {T:aN} {cl:gm} {f:FuncId} {R:fW} {a:Act} {w:World} {D:List Nat} {w0:World} {K0:World→Prop} {E:List (Nat×AV)} {M:List aj} {β:Beta} {F:Nat→aq} {I X:aq} {sz:Nat} {tb:dX} {todo todo':List Item}
theorem ay.intro {fn:Func} {c:Code} {args:List AV} {x:DV} (kK:iT P f=true) (hf:P.funcs[f]?=some fn) (hb:fn.body=some c) (n:Nat) (hn:fn.ntmps=n) (hle:Nat.ble args.length n=true)
  (h:∀ (w0:World) (K:World→Prop) (a:Act),(∀ w,Kp [] w0 w→K w)→dn [] w0 K n (iZ args 0) [] a w0→aF P f [.code c] (p9 w0 K x) a w0):ay P f args x:=by
 refine ⟨kK,fun w K ys hK hl hr=>?_⟩
 have hle:=Nat.le_of_ble_eq_true hle
 refine qF hf hb (h w K _ (fun w' k=>hK w' k.tK) ⟨by simp;omega,[],rfl,[],fun _=>[],⟨rfl,by simp,by simpa using St.none w⟩,?_⟩)
 intro t v hv
 obtain ⟨y,rfl,rfl,hy⟩:∃ y:Nat×AV,y.1=t∧y.2=v∧y ∈ iZ args 0:=⟨(t,v),rfl,rfl,mP hv⟩
 obtain ⟨-,h2⟩:=qM args 0 y hy
 simp only [Nat.sub_zero] at h2
 obtain ⟨aO,-⟩:=List.getElem?_eq_some_iff.1 h2
 have jz:ys[y.1]?=some ys[y.1]:=List.getElem?_eq_getElem (by omega)
 have he:({ tmps:=ys.toArray++Array.replicate (fn.ntmps-ys.toArray.size) undef,defers:=[] }:Act).eval (.tmp y.1)=ys[y.1]:=by
  have:y.1<ys.length:=by omega
  simp [Act.eval,Array.getD_eq_getD_getElem?,Array.getElem?_append,this]
 rw [he]
 exact (hr y.1 y.2 _ h2 jz).mono (fun w hw=>hw.1) (Ext.refl _)
def jt (T:aN) (E:List (Nat×AV)) (M:List aj):List ResultVar→Option (List AV)
 | []=>some []
 | .tmp t::r=>(match b9 E t,jt T E M r with | some v,some l=>some (v::l) | _,_=>none)
 | .cell t ty::r=>(match b9 E t,jt T E M r with
  | some (.pt u o),some l=>(match M[u]? with | some (.bx _ cells)=>(match lI T ty cells o with | some v=>some (v::l) | none=>none) | _=>none)
  | _,_=>none)
theorem pr (hT:bc P T=true) (R:RM D w0 K0 M β F I w) (hs:∀ t v,b9 E t=some v→az (fun w=>K0 w∧Holds w I) β v (a.eval (.tmp t))):∀ {rs:List ResultVar} {l:List AV},jt T E M rs=some l→∃ ys,ru P w a rs ys∧ys.length=l.length∧∀ (j:Nat) c y,l[j]?=some c→ys[j]?=some y→az (fun w=>K0 w∧Holds w I) β c y
 | [],l,h=>by simp only [jt,Option.some.injEq] at h;subst h;exact ⟨[],trivial,rfl,by simp⟩
 | .tmp t::r,l,h=>by
  unfold jt at h
  split at h
  ·rename_i v l' h1 h2
   simp only [Option.some.injEq] at h;subst h
   obtain ⟨ys,e1,e2,e3⟩:=pr hT R hs h2
   refine ⟨a.eval (.tmp t)::ys,⟨rfl,e1⟩,by simp [e2],?_⟩
   intro j c y h3 h4
   cases j with
   | zero=>simp at h3 h4;subst h3 h4;exact hs _ _ h1
   | succ j=>simp at h3 h4;exact e3 j c y h3 h4
  ·simp at h
 | .cell t ty::r,l,h=>by
  unfold jt at h
  split at h
  ·rename_i u o l' h1 h2
   split at h
   ·rename_i T0 cells hM
    split at h
    ·rename_i v jZ
     simp only [Option.some.injEq] at h;subst h
     obtain ⟨ys,e1,e2,e3⟩:=pr hT R hs h2
     have hr:=hs _ _ h1
     generalize hy:a.eval (.tmp t)=y0 at hr
     cases hr with
     | pt hb=>
      obtain ⟨H,hF,hB,hH⟩:=R.at hM
      cases hB with
      | bx aQ zs hl hr=>
       rw [hb] at aQ;cases aQ
       obtain ⟨y',g1,g2⟩:=pG (d:=none) (ty:=0) (pos := "") (aft:=#[]) (gd:=none) hT (x:=.tmp t) (ρ:=a.eval) (a:=⟨_,0,none⟩) (R:=az (fun w=>K0 w∧Holds w I) β) (fun l ys=>az.ag ys) jZ (hy.trans (by rw [add_eq,Nat.zero_add])) hl hr
       have g3:=g2 w fun j z hj=>by rw [add_eq,cell_of hH.one,Nat.zero_add];simpa using hj
       refine ⟨y'::ys,⟨⟨_,hy,?_⟩,e1⟩,by simp [e2],?_⟩
       ·simp only [execOp,hy,Sem.run_bind,Instr.loadAt,Instr.sureAddr] at g3
        cases hv:(loadVar ty _).run P w with
        | ok q w'=>rw [Sem.run_pure,Result.andThen_ok,hv] at g3;simp at g3;obtain ⟨rfl,rfl⟩:=g3;rfl
        | halt q w'=>rw [Sem.run_pure,Result.andThen_ok,hv] at g3;simp [Result.andThen] at g3
       ·intro j c y h3 h4
        cases j with
        | zero=>simp at h3 h4;subst h3 h4;exact g1
        | succ j=>simp at h3 h4;exact e3 j c y h3 h4
    ·simp at h
   ·simp at h
  ·simp at h
def qa:List DV→DV
 | [x]=>x
 | l=>.tu l
theorem back (hT:bc P T=true) {fn:Func} (hf:P.funcs[f]?=some fn) (r:dn [] w0 K0 sz E M a w) {l:List AV} {vc:List Prop} {xs:List DV} {M':List aj} {x:DV} (h1:jt T E M fn.results.toList=some l) (h2:l0 M l=some (vc,xs,M')) (hv:bn vc) (hx:qa xs=x):
  ∃ v,(results fn a.tmps).run P w=.ok v w∧C7 w0 K0 x (.returned v) w:=by
 obtain ⟨-,I,-,β,F,Rm,hs⟩:=r
 obtain ⟨ys,e1,e2,e3⟩:=pr hT Rm hs h1
 obtain ⟨F',H,R',d⟩:=AO Rm.x h2 hv e2 e3
 refine ⟨_,td rfl e1,_,rfl,R'.st.kp.tK,H++I,⟨H,I,rfl,?_⟩,?_⟩
 ·subst hx
  have hl:=d.len
  cases d with
  | nil=>exact .tu [] (fun _=>[]) rfl (by simp)
  | cons h r=>
   cases r with
   | nil=>simpa [qa] using h
   | cons h' r'=>
    have dd:=gn.cons h (gn.cons h' r')
    obtain ⟨F2,hF,hG⟩:=dd.to
    rw [hF]
    exact .tu _ F2 dd.len hG
 ·have:=R'.st.mO
  exact (this.perm (by classical rw [List.perm_iff_count];intro z;simp only [List.count_append,List.count_nil];omega)).Ns
theorem Ij (hT:bc P T=true) {fn:Func} (hf:P.funcs[f]?=some fn) {k:List Item} (r:dn [] w0 K0 sz E M a w) {l:List AV} {vc:List Prop} {xs:List DV} {M':List aj} {x:DV} (h1:jt T E M fn.results.toList=some l) (h2:l0 M l=some (vc,xs,M')) (hv:bn vc) (hx:qa xs=x):aF P f (.code .ret::k) (p9 w0 K0 x) a w:=
 let ⟨_,h3,h4⟩:=back hT hf r h1 h2 hv hx
 aF.ret hf (cJ.ou r) h3 h4
theorem Ik (hT:bc P T=true) {fn:Func} (hf:P.funcs[f]?=some fn) (r:dn [] w0 K0 sz E M a w) {l:List AV} {vc:List Prop} {xs:List DV} {M':List aj} {x:DV} (h1:jt T E M fn.results.toList=some l) (h2:l0 M l=some (vc,xs,M')) (hv:bn vc) (hx:qa xs=x):aF P f [] (p9 w0 K0 x) a w:=
 let ⟨_,h3,h4⟩:=back hT hf r h1 h2 hv hx
 aF.fin hf (cJ.ou r) h3 h4
def y4:List AV→AV
 | [v]=>v
 | l=>.tu l
def oB (T:aN) (rs:List ResultVar) (s:RS):Option Out:=
 match jt T s.E s.M rs with
 | some l=>some ⟨s.vc,y4 l,s.M,s.tc,s.mv,none⟩
 | none=>none
def rR:List Item→Option LS
 | []=>some .ready
 | .code .ret::_=>some .left
 | _=>none
theorem Fo {l:Nat} {tmps:Array Value} {dm body c2:Code} {Φ:Value→World→Prop} {k2:List Item} {s2:LS} (fH:rR k2=some s2)
  (h:aF P f [.code dm,.beginRound,.code body] (.arr l [.beginRound,.code c2] fun a1 w1=>∃ w2,(Instr.beginRound l).run P w1=.ok () w2∧aF P f [.code c2] (.arr l k2 fun _ w3=>∃ v w4,(Instr.endRound l s2.kM).run P w3=.ok v w4∧Φ v w4) a1 w2) { tmps:=tmps,defers:=[] } w):
  RoundIn Fence.wide 0 P l f tmps dm body w fun e w'=>∃ v,e=.returned v∧Φ v w':=by
 refine ⟨trivial,fun c cs hr=>?_⟩
 let b:Frame:={ (default:Frame) with fn:=f,kind:=.normal,roundOf:=some l }
 have ff:Frame.round l f tmps dm body .normal=b.atR { tmps:=tmps,defers:=[] } [.code dm,.beginRound,.code body]:=by simp [Frame.round,Frame.atR,b]
 obtain ⟨a1,w1,⟨w2,OK,hg⟩,st⟩:=h b (c::cs) rfl rfl rfl
 obtain ⟨a2,w3,⟨v,w4,ur,aH⟩,OL⟩:=hg b (c::cs) rfl rfl rfl
 have s1:Steps P (lone (b.atR a1 [.beginRound,.code c2]) (c::cs) w1) (lone (b.atR a1 [.code c2]) (c::cs) w2):=.one (stepR_beginRound rfl OK)
 have s3:Steps P (lone (b.atR a2 k2) (c::cs) w3) (lone (c.finish v) cs w4):=by
  unfold rR at fH
  split at fH
  ·simp only [Option.some.injEq] at fH;subst fH;exact .one (stepR_round_end rfl rfl ur)
  ·simp only [Option.some.injEq] at fH;subst fH;exact .one (stepR_round_ret rfl rfl ur)
  ·simp at fH
 rw [ff]
 exact ⟨.returned v,w4,⟨v,rfl,aH⟩,stepsIn_wide.2 (((st.trans s1).trans OL).trans s3)⟩
theorem GZ {l:Nat} {r:Loop} (h:w.heap[l]?=some (.loop r)) (hs:r.state=.ready):(Instr.beginRound l).run P w=.ok () (cC w l (.loop { r with state:=.busy })):=by
 unfold Instr.beginRound Instr.getLoop
 simp only [Sem.run_bind,qU h rfl,Result.andThen_ok,Sem.run_pure,s5 h rfl,hs]
def LS.on:LS→Bool
 | .left=>false
 | _=>true
theorem Il {l:Nat} {r:Loop} {k2:List Item} {s2:LS} (fH:rR k2=some s2) (h:w.heap[l]?=some (.loop r)):(Instr.endRound l s2.kM).run P w=.ok (.bool s2.on) (cC w l (.loop { r with state:=s2.state,pending:=s2.kM })):=by
 unfold Instr.endRound Instr.getLoop
 simp only [Sem.run_bind,qU h rfl,Result.andThen_ok,Sem.run_pure,s5 h rfl]
 unfold rR at fH
 split at fH
 ·simp only [Option.some.injEq] at fH;subst fH;rfl
 ·simp only [Option.some.injEq] at fH;subst fH;rfl
 ·simp at fH
def kL:List (Tmp×Value)→Array Value→Array Value
 | [],tm=>tm
 | (t,v)::r,tm=>kL r (tm.setIfInBounds t v)
theorem As:∀ (l:List (Tmp×Value)) (tm:Array Value),(kL l tm).size=tm.size
 | [],_=>rfl
 | (t,v)::r,tm=>by rw [kL,As r];simp
theorem vb:∀ (l:List (Tmp×Value)) (tm:Array Value) (t:Nat),t ∉ l.map (·.1)→(kL l tm).getD t undef=tm.getD t undef
 | [],_,_,_=>rfl
 | (s,v)::r,tm,t,h=>by
  simp only [List.map_cons,List.mem_cons,not_or] at h
  rw [kL,vb r _ t h.2]
  simp only [Array.getD_eq_getD_getElem?,Array.getElem?_setIfInBounds]
  rw [if_neg (fun e=>h.1 e.symm)]
theorem Bj:∀ (l:List (Tmp×Value)) (tm:Array Value) (t:Nat) (v:Value),(l.map (·.1)).Nodup→(∀ x ∈ l,x.1<tm.size)→(t,v) ∈ l→(kL l tm).getD t undef=v
 | (s,u)::r,tm,t,v,hn,aO,h=>by
  simp only [List.map_cons,List.nodup_cons] at hn
  rw [kL]
  rcases List.mem_cons.1 h with e | h
  ·cases e
   rw [vb r _ _ hn.1]
   have hs:=aO (s,u) (by simp)
   simp only at hs
   simp [Array.getD_eq_getD_getElem?,hs]
  ·exact Bj r _ t v hn.2 (fun x hx=>by simpa using aO x (List.mem_cons_of_mem _ hx)) h
def xm (P:Program) (T:aN) (cl:gm) (n:Nat) (tb:dX) (u:Nat) (args:List AV) (M:List aj):Option Out:=
 match M[u]? with
 | some (.lp .ready f sz E rf)=>bif args.length.beq rf.ps.toList.length&&rf.ps.toList.all (·.blt sz)&&nodupB rf.ps.toList then
  (match ea P T cl sz tb n [.code rf.dm,.beginRound,.code rf.body] ⟨[],rf.ps.toList.zip args++E,M,[],[]⟩ with
  | some ([.beginRound,.code c2],s1)=>(match s1.M[u]? with
   | some (.lp .ready f2 qm E2 kW)=>bif f2.beq f&&!(s1.mv.elem u) then (match ea P T cl sz tb n [.code c2] ⟨s1.vc,s1.E,s1.M.set u (.lp .busy f2 qm E2 kW),u::s1.tc,s1.mv⟩ with
    | some (k2,s2)=>(match rR k2,s2.M[u]? with
     | some ls,some (.lp .busy f3 uV E3 qn)=>bif !(s2.mv.elem u) then some ⟨s2.vc,.d (.v (.bool ls.on)),s2.M.set u (.lp ls f3 uV E3 qn),u::s2.tc,s2.mv,none⟩ else none
     | _,_=>none)
    | _=>none) else none
   | _=>none)
  | _=>none) else none
 | _=>none
def walk (P:Program) (T:aN):Nat→gm
 | 0=>fun _ _ _ _=>none
 | d+1=>fun c args M o=>match c,o with
  | .yl u,.bw n tb=>xm P T (walk P T d) n tb u args M
  | .fn f,.bw n tb=>(bif iT P f then (match P.funcs[f]? with
   | some fn=>(bif Nat.ble args.length fn.ntmps then (match fn.body with
    | some c=>(match ea P T (walk P T d) fn.ntmps tb n [.code c] ⟨[],iZ args 0,M,[],[]⟩ with
     | some (.code .ret::_,s)=>oB T fn.results.toList s
     | some ([],s)=>oB T fn.results.toList s
     | _=>none)
    | none=>none) else none)
   | none=>none) else none)
  | _,_=>none
theorem JG (hT:bc P T=true) {fn:Func} {s:RS} {out:Out} (h:oB T fn.results.toList s=some out) {b:fc} (r:dG mk D w0 K0 sz b s a w):
  out.vc=s.vc∧out.rd=none∧∃ v,(results fn a.tmps).run P w=.ok v w∧∃ aE F' I',RM D w0 K0 out.M aE F' I' w∧ib out.mv b.β aE∧bU b.I I'∧(∀ u,u<b.m→u ∉ out.tc→F' u=b.F u)∧az (fun w=>K0 w∧Holds w I') aE out.av v:=by
 unfold oB at h
 split at h
 ·rename_i l hl
  simp only [Option.some.injEq] at h;subst h
  obtain ⟨-,I,-,-,β,F,Rm,cq,hs⟩:=r
  obtain ⟨ys,e1,e2,e3⟩:=pr hT Rm hs hl
  refine ⟨rfl,rfl,_,td rfl e1,β,F,I,Rm,cq.1,cq.2.1,cq.2.2,?_⟩
  match ys,l,e2,e3 with
  | [],[],_,_=>exact .tu [] rfl (by simp)
  | [y],[v],_,e3=>exact e3 0 v y rfl rfl
  | y::y'::ys,v::v'::l,e2,e3=>exact .tu _ e2 e3
 ·simp at h
theorem zY:∀ {A E:List (Nat×AV)} {t:Nat} {v:AV},b9 (A++E) t=some v→t ∈ A.map (·.1)→(t,v) ∈ A
 | [],_,_,_,_,h=>by simp at h
 | (k,u)::r,E,t,v,h,hm=>by
  rw [List.cons_append] at h
  unfold b9 at h
  cases hk:k.beq t with
  | true=>simp only [hk,cond_true,Option.some.injEq] at h;subst h;rw [Nat.eq_of_beq_eq_true hk];exact List.mem_cons_self
  | false=>
   simp only [hk,cond_false] at h
   refine List.mem_cons_of_mem _ (zY h ?_)
   rcases List.mem_cons.1 hm with e | e
   ·exfalso;simp only at e;rw [e] at hk;simp at hk
   ·exact e
theorem Gb {ps:List Nat} {args:List AV} {ys:List Value} {t:Nat} {v:AV} (h:(t,v) ∈ ps.zip args) (hl:ys.length=args.length) (hr:∀ (j:Nat) c y,args[j]?=some c→ys[j]?=some y→az (fun w=>K0 w∧Holds w I) β c y):∃ y,(t,y) ∈ ps.zip ys∧az (fun w=>K0 w∧Holds w I) β v y:=by
 obtain ⟨j,hj,e⟩:=List.getElem_of_mem h
 have h1:(ps.zip args)[j]?=some (t,v):=by rw [List.getElem?_eq_getElem hj,e]
 obtain ⟨a1,a2⟩:=List.getElem?_zip_eq_some.1 h1
 have aO:=(List.getElem?_eq_some_iff.1 a2).1
 have hy:ys[j]?=some ys[j]:=List.getElem?_eq_getElem (by omega)
 exact ⟨ys[j],List.mem_of_getElem? (List.getElem?_zip_eq_some.2 ⟨a1,hy⟩),hr j v _ a2 hy⟩
theorem Ad:∀ (l:List (Tmp×Value)) (tm:Array Value),l.foldl (fun tmps (x:Tmp×Value)=>tmps.setIfInBounds x.1 x.2) tm=kL l tm
 | [],_=>rfl
 | (t,v)::r,tm=>by rw [List.foldl_cons,Ad r];rfl
theorem G3 (hT:bc P T=true) (hm:P.follows .mixedOrders=true) (cX:jQ P cl) {n:Nat} {tb:dX} {u:Nat} {args:List AV} {M:List aj} {out:Out} (h:xm P T cl n tb u args M=some out):out.rd=none∧BX P u args M out:=by
 unfold xm at h
 split at h
 rotate_left
 ·simp at h
 rename_i f sz E rf hM
 cases hc:(args.length.beq rf.ps.toList.length&&rf.ps.toList.all (·.blt sz)&&nodupB rf.ps.toList) with
 | false=>simp only [hc,cond_false,reduceCtorEq] at h
 | true=>
  simp only [hc,cond_true] at h
  simp only [Bool.and_eq_true] at hc
  obtain ⟨⟨oO,sd⟩,OM⟩:=hc
  have oO:=Nat.eq_of_beq_eq_true oO
  split at h
  rotate_left
  ·simp at h
  rename_i c2 s1 ON
  split at h
  rotate_left
  ·simp at h
  rename_i f2 qm E2 kW uW
  cases hf:(f2.beq f&&!(s1.mv.elem u)) with
  | false=>simp only [hf,cond_false,reduceCtorEq] at h
  | true=>
   simp only [hf,cond_true] at h
   simp only [Bool.and_eq_true,Bool.not_eq_true'] at hf
   obtain ⟨ED,NI⟩:=hf
   obtain rfl:=Nat.eq_of_beq_eq_true ED
   split at h
   rotate_left
   ·simp at h
   rename_i k2 s2 kq
   split at h
   rotate_left
   ·simp at h
   rename_i ls f3 uV E3 qn fH nK
   cases y5:(!(s2.mv.elem u)) with
   | false=>simp only [y5,cond_false,reduceCtorEq] at h
   | true=>
    simp only [y5,cond_true,Option.some.injEq] at h;subst h
    refine ⟨rfl,?_⟩
    intro D w0 K0 β F I w ys l c Rm hK hv hl mh sG
    have bo:bn s1.vc:=BZ n [.code c2] ⟨s1.vc,s1.E,s1.M.set u (.lp .busy f2 qm E2 kW),u::s1.tc,s1.mv⟩ kq hv
    obtain ⟨H,hF,hB,hH⟩:=Rm.at hM
    cases hB with
    | @lp b0 cc f0 OO oG bz E0 OP tmps hb bJ hr=>
     rw [sG] at hb;cases hb
     have Mj:=hH.one
     have hlen:rf.ps.size=ys.toArray.size:=by
      have e:rf.ps.toList.length=rf.ps.size:=Array.length_toList
      have e2:ys.toArray.size=ys.length:=by simp
      omega
     have hy:(Instr.yield l ys.toArray).run P w=.ok (.round l f2 ((rf.ps.zip ys.toArray).foldl (fun tmps (x:Tmp×Value)=>tmps.setIfInBounds x.1 x.2) tmps) rf.dm rf.body) w:=by
      unfold Instr.yield Instr.getLoop
      simp only [Sem.run_bind,qU Mj rfl,Result.andThen_ok,Sem.run_pure]
      rw [if_neg (by simp [hlen])]
      rfl
     refine ⟨f2,_,rf.dm,rf.body,hy,?_⟩
     have Ml:(rf.ps.zip ys.toArray).foldl (fun tmps (x:Tmp×Value)=>tmps.setIfInBounds x.1 x.2) tmps=kL (rf.ps.toList.zip ys) tmps:=by
      rw [← Ad,← Array.foldl_toList];simp
     rw [Ml]
     have yf:(rf.ps.toList.zip ys).map (·.1)=rf.ps.toList:=List.map_fst_zip (by rw [hl,oO];exact Nat.le_refl _)
     have r0:dG false D w0 K0 sz ⟨β,F,I,M.length⟩ ⟨[],rf.ps.toList.zip args++E,M,[],[]⟩ { tmps:=kL (rf.ps.toList.zip ys) tmps,defers:=[] } w:=by
      refine ⟨by rw [As,bJ],I,rfl,Nat.le_refl _,β,F,Rm,⟨fun _ _ _ h=>h,bU.refl _,fun _ _ _=>rfl⟩,?_⟩
      intro t v iH
      have DF:=mP iH
      show az _ β v ((kL (rf.ps.toList.zip ys) tmps).getD t undef)
      by_cases ht:t ∈ rf.ps.toList
      ·have hz:(t,v) ∈ rf.ps.toList.zip args:=by
        rcases List.mem_append.1 DF with h1 | h1
        ·exact h1
        ·exact zY iH (by
          rw [List.map_fst_zip (by omega)];exact ht)
       obtain ⟨y,OQ,OR⟩:=Gb hz hl mh
       rw [Bj _ _ t y (by rw [yf];exact o9 OM) (fun x hx=>by
        have:x.1 ∈ rf.ps.toList:=by rw [← yf];exact List.mem_map_of_mem hx
        have:=List.all_eq_true.1 sd _ this
        rw [bJ];simpa [Nat.blt_eq] using this) OQ]
       exact OR
      ·rcases List.mem_append.1 DF with h1 | h1
       ·exact absurd (by have:=List.mem_map_of_mem (f:=fun x:Nat×AV=>x.1) h1;rwa [List.map_fst_zip (by omega)] at this) ht
       ·rw [vb _ _ _ (by rw [yf];exact ht)]
        exact hr (t,v) h1
     refine Fo (c2:=c2) fH (lF hT cX hm hK n ON r0 bo fun a1 w1 r1=>aF.Cu ?_)
     obtain ⟨z1,I1,z2,z3,qE,F1,EE,uX,mG⟩:=r1
     obtain ⟨H1,se,OS,OT⟩:=EE.at uW
     have EF:qE[u]?=some (some ⟨l,0,none⟩,c):=uX.1 u _ (by simpa using NI) sG
     cases OS with
     | @lp b1 Qb f1 Qc DG Qd E1 Qe C8 gj NJ NK=>
      rw [EF] at gj;cases gj
      refine ⟨_,GZ OT.one rfl,?_⟩
      have NL:=EE.set uW se (o':=.loop { state:=.busy,pending:=none,fn:=f2,tmps:=C8,params:=kW.ps,assign:=kW.dm,body:=kW.body,defers:=DG }) (blk':=.lp .busy f2 qm E2 kW) (.lp (bz:=.busy) (sz:=qm) EF NJ NK)
      have OU:dG false D w0 K0 sz ⟨β,F,I,M.length⟩ ⟨s1.vc,s1.E,s1.M.set u (.lp .busy f2 qm E2 kW),u::s1.tc,s1.mv⟩ a1 (cC w1 l (.loop { state:=.busy,pending:=none,fn:=f2,tmps:=C8,params:=kW.ps,assign:=kW.dm,body:=kW.body,defers:=DG })):=by
       refine ⟨z1,I1,z2,by rw [List.length_set];exact z3,qE,_,NL,⟨uX.1,uX.2.1,fun v iH hn=>?_⟩,mG⟩
       simp only [List.mem_cons,not_or] at hn
       simp only [aM];rw [if_neg hn.1];exact uX.2.2 v iH hn.2
      refine lF hT cX hm hK n kq OU hv fun a2 w2 r2=>aF.Cu ?_
      obtain ⟨y1,I2,y2,y3,jE,F2,EG,uY,kQ⟩:=r2
      obtain ⟨H2,lJ,OV,r9⟩:=EG.at nK
      have EH:jE[u]?=some (some ⟨l,0,none⟩,c):=uY.1 u _ (by simpa using y5) sG
      cases OV with
      | @lp b2 Qf Qg PR NM Qh Qi PS Mm je ub DH=>
       rw [EH] at je;cases je
       have NN:=EG.set nK lJ (o':=.loop { state:=ls.state,pending:=ls.kM,fn:=f3,tmps:=Mm,params:=qn.ps,assign:=qn.dm,body:=qn.body,defers:=NM }) (blk':=.lp ls f3 uV E3 qn) (.lp (bz:=ls) (sz:=uV) EH ub DH)
       refine ⟨_,_,Il fH r9.one,jE,_,I2,NN,uY.1,uY.2.1,fun v iH hn=>?_,.d (.v _)⟩
       simp only [List.mem_cons,not_or] at hn
       simp only [aM];rw [if_neg hn.1];exact uY.2.2 v iH hn.2
theorem jj (hT:bc P T=true) (hm:P.follows .mixedOrders=true):∀ d,jQ P (walk P T d):=by
 intro d
 induction d with
 | zero=>intro f args M o out h;simp [walk] at h
 | succ d ih=>
  intro f args M o out h
  unfold walk at h
  split at h
  ·exact G3 hT hm ih h
  ·rename_i f n tb
   cases hc:iT P f with
   | false=>simp [hc] at h
   | true=>
    simp only [hc,cond_true] at h
    split at h
    ·rename_i fn hf
     cases hb:Nat.ble args.length fn.ntmps with
     | false=>simp [hb] at h
     | true=>
      simp only [hb,cond_true] at h
      have hle:=Nat.le_of_ble_eq_true hb
      split at h
      ·rename_i c Mn
       have key:∀ {todo':List Item} {s:RS},ea P T (walk P T d) fn.ntmps tb n [.code c] ⟨[],iZ args 0,M,[],[]⟩=some (todo',s)→oB T fn.results.toList s=some out→(todo'=[]∨∃ k,todo'=.code .ret::k)→out.rd=none∧Cs P f args M out:=by
        intro todo' s hr he Mp
        have eY:out.rd=none:=by
         unfold oB at he
         split at he
         ·simp only [Option.some.injEq] at he;subst he;rfl
         ·simp at he
        refine ⟨eY,hc,?_⟩
        intro D w0 K0 β F I w ys Rm hK hv hl mh
        have sh:bn s.vc:=by
         unfold oB at he
         split at he
         ·simp only [Option.some.injEq] at he;subst he;exact hv
         ·simp at he
        refine qF hf Mn ?_
        have r0:dG false D w0 K0 fn.ntmps ⟨β,F,I,M.length⟩ ⟨[],iZ args 0,M,[],[]⟩ { tmps:=ys.toArray++Array.replicate (fn.ntmps-ys.toArray.size) undef,defers:=[] } w:=by
         refine ⟨by simp;omega,I,rfl,Nat.le_refl _,β,F,Rm,⟨fun _ _ _ h=>h,bU.refl _,fun _ _ _=>rfl⟩,?_⟩
         intro t v iH
         obtain ⟨-,h2⟩:=qM args 0 (t,v) (mP iH)
         simp only [Nat.sub_zero] at h2
         obtain ⟨aO,-⟩:=List.getElem?_eq_some_iff.1 h2
         have jz:ys[t]?=some ys[t]:=List.getElem?_eq_getElem (by omega)
         have he:({ tmps:=ys.toArray++Array.replicate (fn.ntmps-ys.toArray.size) undef,defers:=[] }:Act).eval (.tmp t)=ys[t]:=by
          have:t<ys.length:=by omega
          simp [Act.eval,Array.getD_eq_getD_getElem?,Array.getElem?_append,this]
         rw [he]
         exact mh t v _ h2 jz
        refine lF hT ih hm hK n hr r0 sh fun a' w' r'=>?_
        obtain ⟨-,-,v,h3,h4⟩:=JG hT he r'
        rcases Mp with rfl | ⟨k,rfl⟩
        ·exact aF.fin hf (dG.ou r') h3 ⟨v,rfl,h4⟩
        ·exact aF.ret hf (dG.ou r') h3 ⟨v,rfl,h4⟩
       split at h
       ·rename_i k s hr;exact key hr h (Or.inr ⟨k,rfl⟩)
       ·rename_i s hr;exact key hr h (Or.inl rfl)
       ·simp at h
      ·simp at h
    ·simp at h
  ·simp at h
def yh (T:aN) (E:List (Nat×AV)) (M:List aj) (rs:List ResultVar) (x:DV):Prop:=∃ l vc xs M',jt T E M rs=some l∧l0 M l=some (vc,xs,M')∧bn vc∧qa xs=x
theorem ret (hT:bc P T=true) {fn:Func} (hf:P.funcs[f]?=some fn) {k:List Item} {x:DV} (r:dn [] w0 K0 sz E M a w) (h:yh T E M fn.results.toList x):aF P f (.code .ret::k) (p9 w0 K0 x) a w:=
 let ⟨_,_,_,_,h1,h2,h3,h4⟩:=h
 Ij hT hf r h1 h2 h3 h4
theorem fin (hT:bc P T=true) {fn:Func} (hf:P.funcs[f]?=some fn) {x:DV} (r:dn [] w0 K0 sz E M a w) (h:yh T E M fn.results.toList x):aF P f [] (p9 w0 K0 x) a w:=
 let ⟨_,_,_,_,h1,h2,h3,h4⟩:=h
 Ik hT hf r h1 h2 h3 h4
theorem ay.empty {k:Nat} {x:DV} {pre post:List AV} (h:∀ a c,ay P f (pre++.d (.v (.slice a 0 c))::post) x):ay P f (pre++.d (.ro k [])::post) x:=by
 refine ⟨(h none 0).1,fun w K ys hK hl hr=>?_⟩
 have hy:∃ a c,ys[pre.length]?=some (.slice a 0 c):=by
  have aO:pre.length<ys.length:=by rw [hl];simp
  have h1:=hr pre.length _ _ (by rw [List.getElem?_append_right (Nat.le_refl _),Nat.sub_self];rfl) (List.getElem?_eq_getElem aO)
  rw [List.getElem?_eq_getElem aO]
  generalize ys[pre.length]=y at h1
  cases h1 with | d h1=>cases h1 with | ro X hl hy hs hr=>obtain ⟨a,c,rfl,-⟩:=hy;exact ⟨a,c,rfl⟩
 obtain ⟨a,c,hy⟩:=hy
 refine (h a c).2 w K ys hK (by rw [hl];simp) fun j v y h1 h2=>?_
 rcases Nat.lt_trichotomy j pre.length with hj | hj | hj
 ·rw [List.getElem?_append_left hj] at h1
  exact hr j v y (by rw [List.getElem?_append_left hj];exact h1) h2
 ·subst hj
  rw [List.getElem?_append_right (Nat.le_refl _),Nat.sub_self] at h1
  simp only [List.getElem?_cons_zero,Option.some.injEq] at h1;subst h1
  rw [hy,Option.some.injEq] at h2;subst h2
  exact .d (.v _)
 ·rw [List.getElem?_append_right (by omega)] at h1
  have e:j-pre.length=(j-pre.length-1)+1:=by omega
  rw [e,List.getElem?_cons_succ] at h1
  exact hr j v y (by rw [List.getElem?_append_right (by omega),e,List.getElem?_cons_succ];exact h1) h2
theorem ay.nil {args:List AV} (T k:Nat) (h:ay P f args (.v (.slice none 0 0))):ay P f args (.em T k []):=by
 refine ⟨h.1,fun w K ys hK hl hr=>(h.2 w K ys hK hl hr).mono ?_⟩
 rintro e w' ⟨v,rfl,g,H,⟨Ho,Hi,rfl,hd⟩,n⟩
 cases hd
 refine ⟨_,rfl,g,_,⟨[],Hi,rfl,?_⟩,n⟩
 have:=bV.em (K:=fun w=>K w∧Holds w Hi) (T:=T) (k:=k) (rows:=[]) (H0:=[]) (fun _=>[]) (fun _ _=>[]) (by simp) (by simpa [lay] using eQ.nil T k none) (by simp)
 simpa [bL] using this
end Go.Proofs.YtcnpikbbmbombaaGreatDoor
namespace Go.Proofs.YtcnpikbbmbombaaGreatDoor
open Go.RowKit
variable {mk:Bool} {P:Program} {T:aN} {f:FuncId} {R:fW} {a:Act} {w:World} {D:List Nat} {w0:World} {K0:World→Prop} {E:List (Nat×AV)} {M:List aj} {β:Beta} {F:Nat→aq} {I X:aq} {sz:Nat} {tb:dX} {todo todo':List Item}
def uu (T:aN) (rs:List ResultVar) (s:RS):Option (Prop×DV):=
 match jt T s.E s.M rs with
 | some l=>(match l0 s.M l with | some (vc,xs,_)=>some (bn (s.vc++vc),qa xs) | none=>none)
 | none=>none
def Cv (P:Program) (T:aN) (sz:Nat) (rs:List ResultVar) (tb:dX) (n:Nat) (todo:List Item) (E:List (Nat×AV)) (M:List aj):Option (Prop×DV):=
 match ea P T (walk P T 3) sz tb n todo ⟨[],E,M,[],[]⟩ with
 | some (.code .ret::_,s)=>uu T rs s
 | some ([],s)=>uu T rs s
 | _=>none
theorem B0 {rs:List ResultVar} {s:RS} {A:Prop} {x:DV} (h:uu T rs s=some (A,x)) (hA:A):bn s.vc∧yh T s.E s.M rs x:=by
 unfold uu at h
 split at h
 ·rename_i l hl
  split at h
  ·rename_i vc xs M' hp
   simp only [Option.some.injEq,Prod.mk.injEq] at h
   obtain ⟨rfl,hx⟩:=h
   rw [bn.app] at hA
   exact ⟨hA.1,l,vc,xs,M',hl,hp,hA.2,hx⟩
  ·simp at h
 ·simp at h
theorem aV (hT:bc P T=true) (hm:P.follows .mixedOrders=true) (hK:∀ w,Kp [] w0 w→K0 w) {fn:Func} (hf:P.funcs[f]?=some fn) (tb:dX) (n:Nat) {x:DV} {A:Prop} (r:dn [] w0 K0 sz E M a w)
  (h:Cv P T sz fn.results.toList tb n todo E M=some (A,x)) (hA:A):aF P f todo (p9 w0 K0 x) a w:=by
 unfold Cv at h
 split at h
 ·rename_i k s hr
  obtain ⟨h1,h2⟩:=B0 h hA
  exact oV hT (jj hT hm 3) hm hK n hr r h1 fun a' w' r'=>ret hT hf r' h2
 ·rename_i s hr
  obtain ⟨h1,h2⟩:=B0 h hA
  exact oV hT (jj hT hm 3) hm hK n hr r h1 fun a' w' r'=>fin hT hf r' h2
 ·simp at h
theorem cJ.mH (r:cJ mk D w0 K0 sz E M a w) {l ts:List Nat} {M':List aj} {E':List (Nat×AV)} (hn:nodupB l=true) (hM:gR l M l=some M') (hE:jO l E ts=some E'):cJ mk D w0 K0 sz E' M' a w:=by
 obtain ⟨h1,I,h2,β,F,Rm,hs⟩:=r
 obtain ⟨e1,e2⟩:=qZ hM
 have aO:∀ u ∈ l,u<M.length:=by
  intro u hu
  obtain ⟨i,hi,rfl⟩:=List.getElem_of_mem hu
  obtain ⟨u',b0,g1,g2,-⟩:=e2 i M'[i] (List.getElem?_eq_getElem (by omega))
  rw [List.getElem?_eq_getElem hi,Option.some.injEq] at g1
  rw [g1];exact fK g2
 obtain ⟨rest,bC⟩:=vP (o9 hn) aO Rm.x
 refine ⟨h1,I,h2,fB β l,nn F l,⟨by rw [va,e1],?_,?_⟩,wv hs hE⟩
 ·intro i b hb
  obtain ⟨u,b0,g1,g2,g3⟩:=e2 i b hb
  rw [vQ g1];exact wq g1 g3 (Rm.blk u b0 g2)
 ·rw [e1,sZ]
  have:=bC.mO
  exact this.perm (by classical rw [List.perm_iff_count];intro z;simp only [List.count_append,List.count_nil];omega)
def n7:Code→List Item→List (List Item)
 | .seq x y,k=>n7 x (.code y::k)++n7 y k
 | .cond _ x y,k=>n7 x k++n7 y k
 | .block id c,k=>n7 c (.inBlock id::k)
 | .loop c,k=>(.code c::.inLoop c::k)::n7 c (.inLoop c::k)
 | _,_=>[]
def hd (fn:Func) (n:Nat):List Item:=
 match fn.body with
 | some c=>(match (n7 c [])[n]? with | some t=>t | none=>[])
 | none=>[]
def lu (l ts:List Nat) (t:List Item) (s:RS):Option (List Item×Prop×List (Nat×AV)×List aj):=
 match gR l s.M l,jO l s.E ts with
 | some M',some E'=>some (t,bn s.vc,E',M')
 | _,_=>none
def C9 (P:Program) (T:aN) (sz:Nat) (tb:dX) (n:Nat) (l ts:List Nat) (todo:List Item) (E:List (Nat×AV)) (M:List aj):Option (List Item×Prop×List (Nat×AV)×List aj):=
 bif nodupB l then (match ea P T (walk P T 3) sz tb n todo ⟨[],E,M,[],[]⟩ with
 | some (.code (.loop c)::k,s)=>lu l ts (.code c::.inLoop c::k) s
 | some (.inLoop c::k,s)=>lu l ts (.code c::.inLoop c::k) s
 | _=>none) else none
theorem pf {l ts:List Nat} {t t':List Item} {s:RS} {A:Prop} {E':List (Nat×AV)} {M':List aj} (h:lu l ts t s=some (t',A,E',M')):t=t'∧bn s.vc=A∧gR l s.M l=some M'∧jO l s.E ts=some E':=by
 unfold lu at h
 split at h
 ·rename_i h1 h2
  simp only [Option.some.injEq,Prod.mk.injEq] at h
  obtain ⟨rfl,hA,rfl,rfl⟩:=h
  exact ⟨rfl,hA,h1,h2⟩
 ·simp at h
theorem bX (hT:bc P T=true) (hm:P.follows .mixedOrders=true) (hK:∀ w,Kp D w0 w→K0 w) (tb:dX) (n:Nat) (l ts:List Nat) {A:Prop} {E':List (Nat×AV)} {M':List aj} (r:cJ mk D w0 K0 sz E M a w)
  (h:C9 P T sz tb n l ts todo E M=some (todo',A,E',M')) (hA:A) (k:∀ a' w',cJ mk D w0 K0 sz E' M' a' w'→aF P f todo' R a' w'):aF P f todo R a w:=by
 unfold C9 at h
 cases hn:nodupB l with
 | false=>simp [hn] at h
 | true=>
  simp only [hn,cond_true] at h
  split at h
  ·rename_i c k' s hr
   obtain ⟨rfl,rfl,h3,h4⟩:=pf h
   exact oV hT (jj hT hm 3) hm hK n hr r hA fun a' w' r'=>aF.loop (k a' w' (r'.mH hn h3 h4))
  ·rename_i c k' s hr
   obtain ⟨rfl,rfl,h3,h4⟩:=pf h
   exact oV hT (jj hT hm 3) hm hK n hr r hA fun a' w' r'=>aF.again (k a' w' (r'.mH hn h3 h4))
  ·simp at h
end Go.Proofs.YtcnpikbbmbombaaGreatDoor
namespace Go.Proofs.YtcnpikbbmbombaaGreatDoor
open Go.RowKit
variable {mk:Bool} {P:Program} {T:aN} {f:FuncId} {R:fW} {a:Act} {w:World} {D:List Nat} {w0:World} {K0:World→Prop} {E:List (Nat×AV)} {M:List aj} {β:Beta} {F:Nat→aq} {I X:aq} {sz:Nat} {tb:dX} {todo todo':List Item} {b:fc}
def ei (mk:Bool) (D:List Nat) (w0:World) (K0:World→Prop) (sz:Nat) (b:fc) (E:List (Nat×AV)) (M:List aj) (a:Act) (w:World):Prop:=
 b.β.length=b.m∧∃ tc,dG mk D w0 K0 sz b ⟨[],E,M,tc,[]⟩ a w
abbrev RB (D:List Nat) (w0:World) (K0:World→Prop) (sz:Nat) (b:fc) (E:List (Nat×AV)) (M:List aj) (a:Act) (w:World):Prop:=ei false D w0 K0 sz b E M a w
def Da (D:List Nat) (w0:World) (K0:World→Prop) (b:fc) (x:AV) (M':List aj):Ending→World→Prop:=
 fun e w'=>∃ v,e=.returned v∧∃ aE F' I',RM D w0 K0 M' aE F' I' w'∧Ext b.β aE∧bU b.I I'∧az (fun w=>K0 w∧Holds w I') aE x v
abbrev fE (D:List Nat) (w0:World) (K0:World→Prop) (b:fc) (x:AV) (M':List aj):fW:=.ends (Da D w0 K0 b x M')
theorem aC.intro {fn:Func} {c:Code} {args:List AV} {x:AV} {M':List aj} (kK:iT P f=true) (hf:P.funcs[f]?=some fn) (hb:fn.body=some c) (n:Nat) (hn:fn.ntmps=n) (hle:Nat.ble args.length n=true)
  (h:∀ (D:List Nat) (w0:World) (K0:World→Prop) (b:fc) (a:Act) (w:World),(∀ w,Kp D w0 w→K0 w)→b.m=M.length→RB D w0 K0 n b (iZ args 0) M a w→aF P f [.code c] (fE D w0 K0 b x M') a w):aC P f args M x M':=by
 refine ⟨kK,?_⟩
 intro D w0 K0 β F I w ys Rm hK hl hr
 have hle:=Nat.le_of_ble_eq_true hle
 refine qF hf hb (h D w0 K0 ⟨β,F,I,M.length⟩ _ w hK rfl ⟨Rm.len,[],by simp;omega,I,rfl,Nat.le_refl _,β,F,Rm,⟨fun _ _ _ h=>h,bU.refl _,fun _ _ _=>rfl⟩,?_⟩)
 intro t v hv
 obtain ⟨y,rfl,rfl,hy⟩:∃ y:Nat×AV,y.1=t∧y.2=v∧y ∈ iZ args 0:=⟨(t,v),rfl,rfl,mP hv⟩
 obtain ⟨-,h2⟩:=qM args 0 y hy
 simp only [Nat.sub_zero] at h2
 obtain ⟨aO,-⟩:=List.getElem?_eq_some_iff.1 h2
 have jz:ys[y.1]?=some ys[y.1]:=List.getElem?_eq_getElem (by omega)
 have he:({ tmps:=ys.toArray++Array.replicate (fn.ntmps-ys.toArray.size) undef,defers:=[] }:Act).eval (.tmp y.1)=ys[y.1]:=by
  have:y.1<ys.length:=by omega
  simp [Act.eval,Array.getD_eq_getD_getElem?,Array.getElem?_append,this]
 rw [he]
 exact hr y.1 y.2 _ h2 jz
def kB (m:Nat) (l:List Nat):Bool:=(List.range m).all fun i=>match l[i]? with | some u=>u.beq i | none=>false
theorem At {m:Nat} {l:List Nat} (h:kB m l=true) {i:Nat} (hi:i<m):l[i]?=some i:=by
 have:=List.all_eq_true.1 h i (List.mem_range.2 hi)
 split at this
 ·rename_i u hu;rw [hu,Nat.eq_of_beq_eq_true this]
 ·simp at this
def ju (m:Nat) (mv:List Nat):Bool:=mv.all fun u=>Nat.ble m u
theorem JH {m:Nat} {mv:List Nat} (h:ju m mv=true) {u:Nat} (hu:u<m):u ∉ mv:=fun hm=>by
 have:=Nat.le_of_ble_eq_true (List.all_eq_true.1 h u hm);omega
theorem AU {l:List Nat} {M':List aj} (hn:nodupB l=true) (hM:gR l M l=some M') (Rm:RM D w0 K0 M β F I w):RM D w0 K0 M' (fB β l) (nn F l) I w:=by
 obtain ⟨e1,e2⟩:=qZ hM
 have aO:∀ u ∈ l,u<M.length:=by
  intro u hu
  obtain ⟨i,hi,rfl⟩:=List.getElem_of_mem hu
  obtain ⟨u',b0,g1,g2,-⟩:=e2 i M'[i] (List.getElem?_eq_getElem (by omega))
  rw [List.getElem?_eq_getElem hi,Option.some.injEq] at g1
  rw [g1];exact fK g2
 obtain ⟨rest,bC⟩:=vP (o9 hn) aO Rm.x
 refine ⟨by rw [va,e1],?_,?_⟩
 ·intro i b hb
  obtain ⟨u,b0,g1,g2,g3⟩:=e2 i b hb
  rw [vQ g1];exact wq g1 g3 (Rm.blk u b0 g2)
 ·rw [e1,sZ]
  have:=bC.mO
  exact this.perm (by classical rw [List.perm_iff_count];intro z;simp only [List.count_append,List.count_nil];omega)
theorem B2 {l mv tc:List Nat} (hb:b.β.length=b.m) (hs:kB b.m l=true) (hf:ju b.m mv=true) (h:Since b mv tc β F I):Ext b.β (fB β l):=by
 intro u x hx
 have hu:u<b.m:=by rw [← hb];exact (List.getElem?_eq_some_iff.1 hx).1
 exact fL (At hs hu) (h.1 u x (JH hf hu) hx)
theorem dG.mH {s:RS} (hb:b.β.length=b.m) (r:dG mk D w0 K0 sz b s a w) {l ts:List Nat} {M':List aj} {E':List (Nat×AV)} (hn:nodupB l=true) (hs:kB b.m l=true) (hf:ju b.m s.mv=true) (hM:gR l s.M l=some M') (hE:jO l s.E ts=some E'):ei mk D w0 K0 sz b E' M' a w:=by
 obtain ⟨h1,I,h2,h3,β,F,Rm,cq,eU⟩:=r
 refine ⟨hb,List.range b.m,h1,I,h2,?_,fB β l,nn F l,AU hn hM Rm,⟨(B2 hb hs hf cq).b _,cq.2.1,fun u hu hn=>absurd (List.mem_range.2 hu) hn⟩,wv eU hE⟩
 rw [(qZ hM).1]
 rcases Nat.lt_or_ge l.length b.m with hl | hl
 ·have:=At hs (i:=l.length) hl
  rw [List.getElem?_eq_none (Nat.le_refl _)] at this;cases this
 ·exact hl
def Cw (P:Program) (T:aN) (sz:Nat) (m:Nat) (tb:dX) (n:Nat) (l ts:List Nat) (todo:List Item) (E:List (Nat×AV)) (M:List aj):Option (List Item×Prop×List (Nat×AV)×List aj):=
 bif nodupB l&&kB m l then (match ea P T (walk P T 3) sz tb n todo ⟨[],E,M,[],[]⟩ with
 | some (.code (.loop c)::k,s)=>bif ju m s.mv then lu l ts (.code c::.inLoop c::k) s else none
 | some (.inLoop c::k,s)=>bif ju m s.mv then lu l ts (.code c::.inLoop c::k) s else none
 | _=>none) else none
theorem ei.re (r:ei mk D w0 K0 sz b E M a w):∃ b',dG mk D w0 K0 sz b' ⟨[],E,M,[],[]⟩ a w∧b'.β.length=b.m∧Ext b.β b'.β∧bU b.I b'.I∧b'.m=b.m:=by
 obtain ⟨hb,tc,h1,I,h2,h3,β,F,Rm,cq,eU⟩:=r
 refine ⟨⟨β.take b.m,F,I,b.m⟩,⟨h1,I,h2,h3,β,F,Rm,⟨fun u x _ hx=>?_,bU.refl _,fun _ _ _=>rfl⟩,eU⟩,?_,fun u x hx=>?_,cq.2.1,rfl⟩
 ·rw [List.getElem?_take] at hx
  split at hx
  ·exact hx
  ·simp at hx
 ·rw [List.length_take,Rm.len];have Qj:b.m≤M.length:=h3;omega
 ·have hu:u<b.m:=by rw [← hb];exact (List.getElem?_eq_some_iff.1 hx).1
  rw [List.getElem?_take,if_pos hu]
  exact cq.1 u x (by simp) hx
theorem ei.from {b':fc} (al:b'.m=b.m) (hb:b.β.length=b.m) (hE:Ext b.β b'.β) (hG:bU b.I b'.I) (r:ei mk D w0 K0 sz b' E M a w):ei mk D w0 K0 sz b E M a w:=by
 obtain ⟨-,tc,h1,I,h2,h3,β,F,Rm,cq,eU⟩:=r
 refine ⟨hb,List.range b.m,h1,I,h2,by rw [← al];exact h3,β,F,Rm,⟨fun u x _ hx=>cq.1 u x (by simp) (hE u x hx),hG.trans cq.2.1,fun u hu hn=>absurd (List.mem_range.2 hu) hn⟩,eU⟩
theorem bp (hT:bc P T=true) (hm:P.follows .mixedOrders=true) (hK:∀ w,Kp D w0 w→K0 w) {m:Nat} (al:b.m=m) (tb:dX) (n:Nat) (l ts:List Nat) {A:Prop} {E':List (Nat×AV)} {M':List aj} (r:ei mk D w0 K0 sz b E M a w)
  (h:Cw P T sz m tb n l ts todo E M=some (todo',A,E',M')) (hA:A) (k:∀ a' w',ei mk D w0 K0 sz b E' M' a' w'→aF P f todo' R a' w'):aF P f todo R a w:=by
 subst al
 have hb:=r.1
 obtain ⟨b',rb,aQ,hE,hG,iv⟩:=r.re
 unfold Cw at h
 cases hn:(nodupB l&&kB b.m l) with
 | false=>simp [hn] at h
 | true=>
  simp only [hn,cond_true] at h
  simp only [Bool.and_eq_true] at hn
  have key:∀ {s:RS} {a':Act} {w':World} {M':List aj} {E':List (Nat×AV)},ju b.m s.mv=true→gR l s.M l=some M'→jO l s.E ts=some E'→dG mk D w0 K0 sz b' s a' w'→ei mk D w0 K0 sz b E' M' a' w':=fun hf h3 h4 r'=>
   ei.from iv hb hE hG (r'.mH (by rw [aQ,iv]) hn.1 (by rw [iv];exact hn.2) (by rw [iv];exact hf) h3 h4)
  split at h
  ·rename_i c k' s hr
   cases hf:ju b.m s.mv with
   | false=>simp [hf] at h
   | true=>
    simp only [hf,cond_true] at h
    obtain ⟨rfl,rfl,h3,h4⟩:=pf h
    exact lF hT (jj hT hm 3) hm hK n hr rb hA fun a' w' r'=>aF.loop (k a' w' (key hf h3 h4 r'))
  ·rename_i c k' s hr
   cases hf:ju b.m s.mv with
   | false=>simp [hf] at h
   | true=>
    simp only [hf,cond_true] at h
    obtain ⟨rfl,rfl,h3,h4⟩:=pf h
    exact lF hT (jj hT hm 3) hm hK n hr rb hA fun a' w' r'=>aF.again (k a' w' (key hf h3 h4 r'))
  ·simp at h
def qb (T:aN) (m:Nat) (cL:List Nat) (rs:List ResultVar) (s:RS):Option (Prop×AV×List aj):=
 bif nodupB cL&&kB m cL&&ju m s.mv then (match jt T s.E s.M rs with
 | some l=>(match gR cL s.M cL,ui cL (y4 l) with
  | some M',some x=>some (bn s.vc,x,M')
  | _,_=>none)
 | none=>none) else none
def B3 (P:Program) (T:aN) (sz:Nat) (m:Nat) (rs:List ResultVar) (tb:dX) (n:Nat) (cL:List Nat) (todo:List Item) (E:List (Nat×AV)) (M:List aj):Option (Prop×AV×List aj):=
 match ea P T (walk P T 3) sz tb n todo ⟨[],E,M,[],[]⟩ with
 | some (.code .ret::_,s)=>qb T m cL rs s
 | some ([],s)=>qb T m cL rs s
 | _=>none
theorem aX (hT:bc P T=true) (hm:P.follows .mixedOrders=true) (hK:∀ w,Kp D w0 w→K0 w) {fn:Func} (hf:P.funcs[f]?=some fn) {m:Nat} (al:b.m=m) (tb:dX) (n:Nat) (cL:List Nat) {x:AV} {M':List aj} {A:Prop} (r:RB D w0 K0 sz b E M a w)
  (h:B3 P T sz m fn.results.toList tb n cL todo E M=some (A,x,M')) (hA:A):aF P f todo (fE D w0 K0 b x M') a w:=by
 subst al
 have hb:=r.1
 obtain ⟨b',rb,aQ,hE,hG,iv⟩:=r.re
 have key:∀ {s:RS} {a':Act} {w':World},qb T b.m cL fn.results.toList s=some (A,x,M')→dG false D w0 K0 sz b' s a' w'→bn s.vc=A∧∃ v,(results fn a'.tmps).run P w'=.ok v w'∧Da D w0 K0 b x M' (.returned v) w':=by
  intro s a' w' fD r'
  unfold qb at fD
  cases hc:(nodupB cL&&kB b.m cL&&ju b.m s.mv) with
  | false=>simp only [hc,cond_false,reduceCtorEq] at fD
  | true=>
   simp only [hc,cond_true] at fD
   simp only [Bool.and_eq_true] at hc
   split at fD
   ·rename_i l hl
    split at fD
    ·rename_i M1 x1 hM hx
     simp only [Option.some.injEq,Prod.mk.injEq] at fD
     obtain ⟨zM,rfl,rfl⟩:=fD
     refine ⟨zM,?_⟩
     obtain ⟨-,I,-,-,β,F,Rm,cq,hs⟩:=r'
     obtain ⟨ys,e1,e2,e3⟩:=pr hT Rm hs hl
     refine ⟨_,td rfl e1,_,rfl,fB β cL,nn F cL,I,AU hc.1.1 hM Rm,?_,hG.trans cq.2.1,BQ hx ?_⟩
     ·have:=B2 (b:=b') (by rw [aQ,iv]) (by rw [iv];exact hc.1.2) (by rw [iv];exact hc.2) cq
      exact fun u q hq=>this u q (hE u q hq)
     ·match ys,l,e2,e3 with
      | [],[],_,_=>exact .tu [] rfl (by simp)
      | [y],[v],_,e3=>exact e3 0 v y rfl rfl
      | y::y'::ys,v::v'::l,e2,e3=>exact .tu _ e2 e3
    ·simp at fD
   ·simp at fD
 unfold B3 at h
 have dE:∀ {s:RS},qb T b.m cL fn.results.toList s=some (A,x,M')→bn s.vc:=by
  intro s fD
  unfold qb at fD
  cases hc:(nodupB cL&&kB b.m cL&&ju b.m s.mv) with
  | false=>simp only [hc,cond_false,reduceCtorEq] at fD
  | true=>
   simp only [hc,cond_true] at fD
   split at fD
   ·split at fD
    ·simp only [Option.some.injEq,Prod.mk.injEq] at fD
     rw [fD.1];exact hA
    ·simp at fD
   ·simp at fD
 split at h
 ·rename_i k s hr
  refine lF hT (jj hT hm 3) hm hK n hr rb (dE h) fun a' w' r'=>?_
  obtain ⟨-,v,h1,h2⟩:=key h r'
  exact aF.ret hf (dG.ou r') h1 h2
 ·rename_i s hr
  refine lF hT (jj hT hm 3) hm hK n hr rb (dE h) fun a' w' r'=>?_
  obtain ⟨-,v,h1,h2⟩:=key h r'
  exact aF.fin hf (dG.ou r') h1 h2
 ·simp at h
theorem aY {x y:AV} {N N':List aj} {todo:List Item} (e1:x=y) (e2:N=N') (h:aF P f todo (fE D w0 K0 b y N') a w):aF P f todo (fE D w0 K0 b x N) a w:=e1▸e2▸h
end Go.Proofs.YtcnpikbbmbombaaGreatDoor
namespace Go.Proofs.YtcnpikbbmbombaaGreatDoor
open Go.RowKit
def tb:aN:=[
 (3,⟨.it .i64,1,8,[.int .i64 0]⟩),
 (5,⟨.it .u8,1,1,[.int .u8 0]⟩),
 (9,⟨.st,1,16,[.string .empty]⟩),
 (31,⟨.sl 5,1,24,[.slice none 0 0]⟩),
 (42,⟨.sr [0,1,2,3,4,5,6] [3,3,3,3,3,40,31],7,72,[.int .i64 0,.int .i64 0,.int .i64 0,.int .i64 0,.int .i64 0,.int .u64 0,.slice none 0 0]⟩),
 (25,⟨.sr [0,1,2] [3,22,23],3,56,[.int .i64 0,.slice none 0 0,.slice none 0 0]⟩),
 (40,⟨.it .u64,1,8,[.int .u64 0]⟩),
 (60,⟨.ar 2 3,2,16,[.int .i64 0,.int .i64 0]⟩),
 (87,⟨.sl 9,1,24,[.slice none 0 0]⟩),
 (23,⟨.sl 3,1,24,[.slice none 0 0]⟩),
 (22,⟨.sl 60,1,24,[.slice none 0 0]⟩),
 (4,⟨.pl,1,1,[.bool false]⟩),
 (94,⟨.sr [0,1,2,3,4,5,6] [9,4,4,4,4,4,4],7,24,[.string .empty,.bool false,.bool false,.bool false,.bool false,.bool false,.bool false]⟩),
 (26,⟨.sl 42,1,24,[.slice none 0 0]⟩),
 (71,⟨.sr [0,1] [69,31],2,32,[.pointer none,.slice none 0 0]⟩),
 (51,⟨.pl,1,8,[.pointer none]⟩),
 (61,⟨.pl,1,8,[.pointer none]⟩),
 (106,⟨.sr [0,1] [31,4],2,32,[.slice none 0 0,.bool false]⟩),
 (115,⟨.sr [0,1] [31,4],2,32,[.slice none 0 0,.bool false]⟩),
 (171,⟨.sr [0,1] [5,5],2,2,[.int .u8 0,.int .u8 0]⟩),
 (21,⟨.it .i32,1,4,[.int .i32 0]⟩),
 (113,⟨.pl,1,8,[.pointer none]⟩),
 (108,⟨.sr [0] [106],2,32,[.slice none 0 0,.bool false]⟩),
 (69,⟨.pl,1,8,[.pointer none]⟩),
 (159,⟨.it .u32,1,4,[.int .u32 0]⟩),
 (91,⟨.sr [0] [31],1,24,[.slice none 0 0]⟩),
 (95,⟨.ar 14 94,98,336,[.string .empty,.bool false,.bool false,.bool false,.bool false,.bool false,.bool false,.string .empty,.bool false,.bool false,.bool false,.bool false,.bool false,.bool false,.string .empty,.bool false,.bool false,.bool false,.bool false,.bool false,.bool false,.string .empty,.bool false,.bool false,.bool false,.bool false,.bool false,.bool false,.string .empty,.bool false,.bool false,.bool false,.bool false,.bool false,.bool false,.string .empty,.bool false,.bool false,.bool false,.bool false,.bool false,.bool false,.string .empty,.bool false,.bool false,.bool false,.bool false,.bool false,.bool false,.string .empty,.bool false,.bool false,.bool false,.bool false,.bool false,.bool false,.string .empty,.bool false,.bool false,.bool false,.bool false,.bool false,.bool false,.string .empty,.bool false,.bool false,.bool false,.bool false,.bool false,.bool false,.string .empty,.bool false,.bool false,.bool false,.bool false,.bool false,.bool false,.string .empty,.bool false,.bool false,.bool false,.bool false,.bool false,.bool false,.string .empty,.bool false,.bool false,.bool false,.bool false,.bool false,.bool false,.string .empty,.bool false,.bool false,.bool false,.bool false,.bool false,.bool false]⟩),
 (149,⟨.ar 24 5,24,24,List.replicate 24 (.int .u8 0)⟩),
 (160,⟨.ar 65 5,65,65,List.replicate 65 (.int .u8 0)⟩),
 (135,⟨.sl 40,1,24,[.slice none 0 0]⟩),
 (32,⟨.it .i64,1,8,[.int .i64 0]⟩),
 (98,⟨.it .u16,1,2,[.int .u16 0]⟩),
 (134,⟨.it .u64,1,8,[.int .u64 0]⟩),
 (79,⟨.pl,1,8,[.nilFunc]⟩),
 (146,⟨.ar 8 5,8,8,[.int .u8 0,.int .u8 0,.int .u8 0,.int .u8 0,.int .u8 0,.int .u8 0,.int .u8 0,.int .u8 0]⟩),
 (2,⟨.it .i64,1,8,[.int .i64 0]⟩),
 (158,⟨.ar 20 40,20,160,List.replicate 20 (.int .u64 0)⟩),
 (167,⟨.ar 32 5,32,32,List.replicate 32 (.int .u8 0)⟩),
 (168,⟨.ar 64 5,64,64,List.replicate 64 (.int .u8 0)⟩),
 (172,⟨.ar 16 171,32,32,List.replicate 32 (.int .u8 0)⟩),
 (121,⟨.pl,1,8,[.pointer none]⟩)]
theorem tk:bc Tryz.prog tb=true:=by kernel_rfl
theorem mo:Tryz.prog.follows .mixedOrders=true:=by kernel_rfl
end Go.Proofs.YtcnpikbbmbombaaGreatDoor
namespace Go.Proofs.YtcnpikbbmbombaaGreatDoor
open Go.RowKit
variable {P:Program}
theorem U {a b:Prop} (h:a) (k:b):a∧b:=⟨h,k⟩
theorem bv {a b:Bool} (h:a=b):DV.v (.bool a)=.v (.bool b):=by rw [h]
theorem wi {x y:Int} (h:x=y ∧ -9223372036854775808≤y∧y<9223372036854775808):IntKind.i64.wrap x=y:=by
 obtain ⟨rfl,h1,h2⟩:=h;simp [IntKind.wrap,IntKind.signed,IntKind.bits];omega
theorem wu {x y:Int} (h:x=y∧0≤y∧y<18446744073709551616):IntKind.u64.wrap x=y:=by
 obtain ⟨rfl,h1,h2⟩:=h;simp [IntKind.wrap,IntKind.signed,IntKind.bits];omega
theorem ne_of_beq_false {a b:Int} (h:(a==b)=false):a≠b:=by intro e;subst e;simp at h
theorem fM {a b:Int} (h:(a != b)=false):a=b:=by simpa [bne] using h
theorem iJ (c:Bool):(fO (Value.bool c)==some true)=c:=by cases c<;>rfl
theorem jI (a b:Bool):∃ b0:Bool,(Value.bool a)=.bool b0∧(bif b0 then (bif a then Value.bool b else undef) else Value.bool false)=.bool (a&&b):=⟨a,rfl,by cases a<;>rfl⟩
theorem iK (x:DV):x=x:=rfl
theorem cK (n:Nat):n=n:=rfl
theorem ax (n:Int):n=n:=rfl
end Go.Proofs.YtcnpikbbmbombaaGreatDoor
namespace Go.Proofs.YtcnpikbbmbombaaGreatDoor
open Go.RowKit
variable {mk:Bool} {P:Program} {T:aN} {f:FuncId} {R:fW} {a:Act} {w:World} {D:List Nat} {w0:World} {K0:World→Prop} {E E1:List (Nat×AV)} {M M1 M2:List aj} {β:Beta} {F:Nat→aq} {I X:aq} {sz:Nat} {b:fc}
theorem RM.nil (h:RM D w0 K0 M β F I w) (T k:Nat):RM D w0 K0 (M++[.rw T k []]) (β++[(none,0)]) (aM F M.length []) I w:=by
 refine h.new (Gr.refl w) (dW.nil w w) ?_
 have:bB (fun w=>K0 w∧Holds w I) (β++[(none,0)]) M.length (.rw T k []) ([]++bL ([]:List (List DV)).length k fun _ _=>[]):=
  .rw (c:=0) (a:=none) (by rw [List.getElem?_append_right (by rw [h.len];exact Nat.le_refl _),h.len];simp) (fun _=>[]) (fun _ _=>[]) (by simp) (by simpa [lay] using eQ.nil T k none) (by simp)
 simpa [bL] using this
theorem RM.cells (h:RM D w0 K0 M β F I w) {u Tb:Nat} {cells cells':List AV} (hu:M[u]?=some (.bx Tb cells)) (hl:cells'.length=cells.length)
  (hc:∀ (j:Nat) c c0 y,cells'[j]?=some c→cells[j]?=some c0→az (fun w=>K0 w∧Holds w I) β c0 y→az (fun w=>K0 w∧Holds w I) β c y):RM D w0 K0 (M.set u (.bx Tb cells')) β F I w where
 len:=by rw [h.len,List.length_set]
 blk:=by
  intro v bl hv
  rw [List.getElem?_set] at hv
  split at hv
  ·rename_i OW;subst OW
   split at hv
   ·simp only [Option.some.injEq] at hv;subst hv
    have hr:=h.blk _ _ hu
    generalize F _=H at hr ⊢
    cases hr with
    | bx hb ys de hr=>
     refine .bx hb ys (by omega) fun j c y h1 h2=>?_
     have hj:j<cells.length:=by rw [← hl];exact (List.getElem?_eq_some_iff.1 h1).1
     exact hc j c _ y h1 (List.getElem?_eq_getElem hj) (hr j _ y (List.getElem?_eq_getElem hj) h2)
   ·cases hv
  ·exact h.blk v bl hv
 st:=by rw [List.length_set];exact h.st
def qc (E:List (Nat×AV)) (t:Nat) (v:AV):List (Nat×AV):=E.map fun x=>bif x.1.beq t then (x.1,v) else x
theorem wE {t:Nat} {v:AV}:∀ {E:List (Nat×AV)} {s:Nat} {u:AV},b9 (qc E t v) s=some u→(s=t∧u=v∧∃ u0,b9 E t=some u0)∨(s≠t∧b9 E s=some u)
 | [],s,u,h=>by simp [qc,b9] at h
 | (k,x)::r,s,u,h=>by
  have ih:=wE (t:=t) (v:=v) (E:=r) (s:=s) (u:=u)
  unfold qc at ih h
  rw [List.map_cons] at h
  cases hk:k.beq t with
  | true=>
   have OX:=Nat.eq_of_beq_eq_true hk;subst OX
   simp only [Nat.beq_refl,cond_true,b9] at h ⊢
   cases hs:k.beq s with
   | true=>
    have:=Nat.eq_of_beq_eq_true hs;subst this
    rw [hs,cond_true,Option.some.injEq] at h
    exact Or.inl ⟨rfl,h.symm,x,rfl⟩
   | false=>
    rw [hs,cond_false] at h
    rcases ih h with ⟨rfl,-,-⟩ | h2
    ·rw [Nat.beq_refl] at hs;cases hs
    ·exact Or.inr h2
  | false=>
   simp only [hk,cond_false,b9] at h ⊢
   cases hs:k.beq s with
   | true=>
    have:=Nat.eq_of_beq_eq_true hs;subst this
    rw [hs,cond_true] at h
    refine Or.inr ⟨?_,h⟩
    rintro rfl;rw [Nat.beq_refl] at hk;cases hk
   | false=>
    rw [hs,cond_false] at h
    exact ih h
def qo:List (Nat×Nat×Nat)→List (Nat×AV)→List aj→Option (List (Nat×AV)×List aj)
 | [],E,M=>some (E,M)
 | (t,T,k)::r,E,M=>match b9 E t with
  | some (.d (.v (.slice none 0 0)))=>qo r (qc E t (.sl M.length 0)) (M++[.rw T k []])
  | _=>none
def qp:List (Nat×Nat×Nat×Nat)→List aj→Option (List aj)
 | [],M=>some M
 | (u,o,T,k)::r,M=>match M[u]? with
  | some (.bx Tb cells)=>(match cells[o]? with
   | some (.d (.v (.slice none 0 0)))=>qp r ((M++[aj.rw T k []]).set u (.bx Tb (cells.set o (.sl M.length 0))))
   | _=>none)
  | _=>none
theorem Cx (h:RM D w0 K0 M β F I w):(β++[((none:Option Addr),0)])[M.length]?=some (none,0):=by rw [List.getElem?_append_right (by rw [h.len];exact Nat.le_refl _),h.len];simp
theorem xn {ev:Nat→Value} {n:Nat}:∀ {ls:List (Nat×Nat×Nat)} {E:List (Nat×AV)} {M:List aj} {β:Beta} {F:Nat→aq},qo ls E M=some (E1,M1)→n≤M.length→RM D w0 K0 M β F I w→(∀ t v,b9 E t=some v→az (fun w=>K0 w∧Holds w I) β v (ev t))→
  ∃ aE F',RM D w0 K0 M1 aE F' I w∧Ext β aE∧(∀ u,u<n→F' u=F u)∧n≤M1.length∧∀ t v,b9 E1 t=some v→az (fun w=>K0 w∧Holds w I) aE v (ev t)
 | [],E,M,β,F,h,hn,hR,hs=>by
  simp only [qo,Option.some.injEq,Prod.mk.injEq] at h;obtain ⟨rfl,rfl⟩:=h
  exact ⟨β,F,hR,fun _ _ h=>h,fun _ _=>rfl,hn,hs⟩
 | (t,T,k)::r,E,M,β,F,h,hn,hR,hs=>by
  unfold qo at h
  split at h
  ·rename_i ht
   obtain ⟨aE,F',h1,h2,h3,h4,h5⟩:=xn h (n:=n) (ev:=ev) (by simp;omega) (hR.nil T k) fun s v hv=>by
    rcases wE hv with ⟨rfl,rfl,-⟩ | ⟨-,h2⟩
    ·have:=hs s _ ht
     generalize ev s=y at this
     cases this with | d h=>cases h;exact .sl (Cx hR)
    ·exact (hs s v h2).mono (fun _ h=>h) (Ext.app β [((none:Option Addr),0)])
   exact ⟨aE,F',h1,fun u x hx=>h2 u x (Ext.app β [((none:Option Addr),0)] u x hx),fun u hu=>(h3 u hu).trans (mX (tc:=[]) F [] u (by omega) (by simp)),h4,h5⟩
  ·cases h
theorem xo {ev:Nat→Value} {n:Nat}:∀ {lc:List (Nat×Nat×Nat×Nat)} {M:List aj} {β:Beta} {F:Nat→aq},qp lc M=some M1→n≤M.length→RM D w0 K0 M β F I w→(∀ t v,b9 E t=some v→az (fun w=>K0 w∧Holds w I) β v (ev t))→
  ∃ aE F',RM D w0 K0 M1 aE F' I w∧Ext β aE∧(∀ u,u<n→F' u=F u)∧n≤M1.length∧∀ t v,b9 E t=some v→az (fun w=>K0 w∧Holds w I) aE v (ev t)
 | [],M,β,F,h,hn,hR,hs=>by
  simp only [qp,Option.some.injEq] at h;subst h
  exact ⟨β,F,hR,fun _ _ h=>h,fun _ _=>rfl,hn,hs⟩
 | (u,o,T,k)::r,M,β,F,h,hn,hR,hs=>by
  unfold qp at h
  split at h
  ·rename_i Tb cells hu
   split at h
   ·rename_i ho
    have OY:=hR.nil T k
    have OZ:=OY.cells (cells':=cells.set o (.sl M.length 0)) (by rw [List.getElem?_append_left (List.getElem?_eq_some_iff.1 hu).1];exact hu) (by simp) fun j c c0 y h1 h2 h3=>by
     rw [List.getElem?_set] at h1
     split at h1
     ·rename_i hj;subst hj
      split at h1
      ·simp only [Option.some.injEq] at h1;subst h1
       rw [ho,Option.some.injEq] at h2;subst h2
       cases h3 with | d h=>cases h;exact .sl (Cx hR)
      ·cases h1
     ·rw [h1,Option.some.injEq] at h2;subst h2;exact h3
    obtain ⟨aE,F',h1,h2,h3,h4,h5⟩:=xo h (n:=n) (ev:=ev) (by simp;omega) OZ fun s v hv=>(hs s v hv).mono (fun _ h=>h) (Ext.app β [((none:Option Addr),0)])
    exact ⟨aE,F',h1,fun u x hx=>h2 u x (Ext.app β [((none:Option Addr),0)] u x hx),fun u hu=>(h3 u hu).trans (mX (tc:=[]) F [] u (by omega) (by simp)),h4,h5⟩
   ·cases h
  ·cases h
theorem cJ.dA (r:cJ mk D w0 K0 sz E M a w) (ls:List (Nat×Nat×Nat)) (lc:List (Nat×Nat×Nat×Nat)) (h:qo ls E M=some (E1,M1)) (h2:qp lc M1=some M2):cJ mk D w0 K0 sz E1 M2 a w:=by
 obtain ⟨g1,I,g2,β,F,hR,hs⟩:=r
 obtain ⟨qE,F1,r1,-,-,-,s1⟩:=xn (ev:=fun t=>a.eval (.tmp t)) (n:=0) h (Nat.zero_le _) hR hs
 obtain ⟨jE,F2,r2,-,-,-,s2⟩:=xo (ev:=fun t=>a.eval (.tmp t)) (n:=0) h2 (Nat.zero_le _) r1 s1
 exact ⟨g1,I,g2,jE,F2,r2,s2⟩
theorem cJ.cast {E':List (Nat×AV)} {M':List aj} (r:cJ mk D w0 K0 sz E M a w) (hE:E=E') (hM:M=M'):cJ mk D w0 K0 sz E' M' a w:=hE▸hM▸r
theorem ei.cast {E':List (Nat×AV)} {M':List aj} (r:ei mk D w0 K0 sz b E M a w) (hE:E=E') (hM:M=M'):ei mk D w0 K0 sz b E' M' a w:=hE▸hM▸r
theorem ei.dA (r:ei mk D w0 K0 sz b E M a w) (ls:List (Nat×Nat×Nat)) (lc:List (Nat×Nat×Nat×Nat)) (h:qo ls E M=some (E1,M1)) (h2:qp lc M1=some M2):ei mk D w0 K0 sz b E1 M2 a w:=by
 obtain ⟨hb,tc,g1,I,g2,g3,β,F,hR,cq,hs⟩:=r
 obtain ⟨qE,F1,r1,e1,f1,l1,s1⟩:=xn (ev:=fun t=>a.eval (.tmp t)) (n:=b.m) h g3 hR hs
 obtain ⟨jE,F2,r2,e2,f2,l2,s2⟩:=xo (ev:=fun t=>a.eval (.tmp t)) (n:=b.m) h2 l1 r1 s1
 exact ⟨hb,tc,g1,I,g2,l2,jE,F2,r2,⟨fun u x hu hx=>e2 u x (e1 u x (cq.1 u x hu hx)),cq.2.1,fun u hu hn=>(f2 u hu).trans ((f1 u hu).trans (cq.2.2 u hu hn))⟩,s2⟩
end Go.Proofs.YtcnpikbbmbombaaGreatDoor
namespace Go.Proofs.YtcnpikbbmbombaaGreatDoor
open Go.RowKit
variable {mk:Bool} {ro:Option Nat} {P:Program} {T:aN} {cl:gm} {f:FuncId} {R:fW} {a:Act} {w:World} {D:List Nat} {w0:World} {K0:World→Prop} {E:List (Nat×AV)} {M:List aj} {sz:Nat} {tb:dX} {todo todo':List Item} {ops:Array Oper} {Q:Exit→Act→World→Prop}
def tQ (P:Program) (T:aN) (cl:gm) (sz:Nat) (ops:Array Oper) (oc:List (Nat×a7)) (rd:List Nat) (i:Nat):RS→Option (List Nat×RS)
 | ⟨vc,E,M,tc,mv⟩=>match ops[i]? with
  | some o=>(bif ig sz o.dst then (match np sz ops E o.guard with
   | some true=>(match step P T cl E M (nx oc i) o.op with
    | some ⟨nO,av,_,_,_,some kV⟩=>some (kV++rd,⟨vc++nO,jb E o.dst av,M,tc,mv⟩)
    | _=>none)
   | some false=>some (rd,⟨vc,jb E o.dst (.d (.v undef)),M,tc,mv⟩)
   | none=>none) else none)
  | none=>none
def uv (P:Program) (T:aN) (cl:gm) (sz:Nat) (ops:Array Oper) (oc:List (Nat×a7)) (rd:List Nat) (i:Nat):RS→Option RS
 | ⟨vc,E,M,tc,mv⟩=>match ops[i]? with
  | some o=>(bif ig sz o.dst then (match np sz ops E o.guard with
   | some true=>(match step P T cl E M (nx oc i) o.op with
    | some out=>(bif yX rd out.tc&&Nat.ble M.length out.M.length then some ⟨vc++out.vc,jb (pW out.mv E) o.dst out.av,out.M,out.tc++tc,out.mv++mv⟩ else none)
    | none=>none)
   | some false=>some ⟨vc,jb E o.dst (.d (.v undef)),M,tc,mv⟩
   | none=>none) else none)
  | none=>none
def uw (g:Nat→Option (List RS)):List Nat→Option (List RS)
 | []=>some []
 | j::r=>match g j,uw g r with | some l,some l'=>some (l++l') | _,_=>none
theorem wF {g:Nat→Option (List RS)}:∀ {r:List Nat} {l:List RS},uw g r=some l→∀ j ∈ r,∃ l',g j=some l'∧∀ s ∈ l',s ∈ l
 | [],_,_,j,hj=>by cases hj
 | i::r,l,h,j,hj=>by
  unfold uw at h
  split at h
  ·rename_i l1 l2 h1 h2
   simp only [Option.some.injEq] at h;subst h
   rcases List.mem_cons.1 hj with rfl | hj
   ·exact ⟨l1,h1,fun s hs=>List.mem_append_left _ hs⟩
   ·obtain ⟨l',h3,h4⟩:=wF h2 j hj
    exact ⟨l',h3,fun s hs=>List.mem_append_right _ (h4 s hs)⟩
  ·cases h
def nz (ops:Array Oper) (nl:List Nat) (L:Array Bool):sk:=match Region.ready .any ops L with
 | []=>.fin
 | i::r=>match mR ops L ((i::r).filter fun j=>!(nl.elem j)) with
  | some j=>.look j
  | none=>.bad
theorem Bk {nl:List Nat} {L:Array Bool} (h:nz ops nl L=.fin):Region.ready .any ops L=[]:=by
 unfold nz at h
 split at h
 ·assumption
 ·split at h<;>cases h
theorem G4 {nl:List Nat} {L:Array Bool} {i:Nat} (h:nz ops nl L=.look i):i ∈ Region.ready .any ops L∧∃ o,ops[i]?=some o∧Region.free .any ops L i=true:=by
 unfold nz at h
 split at h
 ·cases h
 ·rename_i k r hr
  split at h
  ·rename_i j hj
   simp only [sk.look.injEq] at h;subst h
   obtain ⟨h1,h2⟩:=o4 hj
   exact ⟨by rw [hr];exact (List.mem_filter.1 h1).1,h2⟩
  ·cases h
def lx (P:Program) (T:aN) (cl:gm) (sz:Nat) (ops:Array Oper) (oc:List (Nat×a7)) (nl:List Nat):Nat→Array Bool→List Nat→RS→Option (List RS)
 | 0,L,_,s=>(match nz ops nl L with | .fin=>some [s] | _=>none)
 | fuel+1,L,rd,s=>match nz ops nl L with
  | .fin=>some [s]
  | .look i=>(match tQ P T cl sz ops oc rd i s with
   | some (kV,s1)=>lx P T cl sz ops oc nl fuel (L.setIfInBounds i true) kV s1
   | none=>none)
  | _=>uw (fun j=>match uv P T cl sz ops oc rd j s with
   | some s1=>lx P T cl sz ops oc nl fuel (L.setIfInBounds j true) rd s1
   | none=>none) (Region.ready .any ops L)
theorem Im {oc:List (Nat×a7)} {rd kV:List Nat} {i:Nat} {s s1:RS} (h:tQ P T cl sz ops oc rd i s=some (kV,s1)) (hv:bn s1.vc):bn s.vc:=by
 obtain ⟨vc,E,M,tc,mv⟩:=s
 unfold tQ at h
 dsimp only at h
 split at h
 ·rename_i o ho
  cases hd:ig sz o.dst with
  | false=>simp [hd] at h
  | true=>
   simp only [hd,cond_true] at h
   split at h
   ·split at h
    ·simp only [Option.some.injEq,Prod.mk.injEq] at h;obtain ⟨-,rfl⟩:=h;exact (bn.app.1 hv).1
    ·cases h
   ·simp only [Option.some.injEq,Prod.mk.injEq] at h;obtain ⟨-,rfl⟩:=h;exact hv
   ·cases h
 ·cases h
theorem JI {oc:List (Nat×a7)} {rd:List Nat} {i:Nat} {s s1:RS} (h:uv P T cl sz ops oc rd i s=some s1) (hv:bn s1.vc):bn s.vc:=by
 obtain ⟨vc,E,M,tc,mv⟩:=s
 unfold uv at h
 dsimp only at h
 split at h
 ·rename_i o ho
  cases hd:ig sz o.dst with
  | false=>simp [hd] at h
  | true=>
   simp only [hd,cond_true] at h
   split at h
   ·split at h
    ·rename_i out _
     cases hc:(yX rd out.tc&&Nat.ble M.length out.M.length) with
     | false=>simp [hc] at h
     | true=>simp only [hc,cond_true,Option.some.injEq] at h;subst h;exact (bn.app.1 hv).1
    ·cases h
   ·simp only [Option.some.injEq] at h;subst h;exact hv
   ·cases h
 ·cases h
theorem Au {nl:List Nat} {L:Array Bool} (h:nz ops nl L≠.fin):∃ j r,Region.ready .any ops L=j::r:=by
 unfold nz at h
 cases hr:Region.ready .any ops L with
 | nil=>rw [hr] at h;exact absurd rfl h
 | cons j r=>exact ⟨j,r,rfl⟩
theorem vT {oc:List (Nat×a7)} {nl:List Nat}:∀ (fuel:Nat) (L:Array Bool) (rd:List Nat) (s:RS) {l:List RS},lx P T cl sz ops oc nl fuel L rd s=some l→∃ s' ∈ l,bn s'.vc→bn s.vc:=by
 intro fuel
 induction fuel with
 | zero=>
  intro L rd s l h
  unfold lx at h
  split at h
  ·simp only [Option.some.injEq] at h;subst h;exact ⟨s,by simp,id⟩
  ·cases h
 | succ fuel ih=>
  intro L rd s l h
  unfold lx at h
  split at h
  ·simp only [Option.some.injEq] at h;subst h;exact ⟨s,by simp,id⟩
  ·split at h
   ·rename_i hl
    obtain ⟨s',h1,h2⟩:=ih _ _ _ h
    exact ⟨s',h1,fun hv=>Im hl (h2 hv)⟩
   ·cases h
  ·rename_i hn _
   obtain ⟨j,r,hr⟩:=Au (ops:=ops) (nl:=nl) (L:=L) (by intro hf;exact hn hf)
   obtain ⟨l',h1,h2⟩:=wF h j (by rw [hr];exact List.mem_cons_self)
   split at h1
   ·rename_i ho
    obtain ⟨s',h3,h4⟩:=ih _ _ _ h1
    exact ⟨s',h2 s' h3,fun hv=>JI ho (h4 hv)⟩
   ·cases h1
theorem Io (hT:bc P T=true) (cX:jQ P cl) {b:fc} (hK:∀ w,Kp D w0 w→K0 w) (jc:Region.noSelect ops=true) (hQ:∀ d v c a w,Q (.panic c) (Act.put a d v) w→Q (.panic c) a w) {oc:List (Nat×a7)} {nl:List Nat}:
  ∀ (fuel:Nat) (L:Array Bool) (rd:List Nat) (s:RS) {l:List RS} (Rk:World→Prop) (β:Beta) (F:Nat→aq) (I:aq) (a:Act) (w:World),lx P T cl sz ops oc nl fuel L rd s=some l→a.tmps.size=sz→Mk mk a.defers I→b.m≤s.M.length→RM D w0 K0 s.M β F I w→Since b s.mv s.tc β F I→
   (∀ t v,b9 s.E t=some v→az (fun w=>K0 w∧Holds w I) β v (a.eval (.tmp t)))→(∀ u ∈ rd,u<s.M.length)→(∀ w,jr K0 I F rd w→Rk w)→(∀ s' ∈ l,bn s'.vc∧∀ a' w',dG mk D w0 K0 sz b s' a' w'→Q .normal a' w')→kC ro P ops Q Rk fuel L a w:=by
 intro fuel
 induction fuel with
 | zero=>
  intro L rd s l Rk β F I a w h size defers hm Rm cq hs eY gU k
  have C:Ctx D w0 K0 s.E s.M β F I a.eval w:=⟨Rm,hs,fun _=>rfl,fun _=>rfl,fun _=>rfl,hK⟩
  have hR:=gU w (C.yw eY)
  unfold lx at h
  split at h
  ·rename_i hn
   simp only [Option.some.injEq] at h;subst h
   exact ⟨hR,Bk hn,(k s (by simp)).2 a w ⟨size,I,defers,hm,β,F,Rm,cq,hs⟩⟩
  ·cases h
 | succ fuel ih=>
  intro L rd s l Rk β F I a w h size defers hm Rm cq hs eY gU k
  have C:Ctx D w0 K0 s.E s.M β F I a.eval w:=⟨Rm,hs,fun _=>rfl,fun _=>rfl,fun _=>rfl,hK⟩
  have hR:=gU w (C.yw eY)
  unfold lx at h
  split at h
  ·rename_i hn
   simp only [Option.some.injEq] at h;subst h
   have hn:=Bk hn
   exact ⟨hR,fun _=>(k s (by simp)).2 a w ⟨size,I,defers,hm,β,F,Rm,cq,hs⟩,fun i hi=>by rw [hn] at hi;cases hi⟩
  ·rename_i i hn
   obtain ⟨so,o',OJ,l9⟩:=G4 hn
   split at h
   ·rename_i Qk s1 hl
    obtain ⟨s',fk,dE⟩:=vT _ _ _ _ h
    have bo:=dE (k s' fk).1
    obtain ⟨vc,E,M,tc,mv⟩:=s
    dsimp only at hm Rm cq hs eY gU C
    unfold tQ at hl
    dsimp only at hl
    split at hl
    ·rename_i o ho
     cases hd:ig sz o.dst with
     | false=>simp [hd] at hl
     | true=>
      simp only [hd,cond_true] at hl
      have oI:=fun j oj hj kl mE j4=>Region.free_spec ho l9 j oj hj kl mE j4
      split at hl
      ·rename_i hw
       have fC:=k9 (ops:=ops) size hs hw
       split at hl
       ·rename_i nO av _ _ _ kV bC
        simp only [Option.some.injEq,Prod.mk.injEq] at hl;obtain ⟨rfl,rfl⟩:=hl
        have oU:=pq (P:=P) hT cX (d:=o.dst) (ty:=o.type) (pos:=o.pos) (aft:=o.after) (gd:=o.guard) bC
        obtain ⟨yY,rfl,-,aO⟩:=oU
        have mj:=(bn.app.1 bo).2
        obtain ⟨v,mh,nt⟩:=yY C mj
        obtain ⟨e1,e2,e3⟩:=RE.put (E:=E) size defers hs hd mh
        have lq:=ih (L.setIfInBounds i true) _ _ (fun w=>Rk w∧jr K0 I F kV w) β F I (a.put o.dst v) w h e1 e2 hm Rm cq e3 (fun u hu=>by rcases List.mem_append.1 hu with e | e;exact aO u e;exact eY u e)
         (fun w hw=>⟨gU w ⟨hw.1,fun u hu=>hw.2 u (List.mem_append_right _ hu)⟩,hw.1,fun u hu=>hw.2 u (List.mem_append_left _ hu)⟩) k
        exact Aa (fun w hw=>hw.1) (z6 ho (Region.noSelect_spec jc) (hQ o.dst v) _ L a w oI so (Or.inl ⟨fC,fun w' eT=>nt w' eT.2⟩) lq)
       ·cases hl
      ·rename_i hw
       simp only [Option.some.injEq,Prod.mk.injEq] at hl;obtain ⟨rfl,rfl⟩:=hl
       have fC:=k9 (ops:=ops) size hs hw
       obtain ⟨e1,e2,e3⟩:=RE.put (E:=E) size defers hs hd (.d (.v undef))
       have lq:=ih (L.setIfInBounds i true) _ _ Rk β F I (a.put o.dst undef) w h e1 e2 hm Rm cq e3 eY gU k
       exact z6 ho (Region.noSelect_spec jc) (hQ o.dst undef) _ L a w oI so (Or.inr ⟨fC,rfl⟩) lq
      ·cases hl
    ·cases hl
   ·cases h
  ·rename_i hn _
   obtain ⟨j0,r0,EI⟩:=Au (ops:=ops) (nl:=nl) (L:=L) (by intro hf;exact hn hf)
   refine ⟨hR,fun h0=>(by rw [EI] at h0;cases h0),fun j hj=>?_⟩
   obtain ⟨l',h1,h2⟩:=wF h j hj
   split at h1
   ·rename_i s1 jf
    obtain ⟨s',fk,dE⟩:=vT _ _ _ _ h1
    have bo:=dE (k s' (h2 s' fk)).1
    obtain ⟨vc,E,M,tc,mv⟩:=s
    dsimp only at hm Rm cq hs eY gU C
    unfold uv at jf
    dsimp only at jf
    unfold wpOpIn
    split at jf
    ·rename_i o ho
     simp only [ho]
     cases hd:ig sz o.dst with
     | false=>simp [hd] at jf
     | true=>
      simp only [hd,cond_true] at jf
      split at jf
      ·rename_i hw
       have fC:=k9 (ops:=ops) size hs hw
       simp only [fC,if_true]
       split at jf
       ·rename_i out bC
        cases hc:(yX rd out.tc&&Nat.ble M.length out.M.length) with
        | false=>simp [hc] at jf
        | true=>
         simp only [hc,cond_true,Option.some.injEq] at jf;subst jf
         simp only [Bool.and_eq_true] at hc
         have hlen:=Nat.le_of_ble_eq_true hc.2
         have mj:=(bn.app.1 bo).2
         have oU:=(pq (P:=P) hT cX (d:=o.dst) (ty:=o.type) (pos:=o.pos) (aft:=o.after) (gd:=o.guard) bC).qh C mj
         refine a8.wp oU ?_
         rintro v w' ⟨aE,F',I',R',e,hI,hF,nP⟩
         have hk:=vS (ρ:=a.eval) e hs
         obtain ⟨e1,e2,e3⟩:=RE.put size (defers.grow hI) (fun t v hx=>(hk t v hx).mono (fun w hw=>⟨hw.1,hI.holds w hw.2⟩) (Ext.refl _)) hd nP
         refine ih (L.setIfInBounds j true) _ _ Rk aE F' I' (a.put o.dst v) w' h1 e1 e2 (Nat.le_trans hm hlen) R' (cq.step hm e hI hF) e3 (fun u hu=>Nat.lt_of_lt_of_le (eY u hu) hlen) (fun w hw=>gU w ⟨⟨hw.1.1,hI.holds w hw.1.2⟩,fun u hu=>?_⟩) fun s' fk=>k s' (h2 s' fk)
         have zL:u ∉ out.tc:=by
          have:=List.all_eq_true.1 hc.1 u hu
          simpa using this
         rw [← hF u (eY u hu) zL];exact hw.2 u hu
       ·cases jf
      ·rename_i hw
       simp only [Option.some.injEq] at jf;subst jf
       have fC:=k9 (ops:=ops) size hs hw
       simp only [fC,Bool.false_eq_true,if_false]
       obtain ⟨e1,e2,e3⟩:=RE.put (E:=E) size defers hs hd (.d (.v undef))
       exact ⟨fun _ _=>trivial,ih (L.setIfInBounds j true) _ _ Rk β F I (a.put o.dst undef) w h1 e1 e2 hm Rm cq e3 eY gU fun s' fk=>k s' (h2 s' fk)⟩
      ·cases jf
    ·cases jf
   ·cases h1
theorem NO (hT:bc P T=true) (cX:jQ P cl) (hm:P.follows .mixedOrders=true) (hK:∀ w,Kp D w0 w→K0 w) (hQ:∀ d v c a w,Q (.panic c) (Act.put a d v) w→Q (.panic c) a w) {b:fc} {s:RS} (R:dG mk D w0 K0 sz b s a w) (oc:List (Nat×a7)) {nl:List Nat} {id:Nat} {l:List RS} (jc:Region.noSelect ops=true)
  (h:lx P T cl sz ops oc nl ops.size (Array.replicate ops.size false) [] s=some l) (k:∀ s' ∈ l,bn s'.vc∧∀ a' w',dG mk D w0 K0 sz b s' a' w'→Q .normal a' w'):(Code.region id ops true).wpIn (Fl ro) 0 P Q a w:=by
 refine wpIn_region_any hm ?_
 obtain ⟨size,I,defers,hb,β,F,Rm,cq,hs⟩:=R
 have hg:=Gr.drew w
 exact (Io hT cX hK jc hQ ops.size _ [] s (fun _=>True) β F I a w.drew h size defers hb (Rm.gr hg) cq hs (by simp) (fun _ _=>trivial) k).to
def pv (ts:List Nat):List (List Nat)→List RS→Option (List Prop×List (List (Nat×AV)×List aj))
 | [],[]=>some ([],[])
 | l::ls,s::r=>bif nodupB l then (match gR l s.M l,jO l s.E ts,pv ts ls r with
  | some M',some E',some (A,r')=>some (bn s.vc::A,(E',M')::r')
  | _,_,_=>none) else none
 | _,_=>none
theorem Av {ts:List Nat} {E':List (Nat×AV)} {M':List aj}:∀ {ls:List (List Nat)} {r:List RS} {A:List Prop} {o:List (List (Nat×AV)×List aj)},pv ts ls r=some (A,o)→(∀ x ∈ o,x=(E',M'))→bn A→∀ s ∈ r,bn s.vc∧∃ l,nodupB l=true∧gR l s.M l=some M'∧jO l s.E ts=some E'
 | [],[],_,_,_,_,_,s,hs=>by cases hs
 | [],_::_,_,_,h,_,_,_,_=>by simp [pv] at h
 | _::_,[],_,_,h,_,_,_,_=>by simp [pv] at h
 | l::ls,s::r,A,o,h,ho,hA,s',fk=>by
  unfold pv at h
  cases hn:nodupB l with
  | false=>simp [hn] at h
  | true=>
   simp only [hn,cond_true] at h
   split at h
   ·rename_i M1 E1 A1 r1 h1 h2 h3
    simp only [Option.some.injEq,Prod.mk.injEq] at h;obtain ⟨rfl,rfl⟩:=h
    have e:=ho _ List.mem_cons_self
    simp only [Prod.mk.injEq] at e;obtain ⟨rfl,rfl⟩:=e
    rcases List.mem_cons.1 fk with rfl | fk
    ·exact ⟨hA.1,l,hn,h1,h2⟩
    ·exact Av h3 (fun x hx=>ho x (List.mem_cons_of_mem _ hx)) hA.2 s' fk
   ·cases h
def B4 (P:Program) (T:aN) (sz:Nat) (tb:dX) (n:Nat) (nl:List Nat) (zN:List (List Nat)) (ts:List Nat) (todo:List Item) (E:List (Nat×AV)) (M:List aj):Option (List Item×Prop×List (List (Nat×AV)×List aj)):=
 match ea P T (walk P T 3) sz tb n todo ⟨[],E,M,[],[]⟩ with
 | some (.code (.region id ops true)::k,s)=>bif Region.noSelect ops then (match lx P T (walk P T 3) sz ops (yZ tb id) nl ops.size (Array.replicate ops.size false) [] s with
  | some Ls=>(match pv ts zN Ls with | some (A,o)=>some (k,bn A,o) | none=>none)
  | none=>none) else none
 | _=>none
theorem Cy (hT:bc P T=true) (hm:P.follows .mixedOrders=true) (hK:∀ w,Kp D w0 w→K0 w) (tb:dX) (n m:Nat) (nl:List Nat) (zN:List (List Nat)) (ts:List Nat) {A:Prop} {E':List (Nat×AV)} {M':List aj} (r:cJ mk D w0 K0 sz E M a w)
  (h:B4 P T sz tb n nl zN ts todo E M=some (todo',A,List.replicate m (E',M'))) (hA:A) (k:∀ a' w',cJ mk D w0 K0 sz E' M' a' w'→aF P f todo' R a' w'):aF P f todo R a w:=by
 unfold B4 at h
 split at h
 ·rename_i id ops k0 s hr
  cases hs:Region.noSelect ops with
  | false=>simp [hs] at h
  | true=>
   simp only [hs,cond_true] at h
   split at h
   ·rename_i Ls hL
    split at h
    ·rename_i A1 o ho
     simp only [Option.some.injEq,Prod.mk.injEq] at h;obtain ⟨rfl,rfl,rfl⟩:=h
     have hl:=Av ho (fun x hx=>List.eq_of_mem_replicate hx) hA
     obtain ⟨s1,h1,h2⟩:=vT _ _ _ _ hL
     obtain ⟨b,rb⟩:=r.b []
     refine lF hT (jj hT hm 3) hm hK n hr rb (h2 (hl s1 h1).1) fun a1 w1 r1=>aF.code ?_
     refine NO hT (jj hT hm 3) hm hK (by rintro d v c a w ⟨h,-⟩;cases h) r1 _ hs hL fun s' fk=>⟨(hl s' fk).1,fun a' w' r'=>⟨rfl,?_⟩⟩
     obtain ⟨-,l,g1,g2,g3⟩:=hl s' fk
     exact k a' w' (r'.re.mH g1 g2 g3)
    ·cases h
   ·cases h
 ·cases h
def Db (P:Program) (T:aN) (sz:Nat) (tb:dX) (n:Nat) (l ts:List Nat) (todo:List Item) (E:List (Nat×AV)) (M:List aj):Option (List Item×Prop×List (Nat×AV)×List aj):=
 bif nodupB l then (match ea P T (walk P T 3) sz tb n todo ⟨[],E,M,[],[]⟩ with
 | some (t,s)=>lu l ts t s
 | none=>none) else none
theorem DI (hT:bc P T=true) (hm:P.follows .mixedOrders=true) (hK:∀ w,Kp D w0 w→K0 w) (tb:dX) (n:Nat) (l ts:List Nat) {A:Prop} {E':List (Nat×AV)} {M':List aj} (r:cJ mk D w0 K0 sz E M a w)
  (h:Db P T sz tb n l ts todo E M=some (todo',A,E',M')) (hA:A) (k:∀ a' w',cJ mk D w0 K0 sz E' M' a' w'→aF P f todo' R a' w'):aF P f todo R a w:=by
 unfold Db at h
 cases hn:nodupB l with
 | false=>simp [hn] at h
 | true=>
  simp only [hn,cond_true] at h
  split at h
  ·rename_i t s hr
   unfold lu at h
   split at h
   ·rename_i M1 E1 hM hE
    simp only [Option.some.injEq,Prod.mk.injEq] at h
    obtain ⟨rfl,rfl,rfl,rfl⟩:=h
    exact oV hT (jj hT hm 3) hm hK n hr r hA fun a' w' r'=>k a' w' (r'.mH hn hM hE)
   ·cases h
  ·cases h
def oC (id:Nat):Code→List Item→List (List Item)
 | .seq x y,k=>oC id x (.code y::k)++oC id y k
 | .cond _ x y,k=>oC id x k++oC id y k
 | .block i c,k=>oC id c (.inBlock i::k)
 | .loop c,k=>oC id c (.inLoop c::k)
 | .region i _ _,k=>bif i.beq id then [k] else []
 | _,_=>[]
def aft (fn:Func) (id:Nat):List Item:=
 match fn.body with
 | some c=>(match oC id c [] with | t::_=>t | []=>[])
 | none=>[]
end Go.Proofs.YtcnpikbbmbombaaGreatDoor
namespace Go.Proofs.YtcnpikbbmbombaaGreatDoor
open Go.RowKit
variable {mk:Bool} {P:Program} {T:aN} {f:FuncId} {R:fW} {a:Act} {w:World} {D:List Nat} {w0:World} {K0:World→Prop} {E:List (Nat×AV)} {M:List aj} {sz:Nat} {todo todo':List Item} {b:fc}
theorem ei.key (r:ei mk D w0 K0 sz b E M a w):∃ b',dG mk D w0 K0 sz b' ⟨[],E,M,[],[]⟩ a w∧∀ {s:RS} {a':Act} {w':World} {M':List aj} {E':List (Nat×AV)} {l ts:List Nat},nodupB l=true→kB b.m l=true→ju b.m s.mv=true→gR l s.M l=some M'→jO l s.E ts=some E'→dG mk D w0 K0 sz b' s a' w'→ei mk D w0 K0 sz b E' M' a' w':=by
 have hb:=r.1
 obtain ⟨b',rb,aQ,hE,hG,iv⟩:=r.re
 exact ⟨b',rb,fun hn hs hf h3 h4 r'=>ei.from iv hb hE hG (r'.mH (by rw [aQ,iv]) hn (by rw [iv];exact hs) (by rw [iv];exact hf) h3 h4)⟩
def Cz (P:Program) (T:aN) (sz m:Nat) (tb:dX) (n:Nat) (l ts:List Nat) (todo:List Item) (E:List (Nat×AV)) (M:List aj):Option (List Item×Prop×List (Nat×AV)×List aj):=
 bif nodupB l&&kB m l then (match ea P T (walk P T 3) sz tb n todo ⟨[],E,M,[],[]⟩ with
 | some (t,s)=>bif ju m s.mv then lu l ts t s else none
 | none=>none) else none
theorem bS (hT:bc P T=true) (hm:P.follows .mixedOrders=true) (hK:∀ w,Kp D w0 w→K0 w) {m:Nat} (al:b.m=m) (tb:dX) (n:Nat) (l ts:List Nat) {A:Prop} {E':List (Nat×AV)} {M':List aj} (r:ei mk D w0 K0 sz b E M a w)
  (h:Cz P T sz m tb n l ts todo E M=some (todo',A,E',M')) (hA:A) (k:∀ a' w',ei mk D w0 K0 sz b E' M' a' w'→aF P f todo' R a' w'):aF P f todo R a w:=by
 subst al
 obtain ⟨b',rb,key⟩:=r.key
 unfold Cz at h
 cases hn:(nodupB l&&kB b.m l) with
 | false=>simp [hn] at h
 | true=>
  simp only [hn,cond_true] at h
  simp only [Bool.and_eq_true] at hn
  split at h
  ·rename_i t s hr
   cases hf:ju b.m s.mv with
   | false=>simp [hf] at h
   | true=>
    simp only [hf,cond_true] at h
    obtain ⟨rfl,rfl,hM,hE⟩:=pf h
    exact lF hT (jj hT hm 3) hm hK n hr rb hA fun a' w' r'=>k a' w' (key hn.1 hn.2 hf hM hE r')
  ·cases h
end Go.Proofs.YtcnpikbbmbombaaGreatDoor
namespace Go.Proofs.YtcnpikbbmbombaaGreatDoor
open Go.RowKit
variable {mk:Bool} {P:Program} {f:FuncId}
def Le (x x':DV):Prop:=∀ (K:World→Prop) (y:Value) (H:aq),bV K x y H→bV K x' y H
theorem Le.refl (x:DV):Le x x:=fun _ _ _ h=>h
theorem Le.tR (T k:Nat):Le (.v (.slice none 0 0)) (.em T k []):=by
 intro K y H h
 cases h
 have:bV K (.em T k []) (.slice none 0 0) ([]++bL ([]:List (List DV)).length k fun _ _=>[]):=.em (fun _=>[]) (fun _ _=>[]) (by simp) (by simpa [lay] using eQ.nil T k none) (by simp)
 simpa [bL] using this
theorem Le.Dc (k:Nat):Le (.v (.slice none 0 0)) (.ro k []):=by
 intro K y H h
 cases h
 exact .ro (fun _=>[]) (by simp) ⟨none,0,rfl,Nat.le_refl _⟩ (fun w _=>by simpa [lay] using (eQ.nil 0 k none).src (Holds.nil w)) (by simp)
theorem Le.ag {l l':List DV} (hl:l.length=l'.length) (h:∀ (j:Nat) c c',l[j]?=some c→l'[j]?=some c'→Le c c'):Le (.ag l) (.ag l'):=by
 intro K y H r
 cases r with
 | ag ys F nL hr=>
  rw [hl]
  refine .ag ys F (by omega) fun j c z h1 h2=>?_
  have hj:j<l.length:=by rw [hl];exact (List.getElem?_eq_some_iff.1 h1).1
  exact h j _ c (List.getElem?_eq_getElem hj) h1 K z _ (hr j _ z (List.getElem?_eq_getElem hj) h2)
theorem Le.tu {l l':List DV} (hl:l.length=l'.length) (h:∀ (j:Nat) c c',l[j]?=some c→l'[j]?=some c'→Le c c'):Le (.tu l) (.tu l'):=by
 intro K y H r
 cases r with
 | tu ys F nL hr=>
  rw [hl]
  refine .tu ys F (by omega) fun j c z h1 h2=>?_
  have hj:j<l.length:=by rw [hl];exact (List.getElem?_eq_some_iff.1 h1).1
  exact h j _ c (List.getElem?_eq_getElem hj) h1 K z _ (hr j _ z (List.getElem?_eq_getElem hj) h2)
theorem ay.le {args:List AV} {x x':DV} (h:ay P f args x) (e:Le x x'):ay P f args x':=by
 refine ⟨h.1,fun w K ys hK hl hr=>(h.2 w K ys hK hl hr).mono ?_⟩
 rintro ed w' ⟨v,rfl,g,H,⟨Ho,Hi,rfl,hd⟩,n⟩
 exact ⟨_,rfl,g,_,⟨Ho,Hi,rfl,e _ _ _ hd⟩,n⟩
inductive cx:List DV→List DV→Prop where
 | nil:cx [] []
 | cons {x x':DV} {l l':List DV} (h:Le x x') (t:cx l l'):cx (x::l) (x'::l')
theorem cx.ok {l l':List DV} (h:cx l l'):l.length=l'.length∧∀ (j:Nat) c c',l[j]?=some c→l'[j]?=some c'→Le c c':=by
 induction h with
 | nil=>simp
 | cons h t ih=>
  refine ⟨by simp [ih.1],fun j c c' h1 h2=>?_⟩
  cases j with
  | zero=>simp at h1 h2;subst h1 h2;exact h
  | succ j=>exact ih.2 j c c' (by simpa using h1) (by simpa using h2)
theorem cx.tu {l l':List DV} (h:cx l l'):Le (.tu l) (.tu l'):=Le.tu h.ok.1 h.ok.2
end Go.Proofs.YtcnpikbbmbombaaGreatDoor
namespace Go.Proofs.YtcnpikbbmbombaaGreatDoor
open Go.RowKit
variable {mk:Bool} {P:Program} {T:aN} {f:FuncId} {a:Act} {w:World} {D:List Nat} {w0:World} {K0:World→Prop} {E E1:List (Nat×AV)} {M M1 M2:List aj} {β:Beta} {F:Nat→aq} {I X:aq} {sz:Nat} {b:fc}
def NP:List Nat→List aj→Option (List aj)
 | [],M=>some M
 | u::r,M=>match M[u]? with
  | some (.rw T k rows)=>NP r (M.set u (.rw T k (b5 rows)))
  | _=>none
theorem RM.Dd (R:RM D w0 K0 M β F I w) {v n T k:Nat} {rows:List (List DV)} (hv:M[v]?=some (.rw T k rows)) (hn:n=rows.length):∃ F' I',RM D w0 K0 (M.set v .dead) β F' I' w∧bU I I'∧∀ y,az (fun w=>K0 w∧Holds w I) β (.sl v n) y→az (fun w=>K0 w∧Holds w I') β (.d (.ro k (b5 rows))) y:=by
 have R1:=R.x.fS hv
 rw [List.nil_append] at R1
 have hB:=R.blk v _ hv
 refine ⟨aM F v [],F v++I,⟨R1.len,fun u bl hu=>(R1.blk u bl hu).mono (fun w hw=>⟨hw.1,(Holds.app.1 hw.2).2⟩) (Ext.refl _),R1.st.perm (List.Perm.append_left _ List.perm_append_comm)⟩,⟨F v,rfl⟩,fun y r=>?_⟩
 generalize F v=Fv at hB ⊢
 cases r with
 | sl hb=>
  cases hB with
  | rw aQ X G hl hs hr=>
   rw [hb] at aQ;cases aQ
   have hd:=bV.em (K:=fun w=>K0 w∧Holds w I) X G hl hs hr
   have:=tf (K':=fun w=>K0 w∧Holds w (_++I)) hd fun w hw=>⟨⟨hw.1,(Holds.app.1 hw.2).2⟩,(Holds.app.1 hw.2).1⟩
   rw [fa] at this
   rw [hn]
   exact .d this
def ss:List Nat→List (Nat×AV)→List aj→Option (List Prop×List (Nat×AV)×List aj)
 | [],E,M=>some ([],E,M)
 | t::r,E,M=>match b9 E t with
  | some (.sl v n)=>(match M[v]? with
   | some (.rw _ k rows)=>(match ss r (qc E t (.d (.ro k (b5 rows)))) (M.set v .dead) with | some (p,E',M')=>some ((n=rows.length)::p,E',M') | none=>none)
   | _=>none)
  | _=>none
def su:List (Nat×Nat)→List aj→Option (List Prop×List aj)
 | [],M=>some ([],M)
 | (u,o)::r,M=>match M[u]? with
  | some (.bx Tb cells)=>(match cells[o]? with
   | some (.sl v n)=>(match M[v]? with
    | some (.rw _ k rows)=>(match su r ((M.set v .dead).set u (.bx Tb (cells.set o (.d (.ro k (b5 rows)))))) with | some (p,M')=>some ((n=rows.length)::p,M') | none=>none)
    | _=>none)
   | _=>none)
  | _=>none
theorem CA {ev:Nat→Value}:∀ {ls:List Nat} {E:List (Nat×AV)} {M:List aj} {F:Nat→aq} {I:aq} {p:List Prop},ss ls E M=some (p,E1,M1)→bn p→RM D w0 K0 M β F I w→(∀ t v,b9 E t=some v→az (fun w=>K0 w∧Holds w I) β v (ev t))→
  ∃ F' I',RM D w0 K0 M1 β F' I' w∧bU I I'∧∀ t v,b9 E1 t=some v→az (fun w=>K0 w∧Holds w I') β v (ev t)
 | [],E,M,F,I,p,h,_,R,hs=>by
  simp only [ss,Option.some.injEq,Prod.mk.injEq] at h;obtain ⟨-,rfl,rfl⟩:=h
  exact ⟨F,I,R,bU.refl I,hs⟩
 | t::r,E,M,F,I,p,h,hp,R,hs=>by
  unfold ss at h
  split at h
  ·rename_i v n ht
   split at h
   ·rename_i T k rows hv
    split at h
    ·rename_i p' E' M' hr
     simp only [Option.some.injEq,Prod.mk.injEq] at h;obtain ⟨rfl,e1,e2⟩:=h
     rw [e1,e2] at hr
     obtain ⟨F2,I2,R2,g,hA⟩:=R.Dd hv hp.1
     suffices h9:∀ s x,b9 (qc E t (.d (.ro k (b5 rows)))) s=some x→az (fun w=>K0 w∧Holds w I2) β x (ev s) by
      obtain ⟨F',I',q1,q2,q3⟩:=CA (ev:=ev) hr hp.2 R2 h9
      exact ⟨F',I',q1,g.trans q2,q3⟩
     intro s x hx
     rcases wE hx with ⟨rfl,rfl,-⟩ | ⟨-,h2⟩
     ·exact hA _ (hs _ _ ht)
     ·exact (hs s x h2).mono (fun w hw=>⟨hw.1,g.holds w hw.2⟩) (Ext.refl _)
    ·cases h
   ·cases h
  ·cases h
theorem CB:∀ {lc:List (Nat×Nat)} {M:List aj} {F:Nat→aq} {I:aq} {p:List Prop},su lc M=some (p,M1)→bn p→RM D w0 K0 M β F I w→∃ F' I',RM D w0 K0 M1 β F' I' w∧bU I I'
 | [],M,F,I,p,h,_,R=>by
  simp only [su,Option.some.injEq,Prod.mk.injEq] at h;obtain ⟨-,rfl⟩:=h
  exact ⟨F,I,R,bU.refl I⟩
 | (u,o)::r,M,F,I,p,h,hp,R=>by
  unfold su at h
  split at h
  ·rename_i Tb cells hu
   split at h
   ·rename_i v n ho
    split at h
    ·rename_i T k rows hv
     split at h
     ·rename_i p' M' hr
      simp only [Option.some.injEq,Prod.mk.injEq] at h;obtain ⟨rfl,e1⟩:=h
      rw [e1] at hr
      have r8:v≠u:=fun e=>by subst e;rw [hu] at hv;cases hv
      obtain ⟨F2,I2,R2,g,hA⟩:=R.Dd hv hp.1
      have hB:=R.blk u _ hu
      obtain ⟨aO,-⟩:=List.getElem?_eq_some_iff.1 hu
      have EJ:(M.set v .dead)[u]?=some (.bx Tb cells):=by rw [List.getElem?_set,if_neg r8];exact hu
      have j3:=R2.blk u _ EJ
      have gP:bB (fun w=>K0 w∧Holds w I2) β u (.bx Tb (cells.set o (.d (.ro k (b5 rows))))) (F2 u):=by
       have bC:∀ {G:aq},bB (fun w=>K0 w∧Holds w I2) β u (.bx Tb cells) G→G=F2 u→bB (fun w=>K0 w∧Holds w I) β u (.bx Tb cells) (F u)→F2 u=F u→bB (fun w=>K0 w∧Holds w I2) β u (.bx Tb (cells.set o (.d (.ro k (b5 rows))))) (F2 u):=by
        intro G _ _ h3 h4
        rw [h4]
        generalize F u=Fu at h3 ⊢
        cases h3 with
        | bx hb ys hl kq=>
         refine .bx hb ys (by rw [List.length_set];exact hl) fun j c y h1 h2=>?_
         rw [List.getElem?_set] at h1
         split at h1
         ·rename_i hj;subst hj
          split at h1
          ·simp only [Option.some.injEq] at h1;subst h1
           exact hA _ (kq _ _ _ ho h2)
          ·cases h1
         ·exact (kq j c y h1 h2).mono (fun w hw=>⟨hw.1,g.holds w hw.2⟩) (Ext.refl _)
       have lJ:F2 u=F u:=by
        generalize hq:F2 u=q at j3
        generalize oW:F u=q0 at hB
        cases j3 with
        | bx hb ys hl kq=>
         cases hB with
         | bx aQ Ql de DH=>
          rw [hb] at aQ;cases aQ
          have h1:Holds w (F2 u):=R2.jl EJ
          have h2:Holds w (F u):=R.jl hu
          rw [hq] at h1;rw [oW] at h2
          have e1:=h1.one
          have e2:=h2.one
          rw [e1] at e2
          simp only [Option.some.injEq,Obj.cells.injEq] at e2
          rw [e2.1]
       exact bC j3 rfl hB lJ
      have R3:RM D w0 K0 ((M.set v .dead).set u (.bx Tb (cells.set o (.d (.ro k (b5 rows)))))) β F2 I2 w:=by
       refine ⟨by rw [List.length_set];exact R2.len,fun x bl hx=>?_,by rw [List.length_set];exact R2.st⟩
       rw [List.getElem?_set] at hx
       split at hx
       ·rename_i e;subst e
        split at hx
        ·simp only [Option.some.injEq] at hx;subst hx;exact gP
        ·cases hx
       ·exact R2.blk x bl hx
      obtain ⟨F4,I4,R4,g4⟩:=CB hr hp.2 R3
      exact ⟨F4,I4,R4,g.trans g4⟩
     ·cases h
    ·cases h
   ·cases h
  ·cases h
theorem cJ.stay {E2:List (Nat×AV)} {M3:List aj} {p1 p2:List Prop} (r:cJ mk D w0 K0 sz E M a w) (ls:List Nat) (lc:List (Nat×Nat)) (h:ss ls E M=some (p1,E1,M1)) (h2:su lc M1=some (p2,M2)) (q1:bn p1) (q2:bn p2) (e:E1=E2) (e2:M2=M3):cJ mk D w0 K0 sz E2 M3 a w:=by
 subst e e2
 obtain ⟨g1,I,g2,β,F,R,hs⟩:=r
 obtain ⟨F1,I1,R1,gI,s1⟩:=CA (ev:=fun t=>a.eval (.tmp t)) h q1 R hs
 obtain ⟨F2,I2,R2,g⟩:=CB h2 q2 R1
 exact ⟨g1,I2,(g2.grow gI).grow g,β,F2,R2,fun t v hv=>(s1 t v hv).mono (fun w hw=>⟨hw.1,g.holds w hw.2⟩) (Ext.refl _)⟩
end Go.Proofs.YtcnpikbbmbombaaGreatDoor
namespace Go.Proofs.YtcnpikbbmbombaaGreatDoor
open Go.RowKit Go.Deep
theorem Aw {H:Type} {enc:TypeId×Value→H} {P:Program} (hl:laidOutB P=true) {W W':World} (g:Gr W W'):∀ {ts:List TypeId} {vs:List Value} {ds:List (DataW H)} {ps:List MemPlace},(∀ t ∈ ts,P.readableRec t=true∧t<P.types.size)→DataW.TrodAll enc P W 0 (fun _=>true) true ts vs ds ps→(∀ x ∈ ps,x.block<W.heap.size)→DataW.TrodAll enc P W' 0 (fun b=>decide (b<W.heap.size)) true ts vs ds ps
 | [],[],[],_,_,h,_=>h
 | [],_::_,_,_,_,h,_=>h.elim
 | [],[],_::_,_,_,h,_=>h.elim
 | _::_,[],_,_,_,h,_=>h.elim
 | _::_,_::_,[],_,_,h,_=>h.elim
 | t::ts,v::vs,d::ds,ps,ht,h,hp=>by
  obtain ⟨p,q,h1,h2,rfl⟩:=h
  refine ⟨p,q,Below.trod hl (ht t (by simp)).1 (ht t (by simp)).2 h1 g (fun x hx=>hp x (by simp [hx])),Aw hl g (fun t' h'=>ht t' (by simp [h'])) h2 (fun x hx=>hp x (by simp [hx])),rfl⟩
theorem Ip {H:Type} {enc:TypeId×Value→H} {P:Program} {f:Func} {s:ChangeSpec} {W W':World} {args:Array Value} {ds gs:List (DataW H)} {before:List MemPlace} {tb:TypeId} (hl:laidOutB P=true)
  (hp:f.params.toList.all (fun t=>P.readableRec t&&decide (t<P.types.size))=true) (hr:f.resultTypes=#[tb]) (ht:P.underlying tb=some .bool) (hv:s.vars=[])
  (hW:DataW.Whole enc P f.params.toList s.vars false W args.toList ds gs before) (nR:s.fn H (ds++gs)={ results:=[.lit (.bool true)],args:=ds }) (g:Gr W W'):s.post enc P f false true false false W args (.bool true) W':=by
 have zO:=hW
 have aO:=hW.lt
 obtain ⟨p,q,hA,hV,rfl,O0,iw⟩:=hW
 rw [hv] at hV
 match gs,hV with
 | [],hV=>
  cases hV
  refine ⟨ds,[],_,[],p,[],zO,?_,?_,?_,?_,fun h=>by cases h⟩
  ·rw [nR,hr]
   exact ⟨[],[],⟨1,by simp [DataW.trod,ht,Value.cells]⟩,rfl,rfl⟩
  ·rw [nR]
   refine Aw hl g (fun t h=>?_) hA (fun x hx=>aO x (by simp [hx]))
   have:=List.all_eq_true.1 hp t h
   simpa using this
  ·rw [nR,hv];rfl
  ·exact Below.frame g _
def TR (P:Program) (w:World) (t:TypeId) (cs:List Value):Prop:=∃ (H:Type) (enc:TypeId×Value→H) (base:Nat) (sp:Nat→Bool) (held:Bool) (fuel:Nat) (x:DataW H×List MemPlace),DataW.trod enc P w base sp held fuel t cs=some x
theorem TR.of {H:Type} {enc:TypeId×Value→H} {P:Program} {w:World} {base:Nat} {sp:Nat→Bool} {held:Bool} {t:TypeId} {v:Value} {d:DataW H} {ps:List MemPlace} (h:DataW.Trod enc P w base sp held t v d ps):TR P w t v.cells.toList:=by
 obtain ⟨n,h⟩:=h;exact ⟨H,enc,base,sp,held,n,_,h⟩
section
variable {P:Program} {w:World} {t e:TypeId} {cs:List Value}
theorem TR.string (ht:P.underlying t=some .string) (h:TR P w t cs):∃ l:List UInt8,cs=[.string ⟨l.toArray⟩]∧l.length≤maxLen:=by
 obtain ⟨H,enc,base,sp,held,fuel,x,h⟩:=h
 cases fuel with
 | zero=>simp [DataW.trod] at h
 | succ fuel=>
  rw [DataW.trod_step] at h;unfold DataW.trodStep at h;simp only [ht] at h
  split at h<;>try simp_all
  rename_i s
  exact ⟨s.data.toList,by simp,by rw [Array.length_toList];exact h.1⟩
end
end Go.Proofs.YtcnpikbbmbombaaGreatDoor
namespace Go.Proofs
open Go.Shelf
def Tryz.FF:Go.Shelf.Ren:=⟨fun | 137=>102 | 217=>113 | 266=>126 | n=>n,fun | 9=>9 | 5=>5 | 3=>3 | n=>n,fun | n=>n⟩
theorem Tryz.JJ:Go.Proofs.Lays.n137 Tryz.prog Tryz.FF:={
 mixed:=by kernel_rfl
 f137:=Tryz.func102.trans (congrArg some (by kernel_rfl))
 f217:=Tryz.func113.trans (congrArg some (by kernel_rfl))
 f266:=Tryz.func126.trans (congrArg some (by kernel_rfl))
 t3:=Tryz.underlying3
 a3:=Tryz.isAgg3
 z3:=Tryz.sizeOf3
 v3:=Tryz.zeroValue3
 t5:=Tryz.underlying5
 a5:=Tryz.isAgg5
 z5:=Tryz.sizeOf5
 v5:=Tryz.zeroValue5
 t9:=Tryz.underlying9
 a9:=Tryz.isAgg9
 z9:=Tryz.sizeOf9
 v9:=Tryz.zeroValue9 }
open Go.RowKit in
theorem Tryz.strings_IndexByte (s:ByteArray) (c:Int) (w:World):
  Calls Tryz.prog 102 #[.string s,.int .u8 c] w fun e w'=>e=.returned (.int .i64 (Lib.indexByte s.data.toList c.toNat.toUInt8))∧w'=w:=Any.strings_IndexByte Tryz.JJ s c w
def Tryz.FG:Go.Shelf.Ren:=⟨fun | 129=>116 | n=>n,fun | 53=>40 | 3=>3 | 4=>4 | 46=>134 | 5=>5 | 9=>9 | n=>n,fun | n=>n⟩
theorem Tryz.JK:Go.Proofs.Lays.n129 Tryz.prog Tryz.FG:={
 mixed:=by kernel_rfl
 f129:=Tryz.func116.trans (congrArg some (by kernel_rfl))
 t3:=Tryz.underlying3
 a3:=Tryz.isAgg3
 z3:=Tryz.sizeOf3
 v3:=Tryz.zeroValue3
 t4:=Tryz.underlying4
 a4:=Tryz.isAgg4
 z4:=Tryz.sizeOf4
 v4:=Tryz.zeroValue4
 t5:=Tryz.underlying5
 a5:=Tryz.isAgg5
 z5:=Tryz.sizeOf5
 v5:=Tryz.zeroValue5
 t9:=Tryz.underlying9
 a9:=Tryz.isAgg9
 z9:=Tryz.sizeOf9
 v9:=Tryz.zeroValue9
 t46:=Tryz.underlying134
 a46:=Tryz.isAgg134
 z46:=Tryz.sizeOf134
 v46:=Tryz.zeroValue134
 t53:=Tryz.underlying40
 a53:=Tryz.isAgg40
 z53:=Tryz.sizeOf40
 v53:=Tryz.zeroValue40 }
theorem Tryz.bits_Len64 (x:Int) (w:World) (h0:0≤x) (h1:x≤18446744073709551615):
  Calls Tryz.prog 116 #[.int .u64 x] w fun e w'=>e=.returned (.int .i64 (Lib.bitLen x.toNat))∧w'=w:=Any.bits_Len64 Tryz.JK x w h0 h1
def Tryz.FH:Go.Shelf.Ren:=⟨fun | 317=>115 | n=>n,fun | 3=>3 | 46=>134 | n=>n,fun | n=>n⟩
theorem Tryz.JL:Go.Proofs.Lays.n317 Tryz.prog Tryz.FH:={
 mixed:=by kernel_rfl
 f317:=Tryz.func115.trans (congrArg some (by kernel_rfl))
 t3:=Tryz.underlying3
 a3:=Tryz.isAgg3
 z3:=Tryz.sizeOf3
 v3:=Tryz.zeroValue3
 t46:=Tryz.underlying134
 a46:=Tryz.isAgg134
 z46:=Tryz.sizeOf134
 v46:=Tryz.zeroValue134 }
open Go.Lib in
theorem Tryz.internal_strconv_log10Pow2 (x:Nat) (h:x≤64) (w:World):
  Calls Tryz.prog 115 #[.int .i64 x] w fun e w'=>e=.returned (.int .i64 (Lib.l10 x))∧w'=w:=Any.internal_strconv_log10Pow2 Tryz.JL x h w
def Tryz.FI:Go.Shelf.Ren:=⟨fun | 318=>117 | n=>n,fun | 3=>3 | 4=>4 | n=>n,fun | n=>n⟩
theorem Tryz.JM:Go.Proofs.Lays.n318 Tryz.prog Tryz.FI:={
 mixed:=by kernel_rfl
 f318:=Tryz.func117.trans (congrArg some (by kernel_rfl))
 t3:=Tryz.underlying3
 a3:=Tryz.isAgg3
 z3:=Tryz.sizeOf3
 v3:=Tryz.zeroValue3
 t4:=Tryz.underlying4
 a4:=Tryz.isAgg4
 z4:=Tryz.sizeOf4
 v4:=Tryz.zeroValue4 }
open Go.Lib in
theorem Tryz.internal_strconv_bool2_int (b:Bool) (w:World):
  Calls Tryz.prog 117 #[.bool b] w fun e w'=>e=.returned (.int .i64 (if b then 1 else 0))∧w'=w:=Any.internal_strconv_bool2_int Tryz.JM b w
def Tryz.FJ:Go.Shelf.Ren:=⟨fun | 283=>105 | n=>n,fun | 3=>3 | 9=>9 | 4=>4 | n=>n,fun | n=>n⟩
theorem Tryz.JN:Go.Proofs.Lays.n283 Tryz.prog Tryz.FJ:={
 mixed:=by kernel_rfl
 f283:=Tryz.func105.trans (congrArg some (by kernel_rfl))
 t3:=Tryz.underlying3
 a3:=Tryz.isAgg3
 z3:=Tryz.sizeOf3
 v3:=Tryz.zeroValue3
 t4:=Tryz.underlying4
 a4:=Tryz.isAgg4
 z4:=Tryz.sizeOf4
 v4:=Tryz.zeroValue4
 t9:=Tryz.underlying9
 a9:=Tryz.isAgg9
 z9:=Tryz.sizeOf9
 v9:=Tryz.zeroValue9 }
open Go.Lib in
theorem Tryz.internal_strconv_small (i:Nat) (h:i<100) (w:World):
  Calls Tryz.prog 105 #[.int .i64 i] w fun e w'=>e=.returned (.string ⟨(Lib.decDigits i).toArray⟩)∧w'=w:=Any.internal_strconv_small Tryz.JN i h w
def Tryz.FK:Go.Shelf.Ren:=⟨fun | 285=>107 | n=>n,fun | 37=>31 | 53=>40 | 3=>3 | 4=>4 | 51=>159 | 9=>9 | 5=>5 | 0=>0 | n=>n,fun | n=>n⟩
theorem Tryz.JO:Go.Proofs.Lays.n285 Tryz.prog Tryz.FK:={
 mixed:=by kernel_rfl
 f285:=Tryz.func107.trans (congrArg some (by kernel_rfl))
 t0:=Tryz.underlying0
 a0:=Tryz.isAgg0
 z0:=Tryz.sizeOf0
 v0:=Tryz.zeroValue0
 t3:=Tryz.underlying3
 a3:=Tryz.isAgg3
 z3:=Tryz.sizeOf3
 v3:=Tryz.zeroValue3
 t4:=Tryz.underlying4
 a4:=Tryz.isAgg4
 z4:=Tryz.sizeOf4
 v4:=Tryz.zeroValue4
 t5:=Tryz.underlying5
 a5:=Tryz.isAgg5
 z5:=Tryz.sizeOf5
 v5:=Tryz.zeroValue5
 t9:=Tryz.underlying9
 a9:=Tryz.isAgg9
 z9:=Tryz.sizeOf9
 v9:=Tryz.zeroValue9
 t37:=Tryz.underlying31
 a37:=Tryz.isAgg31
 z37:=Tryz.sizeOf31
 v37:=Tryz.zeroValue31
 t51:=Tryz.underlying159
 a51:=Tryz.isAgg159
 z51:=Tryz.sizeOf159
 v51:=Tryz.zeroValue159
 t53:=Tryz.underlying40
 a53:=Tryz.isAgg40
 z53:=Tryz.sizeOf40
 v53:=Tryz.zeroValue40 }
open Go.RowKit Go.Sort Go.Lib in
theorem Tryz.internal_strconv_formatBase10 (blk off cap:Nat) (u:Nat) (d:Array UInt8) (w:World) (hH:Holds (fun (b:UInt8)=>Value.int .u8 (b.toNat:Int)) w blk off d) (hu:u<10 ^ d.size) (ml:u<18446744073709551616) (bJ:d.size<4611686018427387904):
  Calls Tryz.prog 107 #[.slice (some ⟨blk,off,none⟩) d.size cap,.int .u64 u] w fun e w'=>
   e=.returned (.tuple #[])∧∃ (n v':Nat) (dk:Array UInt8),w'=(putRow (fun (b:UInt8)=>Value.int .u8 (b.toNat:Int)) w blk off dk).drewN n∧FmtInv d.size u 0 v' dk:=Any.internal_strconv_formatBase10 Tryz.JO blk off cap u d w hH hu ml bJ
def Tryz.FL:Go.Shelf.Ren:=⟨fun | 171=>70 | 243=>96 | 246=>103 | 283=>105 | 284=>106 | 285=>107 | 286=>108 | 129=>116 | 317=>115 | 318=>117 | 319=>118 | 320=>119 | 337=>127 | 338=>128 | n=>n,fun | 3=>3 | 9=>9 | 2=>2 | 4=>4 | 171=>149 | 0=>0 | 53=>40 | 37=>31 | 5=>5 | 173=>152 | 212=>158 | 51=>159 | 20=>20 | 213=>160 | 46=>134 | 232=>167 | 233=>168 | n=>n,fun | 17=>1 | 18=>3 | 19=>4 | n=>n⟩
theorem Tryz.JP:Go.Proofs.Lays.n171 Tryz.prog Tryz.FL:={
 mixed:=by kernel_rfl
 f129:=Tryz.func116.trans (congrArg some (by kernel_rfl))
 f171:=Tryz.func70.trans (congrArg some (by kernel_rfl))
 f243:=Tryz.func96.trans (congrArg some (by kernel_rfl))
 f246:=Tryz.func103.trans (congrArg some (by kernel_rfl))
 f283:=Tryz.func105.trans (congrArg some (by kernel_rfl))
 f284:=Tryz.func106.trans (congrArg some (by kernel_rfl))
 f285:=Tryz.func107.trans (congrArg some (by kernel_rfl))
 f286:=Tryz.func108.trans (congrArg some (by kernel_rfl))
 f317:=Tryz.func115.trans (congrArg some (by kernel_rfl))
 f318:=Tryz.func117.trans (congrArg some (by kernel_rfl))
 f319:=Tryz.func118.trans (congrArg some (by kernel_rfl))
 f320:=Tryz.func119.trans (congrArg some (by kernel_rfl))
 f337:=Tryz.func127.trans (congrArg some (by kernel_rfl))
 f338:=Tryz.func128.trans (congrArg some (by kernel_rfl))
 t0:=Tryz.underlying0
 a0:=Tryz.isAgg0
 z0:=Tryz.sizeOf0
 v0:=Tryz.zeroValue0
 t2:=Tryz.underlying2
 a2:=Tryz.isAgg2
 z2:=Tryz.sizeOf2
 v2:=Tryz.zeroValue2
 t3:=Tryz.underlying3
 a3:=Tryz.isAgg3
 z3:=Tryz.sizeOf3
 v3:=Tryz.zeroValue3
 t4:=Tryz.underlying4
 a4:=Tryz.isAgg4
 z4:=Tryz.sizeOf4
 v4:=Tryz.zeroValue4
 t5:=Tryz.underlying5
 a5:=Tryz.isAgg5
 z5:=Tryz.sizeOf5
 v5:=Tryz.zeroValue5
 t9:=Tryz.underlying9
 a9:=Tryz.isAgg9
 z9:=Tryz.sizeOf9
 v9:=Tryz.zeroValue9
 t20:=Tryz.underlying20
 a20:=Tryz.isAgg20
 z20:=Tryz.sizeOf20
 v20:=Tryz.zeroValue20
 t37:=Tryz.underlying31
 a37:=Tryz.isAgg31
 z37:=Tryz.sizeOf31
 v37:=Tryz.zeroValue31
 t46:=Tryz.underlying134
 a46:=Tryz.isAgg134
 z46:=Tryz.sizeOf134
 v46:=Tryz.zeroValue134
 t51:=Tryz.underlying159
 a51:=Tryz.isAgg159
 z51:=Tryz.sizeOf159
 v51:=Tryz.zeroValue159
 t53:=Tryz.underlying40
 a53:=Tryz.isAgg40
 z53:=Tryz.sizeOf40
 v53:=Tryz.zeroValue40
 t171:=Tryz.underlying149
 a171:=Tryz.isAgg149
 z171:=Tryz.sizeOf149
 v171:=Tryz.zeroValue149
 t173:=Tryz.underlying152
 a173:=Tryz.isAgg152
 z173:=Tryz.sizeOf152
 v173:=Tryz.zeroValue152
 t212:=Tryz.underlying158
 a212:=Tryz.isAgg158
 z212:=Tryz.sizeOf158
 v212:=Tryz.zeroValue158
 t213:=Tryz.underlying160
 a213:=Tryz.isAgg160
 z213:=Tryz.sizeOf160
 t232:=Tryz.underlying167
 a232:=Tryz.isAgg167
 z232:=Tryz.sizeOf167
 v232:=Tryz.zeroValue167
 t233:=Tryz.underlying168
 a233:=Tryz.isAgg168
 z233:=Tryz.sizeOf168
 v233:=Tryz.zeroValue168
 g17:=by kernel_rfl
 g18:=by kernel_rfl
 g19:=by kernel_rfl }
open Go.RowKit Go.Sort Go.Lib in
theorem Tryz.strconv_Itoa_small (i:Nat) (hi:i<100) (w:World):
  Calls Tryz.prog 70 #[.int .i64 i] w fun e w'=>e=.returned (.string ⟨(Lib.decDigits i).toArray⟩)∧w'=w:=Any.strconv_Itoa_small Tryz.JP i hi w
def Tryz.FM:Go.Shelf.Ren:=⟨fun | 219=>109 | 217=>113 | 225=>120 | 224=>121 | 267=>122 | 266=>126 | 314=>129 | n=>n,fun | 9=>9 | 3=>3 | 4=>4 | 5=>5 | 46=>134 | 146=>165 | 51=>159 | n=>n,fun | 1=>2 | n=>n⟩
theorem Tryz.JQ:Go.Proofs.Lays.n219 Tryz.prog Tryz.FM:={
 mixed:=by kernel_rfl
 f217:=Tryz.func113.trans (congrArg some (by kernel_rfl))
 f219:=Tryz.func109.trans (congrArg some (by kernel_rfl))
 f224:=Tryz.func121.trans (congrArg some (by kernel_rfl))
 f225:=Tryz.func120.trans (congrArg some (by kernel_rfl))
 f266:=Tryz.func126.trans (congrArg some (by kernel_rfl))
 f267:=Tryz.func122.trans (congrArg some (by kernel_rfl))
 f314:=Tryz.func129.trans (congrArg some (by kernel_rfl))
 t3:=Tryz.underlying3
 a3:=Tryz.isAgg3
 z3:=Tryz.sizeOf3
 v3:=Tryz.zeroValue3
 t4:=Tryz.underlying4
 a4:=Tryz.isAgg4
 z4:=Tryz.sizeOf4
 v4:=Tryz.zeroValue4
 t5:=Tryz.underlying5
 a5:=Tryz.isAgg5
 z5:=Tryz.sizeOf5
 v5:=Tryz.zeroValue5
 t9:=Tryz.underlying9
 a9:=Tryz.isAgg9
 z9:=Tryz.sizeOf9
 v9:=Tryz.zeroValue9
 t46:=Tryz.underlying134
 a46:=Tryz.isAgg134
 z46:=Tryz.sizeOf134
 v46:=Tryz.zeroValue134
 t51:=Tryz.underlying159
 a51:=Tryz.isAgg159
 z51:=Tryz.sizeOf159
 v51:=Tryz.zeroValue159
 t146:=Tryz.underlying165
 a146:=Tryz.isAgg165
 z146:=Tryz.sizeOf165
 v146:=Tryz.zeroValue165
 g1:=by kernel_rfl }
open Go.RowKit Go.Lib in
theorem Tryz.stringslite_Index_one (s:ByteArray) (c:UInt8) (w:World):
  Calls Tryz.prog 109 #[.string s,.string ⟨#[c]⟩] w fun e w'=>e=.returned (.int .i64 (Lib.indexByte s.data.toList c))∧w'=w:=Any.stringslite_Index_one Tryz.JQ s c w
def Tryz.FN:Go.Shelf.Ren:=⟨fun | 143=>112 | 219=>109 | 217=>113 | 225=>120 | 224=>121 | 267=>122 | 266=>126 | 314=>129 | n=>n,fun | 9=>9 | 3=>3 | 4=>4 | 5=>5 | 46=>134 | 146=>165 | 51=>159 | n=>n,fun | 1=>2 | n=>n⟩
theorem Tryz.JR:Go.Proofs.Lays.n143 Tryz.prog Tryz.FN:={
 mixed:=by kernel_rfl
 f143:=Tryz.func112.trans (congrArg some (by kernel_rfl))
 f217:=Tryz.func113.trans (congrArg some (by kernel_rfl))
 f219:=Tryz.func109.trans (congrArg some (by kernel_rfl))
 f224:=Tryz.func121.trans (congrArg some (by kernel_rfl))
 f225:=Tryz.func120.trans (congrArg some (by kernel_rfl))
 f266:=Tryz.func126.trans (congrArg some (by kernel_rfl))
 f267:=Tryz.func122.trans (congrArg some (by kernel_rfl))
 f314:=Tryz.func129.trans (congrArg some (by kernel_rfl))
 t3:=Tryz.underlying3
 a3:=Tryz.isAgg3
 z3:=Tryz.sizeOf3
 v3:=Tryz.zeroValue3
 t4:=Tryz.underlying4
 a4:=Tryz.isAgg4
 z4:=Tryz.sizeOf4
 v4:=Tryz.zeroValue4
 t5:=Tryz.underlying5
 a5:=Tryz.isAgg5
 z5:=Tryz.sizeOf5
 v5:=Tryz.zeroValue5
 t9:=Tryz.underlying9
 a9:=Tryz.isAgg9
 z9:=Tryz.sizeOf9
 v9:=Tryz.zeroValue9
 t46:=Tryz.underlying134
 a46:=Tryz.isAgg134
 z46:=Tryz.sizeOf134
 v46:=Tryz.zeroValue134
 t51:=Tryz.underlying159
 a51:=Tryz.isAgg159
 z51:=Tryz.sizeOf159
 v51:=Tryz.zeroValue159
 t146:=Tryz.underlying165
 a146:=Tryz.isAgg165
 z146:=Tryz.sizeOf165
 v146:=Tryz.zeroValue165
 g1:=by kernel_rfl }
open Go.RowKit Go.Lib in
theorem Tryz.strings_Index_one (s:ByteArray) (c:UInt8) (w:World):
  Calls Tryz.prog 112 #[.string s,.string ⟨#[c]⟩] w fun e w'=>e=.returned (.int .i64 (Lib.indexByte s.data.toList c))∧w'=w:=Any.strings_Index_one Tryz.JR s c w
def Tryz.FO:Go.Shelf.Ren:=⟨fun | 138=>111 | 195=>123 | 218=>125 | 143=>112 | 219=>109 | 217=>113 | 225=>120 | 224=>121 | 267=>122 | 266=>126 | 314=>129 | n=>n,fun | 9=>9 | 3=>3 | 4=>4 | 5=>5 | 0=>0 | 46=>134 | 146=>165 | 51=>159 | n=>n,fun | 1=>2 | n=>n⟩
theorem Tryz.JS:Go.Proofs.Lays.n138 Tryz.prog Tryz.FO:={
 mixed:=by kernel_rfl
 f138:=Tryz.func111.trans (congrArg some (by kernel_rfl))
 f143:=Tryz.func112.trans (congrArg some (by kernel_rfl))
 f195:=Tryz.func123.trans (congrArg some (by kernel_rfl))
 f217:=Tryz.func113.trans (congrArg some (by kernel_rfl))
 f218:=Tryz.func125.trans (congrArg some (by kernel_rfl))
 f219:=Tryz.func109.trans (congrArg some (by kernel_rfl))
 f224:=Tryz.func121.trans (congrArg some (by kernel_rfl))
 f225:=Tryz.func120.trans (congrArg some (by kernel_rfl))
 f266:=Tryz.func126.trans (congrArg some (by kernel_rfl))
 f267:=Tryz.func122.trans (congrArg some (by kernel_rfl))
 f314:=Tryz.func129.trans (congrArg some (by kernel_rfl))
 t0:=Tryz.underlying0
 a0:=Tryz.isAgg0
 z0:=Tryz.sizeOf0
 v0:=Tryz.zeroValue0
 t3:=Tryz.underlying3
 a3:=Tryz.isAgg3
 z3:=Tryz.sizeOf3
 v3:=Tryz.zeroValue3
 t4:=Tryz.underlying4
 a4:=Tryz.isAgg4
 z4:=Tryz.sizeOf4
 v4:=Tryz.zeroValue4
 t5:=Tryz.underlying5
 a5:=Tryz.isAgg5
 z5:=Tryz.sizeOf5
 v5:=Tryz.zeroValue5
 t9:=Tryz.underlying9
 a9:=Tryz.isAgg9
 z9:=Tryz.sizeOf9
 v9:=Tryz.zeroValue9
 t46:=Tryz.underlying134
 a46:=Tryz.isAgg134
 z46:=Tryz.sizeOf134
 v46:=Tryz.zeroValue134
 t51:=Tryz.underlying159
 a51:=Tryz.isAgg159
 z51:=Tryz.sizeOf159
 v51:=Tryz.zeroValue159
 t146:=Tryz.underlying165
 a146:=Tryz.isAgg165
 z146:=Tryz.sizeOf165
 v146:=Tryz.zeroValue165
 g1:=by kernel_rfl }
open Go.RowKit Go.Lib in
theorem Tryz.strings_Count_one (s:ByteArray) (c:UInt8) (w:World):
  Calls Tryz.prog 111 #[.string s,.string ⟨#[c]⟩] w fun e w'=>e=.returned (.int .i64 (Lib.countByte s.data.toList c))∧w'=w:=Any.strings_Count_one Tryz.JS s c w
end Go.Proofs
namespace Go.Proofs.YtcnpikbbmbombaaGreatDoor
open Go.RowKit
variable {mk:Bool} {P:Program} {T:aN} {f:FuncId} {R:fW} {a:Act} {w:World} {D:List Nat} {w0:World} {K0:World→Prop} {E:List (Nat×AV)} {M:List aj} {β:Beta} {F:Nat→aq} {I:aq} {sz:Nat} {todo todo':List Item}
theorem aF.rangeFunc {g:Operand} {ps:Array Tmp} {dm body:Code} {k:List Item} {l:Nat} {mark:List Deferred} {w1 w2 wd:World} {gf:FuncId} {args:Array Value} {dd:Deferred} (mF:R.ro=none)
  (he:(Instr.enterLoop f a.tmps ps dm body none).run P w=.ok (l,mark) w1) (NQ:(resolve a.eval (rangeCall g l) 0).run P w1=.ok dd wd) (hinv:(invoke dd.target dd.args).run P wd=.ok (.enter gf args) w2)
  (hc:Calls P gf args w2 fun e w3=>∃ v,e=.returned v∧∃ j w4,(Instr.endLoop l).run P w3=.ok j w4∧aF P f ((j.map Item.code).toList++k) R { a with defers:=mark++a.defers } w4):aF P f (.code (.rangeFunc g ps dm body)::k) R a w:=by
 intro b cs hb hk hr
 have O1:b.roundOf=none:=hr.trans mF
 have s1:=stepR_rangeFunc (P:=P) (b:=b) (a:=a) (k:=k) (cs:=cs) (w:=w) (by rw [hb,O1];exact he) NQ hinv
 obtain ⟨e,w3,fr,⟨v,rfl,j,w4,ur,hg⟩,Mq,nR,K8⟩:=hc (b.atR { a with defers:=mark++a.defers } (.inRangeFunc l::k)::cs)
 have s2:=step_leave_returned (P:=P) (c:=b.atR { a with defers:=mark++a.defers } (.inRangeFunc l::k)) (cs:=cs) K8
 rw [finish_atR_inRangeFunc] at s2
 have s3:=stepR_endRangeFunc (P:=P) (b:=b) (a:={ a with defers:=mark++a.defers }) (k:=k) (cs:=cs) ur
 have hs:Steps P _ _:=Mq
 exact (hg b cs hb hk hr).of ((Steps.one s1).trans (hs.trans ((Steps.one s2).trans (.one s3))))
def rC (E:List (Nat×AV)):List Nat→Option (List (Nat×AV))
 | []=>some []
 | t::r=>(match b9 E t,rC E r with | some v,some l=>some ((t,v)::l) | _,_=>none)
theorem Bl:∀ {ts:List Nat} {E1:List (Nat×AV)},rC E ts=some E1→∀ x ∈ E1,b9 E x.1=some x.2
 | [],E1,h,x,hx=>by simp only [rC,Option.some.injEq] at h;subst h;cases hx
 | t::r,E1,h,x,hx=>by
  unfold rC at h
  split at h
  ·rename_i v l h1 h2
   simp only [Option.some.injEq] at h;subst h
   rcases List.mem_cons.1 hx with rfl | hx
   ·exact h1
   ·exact Bl h2 x hx
  ·simp at h
def LS.still:LS→Bool
 | .busy=>false
 | _=>true
def LS.then:LS→List Item→List Item
 | .left,k=>.code .ret::k
 | _,k=>k
def Bm (P:Program) (T:aN) (f:FuncId) (sz:Nat) (tb:dX) (n:Nat) (l ts:List Nat) (x:AV) (M':List aj) (cL yi:List Nat) (todo:List Item) (E:List (Nat×AV)) (M:List aj):Option (List Item×Prop×List (Nat×AV)×List aj):=
 match ea P T (walk P T 3) sz tb n todo ⟨[],E,M,[],[]⟩ with
 | some (.code (.rangeFunc (.tmp g) ps dm body)::k,s)=>(match b9 s.E g,rC s.E ts with
  | some (.fn gf cD),some E1=>(match kJ (l++[s.M.length]) (.yl s.M.length::cD),gR (l++[s.M.length]) (s.M++[.lp .ready f sz E1 ⟨ps,dm,body⟩]) (l++[s.M.length]) with
   | some told,some Ms=>bif nodupB (l++[s.M.length])&&Nat.ble (l++[s.M.length]).length M'.length&&iT P gf&&nodupB cL then
    (match (mg (jH (s.M++[.lp .ready f sz E1 ⟨ps,dm,body⟩]) (l++[s.M.length])++(M'.drop (l++[s.M.length]).length).map (fb (outer (l++[s.M.length]) (s.M.length+1)))) (l++[s.M.length]) ((M'.take (l++[s.M.length]).length).map (fb (outer (l++[s.M.length]) (s.M.length+1)))))[s.M.length]? with
    | some (.lp ls _ _ _ _)=>bif ls.still then lu cL yi (ls.then k) ⟨aC P gf told Ms x M'::s.vc,s.E,(mg (jH (s.M++[.lp .ready f sz E1 ⟨ps,dm,body⟩]) (l++[s.M.length])++(M'.drop (l++[s.M.length]).length).map (fb (outer (l++[s.M.length]) (s.M.length+1)))) (l++[s.M.length]) ((M'.take (l++[s.M.length]).length).map (fb (outer (l++[s.M.length]) (s.M.length+1))))).set s.M.length .dead,[],[]⟩ else none
    | _=>none) else none
   | _,_=>none)
  | _,_=>none)
 | _=>none
theorem Iq {l:Nat} {r:Loop} {ls:LS} (h:w.heap[l]?=some (.loop r)) (bC:ls.still=true) (hs:r.state=ls.state) (hp:r.pending=ls.kM):(Instr.endLoop l).run P w=.ok ls.kM (cC w l (.loop { r with state:=.exhausted })):=by
 unfold Instr.endLoop Instr.getLoop
 simp only [Sem.run_bind,qU h rfl,Result.andThen_ok,Sem.run_pure,hs,hp]
 rw [if_neg (by cases ls<;>first | decide | simp [LS.still] at bC)]
 simp only [Sem.run_bind,s5 h rfl,Result.andThen_ok,Sem.run_pure]
theorem LS.then_eq (ls:LS) (k:List Item):(ls.kM.map Item.code).toList++k=ls.then k:=by cases ls<;>rfl
theorem tj (hT:bc P T=true) (hm:P.follows .mixedOrders=true) (hK:∀ w,Kp D w0 w→K0 w) (mF:R.ro=none) (tb:dX) (n:Nat) (l ts:List Nat) (x:AV) (M':List aj) (cL yi:List Nat) {A:Prop} {E2:List (Nat×AV)} {M2:List aj} (r:cJ true D w0 K0 sz E M a w)
  (h:Bm P T f sz tb n l ts x M' cL yi todo E M=some (todo',A,E2,M2)) (hA:A) (k:∀ a' w',cJ true D w0 K0 sz E2 M2 a' w'→aF P f todo' R a' w'):aF P f todo R a w:=by
 unfold Bm at h
 split at h
 rotate_left
 ·simp at h
 rename_i g ps dm body k0 s hr
 split at h
 rotate_left
 ·simp at h
 rename_i gf cD E1 hg zP
 split at h
 rotate_left
 ·simp at h
 rename_i told Ms pU oP
 generalize iG:l++[s.M.length]=l2 at h pU oP
 generalize O2:(aj.lp .ready f sz E1 ⟨ps,dm,body⟩)=lp at h oP
 cases hc:(nodupB l2&&Nat.ble l2.length M'.length&&iT P gf&&nodupB cL) with
 | false=>simp only [hc,cond_false,reduceCtorEq] at h
 | true=>
  simp only [hc,cond_true] at h
  simp only [Bool.and_eq_true] at hc
  obtain ⟨⟨⟨iw,hle⟩,kK⟩,Mr⟩:=hc
  generalize O3:mg (jH (s.M++[lp]) l2++(M'.drop l2.length).map (fb (outer l2 (s.M.length+1)))) l2 ((M'.take l2.length).map (fb (outer l2 (s.M.length+1))))=Mo at h
  split at h
  rotate_left
  ·simp at h
  rename_i ls f9 Qm E9 mI DJ
  cases bC:ls.still with
  | false=>simp only [bC,cond_false,reduceCtorEq] at h
  | true=>
  simp only [bC,cond_true] at h
  obtain ⟨rfl,rfl,h3,h4⟩:=pf h
  obtain ⟨ic,sh⟩:=hA
  refine oV hT (jj hT hm 3) hm hK n hr r sh fun a w r=>?_
  obtain ⟨bJ,I,mC,β,F,Rm,hs⟩:=r
  have kr:=hs g _ hg
  generalize hy:a.eval (.tmp g)=y at kr
  cases kr with
  | fn cs cX ir=>
   have he:=run_enterLoop_outer (P:=P) (w:=w) f a.tmps ps dm body
   refine aF.rangeFunc (wd:=(w.alloc (.deferred (some []))).alloc (.loop { state:=.ready,pending:=none,fn:=f,tmps:=a.tmps,params:=ps,assign:=dm,body,defers:=w.heap.size })) (w2:=(w.alloc (.deferred (some []))).alloc (.loop { state:=.ready,pending:=none,fn:=f,tmps:=a.tmps,params:=ps,assign:=dm,body,defers:=w.heap.size })) (gf:=gf) (args:=#[.func (.yield (w.heap.size+1)) #[] #[]]++cs.toArray) (dd:={ target:=.fn (.func gf) cs.toArray,args:=#[.func (.yield (w.heap.size+1)) #[] #[]] }) mF he (by
    simp only [resolve,hy]
    simp [go_sem]) (by simp [invoke,go_sem,A6 kK]) ?_
   have R1:RM D w0 K0 s.M β F ((w.heap.size,.deferred (some []))::I) (w.alloc (.deferred (some []))):=by
    refine ⟨Rm.len,fun u b hb=>(Rm.blk u b hb).mono (fun w hw=>⟨hw.1,(Holds.app.1 (show Holds w ([_]++I) from hw.2)).2⟩) (Ext.refl _),?_⟩
    have:=Rm.st.alloc (.deferred (some []))
    exact this.perm (by classical rw [List.perm_iff_count];intro z;simp only [List.count_append,List.count_cons];omega)
   have gI:bU I ((w.heap.size,.deferred (some []))::I):=⟨[_],rfl⟩
   have mG:∀ t v,b9 s.E t=some v→az (fun w'=>K0 w'∧Holds w' ((w.heap.size,.deferred (some []))::I)) β v (a.eval (.tmp t)):=fun t v hv=>(hs t v hv).mono (fun w hw=>⟨hw.1,gI.holds w hw.2⟩) (Ext.refl _)
   have R2:=R1.new (q:=(some ⟨w.heap.size+1,0,none⟩,0)) (blk:=lp) (Gr.alloc _ (.loop { state:=.ready,pending:=none,fn:=f,tmps:=a.tmps,params:=ps,assign:=dm,body,defers:=w.heap.size })) (by have:=dW.alloc (w.alloc (.deferred (some []))) (.loop { state:=.ready,pending:=none,fn:=f,tmps:=a.tmps,params:=ps,assign:=dm,body,defers:=w.heap.size });rwa [World.size_alloc] at this) (by
    subst O2
    exact .lp (bz:=.ready) (jm R1 _) bJ fun x hx=>(mG x.1 x.2 (Bl zP x hx)).mono (fun _ h=>h) (Ext.app _ _))
   have Mt:(s.M++[lp]).length=s.M.length+1:=by simp
   have je:=jm R1 (some ⟨w.heap.size+1,0,none⟩,0)
   have cS:=Ap (vs:=.yl s.M.length::cD) (ys:=.func (.yield (w.heap.size+1)) #[] #[]::cs) R2 hK (by simp [cX]) (fun j c y e1 e2=>by
    cases j with
    | zero=>simp at e1 e2;subst e1 e2;exact .yl je
    | succ j=>simp at e1 e2;exact ((ir j c y e1 e2).mono (fun w hw=>⟨hw.1,gI.holds w hw.2⟩) (Ext.refl _)).mono (fun _ h=>h) (Ext.app _ _)) pU oP (o9 iw) (Nat.le_of_ble_eq_true hle) ic
   rw [Mt,O3] at cS
   have Mu:(#[.func (.yield (w.heap.size+1)) #[] #[]]++cs.toArray:Array Value)=(Value.func (.yield (w.heap.size+1)) #[] #[]::cs).toArray:=by simp
   rw [Mu]
   refine cS.mono ?_
   rintro e w3 ⟨v,rfl,zW,F3,I3,R3,e3,g3,-,-⟩
   refine ⟨v,rfl,?_⟩
   obtain ⟨H,hF,hB,hH⟩:=R3.at DJ
   have O4:zW[s.M.length]?=some (some ⟨w.heap.size+1,0,none⟩,0):=e3 _ _ (by simp) je
   cases hB with
   | @lp b0 c0 f0 OO oG bz E0 OP tmps hb PT EI=>
    rw [O4] at hb;cases hb
    refine ⟨_,_,Iq (ls:=ls) hH.one bC rfl rfl,?_⟩
    rw [LS.then_eq]
    have R4:=R3.x.fS DJ
    rw [List.nil_append,hF] at R4
    have R5:RM D w0 K0 (Mo.set s.M.length .dead) zW (aM F3 s.M.length []) I3 (cC w3 (w.heap.size+1) (.loop { state:=.exhausted,pending:=ls.kM,fn:=f9,tmps,params:=mI.ps,assign:=mI.dm,body:=mI.body,defers:=oG })):=by
     refine ⟨R4.len,R4.blk,?_⟩
     have s1:=(R4.st.perm (K:=(w.heap.size+1,.loop { state:=ls.state,pending:=ls.kM,fn:=f9,tmps,params:=mI.ps,assign:=mI.dm,body:=mI.body,defers:=oG })::((List.range (Mo.set s.M.length .dead).length).flatMap (aM F3 s.M.length [])++I3)) (by classical rw [List.perm_iff_count];intro z;simp only [List.count_append,List.count_cons,List.count_nil];omega)).set (.loop { state:=.exhausted,pending:=ls.kM,fn:=f9,tmps,params:=mI.ps,assign:=mI.dm,body:=mI.body,defers:=oG })
     exact St.mO (H:=[_]) s1
    refine k _ _ (cJ.mH (mk:=true) (a:={ a with defers:=[{ target:=.collected w.heap.size,args:=#[] }]++a.defers }) (E:=s.E) (M:=Mo.set s.M.length .dead) ⟨bJ,I3,?_,zW,_,R5,fun t v hv=>?_⟩ Mr h3 h4)
    ·have:=Mk.grow mC (gI.trans g3)
     refine ⟨List.nodup_cons.2 ⟨fun hd=>?_,this.1⟩,fun d hd=>?_⟩
     ·obtain ⟨b,e1,e2⟩:=mC.2 _ hd
      cases e1
      have aO:=(Array.getElem?_eq_some_iff.1 ((Holds.app.1 Rm.st.holds).2 _ e2)).1
      exact absurd aO (Nat.lt_irrefl _)
     rcases List.mem_append.1 hd with hd | hd
     ·rw [List.mem_singleton] at hd;subst hd
      obtain ⟨J,hJ⟩:=g3
      exact ⟨_,rfl,by rw [hJ];exact List.mem_append_right _ List.mem_cons_self⟩
     ·exact this.2 d hd
    ·exact ((mG t v hv).mono (fun w hw=>⟨hw.1,g3.holds w hw.2⟩) (Ext.refl _)).mono (fun _ h=>h) (fun u q hq=>e3 u q (by simp) (Ext.app _ _ _ _ hq))
end Go.Proofs.YtcnpikbbmbombaaGreatDoor
namespace Go.Proofs.YtcnpikbbmbombaaGreatDoor
open Go.RowKit
variable {mk:Bool} {P:Program} {T:aN} {f:FuncId} {R:fW} {Re:Ending→World→Prop} {a:Act} {w:World} {D:List Nat} {w0:World} {K0:World→Prop} {E:List (Nat×AV)} {M:List aj} {β:Beta} {F:Nat→aq} {I H:aq} {sz:Nat} {tb:dX} {todo todo':List Item}
def ec (x:AV):Prop:=∀ (K K':World→Prop) (β:Beta) (y:Value),az K β x y→az K' β x y
def gp (b:aj):Prop:=∀ (K K':World→Prop) (β:Beta) (u:Nat) (H:aq),bB K β u b H→bB K' β u b H
theorem ec.v (x:Value):ec (.d (.v x)):=fun K K' β y r=>by cases r with | d r=>cases r with | v=>exact .d (.v _)
theorem ec.pt (u o:Nat):ec (.pt u o):=fun K K' β y r=>by cases r with | pt h=>exact .pt h
theorem ec.sl (u n:Nat):ec (.sl u n):=fun K K' β y r=>by cases r with | sl h=>exact .sl h
theorem gp.bx {T:Nat} {cells:List AV} (h:∀ c ∈ cells,ec c):gp (.bx T cells):=fun K K' β u H r=>by
 cases r with | bx hb ys hl hr=>exact .bx hb ys hl (fun j c y h1 h2=>h c (List.mem_of_getElem? h1) _ _ _ _ (hr j c y h1 h2))
def ux (P:Program):List Deferred→World→World→Prop
 | [],w,w'=>w=w'
 | d::ds,w,w'=>∃ b w1,d.target=.collected b∧(Instr.takeDeferred b).run P w=.ok [] w1∧ux P ds w1 w'
theorem Ax {cs:List Frame}:∀ {ds:List Deferred} {fr:Frame} {w w':World},fr.mode=.returning→fr.defers=ds→ux P ds w w'→Steps P (lone fr cs w) (lone { fr with defers:=[] } cs w')
 | [],fr,w,w',_,hd,h=>by cases h;rw [show ({ fr with defers:=[] }:Frame)=fr by cases fr;simp_all];exact Steps.refl P _
 | d::ds,fr,w,w',hm,hd,⟨b,w1,h1,h2,h3⟩=>by
  have s1:=step_collected (P:=P) (fr:=fr) (cs:=cs) (by rw [hm];simp) hd h1 h2
  have s2:=Ax (cs:=cs) (ds:=ds) (fr:={ fr with defers:=[]++ds }) hm rfl h3
  exact (Steps.one s1).trans s2
theorem aF.NR {fn:Func} {k:List Item} (hf:P.funcs[f]?=some fn) {w':World} (hm:ux P a.defers w w') {v:Value} (hr:(results fn a.tmps).run P w'=.ok v w') (h:Re (.returned v) w'):aF P f (.code .ret::k) (.ends Re) a w:=by
 intro b cs hb hk mF
 rw [Frame.atR_of_none mF]
 have s2:=Ax (P:=P) (cs:=cs) (fr:={ b.at a (.code .ret::k) with mode:=.returning }) rfl rfl hm
 exact ⟨.returned v,w',{ b.at a (.code .ret::k) with mode:=.returning,defers:=[] },h,.of_steps ((Steps.one step_ret).trans s2) (Steps.refl P _),hb,rfl,rfl,hk,fn,by rw [← hb] at hf;exact hf,hr⟩
theorem Ir {b:Nat} {w:World} (h:w.heap[b]?=some (.deferred (some []))):(Instr.takeDeferred b).run P w=.ok [] (cC w b (.deferred none)):=by
 unfold Instr.takeDeferred
 simp only [Sem.run_bind,qU h rfl,Result.andThen_ok,Sem.run_pure,s5 h rfl]
theorem Bn:∀ {ds:List Deferred} {I:aq} {w:World},ds.Nodup→(∀ d ∈ ds,∃ b,d={ target:=.collected b,args:=#[] }∧(b,Obj.deferred (some [])) ∈ I)→St D w0 w (H++I)→∃ w' I',ux P ds w w'∧St D w0 w' (H++I')
 | [],I,w,_,_,s=>⟨w,I,rfl,s⟩
 | d::ds,I,w,hn,h,s=>by
  obtain ⟨b,rfl,hb⟩:=h d List.mem_cons_self
  obtain ⟨s1,s2,rfl⟩:=List.append_of_mem hb
  rw [List.nodup_cons] at hn
  have e1:St D w0 w ((b,.deferred (some []))::(H++(s1++s2))):=s.perm (by classical rw [List.perm_iff_count];intro z;simp only [List.count_append,List.count_cons];omega)
  have e2:=e1.set (.deferred none)
  have e3:St D w0 (cC w b (.deferred none)) (H++((b,.deferred none)::(s1++s2))):=e2.perm (by classical rw [List.perm_iff_count];intro z;simp only [List.count_append,List.count_cons];omega)
  obtain ⟨w',I',g1,g2⟩:=Bn (ds:=ds) hn.2 (fun d hd=>by
   obtain ⟨c,rfl,hc⟩:=h d (List.mem_cons_of_mem _ hd)
   refine ⟨c,rfl,?_⟩
   have kl:c≠b:=fun e=>hn.1 (e▸hd)
   rcases List.mem_append.1 hc with hc | hc
   ·exact List.mem_cons_of_mem _ (List.mem_append_left _ hc)
   ·rcases List.mem_cons.1 hc with hc | hc
    ·cases hc;exact absurd rfl kl
    ·exact List.mem_cons_of_mem _ (List.mem_append_right _ hc)) e3
  exact ⟨w',I',⟨b,_,rfl,Ir e1.holds.one,g1⟩,g2⟩
def wG (P:Program) (T:aN) (sz:Nat) (tb:dX) (n:Nat) (cL ts:List Nat) (todo:List Item) (E:List (Nat×AV)) (M:List aj):Option (Prop×List (Nat×AV)×List aj):=
 bif nodupB cL then (match ea P T (walk P T 3) sz tb n todo ⟨[],E,M,[],[]⟩ with
 | some (.code .ret::_,s)=>(match gR cL s.M cL,jO cL s.E ts with
  | some M',some E'=>some (bn s.vc,E',M')
  | _,_=>none)
 | _=>none) else none
theorem K9 (hT:bc P T=true) (hm:P.follows .mixedOrders=true) (hK:∀ w,Kp D w0 w→K0 w) {fn:Func} (hf:P.funcs[f]?=some fn) (tb:dX) (n:Nat) (cL ts:List Nat) {A:Prop} {E':List (Nat×AV)} {M':List aj} (r:cJ true D w0 K0 sz E M a w)
  (h:wG P T sz tb n cL ts todo E M=some (A,E',M')) (hA:A) (hE:∀ x ∈ E',ec x.2) (hM:∀ b ∈ M',gp b)
  (k:∀ a' w',dn D w0 K0 sz E' M' a' w'→∃ v,(results fn a'.tmps).run P w'=.ok v w'∧Re (.returned v) w'):aF P f todo (.ends Re) a w:=by
 unfold wG at h
 cases hk:nodupB cL with
 | false=>simp [hk] at h
 | true=>
  simp only [hk,cond_true] at h
  split at h
  rotate_left
  ·simp at h
  rename_i k0 s hr
  split at h
  rotate_left
  ·simp at h
  rename_i M1 E1 uW zP
  simp only [Option.some.injEq,Prod.mk.injEq] at h
  obtain ⟨zM,rfl,rfl⟩:=h
  refine oV hT (jj hT hm 3) hm hK n hr r (by rw [zM];exact hA) fun a w r=>?_
  obtain ⟨bJ,I,mC,β,F,Rm,hs⟩:=cJ.mH r hk uW zP
  obtain ⟨w',I',g1,g2⟩:=Bn (P:=P) mC.1 mC.2 Rm.st
  have r':dn D w0 K0 sz E1 M1 { a with defers:=[] } w':=by
   refine ⟨bJ,I',rfl,β,F,⟨Rm.len,fun u b hb=>hM b (List.mem_of_getElem? hb) _ _ _ _ _ (Rm.blk u b hb),g2⟩,fun t v hv=>?_⟩
   exact hE (t,v) (mP hv) _ _ _ _ (hs t v hv)
  obtain ⟨v,h1,h2⟩:=k _ _ r'
  exact aF.NR hf g1 h1 h2
def Mv (w0:World) (K0:World→Prop) (x:AV) (M':List aj):Ending→World→Prop:=fun e w'=>∃ v,e=.returned v∧∃ aE F' I',RM [] w0 K0 M' aE F' I' w'∧az (fun w=>K0 w∧Holds w I') aE x v
abbrev y6 (w0:World) (K0:World→Prop) (x:AV) (M':List aj):fW:=.ends (Mv w0 K0 x M')
def DK (T:aN) (rs:List ResultVar) (E:List (Nat×AV)) (M:List aj):Option AV:=match jt T E M rs with | some l=>some (y4 l) | none=>none
theorem pH (hT:bc P T=true) (hm:P.follows .mixedOrders=true) (hK:∀ w,Kp [] w0 w→K0 w) {fn:Func} (hf:P.funcs[f]?=some fn) (tb:dX) (n:Nat) (cL ts:List Nat) {A:Prop} {E':List (Nat×AV)} {M':List aj} {x:AV} (r:cJ true [] w0 K0 sz E M a w)
  (h:wG P T sz tb n cL ts todo E M=some (A,E',M')) (h2:DK T fn.results.toList E' M'=some x) (hA:A) (hE:∀ x ∈ E',ec x.2) (hM:∀ b ∈ M',gp b):aF P f todo (y6 w0 K0 x M') a w:=by
 refine K9 hT hm hK hf tb n cL ts r h hA hE hM fun a' w' r'=>?_
 obtain ⟨-,I,-,β,F,Rm,hs⟩:=r'
 unfold DK at h2
 split at h2
 ·rename_i l hl
  simp only [Option.some.injEq] at h2;subst h2
  obtain ⟨ys,e1,e2,e3⟩:=pr hT Rm hs hl
  refine ⟨_,td rfl e1,_,rfl,β,F,I,Rm,?_⟩
  match ys,l,e2,e3 with
  | [],[],_,_=>exact .tu [] rfl (by simp)
  | [y],[v],_,e3=>exact e3 0 v y rfl rfl
  | y::y'::ys,v::v'::l,e2,e3=>exact .tu _ e2 e3
 ·simp at h2
theorem cJ.mark (r:cJ mk D w0 K0 sz E M a w):cJ true D w0 K0 sz E M a w:=by
 cases mk with
 | true=>exact r
 | false=>obtain ⟨h1,I,h2,h3⟩:=r;exact ⟨h1,I,by rw [h2];exact Mk.nil I,h3⟩
end Go.Proofs.YtcnpikbbmbombaaGreatDoor
namespace Go.Proofs.YtcnpikbbmbombaaGreatDoor
open Go.RowKit
variable {P:Program} {f:FuncId}
theorem aC.q8 {fn:Func} {c:Code} {args:List AV} {x:AV} {M':List aj} {g:Nat} {row:List DV} (kK:iT P f=true) (hf:P.funcs[f]?=some fn) (hb:fn.body=some c) (n:Nat) (hn:fn.ntmps=n) (hle:Nat.ble args.length n=true)
  (h:∀ (w0:World) (K0:World→Prop) (a:Act),(∀ w,Kp [] w0 w→K0 w)→dn [] w0 K0 n (iZ args 0) [.gw g row] a w0→aF P f [.code c] (y6 w0 K0 x M') a w0):aC P f args [.gw g row] (mapA (·+1) x) (.gw g row::M'.map (fb (·+1))):=by
 refine ⟨kK,?_⟩
 intro D w0 K0 β F I w ys Rm hK hl hr
 have hle:=Nat.le_of_ble_eq_true hle
 have gj:β.length=1:=Rm.len
 have mJ:=Rm.blk 0 _ rfl
 have ql:F 0=[]:=by
  generalize F 0=H at mJ
  cases mJ;rfl
 have bC:St D w0 w ([]++I):=by
  have:=Rm.st
  simpa [List.range_succ,ql] using this
 have sg:∀ w',Kp [] w w'→K0 w'∧Holds w' I:=fun w' k=>by
  have t:St [] w w' []:=⟨k,by simp [keys],by simp [keys],Holds.nil _⟩
  have s':=St.call bC rfl t
  rw [List.nil_append] at s'
  exact ⟨hK _ s'.kp,s'.holds⟩
 rw [ql] at mJ
 have hg:=h w (fun w=>K0 w∧Holds w I) { tmps:=ys.toArray++Array.replicate (fn.ntmps-ys.toArray.size) undef,defers:=[] } sg ⟨by simp;omega,[],rfl,β,fun _=>[],⟨gj,fun u b hu=>by
   cases u with
   | zero=>simp at hu;subst hu;exact mJ.mono (fun w hw=>hw.1) (Ext.refl _)
   | succ u=>simp at hu,by simpa [List.range_succ] using St.none w⟩,by
  intro t v hv
  obtain ⟨y,rfl,rfl,hy⟩:∃ y:Nat×AV,y.1=t∧y.2=v∧y ∈ iZ args 0:=⟨(t,v),rfl,rfl,mP hv⟩
  obtain ⟨-,h2⟩:=qM args 0 y hy
  simp only [Nat.sub_zero] at h2
  obtain ⟨aO,-⟩:=List.getElem?_eq_some_iff.1 h2
  have jz:ys[y.1]?=some ys[y.1]:=List.getElem?_eq_getElem (by omega)
  have he:({ tmps:=ys.toArray++Array.replicate (fn.ntmps-ys.toArray.size) undef,defers:=[] }:Act).eval (.tmp y.1)=ys[y.1]:=by
   have:y.1<ys.length:=by omega
   simp [Act.eval,Array.getD_eq_getD_getElem?,Array.getElem?_append,this]
  rw [he]
  exact (hr y.1 y.2 _ h2 jz).mono (fun w hw=>hw.1) (Ext.refl _)⟩
 refine (qF hf hb hg).mono ?_
 rintro e w' ⟨v,rfl,aE,F',I',R',hx⟩
 have s2:=St.call bC rfl R'.st
 have cy:∀ w,K0 w∧Holds w (I'++I)→(K0 w∧Holds w I)∧Holds w I':=fun w hw=>⟨⟨hw.1,(Holds.app.1 hw.2).2⟩,(Holds.app.1 hw.2).1⟩
 have mN:∀ (u:Nat) q,aE[u]?=some q→(β++aE)[u+1]?=some q:=fun u q hq=>by
  rw [List.getElem?_append_right (by omega),gj,Nat.add_sub_cancel];exact hq
 refine ⟨v,rfl,β++aE,fun u=>match u with | 0=>[] | u+1=>F' u,I'++I,⟨by simp [gj,R'.len];omega,fun u b hu=>?_,?_⟩,Ext.app _ _,⟨I',rfl⟩,n6 mN (hx.mono cy (Ext.refl _))⟩
 ·cases u with
  | zero=>
   simp at hu;subst hu
   exact mJ.mono (fun w hw=>(cy w hw).1) (Ext.app _ _)
  | succ u=>
   rw [List.getElem?_cons_succ,List.getElem?_map,Option.map_eq_some_iff] at hu
   obtain ⟨b0,ff,rfl⟩:=hu
   exact th mN ((R'.blk u b0 ff).mono cy (Ext.refl _))
 ·rw [List.append_assoc] at s2
  rw [List.length_cons,List.length_map,List.range_succ_eq_map,List.flatMap_cons,List.nil_append,List.flatMap_map]
  exact s2
def DL:aj→Bool
 | .gw _ _=>true
 | _=>false
theorem aC.JT {fn:Func} {c:Code} {args:List AV} {x:AV} {M' G:List aj} (hG:G.all DL=true) (kK:iT P f=true) (hf:P.funcs[f]?=some fn) (hb:fn.body=some c) (n:Nat) (hn:fn.ntmps=n) (hle:Nat.ble args.length n=true)
  (h:∀ (w0:World) (K0:World→Prop) (a:Act),(∀ w,Kp [] w0 w→K0 w)→dn [] w0 K0 n (iZ args 0) G a w0→aF P f [.code c] (y6 w0 K0 x M') a w0):aC P f args G (mapA (·+G.length) x) (G++M'.map (fb (·+G.length))):=by
 refine ⟨kK,?_⟩
 intro D w0 K0 β F I w ys Rm hK hl hr
 have hle:=Nat.le_of_ble_eq_true hle
 have gj:β.length=G.length:=Rm.len
 have mJ:∀ (u:Nat) b,G[u]?=some b→bB (fun w=>K0 w∧Holds w I) β u b []∧F u=[]:=fun u b hu=>by
  have hg:=List.all_eq_true.1 hG b (List.mem_of_getElem? hu)
  have h:=Rm.blk u b hu
  generalize F u=H at h
  cases b<;>simp [DL] at hg
  cases h with | gw X hl hc hr=>exact ⟨.gw X hl hc hr,rfl⟩
 have eX:(List.range G.length).flatMap F=[]:=by
  rw [List.flatMap_eq_nil_iff]
  intro u hu
  exact (mJ u _ (List.getElem?_eq_getElem (List.mem_range.1 hu))).2
 have bC:St D w0 w ([]++I):=by
  have:=Rm.st
  rwa [eX] at this
 have sg:∀ w',Kp [] w w'→K0 w'∧Holds w' I:=fun w' k=>by
  have t:St [] w w' []:=⟨k,by simp [keys],by simp [keys],Holds.nil _⟩
  have s':=St.call bC rfl t
  rw [List.nil_append] at s'
  exact ⟨hK _ s'.kp,s'.holds⟩
 have hg:=h w (fun w=>K0 w∧Holds w I) { tmps:=ys.toArray++Array.replicate (fn.ntmps-ys.toArray.size) undef,defers:=[] } sg ⟨by simp;omega,[],rfl,β,fun _=>[],⟨gj,fun u b hu=>(mJ u b hu).1.mono (fun w hw=>hw.1) (Ext.refl _),by rw [show (List.range G.length).flatMap (fun _=>([]:aq))=[] by simp];simpa using St.none w⟩,by
  intro t v hv
  obtain ⟨y,rfl,rfl,hy⟩:∃ y:Nat×AV,y.1=t∧y.2=v∧y ∈ iZ args 0:=⟨(t,v),rfl,rfl,mP hv⟩
  obtain ⟨-,h2⟩:=qM args 0 y hy
  simp only [Nat.sub_zero] at h2
  obtain ⟨aO,-⟩:=List.getElem?_eq_some_iff.1 h2
  have jz:ys[y.1]?=some ys[y.1]:=List.getElem?_eq_getElem (by omega)
  have he:({ tmps:=ys.toArray++Array.replicate (fn.ntmps-ys.toArray.size) undef,defers:=[] }:Act).eval (.tmp y.1)=ys[y.1]:=by
   have:y.1<ys.length:=by omega
   simp [Act.eval,Array.getD_eq_getD_getElem?,Array.getElem?_append,this]
  rw [he]
  exact (hr y.1 y.2 _ h2 jz).mono (fun w hw=>hw.1) (Ext.refl _)⟩
 refine (qF hf hb hg).mono ?_
 rintro e w' ⟨v,rfl,aE,F',I',R',hx⟩
 have s2:=St.call bC rfl R'.st
 have cy:∀ w,K0 w∧Holds w (I'++I)→(K0 w∧Holds w I)∧Holds w I':=fun w hw=>⟨⟨hw.1,(Holds.app.1 hw.2).2⟩,(Holds.app.1 hw.2).1⟩
 have mN:∀ (u:Nat) q,aE[u]?=some q→(β++aE)[u+G.length]?=some q:=fun u q hq=>by
  rw [List.getElem?_append_right (by omega),gj,Nat.add_sub_cancel];exact hq
 refine ⟨v,rfl,β++aE,fun u=>if u<G.length then [] else F' (u-G.length),I'++I,⟨by simp [gj,R'.len],fun u b hu=>?_,?_⟩,Ext.app _ _,⟨I',rfl⟩,n6 mN (hx.mono cy (Ext.refl _))⟩
 ·rcases Nat.lt_or_ge u G.length with h | h
  ·rw [List.getElem?_append_left h] at hu
   simp only [h,if_true]
   exact (mJ u b hu).1.mono (fun w hw=>(cy w hw).1) (Ext.app _ _)
  ·rw [List.getElem?_append_right h,List.getElem?_map,Option.map_eq_some_iff] at hu
   obtain ⟨b0,ff,rfl⟩:=hu
   have h':¬ u<G.length:=by omega
   simp only [h',if_false]
   have:=th mN ((R'.blk _ b0 ff).mono cy (Ext.refl _))
   rwa [Nat.sub_add_cancel h] at this
 ·rw [List.append_assoc] at s2
  have e:(List.range (G++M'.map (fb (·+G.length))).length).flatMap (fun u=>if u<G.length then [] else F' (u-G.length))=(List.range M'.length).flatMap F':=by
   rw [List.length_append,List.length_map,List.range_add,List.flatMap_append,List.flatMap_map]
   have e1:(List.range G.length).flatMap (fun u=>if u<G.length then ([]:aq) else F' (u-G.length))=[]:=by
    rw [List.flatMap_eq_nil_iff]
    intro u hu
    simp [List.mem_range.1 hu]
   rw [e1,List.nil_append]
   refine congrArg (fun q=>List.flatMap q _) ?_
   funext u;simp;intro h;omega
  rw [e];exact s2
end Go.Proofs.YtcnpikbbmbombaaGreatDoor
namespace Go.Proofs.YtcnpikbbmbombaaGreatDoor
open Go.RowKit
variable {mk:Bool} {P:Program} {T:aN} {f:FuncId} {R:fW} {a:Act} {w:World} {D:List Nat} {w0:World} {K0:World→Prop} {E:List (Nat×AV)} {M M2:List aj} {β:Beta} {F:Nat→aq} {I H:aq} {sz:Nat} {tb:dX} {todo todo':List Item}
theorem cJ.word (r:cJ mk D w0 K0 sz E M a w) (u:Nat) {b b':aj} (hM:M[u]?=some b) (h:∀ (K:World→Prop) (β:Beta) (H:aq),bB K β u b H→bB K β u b' H):cJ mk D w0 K0 sz E (M.set u b') a w:=by
 obtain ⟨h1,I,h2,β,F,Rm,hs⟩:=r
 refine ⟨h1,I,h2,β,F,⟨by rw [List.length_set];exact Rm.len,fun v c hv=>?_,by rw [List.length_set];exact Rm.st⟩,hs⟩
 rw [List.getElem?_set] at hv
 split at hv
 ·rename_i e
  subst e
  split at hv
  ·simp only [Option.some.injEq] at hv;subst hv;exact h _ _ _ (Rm.blk u b hM)
  ·simp at hv
 ·exact Rm.blk v c hv
inductive iL:List (List DV)→List (List DV)→Prop where
 | nil:iL [] []
 | cons {x x':List DV} {l l':List (List DV)} (h:cx x x') (t:iL l l'):iL (x::l) (x'::l')
theorem iL.ok {l l':List (List DV)} (h:iL l l'):l.length=l'.length∧∀ (i:Nat) r r',l[i]?=some r→l'[i]?=some r'→cx r r':=by
 induction h with
 | nil=>simp
 | cons h t ih=>
  refine ⟨by simp [ih.1],fun i r r' h1 h2=>?_⟩
  cases i with
  | zero=>simp at h1 h2;subst h1 h2;exact h
  | succ i=>exact ih.2 i r r' (by simpa using h1) (by simpa using h2)
theorem cJ.less (r:cJ mk D w0 K0 sz E M a w) (u:Nat) {Tm k:Nat} {rows rows':List (List DV)} (hM:M[u]?=some (.rw Tm k rows)) (h:iL rows rows'):cJ mk D w0 K0 sz E (M.set u (.rw Tm k rows')) a w:=
 r.word u hM fun K β H hb=>by
  cases hb with
  | rw hb X G hl hs hr=>
   obtain ⟨e1,e2⟩:=h.ok
   rw [e1] at hs ⊢
   have key:∀ (i:Nat) r',rows'[i]?=some r'→∃ r,rows[i]?=some r∧r.length=r'.length∧∀ (j:Nat) c c',r[j]?=some c→r'[j]?=some c'→Le c c':=fun i r' hi=>by
    have aO:i<rows.length:=by rw [e1];exact (List.getElem?_eq_some_iff.1 hi).1
    have e:=List.getElem?_eq_getElem aO
    exact ⟨_,e,(e2 i _ r' e hi).ok⟩
   refine .rw hb X G (fun i r' hi=>?_) hs fun i r' j c x hi h1 h2=>?_
   ·obtain ⟨r,g1,g2,-⟩:=key i r' hi
    have:=hl i r g1;omega
   ·obtain ⟨r,g1,g2,g3⟩:=key i r' hi
    have hj:j<r.length:=by rw [g2];exact (List.getElem?_eq_some_iff.1 h1).1
    have e:=List.getElem?_eq_getElem hj
    exact g3 j _ c e h1 K x _ (hr i r j _ x g1 e h2)
def nA:Code→List Item→List (RF×List Item)
 | .seq x y,k=>nA x (.code y::k)++nA y k
 | .cond _ x y,k=>nA x k++nA y k
 | .block i c,k=>nA c (.inBlock i::k)
 | .loop c,k=>nA c (.inLoop c::k)
 | .rangeFunc _ ps dm body,k=>[(⟨ps,dm,body⟩,k)]
 | _,_=>[]
def cV (fn:Func) (n:Nat):RF:=match fn.body with | some c=>(match (nA c [])[n]? with | some x=>x.1 | none=>⟨#[],.skip,.skip⟩) | none=>⟨#[],.skip,.skip⟩
def uy (fn:Func) (n:Nat):List Item:=match fn.body with | some c=>(match (nA c [])[n]? with | some x=>x.2 | none=>[]) | none=>[]
def oD (id:Nat):Code→List (Array Oper)
 | .seq x y=>oD id x++oD id y
 | .cond _ x y=>oD id x++oD id y
 | .block _ c=>oD id c
 | .loop c=>oD id c
 | .region i ops _=>bif i.beq id then [ops] else []
 | _=>[]
def ops (fn:Func) (id:Nat):Array Oper:=match fn.body with | some c=>(match oD id c with | o::_=>o | []=>#[]) | none=>#[]
end Go.Proofs.YtcnpikbbmbombaaGreatDoor
namespace Go.Proofs.YtcnpikbbmbombaaGreatDoor
open Go.RowKit
variable {mk:Bool} {P:Program} {T:aN} {a:Act} {w:World} {D:List Nat} {w0:World} {K0:World→Prop} {E E1 E2:List (Nat×AV)} {M M1 M2 M3:List aj} {β:Beta} {F:Nat→aq} {I X:aq} {sz:Nat} {b:fc}
theorem ei.via {ι:Type} {N:ι→List aj} (r:ei mk D w0 K0 sz b E M a w) (h:∀ β F I,RM D w0 K0 M β F I w→∃ x aE F' I',RM D w0 K0 (N x) aE F' I' w∧Ext β aE∧bU I I'∧M.length≤(N x).length):∃ x,ei mk D w0 K0 sz b E (N x) a w:=by
 obtain ⟨hb,tc,h1,I,h2,h3,β,F,R,cq,hs⟩:=r
 obtain ⟨x,aE,F',I',R',e,g,hl⟩:=h β F I R
 exact ⟨x,hb,List.range b.m,h1,I',h2.grow g,Nat.le_trans h3 hl,aE,F',R',⟨fun u x hu hx=>e u x (cq.1 u x hu hx),cq.2.1.trans g,fun u hu hn=>absurd (List.mem_range.2 hu) hn⟩,fun t v hv=>(hs t v hv).mono (fun w hw=>⟨hw.1,g.holds w hw.2⟩) e⟩
end Go.Proofs.YtcnpikbbmbombaaGreatDoor
namespace Go.Proofs.YtcnpikbbmbombaaGreatDoor
open Go.RowKit
variable {mk:Bool} {P:Program} {T:aN} {a:Act} {w:World} {D:List Nat} {w0:World} {K0:World→Prop} {E:List (Nat×AV)} {M:List aj} {β:Beta} {F:Nat→aq} {I:aq} {sz:Nat} {b:fc}
theorem bB.less {K:World→Prop} {u Tm k:Nat} {rows rows':List (List DV)} {H:aq} (hb:bB K β u (.rw Tm k rows) H) (h:iL rows rows'):bB K β u (.rw Tm k rows') H:=by
 cases hb with
 | rw hb X G hl hs hr=>
  obtain ⟨e1,e2⟩:=h.ok
  rw [e1] at hs ⊢
  have key:∀ (i:Nat) r',rows'[i]?=some r'→∃ r,rows[i]?=some r∧r.length=r'.length∧∀ (j:Nat) c c',r[j]?=some c→r'[j]?=some c'→Le c c':=fun i r' hi=>by
   have aO:i<rows.length:=by rw [e1];exact (List.getElem?_eq_some_iff.1 hi).1
   have e:=List.getElem?_eq_getElem aO
   exact ⟨_,e,(e2 i _ r' e hi).ok⟩
  refine .rw hb X G (fun i r' hi=>?_) hs fun i r' j c x hi h1 h2=>?_
  ·obtain ⟨r,g1,g2,-⟩:=key i r' hi
   have:=hl i r g1;omega
  ·obtain ⟨r,g1,g2,g3⟩:=key i r' hi
   have hj:j<r.length:=by rw [g2];exact (List.getElem?_eq_some_iff.1 h1).1
   have e:=List.getElem?_eq_getElem hj
   exact g3 j _ c e h1 K x _ (hr i r j _ x g1 e h2)
theorem ei.less (r:ei mk D w0 K0 sz b E M a w) (u:Nat) {Tm k:Nat} {rows rows':List (List DV)} (hM:M[u]?=some (.rw Tm k rows)) (h:iL rows rows'):ei mk D w0 K0 sz b E (M.set u (.rw Tm k rows')) a w:=by
 obtain ⟨-,r'⟩:=r.via (N:=fun _:Unit=>M.set u (.rw Tm k rows')) fun β F I R=>⟨(),β,F,I,⟨by rw [List.length_set];exact R.len,fun v c hv=>by
  rw [List.getElem?_set] at hv
  split at hv
  ·rename_i e
   subst e
   split at hv
   ·simp only [Option.some.injEq] at hv;subst hv;exact (R.blk u _ hM).less h
   ·simp at hv
  ·exact R.blk v c hv,by rw [List.length_set];exact R.st⟩,Ext.refl β,bU.refl I,by simp⟩
 exact r'
end Go.Proofs.YtcnpikbbmbombaaGreatDoor
namespace Go.Proofs.YtcnpikbbmbombaaGreatDoor
open Go.RowKit
def tS (G:List aj) (K:World→Prop):Prop:=∀ (u:Nat) blk,G[u]?=some blk→bB K [] u blk []
theorem tS.rm {G:List aj} {K:World→Prop} (h:tS G K) (w:World):RM [] w K G (List.replicate G.length (none,0)) (fun _=>[]) [] w:=by
 refine ⟨by simp,fun u blk hu=>(h u blk hu).mono (fun w hw=>hw.1) (fun _ _ he=>by simp at he),?_⟩
 have e:(List.range G.length).flatMap (fun _=>([]:aq))++[]=[]:=by simp
 rw [e];exact St.none w
theorem aC.La {P:Program} {f:FuncId} {G:List aj} {args:List AV} {w:World} (h:aC P f args G (.d (.v (.bool true))) G) {ys:List Value} (hG:tS G (Gr w)) (hl:ys.length=args.length) (hr:∀ (j:Nat) c y,args[j]?=some c→ys[j]?=some y→az (Gr w) [] c y):Calls P f ys.toArray w fun e w'=>e=.returned (.bool true)∧Gr w w':=by
 refine (h.2 ys (hG.rm w) (fun w' k=>k.tK) hl fun j c y a b=>(hr j c y a b).mono (fun w hw=>hw.1) fun _ _ he=>by simp at he).mono ?_
 rintro e w' ⟨v,rfl,aE,F',I',R',-,-,ha⟩
 cases ha with
 | d hd=>cases hd;exact ⟨rfl,R'.st.kp.tK⟩
end Go.Proofs.YtcnpikbbmbombaaGreatDoor
namespace Go.Proofs.YtcnpikbbmbombaaGreatDoor
open Go.RowKit
structure aB where
 kind:Int
 node:Int
 peer:Int
 n:Int
 bit:Int
 inc:Nat
 body:List UInt8
deriving DecidableEq
structure bK where
 aD:Int
 ah:List (Int×Int)
 homes:List Int
deriving DecidableEq
def aB.row (s:aB):List DV:=[.z s.kind,.z s.node,.z s.peer,.z s.n,.z s.bit,.u s.inc,.ro 1 (af s.body)]
def steps (l:List aB):List (List DV):=l.map aB.row
def ah (l:List (Int×Int)):List (List DV):=l.map fun x=>[.z x.1,.z x.2]
def ints (l:List Int):List (List DV):=l.map fun n=>[.z n]
def strs (l:List (List UInt8)):List (List DV):=l.map fun s=>[.v (.string ⟨s.toArray⟩)]
theorem mV {l:List aB} {i:Nat} {s:aB} (h:l[i]?=some s):(steps l)[i]?=some s.row:=by simp [steps,h]
theorem c7 {l:List (Int×Int)} {i:Nat} {x:Int×Int} (h:l[i]?=some x):(ah l)[i]?=some [.z x.1,.z x.2]:=by simp [ah,h]
theorem ints_at {l:List Int} {i:Nat} {x:Int} (h:l[i]?=some x):(ints l)[i]?=some [.z x]:=by simp [ints,h]
theorem eM {l:List (List UInt8)} {i:Nat} {x:List UInt8} (h:l[i]?=some x):(strs l)[i]?=some [.v (.string ⟨x.toArray⟩)]:=by simp [strs,h]
theorem k6 {l:List UInt8} {i:Nat} {b:UInt8} (h:l[i]?=some b):(af l)[i]?=some [.v (.int .u8 (b.toNat:Int))]:=by simp [af,h]
theorem Ae (l:List UInt8) (n:Nat):af (l.take n)=(af l).take n:=by simp [af,List.map_take]
theorem Af (l:List UInt8) (n:Nat):af (l.drop n)=(af l).drop n:=by simp [af,List.map_drop]
theorem vd (l:List UInt8):b5 (af l)=af l:=by rw [kx];unfold af;rw [List.map_map];apply List.map_congr_left;intro b _;rfl
theorem qq {t:TypeId} {xs ys:List Value} {c c':Bool} (e:kI Tryz.prog t xs ys c) (h:c=c'):kI Tryz.prog t xs ys c':=h▸e
theorem pI (a b c d:Int):kI Tryz.prog 60 [.int .i64 a,.int .i64 b] [.int .i64 c,.int .i64 d] (a==c&&b==d):=⟨by kernel_rfl,fun w=>by
 have:=Fw (P:=Tryz.prog) (w:=w) (t:=60) (e:=3) (dp:=9998) (k:=.i64) (a:=a) (b:=b) (c:=c) (d':=d) (by kernel_rfl) (by kernel_rfl) (by kernel_rfl)
 simpa [Op.equal,Op.maxDepth] using this⟩
def jv (c:bK) (n:Int):Prop:=1≤n∧n≤c.aD
structure nB (c:bK):Prop where
 head:1≤c.aD∧c.aD≤4∧c.homes.length≤6
 link:∀ (i:Nat) x,c.ah[i]?=some x→jv c x.1∧jv c x.2∧x.1≠x.2
 lone:∀ (i k:Nat) x o,c.ah[i]?=some x→k<i→c.ah[k]?=some o→¬ (o.1=x.1∧o.2=x.2)∧¬ (o.1=x.2∧o.2=x.1)
 home:∀ (i:Nat) x,c.homes[i]?=some x→jv c x
noncomputable def bY (c:bK):Bool:=@decide (nB c) (Classical.propDecidable _)
section
variable {c:bK} {i k:Nat}
theorem jJ (h:bY c=true):nB c:=@of_decide_eq_true _ (Classical.propDecidable _) h
theorem yj (h:nB c):bY c=true:=@decide_eq_true _ (Classical.propDecidable _) h
theorem tT (h:¬ nB c):bY c=false:=@decide_eq_false _ (Classical.propDecidable _) h
theorem eH (h:c.aD<1∨4<c.aD∨6<(c.homes.length:Int)):bY c=false:=tT fun m=>by have:=m.head;omega
theorem eI {x:Int×Int} (g:c.ah[i]?=some x) (h:x.1<1∨c.aD<x.1∨x.2<1∨c.aD<x.2∨x.1=x.2):bY c=false:=tT fun m=>by have:=m.link i x g;unfold jv at this;omega
theorem eJ {x o:Int×Int} (g:c.ah[i]?=some x) (hk:k<i) (g2:c.ah[k]?=some o) (h:(o.1=x.1∧o.2=x.2)∨(o.1=x.2∧o.2=x.1)):bY c=false:=tT fun m=>by have:=m.lone i k x o g hk g2;omega
theorem eK {x:Int} (g:c.homes[i]?=some x) (h:x<1∨c.aD<x):bY c=false:=tT fun m=>by have:=m.home i x g;unfold jv at this;omega
def ly (c:bK) (i:Nat):Prop:=∀ (j:Nat) x,j<i→c.ah[j]?=some x→(jv c x.1∧jv c x.2∧x.1≠x.2)∧∀ (k:Nat) o,k<j→c.ah[k]?=some o→¬ (o.1=x.1∧o.2=x.2)∧¬ (o.1=x.2∧o.2=x.1)
def lz (c:bK) (x:Int×Int) (k:Nat):Prop:=∀ (j:Nat) o,j<k→c.ah[j]?=some o→¬ (o.1=x.1∧o.2=x.2)∧¬ (o.1=x.2∧o.2=x.1)
def lA (c:bK) (i:Nat):Prop:=∀ (j:Nat) x,j<i→c.homes[j]?=some x→jv c x
theorem ly.next {x:Int×Int} (h:ly c i) (g:c.ah[i]?=some x) (h1:1≤x.1∧x.1≤c.aD∧1≤x.2∧x.2≤c.aD∧x.1≠x.2) (h2:lz c x i):ly c (i+1):=fun j y hj gy=>by
 rcases Nat.lt_succ_iff_lt_or_eq.1 hj with h' | rfl
 ·exact h j y h' gy
 ·rw [g] at gy;cases gy
  exact ⟨⟨⟨h1.1,h1.2.1⟩,⟨h1.2.2.1,h1.2.2.2.1⟩,h1.2.2.2.2⟩,h2⟩
theorem lz.next {x o:Int×Int} (h:lz c x k) (g:c.ah[k]?=some o) (h1:¬ (o.1=x.1∧o.2=x.2)∧¬ (o.1=x.2∧o.2=x.1)):lz c x (k+1):=fun j y hj gy=>by
 rcases Nat.lt_succ_iff_lt_or_eq.1 hj with h' | rfl
 ·exact h j y h' gy
 ·rw [g] at gy;cases gy;exact h1
theorem lz.none (x:Int×Int):lz c x 0:=fun _ _ h=>absurd h (Nat.not_lt_zero _)
theorem ly.none:ly c 0:=fun _ _ h=>absurd h (Nat.not_lt_zero _)
theorem lA.none:lA c 0:=fun _ _ h=>absurd h (Nat.not_lt_zero _)
theorem lA.next {x:Int} (h:lA c i) (g:c.homes[i]?=some x) (h1:1≤x∧x≤c.aD):lA c (i+1):=fun j y hj gy=>by
 rcases Nat.lt_succ_iff_lt_or_eq.1 hj with h' | rfl
 ·exact h j y h' gy
 ·rw [g] at gy;cases gy;exact h1
theorem eO (h0:1≤c.aD∧c.aD≤4∧(c.homes.length:Int)≤6) (h1:ly c i) (hi:c.ah.length≤i) (h2:lA c k) (hk:c.homes.length≤k):bY c=true:=yj
 ⟨by omega,fun j x g=>(h1 j x (by have:=(List.getElem?_eq_some_iff.1 g).1;omega) g).1,fun j k x o g hk g2=>(h1 j x (by have:=(List.getElem?_eq_some_iff.1 g).1;omega) g).2 k o hk g2,fun j x g=>h2 j x (by have:=(List.getElem?_eq_some_iff.1 g).1;omega) g⟩
end
theorem eV {a b c d:Int}:(a==c&&b==d)=true→a=c∧b=d:=by simp
theorem De {a b c d:Int}:(a==c&&b==d)=false→¬ (a=c∧b=d):=by simp
set_option maxRecDepth 100000 in
theorem rD (c:bK) (hl:c.ah.length≤9223372036854775807) (hh:c.homes.length≤9223372036854775807):ay Tryz.prog 21 [.ag [.z c.aD,.d (.ro 2 (ah c.ah)),.d (.ro 1 (ints c.homes))]] (.v (.bool (bY c))):=by
 refine ay.intro (by kernel_rfl) rfl rfl 87 rfl rfl fun w0 K ac hK r=>?_
 cases h0:(decide ((c.aD:Int)<1)) with
 | false=>
  have aT:=of_decide_eq_false h0
  cases h1:(decide ((4:Int)<c.aD)) with
  | false=>
   have bR:=of_decide_eq_false h1
   have aI:=((by first | rfl | (simp [ah];omega) | simp [af,ah,ints]):(((ints c.homes).length:Nat):Int)=((c.homes.length:Nat):Int))
   cases h2:(decide ((6:Int)<((c.homes.length:Nat):Int))) with
   | false=>
    have cz:=of_decide_eq_false h2
    refine bX (todo':=hd Tryz.f21 0) (E':=[(1,.pt 0 0),(3,.fn 52 [.pt 0 0]),(26,.d (.ro 2 (ah c.ah))),(27,.n c.ah.length),(28,.n 0)]) (M':=[.bx 25 [.z c.aD,.d (.ro 2 (ah c.ah)),.d (.ro 1 (ints c.homes))]]) tk mo hK [(1,[(2,.b false),(6,.b false),(11,.z (((c.homes.length:Nat):Int))),(12,.b false)]),(4,[(2,.z (((c.ah.length:Nat):Int)))])] 2000 [0] [1,3,26,27,28] r (by kernel_rfl) (U h0 (U h1 (U aI (U h2 (U ((by first | rfl | (simp [ah];omega) | simp [af,ah,ints]):(((ah c.ah).length:Nat):Int)=((c.ah.length:Nat):Int)) trivial))))) fun ac wd r=>?_
    refine aF.rounds (Φ:=fun (i:Nat) ac wd=>(ly c i)∧dn [] w0 K 87 [(1,.pt 0 0),(3,.fn 52 [.pt 0 0]),(26,.d (.ro 2 (ah c.ah))),(27,.n c.ah.length),(28,.n i)] [.bx 25 [.z c.aD,.d (.ro 2 (ah c.ah)),.d (.ro 1 (ints c.homes))]] ac wd) (c.ah.length) ?_ (Nat.zero_le _) ⟨ly.none,r⟩
    clear r
    rintro i dw bj ac wd ⟨ao,r⟩
    cases h3:(decide ((((i:Nat):Int):Int)<((c.ah.length:Nat):Int))) with
    | false=>
     have cT:=of_decide_eq_false h3
     refine bX (todo':=hd Tryz.f21 2) (E':=[(1,.pt 0 0),(3,.fn 52 [.pt 0 0]),(76,.d (.ro 1 (ints c.homes))),(77,.n c.homes.length),(78,.n 0)]) (M':=[.bx 25 [.z c.aD,.d (.ro 2 (ah c.ah)),.d (.ro 1 (ints c.homes))]]) tk mo hK [(5,[(0,.b false)]),(16,[(2,.z (((c.homes.length:Nat):Int)))])] 2000 [0] [1,3,76,77,78] r (by kernel_rfl) (U h3 (U aI trivial)) fun ac wd r=>?_
     refine aF.rounds (Φ:=fun (i:Nat) ac wd=>(lA c i)∧dn [] w0 K 87 [(1,.pt 0 0),(3,.fn 52 [.pt 0 0]),(76,.d (.ro 1 (ints c.homes))),(77,.n c.homes.length),(78,.n i)] [.bx 25 [.z c.aD,.d (.ro 2 (ah c.ah)),.d (.ro 1 (ints c.homes))]] ac wd) (c.homes.length) ?_ (Nat.zero_le _) ⟨lA.none,r⟩
     clear r
     rintro i O5 xp ac wd ⟨dK,r⟩
     cases h4:(decide ((((i:Nat):Int):Int)<((c.homes.length:Nat):Int))) with
     | false=>
      have dT:=of_decide_eq_false h4
      rw [show (.v (.bool (bY c)):DV)=.v (.bool true) from (bv (by first | exact eO (by omega) ao (by omega) dK (by omega) | exact eH (by omega) | exact eK cG (by omega) | exact eJ br (by omega) cB (by first | omega | exact .inl (eV (by assumption)) | exact .inr (eV (by assumption))) | exact eI br (by omega)))]
      exact aV tk mo hK rfl [(17,[(0,.b false)])] 2000 r (by kernel_rfl) (U h4 trivial)
     | true=>
      have dT:=of_decide_eq_true h4
      obtain ⟨eu,cG⟩:∃ x_,c.homes[i]?=some x_:=⟨_,List.getElem?_eq_getElem (by omega)⟩
      cases h5:(decide ((1:Int)≤eu)) with
      | false=>
       have du:=of_decide_eq_false h5
       rw [show (.v (.bool (bY c)):DV)=.v (.bool false) from (bv (by first | exact eO (by omega) ao (by omega) dK (by omega) | exact eH (by omega) | exact eK cG (by omega) | exact eJ br (by omega) cB (by first | omega | exact .inl (eV (by assumption)) | exact .inr (eV (by assumption))) | exact eI br (by omega)))]
       exact aV tk mo hK rfl [(17,[(0,.b true)]),(18,[(0,.ix (i) [.z eu])]),(19,[(2,.bw 200 [(1,[(1,.b false)])])])] 2000 r (by kernel_rfl) (U h4 (U (ax ((i:Nat):Int)) (U (ints_at cG) (U h5 trivial))))
      | true=>
       have du:=of_decide_eq_true h5
       cases h6:(decide ((eu:Int)≤c.aD)) with
       | false=>
        have dx:=of_decide_eq_false h6
        rw [show (.v (.bool (bY c)):DV)=.v (.bool false) from (bv (by first | exact eO (by omega) ao (by omega) dK (by omega) | exact eH (by omega) | exact eK cG (by omega) | exact eJ br (by omega) cB (by first | omega | exact .inl (eV (by assumption)) | exact .inr (eV (by assumption))) | exact eI br (by omega)))]
        exact aV tk mo hK rfl [(17,[(0,.b true)]),(18,[(0,.ix (i) [.z eu])]),(19,[(2,.bw 200 [(1,[(1,.b true),(6,.b false)])])])] 2000 r (by kernel_rfl) (U h4 (U (ax ((i:Nat):Int)) (U (ints_at cG) (U h5 (U h6 trivial)))))
       | true=>
        have dx:=of_decide_eq_true h6
        exact bX (todo':=hd Tryz.f21 2) tk mo hK [(17,[(0,.b true)]),(18,[(0,.ix (i) [.z eu])]),(19,[(2,.bw 200 [(1,[(1,.b true),(6,.b true)])])]),(21,[(0,.z (((i+1:Nat):Int)))])] 2000 [0] [1,3,76,77,78] r (by kernel_rfl) (U h4 (U (ax ((i:Nat):Int)) (U (ints_at cG) (U h5 (U h6 (U ((wi (by omega)):IntKind.i64.wrap ((((i:Nat):Int):Int)+1)=((i+1:Nat):Int)) trivial)))))) fun ac wd r=>xp (by omega) ac wd ⟨(dK.next cG (by omega)),r⟩
    | true=>
     have cT:=of_decide_eq_true h3
     obtain ⟨aP,br⟩:∃ x_,c.ah[i]?=some x_:=⟨_,List.getElem?_eq_getElem (by omega)⟩
     cases h7:(decide ((1:Int)≤aP.1)) with
     | false=>
      have dL:=of_decide_eq_false h7
      rw [show (.v (.bool (bY c)):DV)=.v (.bool false) from (bv (by first | exact eO (by omega) ao (by omega) dK (by omega) | exact eH (by omega) | exact eK cG (by omega) | exact eJ br (by omega) cB (by first | omega | exact .inl (eV (by assumption)) | exact .inr (eV (by assumption))) | exact eI br (by omega)))]
      exact aV tk mo hK rfl [(5,[(0,.b true)]),(6,[(1,.ix (i) [.z aP.1,.z aP.2])]),(7,[(1,.n 0),(3,.bw 200 [(1,[(1,.b false)])])])] 2000 r (by kernel_rfl) (U h3 (U (ax ((i:Nat):Int)) (U (c7 br) (U (rfl:(0)=((0:Nat):Int)) (U ((by omega):(0)<2) (U h7 trivial))))))
     | true=>
      have dL:=of_decide_eq_true h7
      cases h8:(decide ((aP.1:Int)≤c.aD)) with
      | false=>
       have fg:=of_decide_eq_false h8
       rw [show (.v (.bool (bY c)):DV)=.v (.bool false) from (bv (by first | exact eO (by omega) ao (by omega) dK (by omega) | exact eH (by omega) | exact eK cG (by omega) | exact eJ br (by omega) cB (by first | omega | exact .inl (eV (by assumption)) | exact .inr (eV (by assumption))) | exact eI br (by omega)))]
       exact aV tk mo hK rfl [(5,[(0,.b true)]),(6,[(1,.ix (i) [.z aP.1,.z aP.2])]),(7,[(1,.n 0),(3,.bw 200 [(1,[(1,.b true),(6,.b false)])])])] 2000 r (by kernel_rfl) (U h3 (U (ax ((i:Nat):Int)) (U (c7 br) (U (rfl:(0)=((0:Nat):Int)) (U ((by omega):(0)<2) (U h7 (U h8 trivial)))))))
      | true=>
       have fg:=of_decide_eq_true h8
       cases h9:(decide ((1:Int)≤aP.2)) with
       | false=>
        have lL:=of_decide_eq_false h9
        rw [show (.v (.bool (bY c)):DV)=.v (.bool false) from (bv (by first | exact eO (by omega) ao (by omega) dK (by omega) | exact eH (by omega) | exact eK cG (by omega) | exact eJ br (by omega) cB (by first | omega | exact .inl (eV (by assumption)) | exact .inr (eV (by assumption))) | exact eI br (by omega)))]
        exact aV tk mo hK rfl [(5,[(0,.b true)]),(6,[(1,.ix (i) [.z aP.1,.z aP.2])]),(7,[(1,.n 0),(3,.bw 200 [(1,[(1,.b true),(6,.b true)])]),(7,.n 1),(9,.bw 200 [(1,[(1,.b false)])])])] 2000 r (by kernel_rfl) (U h3 (U (ax ((i:Nat):Int)) (U (c7 br) (U (rfl:(0)=((0:Nat):Int)) (U ((by omega):(0)<2) (U h7 (U h8 (U (rfl:(1)=((1:Nat):Int)) (U ((by omega):(1)<2) (U h9 trivial))))))))))
       | true=>
        have lL:=of_decide_eq_true h9
        cases cW:(decide ((aP.2:Int)≤c.aD)) with
        | false=>
         have kO:=of_decide_eq_false cW
         rw [show (.v (.bool (bY c)):DV)=.v (.bool false) from (bv (by first | exact eO (by omega) ao (by omega) dK (by omega) | exact eH (by omega) | exact eK cG (by omega) | exact eJ br (by omega) cB (by first | omega | exact .inl (eV (by assumption)) | exact .inr (eV (by assumption))) | exact eI br (by omega)))]
         exact aV tk mo hK rfl [(5,[(0,.b true)]),(6,[(1,.ix (i) [.z aP.1,.z aP.2])]),(7,[(1,.n 0),(3,.bw 200 [(1,[(1,.b true),(6,.b true)])]),(7,.n 1),(9,.bw 200 [(1,[(1,.b true),(6,.b false)])])])] 2000 r (by kernel_rfl) (U h3 (U (ax ((i:Nat):Int)) (U (c7 br) (U (rfl:(0)=((0:Nat):Int)) (U ((by omega):(0)<2) (U h7 (U h8 (U (rfl:(1)=((1:Nat):Int)) (U ((by omega):(1)<2) (U h9 (U cW trivial)))))))))))
        | true=>
         have kO:=of_decide_eq_true cW
         cases fI:((aP.1:Int)==aP.2) with
         | false=>
          have rS:=ne_of_beq_false fI
          refine bX (todo':=hd Tryz.f21 1) (E':=[(1,.pt 0 0),(3,.fn 52 [.pt 0 0]),(26,.d (.ro 2 (ah c.ah))),(27,.n c.ah.length),(28,.n i),(55,.d (.ro 2 (List.take (i) (ah c.ah)))),(56,.n i),(57,.n 0),(5,.pt 1 0)]) (M':=[.bx 25 [.z c.aD,.d (.ro 2 (ah c.ah)),.d (.ro 1 (ints c.homes))],.bx 60 [.z aP.1,.z aP.2]]) tk mo hK [(5,[(0,.b true)]),(6,[(1,.ix (i) [.z aP.1,.z aP.2])]),(7,[(1,.n 0),(3,.bw 200 [(1,[(1,.b true),(6,.b true)])]),(7,.n 1),(9,.bw 200 [(1,[(1,.b true),(6,.b true)])]),(13,.n 0),(15,.n 1),(17,.b false)]),(9,[(3,.n2 (i) (0)),(4,.z (((i:Nat):Int)))])] 2000 [0,1] [1,3,26,27,28,55,56,57,5] r (by kernel_rfl) (U h3 (U (ax ((i:Nat):Int)) (U (c7 br) (U (rfl:(0)=((0:Nat):Int)) (U ((by omega):(0)<2) (U h7 (U h8 (U (rfl:(1)=((1:Nat):Int)) (U ((by omega):(1)<2) (U h9 (U cW (U (rfl:(0)=((0:Nat):Int)) (U ((by omega):(0)<2) (U (rfl:(1)=((1:Nat):Int)) (U ((by omega):(1)<2) (U fI (U (ax ((i:Nat):Int)) (U ((by first | omega | (simp [af,ah,ints,steps,strs];done) | (simp [af,ah,ints,steps,strs];omega)):(i)≤(ah c.ah:List (List DV)).length) (U ((by first | rfl | (simp [ah];omega) | simp [af,ah,ints]):(((List.take (i) (ah c.ah)).length:Nat):Int)=((i:Nat):Int)) trivial))))))))))))))))))) fun ac wd r=>?_
          refine aF.rounds (Φ:=fun (k:Nat) ac wd=>(lz c aP k)∧dn [] w0 K 87 [(1,.pt 0 0),(3,.fn 52 [.pt 0 0]),(26,.d (.ro 2 (ah c.ah))),(27,.n c.ah.length),(28,.n i),(55,.d (.ro 2 (List.take (i) (ah c.ah)))),(56,.n i),(57,.n k),(5,.pt 1 0)] [.bx 25 [.z c.aD,.d (.ro 2 (ah c.ah)),.d (.ro 1 (ints c.homes))],.bx 60 [.z aP.1,.z aP.2]] ac wd) (i) ?_ (Nat.zero_le _) ⟨lz.none _,r⟩
          clear r
          rintro k kX c9 ac wd ⟨bo,r⟩
          cases ej:(decide ((((k:Nat):Int):Int)<((i:Nat):Int))) with
          | false=>
           have qd:=of_decide_eq_false ej
           exact bX (todo':=hd Tryz.f21 0) tk mo hK [(10,[(0,.b false)]),(15,[(0,.z (((i+1:Nat):Int)))])] 2000 [0] [1,3,26,27,28] r (by kernel_rfl) (U ej (U ((wi (by omega)):IntKind.i64.wrap ((((i:Nat):Int):Int)+1)=((i+1:Nat):Int)) trivial)) fun ac wd r=>bj (by omega) ac wd ⟨(ao.next br (by omega) (fun j o hj hx=>bo j o (by omega) hx)),r⟩
          | true=>
           have qd:=of_decide_eq_true ej
           obtain ⟨cd,cB⟩:∃ x_,c.ah[k]?=some x_:=⟨_,List.getElem?_eq_getElem (by omega)⟩
           have bd:=((by rw [List.getElem?_take,if_pos (by omega)];exact c7 cB):(List.take (i) (ah c.ah))[k]?=some [.z cd.1,.z cd.2])
           cases fy:(cd.1==aP.1&&cd.2==aP.2) with
           | false=>
            have b6:=((qq (pI _ _ _ _) fy):kI Tryz.prog 60 [(.int .i64 (cd.1)),(.int .i64 (cd.2))] [(.int .i64 (aP.1)),(.int .i64 (aP.2))] false)
            cases ks:(cd.1==aP.2&&cd.2==aP.1) with
            | false=>
             exact bX (todo':=hd Tryz.f21 1) tk mo hK [(10,[(0,.b true)]),(11,[(0,.ix (k) [.z cd.1,.z cd.2])]),(12,[(2,.b false),(5,.n 1),(7,.n 0),(10,.b false)]),(14,[(0,.z (((k+1:Nat):Int)))])] 2000 [0,1] [1,3,26,27,28,55,56,57,5] r (by kernel_rfl) (U ej (U (ax ((k:Nat):Int)) (U bd (U b6 (U (rfl:(1)=((1:Nat):Int)) (U ((by omega):(1)<2) (U (rfl:(0)=((0:Nat):Int)) (U ((by omega):(0)<2) (U ((qq (pI _ _ _ _) ks):kI Tryz.prog 60 [(.int .i64 (cd.1)),(.int .i64 (cd.2))] [(.int .i64 (aP.2)),(.int .i64 (aP.1))] false) (U ((wi (by omega)):IntKind.i64.wrap ((((k:Nat):Int):Int)+1)=((k+1:Nat):Int)) trivial)))))))))) fun ac wd r=>c9 (by omega) ac wd ⟨(bo.next cB ⟨by first | exact De (by assumption) | omega,by first | exact De (by assumption) | omega⟩),r⟩
            | true=>
             rw [show (.v (.bool (bY c)):DV)=.v (.bool false) from (bv (by first | exact eO (by omega) ao (by omega) dK (by omega) | exact eH (by omega) | exact eK cG (by omega) | exact eJ br (by omega) cB (by first | omega | exact .inl (eV (by assumption)) | exact .inr (eV (by assumption))) | exact eI br (by omega)))]
             exact aV tk mo hK rfl [(10,[(0,.b true)]),(11,[(0,.ix (k) [.z cd.1,.z cd.2])]),(12,[(2,.b false),(5,.n 1),(7,.n 0),(10,.b true)])] 2000 r (by kernel_rfl) (U ej (U (ax ((k:Nat):Int)) (U bd (U b6 (U (rfl:(1)=((1:Nat):Int)) (U ((by omega):(1)<2) (U (rfl:(0)=((0:Nat):Int)) (U ((by omega):(0)<2) (U ((qq (pI _ _ _ _) ks):kI Tryz.prog 60 [(.int .i64 (cd.1)),(.int .i64 (cd.2))] [(.int .i64 (aP.2)),(.int .i64 (aP.1))] true) trivial)))))))))
           | true=>
            rw [show (.v (.bool (bY c)):DV)=.v (.bool false) from (bv (by first | exact eO (by omega) ao (by omega) dK (by omega) | exact eH (by omega) | exact eK cG (by omega) | exact eJ br (by omega) cB (by first | omega | exact .inl (eV (by assumption)) | exact .inr (eV (by assumption))) | exact eI br (by omega)))]
            exact aV tk mo hK rfl [(10,[(0,.b true)]),(11,[(0,.ix (k) [.z cd.1,.z cd.2])]),(12,[(2,.b true)])] 2000 r (by kernel_rfl) (U ej (U (ax ((k:Nat):Int)) (U bd (U ((qq (pI _ _ _ _) fy):kI Tryz.prog 60 [(.int .i64 (cd.1)),(.int .i64 (cd.2))] [(.int .i64 (aP.1)),(.int .i64 (aP.2))] true) trivial))))
         | true=>
          have rS:=eq_of_beq fI
          rw [show (.v (.bool (bY c)):DV)=.v (.bool false) from (bv (by first | exact eO (by omega) ao (by omega) dK (by omega) | exact eH (by omega) | exact eK cG (by omega) | exact eJ br (by omega) cB (by first | omega | exact .inl (eV (by assumption)) | exact .inr (eV (by assumption))) | exact eI br (by omega)))]
          exact aV tk mo hK rfl [(5,[(0,.b true)]),(6,[(1,.ix (i) [.z aP.1,.z aP.2])]),(7,[(1,.n 0),(3,.bw 200 [(1,[(1,.b true),(6,.b true)])]),(7,.n 1),(9,.bw 200 [(1,[(1,.b true),(6,.b true)])]),(13,.n 0),(15,.n 1),(17,.b true)])] 2000 r (by kernel_rfl) (U h3 (U (ax ((i:Nat):Int)) (U (c7 br) (U (rfl:(0)=((0:Nat):Int)) (U ((by omega):(0)<2) (U h7 (U h8 (U (rfl:(1)=((1:Nat):Int)) (U ((by omega):(1)<2) (U h9 (U cW (U (rfl:(0)=((0:Nat):Int)) (U ((by omega):(0)<2) (U (rfl:(1)=((1:Nat):Int)) (U ((by omega):(1)<2) (U fI trivial))))))))))))))))
   | true=>
    have cz:=of_decide_eq_true h2
    rw [show (.v (.bool (bY c)):DV)=.v (.bool false) from (bv (by first | exact eO (by omega) ao (by omega) dK (by omega) | exact eH (by omega) | exact eK cG (by omega) | exact eJ br (by omega) cB (by first | omega | exact .inl (eV (by assumption)) | exact .inr (eV (by assumption))) | exact eI br (by omega)))]
    exact aV tk mo hK rfl [(1,[(2,.b false),(6,.b false),(11,.z (((c.homes.length:Nat):Int))),(12,.b true)])] 2000 r (by kernel_rfl) (U h0 (U h1 (U aI (U h2 trivial))))
  | true=>
   have bR:=of_decide_eq_true h1
   rw [show (.v (.bool (bY c)):DV)=.v (.bool false) from (bv (by first | exact eO (by omega) ao (by omega) dK (by omega) | exact eH (by omega) | exact eK cG (by omega) | exact eJ br (by omega) cB (by first | omega | exact .inl (eV (by assumption)) | exact .inr (eV (by assumption))) | exact eI br (by omega)))]
   exact aV tk mo hK rfl [(1,[(2,.b false),(6,.b true)])] 2000 r (by kernel_rfl) (U h0 (U h1 trivial))
 | true=>
  have aT:=of_decide_eq_true h0
  rw [show (.v (.bool (bY c)):DV)=.v (.bool false) from (bv (by first | exact eO (by omega) ao (by omega) dK (by omega) | exact eH (by omega) | exact eK cG (by omega) | exact eJ br (by omega) cB (by first | omega | exact .inl (eV (by assumption)) | exact .inr (eV (by assumption))) | exact eI br (by omega)))]
  exact aV tk mo hK rfl [(1,[(2,.b true)])] 2000 r (by kernel_rfl) (U h0 trivial)
end Go.Proofs.YtcnpikbbmbombaaGreatDoor
namespace Go.Proofs.YtcnpikbbmbombaaGreatDoor
open Go.RowKit
set_option maxRecDepth 100000 in
theorem Bo (c:bK) (hl:c.ah.length≤9223372036854775807) (hh:c.homes.length≤9223372036854775807):ay Tryz.prog 28 [.ag [.z c.aD,.d (.ro 2 (ah c.ah)),.d (.ro 1 (ints c.homes))]] (.v (.bool (bY c))):=by
 refine ay.intro (by kernel_rfl) rfl rfl 124 rfl rfl fun w0 K ac hK r=>?_
 cases h0:(decide ((c.aD:Int)<1)) with
 | false=>
  have aT:=of_decide_eq_false h0
  cases h1:(decide ((4:Int)<c.aD)) with
  | false=>
   have bR:=of_decide_eq_false h1
   have aI:=((by first | rfl | simp [af,ah,ints,steps,strs]):(((ints c.homes).length:Nat):Int)=((c.homes.length:Nat):Int))
   cases h2:(decide ((6:Int)<((c.homes.length:Nat):Int))) with
   | false=>
    have cz:=of_decide_eq_false h2
    refine bX (todo':=hd Tryz.f28 0) (E':=[(1,.pt 0 0),(3,.n 0)]) (M':=[.bx 25 [.z c.aD,.d (.ro 2 (ah c.ah)),.d (.ro 1 (ints c.homes))]]) tk mo hK [(1,[(2,.b false),(6,.b false),(11,.z (((c.homes.length:Nat):Int))),(12,.b false)])] 2000 [0] [1,3] r (by kernel_rfl) (U h0 (U h1 (U aI (U h2 trivial)))) fun ac wd r=>?_
    refine aF.rounds (Φ:=fun (i:Nat) ac wd=>(ly c i)∧dn [] w0 K 124 [(1,.pt 0 0),(3,.n i)] [.bx 25 [.z c.aD,.d (.ro 2 (ah c.ah)),.d (.ro 1 (ints c.homes))]] ac wd) (c.ah.length) ?_ (Nat.zero_le _) ⟨ly.none,r⟩
    clear r
    rintro i dw bj ac wd ⟨ao,r⟩
    have bd:=((by first | rfl | simp [af,ah,ints,steps,strs]):(((ah c.ah).length:Nat):Int)=((c.ah.length:Nat):Int))
    cases h3:(decide ((((i:Nat):Int):Int)<((c.ah.length:Nat):Int))) with
    | false=>
     have cT:=of_decide_eq_false h3
     refine bX (todo':=hd Tryz.f28 2) (E':=[(1,.pt 0 0),(9,.n 0)]) (M':=[.bx 25 [.z c.aD,.d (.ro 2 (ah c.ah)),.d (.ro 1 (ints c.homes))]]) tk mo hK [(4,[(3,.z (((c.ah.length:Nat):Int))),(4,.b false)])] 2000 [0] [1,9] r (by kernel_rfl) (U bd (U h3 trivial)) fun ac wd r=>?_
     refine aF.rounds (Φ:=fun (i:Nat) ac wd=>(lA c i)∧dn [] w0 K 124 [(1,.pt 0 0),(9,.n i)] [.bx 25 [.z c.aD,.d (.ro 2 (ah c.ah)),.d (.ro 1 (ints c.homes))]] ac wd) (c.homes.length) ?_ (Nat.zero_le _) ⟨lA.none,r⟩
     clear r
     rintro i O5 xp ac wd ⟨dK,r⟩
     cases h4:(decide ((((i:Nat):Int):Int)<((c.homes.length:Nat):Int))) with
     | false=>
      have dT:=of_decide_eq_false h4
      rw [show (.v (.bool (bY c)):DV)=.v (.bool true) from (bv (by first | exact eO (by omega) ao (by omega) dK (by omega) | exact eH (by omega) | exact eK cG (by omega) | exact eJ br (by omega) cB (by omega) | exact eI br (by omega)))]
      exact aV tk mo hK rfl [(16,[(3,.z (((c.homes.length:Nat):Int))),(4,.b false)])] 2000 r (by kernel_rfl) (U aI (U h4 trivial))
     | true=>
      have dT:=of_decide_eq_true h4
      obtain ⟨eu,cG⟩:∃ x_,c.homes[i]?=some x_:=⟨_,List.getElem?_eq_getElem (by omega)⟩
      cases h5:(decide ((eu:Int)<1)) with
      | false=>
       have du:=of_decide_eq_false h5
       cases h6:(decide ((c.aD:Int)<eu)) with
       | false=>
        have dx:=of_decide_eq_false h6
        exact bX (todo':=hd Tryz.f28 2) tk mo hK [(16,[(3,.z (((c.homes.length:Nat):Int))),(4,.b true)]),(17,[(1,.z (((i+1:Nat):Int)))]),(18,[(3,.ix (i) [.z eu]),(5,.b false),(10,.ix (i) [.z eu]),(14,.b false)])] 2000 [0] [1,9] r (by kernel_rfl) (U aI (U h4 (U (ax ((i:Nat):Int)) (U (ints_at cG) (U h5 (U (ax ((i:Nat):Int)) (U (ints_at cG) (U h6 (U ((wi (by omega)):IntKind.i64.wrap ((((i:Nat):Int):Int)+1)=((i+1:Nat):Int)) trivial))))))))) fun ac wd r=>xp (by omega) ac wd ⟨(dK.next cG (by omega)),r⟩
       | true=>
        have dx:=of_decide_eq_true h6
        rw [show (.v (.bool (bY c)):DV)=.v (.bool false) from (bv (by first | exact eO (by omega) ao (by omega) dK (by omega) | exact eH (by omega) | exact eK cG (by omega) | exact eJ br (by omega) cB (by omega) | exact eI br (by omega)))]
        exact aV tk mo hK rfl [(16,[(3,.z (((c.homes.length:Nat):Int))),(4,.b true)]),(18,[(3,.ix (i) [.z eu]),(5,.b false),(10,.ix (i) [.z eu]),(14,.b true)])] 2000 r (by kernel_rfl) (U aI (U h4 (U (ax ((i:Nat):Int)) (U (ints_at cG) (U h5 (U (ax ((i:Nat):Int)) (U (ints_at cG) (U h6 trivial))))))))
      | true=>
       have du:=of_decide_eq_true h5
       rw [show (.v (.bool (bY c)):DV)=.v (.bool false) from (bv (by first | exact eO (by omega) ao (by omega) dK (by omega) | exact eH (by omega) | exact eK cG (by omega) | exact eJ br (by omega) cB (by omega) | exact eI br (by omega)))]
       exact aV tk mo hK rfl [(16,[(3,.z (((c.homes.length:Nat):Int))),(4,.b true)]),(18,[(3,.ix (i) [.z eu]),(5,.b true)])] 2000 r (by kernel_rfl) (U aI (U h4 (U (ax ((i:Nat):Int)) (U (ints_at cG) (U h5 trivial)))))
    | true=>
     have cT:=of_decide_eq_true h3
     obtain ⟨aP,br⟩:∃ x_,c.ah[i]?=some x_:=⟨_,List.getElem?_eq_getElem (by omega)⟩
     cases h7:(decide ((aP.1:Int)<1)) with
     | false=>
      have dL:=of_decide_eq_false h7
      cases h8:(decide ((aP.2:Int)<1)) with
      | false=>
       have fg:=of_decide_eq_false h8
       cases h9:(decide ((c.aD:Int)<aP.1)) with
       | false=>
        have lL:=of_decide_eq_false h9
        cases cW:(decide ((c.aD:Int)<aP.2)) with
        | false=>
         have kO:=of_decide_eq_false cW
         cases fI:((aP.1:Int)==aP.2) with
         | false=>
          have rS:=ne_of_beq_false fI
          refine bX (todo':=hd Tryz.f28 1) (E':=[(1,.pt 0 0),(3,.n i),(4,.z aP.1),(5,.z aP.2),(6,.n 0)]) (M':=[.bx 25 [.z c.aD,.d (.ro 2 (ah c.ah)),.d (.ro 1 (ints c.homes))]]) tk mo hK [(4,[(3,.z (((c.ah.length:Nat):Int))),(4,.b true)]),(6,[(3,.ix (i) [.z aP.1,.z aP.2]),(4,.n 0),(9,.ix (i) [.z aP.1,.z aP.2]),(10,.n 1)]),(7,[(1,.b false),(4,.b false),(10,.b false),(16,.b false),(21,.b false)])] 2000 [0] [1,3,4,5,6] r (by kernel_rfl) (U bd (U h3 (U (ax ((i:Nat):Int)) (U (c7 br) (U (rfl:(0)=((0:Nat):Int)) (U ((by omega):(0)<2) (U (ax ((i:Nat):Int)) (U (c7 br) (U (rfl:(1)=((1:Nat):Int)) (U ((by omega):(1)<2) (U h7 (U h8 (U h9 (U cW (U fI trivial))))))))))))))) fun ac wd r=>?_
          refine aF.rounds (Φ:=fun (k:Nat) ac wd=>(lz c aP k)∧dn [] w0 K 124 [(1,.pt 0 0),(3,.n i),(4,.z aP.1),(5,.z aP.2),(6,.n k)] [.bx 25 [.z c.aD,.d (.ro 2 (ah c.ah)),.d (.ro 1 (ints c.homes))]] ac wd) (i) ?_ (Nat.zero_le _) ⟨lz.none _,r⟩
          clear r
          rintro k kX c9 ac wd ⟨bo,r⟩
          cases ej:(decide ((((k:Nat):Int):Int)<((i:Nat):Int))) with
          | false=>
           have qd:=of_decide_eq_false ej
           exact bX (todo':=hd Tryz.f28 0) tk mo hK [(5,[(1,.z (((i+1:Nat):Int)))]),(10,[(2,.b false)])] 2000 [0] [1,3] r (by kernel_rfl) (U ej (U ((wi (by omega)):IntKind.i64.wrap ((((i:Nat):Int):Int)+1)=((i+1:Nat):Int)) trivial)) fun ac wd r=>bj (by omega) ac wd ⟨(ao.next br (by omega) (fun j o hj hx=>bo j o (by omega) hx)),r⟩
          | true=>
           have qd:=of_decide_eq_true ej
           obtain ⟨cd,cB⟩:∃ x_,c.ah[k]?=some x_:=⟨_,List.getElem?_eq_getElem (by omega)⟩
           cases fy:((cd.1:Int)==aP.1) with
           | false=>
            have uz:=ne_of_beq_false fy
            cases ks:((cd.1:Int)==aP.2) with
            | false=>
             have uA:=ne_of_beq_false ks
             exact bX (todo':=hd Tryz.f28 1) tk mo hK [(10,[(2,.b true)]),(11,[(1,.z (((k+1:Nat):Int)))]),(12,[(3,.ix (k) [.z cd.1,.z cd.2]),(4,.n 0),(9,.ix (k) [.z cd.1,.z cd.2]),(10,.n 1)]),(13,[(2,.b false),(11,.b false)])] 2000 [0] [1,3,4,5,6] r (by kernel_rfl) (U ej (U (ax ((k:Nat):Int)) (U (c7 cB) (U (rfl:(0)=((0:Nat):Int)) (U ((by omega):(0)<2) (U (ax ((k:Nat):Int)) (U (c7 cB) (U (rfl:(1)=((1:Nat):Int)) (U ((by omega):(1)<2) (U fy (U ks (U ((wi (by omega)):IntKind.i64.wrap ((((k:Nat):Int):Int)+1)=((k+1:Nat):Int)) trivial)))))))))))) fun ac wd r=>c9 (by omega) ac wd ⟨(bo.next cB (by omega)),r⟩
            | true=>
             have uA:=eq_of_beq ks
             cases nS:((cd.2:Int)==aP.1) with
             | false=>
              have y7:=ne_of_beq_false nS
              exact bX (todo':=hd Tryz.f28 1) tk mo hK [(10,[(2,.b true)]),(11,[(1,.z (((k+1:Nat):Int)))]),(12,[(3,.ix (k) [.z cd.1,.z cd.2]),(4,.n 0),(9,.ix (k) [.z cd.1,.z cd.2]),(10,.n 1)]),(13,[(2,.b false),(11,.b true),(15,.b false)])] 2000 [0] [1,3,4,5,6] r (by kernel_rfl) (U ej (U (ax ((k:Nat):Int)) (U (c7 cB) (U (rfl:(0)=((0:Nat):Int)) (U ((by omega):(0)<2) (U (ax ((k:Nat):Int)) (U (c7 cB) (U (rfl:(1)=((1:Nat):Int)) (U ((by omega):(1)<2) (U fy (U ks (U nS (U ((wi (by omega)):IntKind.i64.wrap ((((k:Nat):Int):Int)+1)=((k+1:Nat):Int)) trivial))))))))))))) fun ac wd r=>c9 (by omega) ac wd ⟨(bo.next cB (by omega)),r⟩
             | true=>
              have y7:=eq_of_beq nS
              rw [show (.v (.bool (bY c)):DV)=.v (.bool false) from (bv (by first | exact eO (by omega) ao (by omega) dK (by omega) | exact eH (by omega) | exact eK cG (by omega) | exact eJ br (by omega) cB (by omega) | exact eI br (by omega)))]
              exact aV tk mo hK rfl [(10,[(2,.b true)]),(12,[(3,.ix (k) [.z cd.1,.z cd.2]),(4,.n 0),(9,.ix (k) [.z cd.1,.z cd.2]),(10,.n 1)]),(13,[(2,.b false),(11,.b true),(15,.b true)])] 2000 r (by kernel_rfl) (U ej (U (ax ((k:Nat):Int)) (U (c7 cB) (U (rfl:(0)=((0:Nat):Int)) (U ((by omega):(0)<2) (U (ax ((k:Nat):Int)) (U (c7 cB) (U (rfl:(1)=((1:Nat):Int)) (U ((by omega):(1)<2) (U fy (U ks (U nS trivial))))))))))))
           | true=>
            have uz:=eq_of_beq fy
            cases lN:((cd.2:Int)==aP.2) with
            | false=>
             have y8:=ne_of_beq_false lN
             cases mK:((cd.1:Int)==aP.2) with
             | false=>
              have uB:=ne_of_beq_false mK
              exact bX (todo':=hd Tryz.f28 1) tk mo hK [(10,[(2,.b true)]),(11,[(1,.z (((k+1:Nat):Int)))]),(12,[(3,.ix (k) [.z cd.1,.z cd.2]),(4,.n 0),(9,.ix (k) [.z cd.1,.z cd.2]),(10,.n 1)]),(13,[(2,.b true),(6,.b false),(11,.b false)])] 2000 [0] [1,3,4,5,6] r (by kernel_rfl) (U ej (U (ax ((k:Nat):Int)) (U (c7 cB) (U (rfl:(0)=((0:Nat):Int)) (U ((by omega):(0)<2) (U (ax ((k:Nat):Int)) (U (c7 cB) (U (rfl:(1)=((1:Nat):Int)) (U ((by omega):(1)<2) (U fy (U lN (U mK (U ((wi (by omega)):IntKind.i64.wrap ((((k:Nat):Int):Int)+1)=((k+1:Nat):Int)) trivial))))))))))))) fun ac wd r=>c9 (by omega) ac wd ⟨(bo.next cB (by omega)),r⟩
             | true=>
              have uB:=eq_of_beq mK
              cases nT:((cd.2:Int)==aP.1) with
              | false=>
               have uC:=ne_of_beq_false nT
               exact bX (todo':=hd Tryz.f28 1) tk mo hK [(10,[(2,.b true)]),(11,[(1,.z (((k+1:Nat):Int)))]),(12,[(3,.ix (k) [.z cd.1,.z cd.2]),(4,.n 0),(9,.ix (k) [.z cd.1,.z cd.2]),(10,.n 1)]),(13,[(2,.b true),(6,.b false),(11,.b true),(15,.b false)])] 2000 [0] [1,3,4,5,6] r (by kernel_rfl) (U ej (U (ax ((k:Nat):Int)) (U (c7 cB) (U (rfl:(0)=((0:Nat):Int)) (U ((by omega):(0)<2) (U (ax ((k:Nat):Int)) (U (c7 cB) (U (rfl:(1)=((1:Nat):Int)) (U ((by omega):(1)<2) (U fy (U lN (U mK (U nT (U ((wi (by omega)):IntKind.i64.wrap ((((k:Nat):Int):Int)+1)=((k+1:Nat):Int)) trivial)))))))))))))) fun ac wd r=>c9 (by omega) ac wd ⟨(bo.next cB (by omega)),r⟩
              | true=>
               have uC:=eq_of_beq nT
               rw [show (.v (.bool (bY c)):DV)=.v (.bool false) from (bv (by first | exact eO (by omega) ao (by omega) dK (by omega) | exact eH (by omega) | exact eK cG (by omega) | exact eJ br (by omega) cB (by omega) | exact eI br (by omega)))]
               exact aV tk mo hK rfl [(10,[(2,.b true)]),(12,[(3,.ix (k) [.z cd.1,.z cd.2]),(4,.n 0),(9,.ix (k) [.z cd.1,.z cd.2]),(10,.n 1)]),(13,[(2,.b true),(6,.b false),(11,.b true),(15,.b true)])] 2000 r (by kernel_rfl) (U ej (U (ax ((k:Nat):Int)) (U (c7 cB) (U (rfl:(0)=((0:Nat):Int)) (U ((by omega):(0)<2) (U (ax ((k:Nat):Int)) (U (c7 cB) (U (rfl:(1)=((1:Nat):Int)) (U ((by omega):(1)<2) (U fy (U lN (U mK (U nT trivial)))))))))))))
            | true=>
             have y8:=eq_of_beq lN
             rw [show (.v (.bool (bY c)):DV)=.v (.bool false) from (bv (by first | exact eO (by omega) ao (by omega) dK (by omega) | exact eH (by omega) | exact eK cG (by omega) | exact eJ br (by omega) cB (by omega) | exact eI br (by omega)))]
             exact aV tk mo hK rfl [(10,[(2,.b true)]),(12,[(3,.ix (k) [.z cd.1,.z cd.2]),(4,.n 0),(9,.ix (k) [.z cd.1,.z cd.2]),(10,.n 1)]),(13,[(2,.b true),(6,.b true)])] 2000 r (by kernel_rfl) (U ej (U (ax ((k:Nat):Int)) (U (c7 cB) (U (rfl:(0)=((0:Nat):Int)) (U ((by omega):(0)<2) (U (ax ((k:Nat):Int)) (U (c7 cB) (U (rfl:(1)=((1:Nat):Int)) (U ((by omega):(1)<2) (U fy (U lN trivial)))))))))))
         | true=>
          have rS:=eq_of_beq fI
          rw [show (.v (.bool (bY c)):DV)=.v (.bool false) from (bv (by first | exact eO (by omega) ao (by omega) dK (by omega) | exact eH (by omega) | exact eK cG (by omega) | exact eJ br (by omega) cB (by omega) | exact eI br (by omega)))]
          exact aV tk mo hK rfl [(4,[(3,.z (((c.ah.length:Nat):Int))),(4,.b true)]),(6,[(3,.ix (i) [.z aP.1,.z aP.2]),(4,.n 0),(9,.ix (i) [.z aP.1,.z aP.2]),(10,.n 1)]),(7,[(1,.b false),(4,.b false),(10,.b false),(16,.b false),(21,.b true)])] 2000 r (by kernel_rfl) (U bd (U h3 (U (ax ((i:Nat):Int)) (U (c7 br) (U (rfl:(0)=((0:Nat):Int)) (U ((by omega):(0)<2) (U (ax ((i:Nat):Int)) (U (c7 br) (U (rfl:(1)=((1:Nat):Int)) (U ((by omega):(1)<2) (U h7 (U h8 (U h9 (U cW (U fI trivial)))))))))))))))
        | true=>
         have kO:=of_decide_eq_true cW
         rw [show (.v (.bool (bY c)):DV)=.v (.bool false) from (bv (by first | exact eO (by omega) ao (by omega) dK (by omega) | exact eH (by omega) | exact eK cG (by omega) | exact eJ br (by omega) cB (by omega) | exact eI br (by omega)))]
         exact aV tk mo hK rfl [(4,[(3,.z (((c.ah.length:Nat):Int))),(4,.b true)]),(6,[(3,.ix (i) [.z aP.1,.z aP.2]),(4,.n 0),(9,.ix (i) [.z aP.1,.z aP.2]),(10,.n 1)]),(7,[(1,.b false),(4,.b false),(10,.b false),(16,.b true)])] 2000 r (by kernel_rfl) (U bd (U h3 (U (ax ((i:Nat):Int)) (U (c7 br) (U (rfl:(0)=((0:Nat):Int)) (U ((by omega):(0)<2) (U (ax ((i:Nat):Int)) (U (c7 br) (U (rfl:(1)=((1:Nat):Int)) (U ((by omega):(1)<2) (U h7 (U h8 (U h9 (U cW trivial))))))))))))))
       | true=>
        have lL:=of_decide_eq_true h9
        rw [show (.v (.bool (bY c)):DV)=.v (.bool false) from (bv (by first | exact eO (by omega) ao (by omega) dK (by omega) | exact eH (by omega) | exact eK cG (by omega) | exact eJ br (by omega) cB (by omega) | exact eI br (by omega)))]
        exact aV tk mo hK rfl [(4,[(3,.z (((c.ah.length:Nat):Int))),(4,.b true)]),(6,[(3,.ix (i) [.z aP.1,.z aP.2]),(4,.n 0),(9,.ix (i) [.z aP.1,.z aP.2]),(10,.n 1)]),(7,[(1,.b false),(4,.b false),(10,.b true)])] 2000 r (by kernel_rfl) (U bd (U h3 (U (ax ((i:Nat):Int)) (U (c7 br) (U (rfl:(0)=((0:Nat):Int)) (U ((by omega):(0)<2) (U (ax ((i:Nat):Int)) (U (c7 br) (U (rfl:(1)=((1:Nat):Int)) (U ((by omega):(1)<2) (U h7 (U h8 (U h9 trivial)))))))))))))
      | true=>
       have fg:=of_decide_eq_true h8
       rw [show (.v (.bool (bY c)):DV)=.v (.bool false) from (bv (by first | exact eO (by omega) ao (by omega) dK (by omega) | exact eH (by omega) | exact eK cG (by omega) | exact eJ br (by omega) cB (by omega) | exact eI br (by omega)))]
       exact aV tk mo hK rfl [(4,[(3,.z (((c.ah.length:Nat):Int))),(4,.b true)]),(6,[(3,.ix (i) [.z aP.1,.z aP.2]),(4,.n 0),(9,.ix (i) [.z aP.1,.z aP.2]),(10,.n 1)]),(7,[(1,.b false),(4,.b true)])] 2000 r (by kernel_rfl) (U bd (U h3 (U (ax ((i:Nat):Int)) (U (c7 br) (U (rfl:(0)=((0:Nat):Int)) (U ((by omega):(0)<2) (U (ax ((i:Nat):Int)) (U (c7 br) (U (rfl:(1)=((1:Nat):Int)) (U ((by omega):(1)<2) (U h7 (U h8 trivial))))))))))))
     | true=>
      have dL:=of_decide_eq_true h7
      rw [show (.v (.bool (bY c)):DV)=.v (.bool false) from (bv (by first | exact eO (by omega) ao (by omega) dK (by omega) | exact eH (by omega) | exact eK cG (by omega) | exact eJ br (by omega) cB (by omega) | exact eI br (by omega)))]
      exact aV tk mo hK rfl [(4,[(3,.z (((c.ah.length:Nat):Int))),(4,.b true)]),(6,[(3,.ix (i) [.z aP.1,.z aP.2]),(4,.n 0),(9,.ix (i) [.z aP.1,.z aP.2]),(10,.n 1)]),(7,[(1,.b true)])] 2000 r (by kernel_rfl) (U bd (U h3 (U (ax ((i:Nat):Int)) (U (c7 br) (U (rfl:(0)=((0:Nat):Int)) (U ((by omega):(0)<2) (U (ax ((i:Nat):Int)) (U (c7 br) (U (rfl:(1)=((1:Nat):Int)) (U ((by omega):(1)<2) (U h7 trivial)))))))))))
   | true=>
    have cz:=of_decide_eq_true h2
    rw [show (.v (.bool (bY c)):DV)=.v (.bool false) from (bv (by first | exact eO (by omega) ao (by omega) dK (by omega) | exact eH (by omega) | exact eK cG (by omega) | exact eJ br (by omega) cB (by omega) | exact eI br (by omega)))]
    exact aV tk mo hK rfl [(1,[(2,.b false),(6,.b false),(11,.z (((c.homes.length:Nat):Int))),(12,.b true)])] 2000 r (by kernel_rfl) (U h0 (U h1 (U aI (U h2 trivial))))
  | true=>
   have bR:=of_decide_eq_true h1
   rw [show (.v (.bool (bY c)):DV)=.v (.bool false) from (bv (by first | exact eO (by omega) ao (by omega) dK (by omega) | exact eH (by omega) | exact eK cG (by omega) | exact eJ br (by omega) cB (by omega) | exact eI br (by omega)))]
   exact aV tk mo hK rfl [(1,[(2,.b false),(6,.b true)])] 2000 r (by kernel_rfl) (U h0 (U h1 trivial))
 | true=>
  have aT:=of_decide_eq_true h0
  rw [show (.v (.bool (bY c)):DV)=.v (.bool false) from (bv (by first | exact eO (by omega) ao (by omega) dK (by omega) | exact eH (by omega) | exact eK cG (by omega) | exact eJ br (by omega) cB (by omega) | exact eI br (by omega)))]
  exact aV tk mo hK rfl [(1,[(2,.b true)])] 2000 r (by kernel_rfl) (U h0 trivial)
structure kt where
 word:List UInt8
 node:Bool
 peer:Bool
 n:Bool
 bit:Bool
 inc:Bool
 body:Bool
def lh:List kt:=[⟨[110,111,110,101],false,false,false,false,false,false⟩,⟨[116,105,99,107],true,false,false,false,false,false⟩,⟨[100,101,108,105,118,101,114],true,true,true,false,false,false⟩,⟨[100,114,111,112],true,true,true,false,false,false⟩,⟨[100,111,117,98,108,101],true,true,true,false,false,false⟩,⟨[115,112,111,105,108],true,true,true,true,false,false⟩,⟨[99,117,116],true,true,false,false,false,false⟩,⟨[104,101,97,108],true,true,false,false,false,false⟩,⟨[99,114,97,115,104],true,false,false,false,false,false⟩,⟨[115,116,97,114,116],true,false,false,false,true,false⟩,⟨[115,101,110,100],true,false,false,false,false,true⟩,⟨[98,108,111,99,107,111,107],true,false,false,false,false,false⟩,⟨[106,111,105,110],true,false,false,false,false,false⟩,⟨[108,101,97,118,101],true,false,false,false,false,false⟩]
def Lb:List (List UInt8):=[[],[110],[110,112,105],[110,112,105],[110,112,105],[110,112,105,98],[110,112],[110,112],[110],[110,99],[110,116],[110],[110],[110]]
def ae (k:Nat):kt:=lh.getD k ⟨[],false,false,false,false,false,false⟩
def bZ (k:Nat):List UInt8:=Lb.getD k []
def kt.row (x:kt):List DV:=[.v (.string ⟨x.word.toArray⟩),.v (.bool x.node),.v (.bool x.peer),.v (.bool x.n),.v (.bool x.bit),.v (.bool x.inc),.v (.bool x.body)]
def ai:List DV:=lh.flatMap kt.row
theorem l4 {p:Nat→Prop} (h0:p 0) (h1:p 1) (h2:p 2) (h3:p 3) (h4:p 4) (h5:p 5) (h6:p 6) (h7:p 7) (h8:p 8) (h9:p 9) (cW:p 10) (fI:p 11) (ej:p 12) (fy:p 13) {k:Nat} (h:k<14):p k:=
 match k,h with
 | 0,_=>h0 | 1,_=>h1 | 2,_=>h2 | 3,_=>h3 | 4,_=>h4 | 5,_=>h5 | 6,_=>h6 | 7,_=>h7 | 8,_=>h8 | 9,_=>h9 | 10,_=>cW | 11,_=>fI | 12,_=>ej | 13,_=>fy
theorem nZ {k:Nat} (h:k<14):List.take 7 (List.drop (k*7) ai)=(ae k).row:=l4 (p:=fun k=>List.take 7 (List.drop (k*7) ai)=(ae k).row) rfl rfl rfl rfl rfl rfl rfl rfl rfl rfl rfl rfl rfl rfl h
def fieldsOf (k:Int):List UInt8:=if 0≤k∧k<14 then bZ k.toNat else [45]
theorem ve {k:Int} (h:k<0∨14≤k):fieldsOf k=[45]:=by unfold fieldsOf;rw [if_neg (by omega)]
theorem u7 {k:Int} (h:0≤k) (h2:k<14):fieldsOf k=bZ k.toNat:=by unfold fieldsOf;rw [if_pos ⟨h,h2⟩]
theorem sv {a b:List UInt8} (h:a=b):DV.v (.string ⟨a.toArray⟩)=.v (.string ⟨b.toArray⟩):=by rw [h]
def dS (has:Bool) (n most:Int):Bool:=decide (n=0)||(has&&(decide (0<n)&&decide (n≤most)))
def gS (s:aB) (x:kt):Bool:=dS x.node s.node 255&&(dS x.peer s.peer 255&&(dS x.n s.n 255&&(dS x.bit s.bit 65535&&(dS x.body s.body.length 255&&(x.inc||decide ((s.inc:Int)=0))))))
def hasB (s:aB):Bool:=decide (0≤s.kind)&&(decide (s.kind<14)&&gS s (ae s.kind.toNat))
theorem iW {s:aB} (h:s.kind<0∨14≤s.kind):hasB s=false:=by unfold hasB;simp;omega
theorem iU {s:aB} {b:Bool} (h:0≤s.kind) (h2:s.kind<14) (e:gS s (ae s.kind.toNat)=b):hasB s=b:=by unfold hasB;rw [decide_eq_true h,decide_eq_true h2,Bool.true_and,Bool.true_and,e]
set_option maxRecDepth 100000 in
theorem G5 (n most:Int):ay Tryz.prog 54 [.d (.v (.bool true)),.z n,.z most] (.v (.bool (dS true n most))):=by
 refine ay.intro (by kernel_rfl) rfl rfl 21 rfl rfl fun w0 K ac hK r=>?_
 cases h0:((n:Int)==0) with
 | false=>
  have aT:=ne_of_beq_false h0
  cases h1:(decide ((0:Int)<n)) with
  | false=>
   have bR:=of_decide_eq_false h1
   rw [show (.v (.bool (dS true n most)):DV)=.v (.bool false) from (bv (by unfold dS;simp<;>omega))]
   exact aV tk mo hK rfl [(1,[(1,.b false),(6,.b false)])] 2000 r (by kernel_rfl) (U h0 (U h1 trivial))
  | true=>
   have bR:=of_decide_eq_true h1
   cases h2:(decide ((n:Int)≤most)) with
   | false=>
    have cz:=of_decide_eq_false h2
    rw [show (.v (.bool (dS true n most)):DV)=.v (.bool false) from (bv (by unfold dS;simp<;>omega))]
    exact aV tk mo hK rfl [(1,[(1,.b false),(6,.b true),(11,.b false)])] 2000 r (by kernel_rfl) (U h0 (U h1 (U h2 trivial)))
   | true=>
    have cz:=of_decide_eq_true h2
    rw [show (.v (.bool (dS true n most)):DV)=.v (.bool true) from (bv (by unfold dS;simp<;>omega))]
    exact aV tk mo hK rfl [(1,[(1,.b false),(6,.b true),(11,.b true)])] 2000 r (by kernel_rfl) (U h0 (U h1 (U h2 trivial)))
 | true=>
  have aT:=eq_of_beq h0
  rw [show (.v (.bool (dS true n most)):DV)=.v (.bool true) from (bv (by unfold dS;simp<;>omega))]
  exact aV tk mo hK rfl [(1,[(1,.b true)])] 2000 r (by kernel_rfl) (U h0 trivial)
set_option maxRecDepth 100000 in
theorem Gc (n most:Int):ay Tryz.prog 54 [.d (.v (.bool false)),.z n,.z most] (.v (.bool (dS false n most))):=by
 refine ay.intro (by kernel_rfl) rfl rfl 21 rfl rfl fun w0 K ac hK r=>?_
 cases h0:((n:Int)==0) with
 | false=>
  have aT:=ne_of_beq_false h0
  rw [show (.v (.bool (dS false n most)):DV)=.v (.bool false) from (bv (by unfold dS;simp<;>omega))]
  exact aV tk mo hK rfl [(1,[(1,.b false)])] 2000 r (by kernel_rfl) (U h0 trivial)
 | true=>
  have aT:=eq_of_beq h0
  rw [show (.v (.bool (dS false n most)):DV)=.v (.bool true) from (bv (by unfold dS;simp<;>omega))]
  exact aV tk mo hK rfl [(1,[(1,.b true)])] 2000 r (by kernel_rfl) (U h0 trivial)
theorem gh (has:Bool) (n most:Int):ay Tryz.prog 54 [.d (.v (.bool has)),.z n,.z most] (.v (.bool (dS has n most))):=by
 cases has with
 | true=>exact G5 n most
 | false=>exact Gc n most
theorem G6 {k:Nat} (h:k<14):([[.v (.string .empty)],[.v (.string ⟨([110]).toArray⟩)],[.v (.string ⟨([110,112,105]).toArray⟩)],[.v (.string ⟨([110,112,105]).toArray⟩)],[.v (.string ⟨([110,112,105]).toArray⟩)],[.v (.string ⟨([110,112,105,98]).toArray⟩)],[.v (.string ⟨([110,112]).toArray⟩)],[.v (.string ⟨([110,112]).toArray⟩)],[.v (.string ⟨([110]).toArray⟩)],[.v (.string ⟨([110,99]).toArray⟩)],[.v (.string ⟨([110,116]).toArray⟩)],[.v (.string ⟨([110]).toArray⟩)],[.v (.string ⟨([110]).toArray⟩)],[.v (.string ⟨([110]).toArray⟩)]]:List (List DV))[k]?=some [.v (.string ⟨(bZ k).toArray⟩)]:=l4 (p:=fun k=>([[.v (.string .empty)],[.v (.string ⟨([110]).toArray⟩)],[.v (.string ⟨([110,112,105]).toArray⟩)],[.v (.string ⟨([110,112,105]).toArray⟩)],[.v (.string ⟨([110,112,105]).toArray⟩)],[.v (.string ⟨([110,112,105,98]).toArray⟩)],[.v (.string ⟨([110,112]).toArray⟩)],[.v (.string ⟨([110,112]).toArray⟩)],[.v (.string ⟨([110]).toArray⟩)],[.v (.string ⟨([110,99]).toArray⟩)],[.v (.string ⟨([110,116]).toArray⟩)],[.v (.string ⟨([110]).toArray⟩)],[.v (.string ⟨([110]).toArray⟩)],[.v (.string ⟨([110]).toArray⟩)]]:List (List DV))[k]?=some [.v (.string ⟨(bZ k).toArray⟩)]) rfl rfl rfl rfl rfl rfl rfl rfl rfl rfl rfl rfl rfl rfl h
set_option maxRecDepth 100000 in
theorem Is (k:Int):ay Tryz.prog 59 [.z k] (.v (.string ⟨(fieldsOf k).toArray⟩)):=by
 refine ay.intro (by kernel_rfl) rfl rfl 17 rfl rfl fun w0 K ac hK r=>?_
 cases h0:(decide ((k:Int)<0)) with
 | false=>
  have aT:=of_decide_eq_false h0
  cases h1:(decide ((((14:Nat):Int):Int)≤k)) with
  | false=>
   have bR:=of_decide_eq_false h1
   rw [show (.v (.string ⟨(fieldsOf k).toArray⟩):DV)=.v (.string ⟨(bZ k.toNat).toArray⟩) from (by first | exact sv (u7 (by omega) (by omega)) | exact sv (ve (by omega)))]
   exact aV tk mo hK rfl [(2,[(1,.b false),(6,.b false)]),(4,[(2,.n (k.toNat)),(3,.ix 0 [.v (.string ⟨(bZ k.toNat).toArray⟩)])])] 2000 r (by kernel_rfl) (U h0 (U h1 (U ((by omega):(k)=((k.toNat:Nat):Int)) (U ((by first | omega | decide | (simp;done) | (simp;omega)):(k.toNat)<(14)) (U ((by first | rfl | (simp;done) | (simp<;>omega)):(14)≤([[.v (.string .empty)],[.v (.string ⟨([110]).toArray⟩)],[.v (.string ⟨([110,112,105]).toArray⟩)],[.v (.string ⟨([110,112,105]).toArray⟩)],[.v (.string ⟨([110,112,105]).toArray⟩)],[.v (.string ⟨([110,112,105,98]).toArray⟩)],[.v (.string ⟨([110,112]).toArray⟩)],[.v (.string ⟨([110,112]).toArray⟩)],[.v (.string ⟨([110]).toArray⟩)],[.v (.string ⟨([110,99]).toArray⟩)],[.v (.string ⟨([110,116]).toArray⟩)],[.v (.string ⟨([110]).toArray⟩)],[.v (.string ⟨([110]).toArray⟩)],[.v (.string ⟨([110]).toArray⟩)]]:List (List DV)).length) (U (G6 (by omega):([[.v (.string .empty)],[.v (.string ⟨([110]).toArray⟩)],[.v (.string ⟨([110,112,105]).toArray⟩)],[.v (.string ⟨([110,112,105]).toArray⟩)],[.v (.string ⟨([110,112,105]).toArray⟩)],[.v (.string ⟨([110,112,105,98]).toArray⟩)],[.v (.string ⟨([110,112]).toArray⟩)],[.v (.string ⟨([110,112]).toArray⟩)],[.v (.string ⟨([110]).toArray⟩)],[.v (.string ⟨([110,99]).toArray⟩)],[.v (.string ⟨([110,116]).toArray⟩)],[.v (.string ⟨([110]).toArray⟩)],[.v (.string ⟨([110]).toArray⟩)],[.v (.string ⟨([110]).toArray⟩)]]:List (List DV))[k.toNat]?=some [.v (.string ⟨(bZ k.toNat).toArray⟩)]) trivial))))))
  | true=>
   have bR:=of_decide_eq_true h1
   rw [show (.v (.string ⟨(fieldsOf k).toArray⟩):DV)=.v (.string ⟨([45]).toArray⟩) from (by first | exact sv (u7 (by omega) (by omega)) | exact sv (ve (by omega)))]
   exact aV tk mo hK rfl [(2,[(1,.b false),(6,.b true)])] 2000 r (by kernel_rfl) (U h0 (U h1 trivial))
 | true=>
  have aT:=of_decide_eq_true h0
  rw [show (.v (.string ⟨(fieldsOf k).toArray⟩):DV)=.v (.string ⟨([45]).toArray⟩) from (by first | exact sv (u7 (by omega) (by omega)) | exact sv (ve (by omega)))]
  exact aV tk mo hK rfl [(2,[(1,.b true)])] 2000 r (by kernel_rfl) (U h0 trivial)
set_option maxRecDepth 100000 in
theorem ym (s:aB):aC Tryz.prog 24 [.ag [.z s.kind,.z s.node,.z s.peer,.z s.n,.z s.bit,.u s.inc,.d (.ro 1 (af s.body))]] [.gw 0 ai] (.d (.v (.bool (hasB s)))) ([.gw 0 ai]):=by
 refine aC.intro (by kernel_rfl) rfl rfl 59 rfl rfl fun D w0 K bs ac wd hK (al:bs.m=1) r=>?_
 cases h0:(decide ((s.kind:Int)<0)) with
 | false=>
  have aT:=of_decide_eq_false h0
  cases h1:(decide ((14:Int)≤s.kind)) with
  | false=>
   have bR:=of_decide_eq_false h1
   cases h2:((ae s.kind.toNat).inc) with
   | false=>
    have aI:=((by rw [nZ (by omega)];unfold kt.row;rw [h2]):List.take 7 (List.drop ((s.kind.toNat)*7) (ai:List DV))=([.v (.string ⟨((ae s.kind.toNat).word).toArray⟩),.v (.bool ((ae s.kind.toNat).node)),.v (.bool ((ae s.kind.toNat).peer)),.v (.bool ((ae s.kind.toNat).n)),.v (.bool ((ae s.kind.toNat).bit)),.v (.bool false),.v (.bool ((ae s.kind.toNat).body))]:List DV))
    cases h3:(dS ((ae s.kind.toNat).node) s.node 255) with
    | false=>
     refine aY (y:=.d (.v (.bool false))) (N':=[.gw 0 ai]) ((congrArg (fun b=>AV.d (.v (.bool b))) (by first | exact iW (by omega) | exact iU (by omega) (by omega) (by unfold gS;simp [h0,h1,h2,h3]<;>omega)))) (rfl) ?_
     exact aX tk mo hK rfl al [(1,[(2,.b false),(6,.b false)]),(3,[(2,.ix (s.kind.toNat) [.v (.string ⟨((ae s.kind.toNat).word).toArray⟩),.v (.bool ((ae s.kind.toNat).node)),.v (.bool ((ae s.kind.toNat).peer)),.v (.bool ((ae s.kind.toNat).n)),.v (.bool ((ae s.kind.toNat).bit)),.v (.bool false),.v (.bool ((ae s.kind.toNat).body))])]),(4,[(4,.aG (.v (.bool false)))])] 2000 [0] r (by kernel_rfl) (U h0 (U h1 (U ((by omega):(s.kind)=((s.kind.toNat:Nat):Int)) (U ((by omega):(s.kind.toNat)<14) (U aI (U ((by have k:=gh ((ae s.kind.toNat).node) s.node 255;rw [h3] at k;exact k):ay Tryz.prog 54 [.d (.v (.bool ((ae s.kind.toNat).node))),.z s.node,.z 255] (.v (.bool false))) trivial))))))
    | true=>
     have bd:=((by have k:=gh ((ae s.kind.toNat).node) s.node 255;rw [h3] at k;exact k):ay Tryz.prog 54 [.d (.v (.bool ((ae s.kind.toNat).node))),.z s.node,.z 255] (.v (.bool true)))
     cases h4:(dS ((ae s.kind.toNat).peer) s.peer 255) with
     | false=>
      refine aY (y:=.d (.v (.bool false))) (N':=[.gw 0 ai]) ((congrArg (fun b=>AV.d (.v (.bool b))) (by first | exact iW (by omega) | exact iU (by omega) (by omega) (by unfold gS;simp [h0,h1,h2,h3,h4]<;>omega)))) (rfl) ?_
      exact aX tk mo hK rfl al [(1,[(2,.b false),(6,.b false)]),(3,[(2,.ix (s.kind.toNat) [.v (.string ⟨((ae s.kind.toNat).word).toArray⟩),.v (.bool ((ae s.kind.toNat).node)),.v (.bool ((ae s.kind.toNat).peer)),.v (.bool ((ae s.kind.toNat).n)),.v (.bool ((ae s.kind.toNat).bit)),.v (.bool false),.v (.bool ((ae s.kind.toNat).body))])]),(4,[(4,.aG (.v (.bool true))),(10,.aG (.v (.bool false)))])] 2000 [0] r (by kernel_rfl) (U h0 (U h1 (U ((by omega):(s.kind)=((s.kind.toNat:Nat):Int)) (U ((by omega):(s.kind.toNat)<14) (U aI (U bd (U ((by have k:=gh ((ae s.kind.toNat).peer) s.peer 255;rw [h4] at k;exact k):ay Tryz.prog 54 [.d (.v (.bool ((ae s.kind.toNat).peer))),.z s.peer,.z 255] (.v (.bool false))) trivial)))))))
     | true=>
      have b6:=((by have k:=gh ((ae s.kind.toNat).peer) s.peer 255;rw [h4] at k;exact k):ay Tryz.prog 54 [.d (.v (.bool ((ae s.kind.toNat).peer))),.z s.peer,.z 255] (.v (.bool true)))
      cases h5:(dS ((ae s.kind.toNat).n) s.n 255) with
      | false=>
       refine aY (y:=.d (.v (.bool false))) (N':=[.gw 0 ai]) ((congrArg (fun b=>AV.d (.v (.bool b))) (by first | exact iW (by omega) | exact iU (by omega) (by omega) (by unfold gS;simp [h0,h1,h2,h3,h4,h5]<;>omega)))) (rfl) ?_
       exact aX tk mo hK rfl al [(1,[(2,.b false),(6,.b false)]),(3,[(2,.ix (s.kind.toNat) [.v (.string ⟨((ae s.kind.toNat).word).toArray⟩),.v (.bool ((ae s.kind.toNat).node)),.v (.bool ((ae s.kind.toNat).peer)),.v (.bool ((ae s.kind.toNat).n)),.v (.bool ((ae s.kind.toNat).bit)),.v (.bool false),.v (.bool ((ae s.kind.toNat).body))])]),(4,[(4,.aG (.v (.bool true))),(10,.aG (.v (.bool true))),(17,.aG (.v (.bool false)))])] 2000 [0] r (by kernel_rfl) (U h0 (U h1 (U ((by omega):(s.kind)=((s.kind.toNat:Nat):Int)) (U ((by omega):(s.kind.toNat)<14) (U aI (U bd (U b6 (U ((by have k:=gh ((ae s.kind.toNat).n) s.n 255;rw [h5] at k;exact k):ay Tryz.prog 54 [.d (.v (.bool ((ae s.kind.toNat).n))),.z s.n,.z 255] (.v (.bool false))) trivial))))))))
      | true=>
       have cO:=((by have k:=gh ((ae s.kind.toNat).n) s.n 255;rw [h5] at k;exact k):ay Tryz.prog 54 [.d (.v (.bool ((ae s.kind.toNat).n))),.z s.n,.z 255] (.v (.bool true)))
       cases h6:(dS ((ae s.kind.toNat).bit) s.bit 65535) with
       | false=>
        refine aY (y:=.d (.v (.bool false))) (N':=[.gw 0 ai]) ((congrArg (fun b=>AV.d (.v (.bool b))) (by first | exact iW (by omega) | exact iU (by omega) (by omega) (by unfold gS;simp [h0,h1,h2,h3,h4,h5,h6]<;>omega)))) (rfl) ?_
        exact aX tk mo hK rfl al [(1,[(2,.b false),(6,.b false)]),(3,[(2,.ix (s.kind.toNat) [.v (.string ⟨((ae s.kind.toNat).word).toArray⟩),.v (.bool ((ae s.kind.toNat).node)),.v (.bool ((ae s.kind.toNat).peer)),.v (.bool ((ae s.kind.toNat).n)),.v (.bool ((ae s.kind.toNat).bit)),.v (.bool false),.v (.bool ((ae s.kind.toNat).body))])]),(4,[(4,.aG (.v (.bool true))),(10,.aG (.v (.bool true))),(17,.aG (.v (.bool true))),(24,.aG (.v (.bool false)))])] 2000 [0] r (by kernel_rfl) (U h0 (U h1 (U ((by omega):(s.kind)=((s.kind.toNat:Nat):Int)) (U ((by omega):(s.kind.toNat)<14) (U aI (U bd (U b6 (U cO (U ((by have k:=gh ((ae s.kind.toNat).bit) s.bit 65535;rw [h6] at k;exact k):ay Tryz.prog 54 [.d (.v (.bool ((ae s.kind.toNat).bit))),.z s.bit,.z 65535] (.v (.bool false))) trivial)))))))))
       | true=>
        have cg:=((by have k:=gh ((ae s.kind.toNat).bit) s.bit 65535;rw [h6] at k;exact k):ay Tryz.prog 54 [.d (.v (.bool ((ae s.kind.toNat).bit))),.z s.bit,.z 65535] (.v (.bool true)))
        have ek:=((by first | rfl | simp [af,ah,ints,steps,strs]):(((af s.body).length:Nat):Int)=((s.body.length:Nat):Int))
        cases h7:(dS ((ae s.kind.toNat).body) ((s.body.length:Nat):Int) 255) with
        | false=>
         refine aY (y:=.d (.v (.bool false))) (N':=[.gw 0 ai]) ((congrArg (fun b=>AV.d (.v (.bool b))) (by first | exact iW (by omega) | exact iU (by omega) (by omega) (by unfold gS;simp [h0,h1,h2,h3,h4,h5,h6,h7]<;>omega)))) (rfl) ?_
         exact aX tk mo hK rfl al [(1,[(2,.b false),(6,.b false)]),(3,[(2,.ix (s.kind.toNat) [.v (.string ⟨((ae s.kind.toNat).word).toArray⟩),.v (.bool ((ae s.kind.toNat).node)),.v (.bool ((ae s.kind.toNat).peer)),.v (.bool ((ae s.kind.toNat).n)),.v (.bool ((ae s.kind.toNat).bit)),.v (.bool false),.v (.bool ((ae s.kind.toNat).body))])]),(4,[(4,.aG (.v (.bool true))),(10,.aG (.v (.bool true))),(17,.aG (.v (.bool true))),(24,.aG (.v (.bool true))),(31,.z (((s.body.length:Nat):Int))),(32,.aG (.v (.bool false)))])] 2000 [0] r (by kernel_rfl) (U h0 (U h1 (U ((by omega):(s.kind)=((s.kind.toNat:Nat):Int)) (U ((by omega):(s.kind.toNat)<14) (U aI (U bd (U b6 (U cO (U cg (U ek (U ((by have k:=gh ((ae s.kind.toNat).body) ((s.body.length:Nat):Int) 255;rw [h7] at k;exact k):ay Tryz.prog 54 [.d (.v (.bool ((ae s.kind.toNat).body))),.n s.body.length,.z 255] (.v (.bool false))) trivial)))))))))))
        | true=>
         have df:=((by have k:=gh ((ae s.kind.toNat).body) ((s.body.length:Nat):Int) 255;rw [h7] at k;exact k):ay Tryz.prog 54 [.d (.v (.bool ((ae s.kind.toNat).body))),.n s.body.length,.z 255] (.v (.bool true)))
         cases h8:((((s.inc:Nat):Int):Int)==0) with
         | false=>
          have fg:=ne_of_beq_false h8
          refine aY (y:=.d (.v (.bool false))) (N':=[.gw 0 ai]) ((congrArg (fun b=>AV.d (.v (.bool b))) (by first | exact iW (by omega) | exact iU (by omega) (by omega) (by unfold gS;simp [h0,h1,h2,h3,h4,h5,h6,h7,h8]<;>omega)))) (rfl) ?_
          exact aX tk mo hK rfl al [(1,[(2,.b false),(6,.b false)]),(3,[(2,.ix (s.kind.toNat) [.v (.string ⟨((ae s.kind.toNat).word).toArray⟩),.v (.bool ((ae s.kind.toNat).node)),.v (.bool ((ae s.kind.toNat).peer)),.v (.bool ((ae s.kind.toNat).n)),.v (.bool ((ae s.kind.toNat).bit)),.v (.bool false),.v (.bool ((ae s.kind.toNat).body))])]),(4,[(4,.aG (.v (.bool true))),(10,.aG (.v (.bool true))),(17,.aG (.v (.bool true))),(24,.aG (.v (.bool true))),(31,.z (((s.body.length:Nat):Int))),(32,.aG (.v (.bool true))),(40,.b false)])] 2000 [0] r (by kernel_rfl) (U h0 (U h1 (U ((by omega):(s.kind)=((s.kind.toNat:Nat):Int)) (U ((by omega):(s.kind.toNat)<14) (U aI (U bd (U b6 (U cO (U cg (U ek (U df (U h8 trivial))))))))))))
         | true=>
          have fg:=eq_of_beq h8
          refine aY (y:=.d (.v (.bool true))) (N':=[.gw 0 ai]) ((congrArg (fun b=>AV.d (.v (.bool b))) (by first | exact iW (by omega) | exact iU (by omega) (by omega) (by unfold gS;simp [h0,h1,h2,h3,h4,h5,h6,h7,h8]<;>omega)))) (rfl) ?_
          exact aX tk mo hK rfl al [(1,[(2,.b false),(6,.b false)]),(3,[(2,.ix (s.kind.toNat) [.v (.string ⟨((ae s.kind.toNat).word).toArray⟩),.v (.bool ((ae s.kind.toNat).node)),.v (.bool ((ae s.kind.toNat).peer)),.v (.bool ((ae s.kind.toNat).n)),.v (.bool ((ae s.kind.toNat).bit)),.v (.bool false),.v (.bool ((ae s.kind.toNat).body))])]),(4,[(4,.aG (.v (.bool true))),(10,.aG (.v (.bool true))),(17,.aG (.v (.bool true))),(24,.aG (.v (.bool true))),(31,.z (((s.body.length:Nat):Int))),(32,.aG (.v (.bool true))),(40,.b true)])] 2000 [0] r (by kernel_rfl) (U h0 (U h1 (U ((by omega):(s.kind)=((s.kind.toNat:Nat):Int)) (U ((by omega):(s.kind.toNat)<14) (U aI (U bd (U b6 (U cO (U cg (U ek (U df (U h8 trivial))))))))))))
   | true=>
    have en:=((by rw [nZ (by omega)];unfold kt.row;rw [h2]):List.take 7 (List.drop ((s.kind.toNat)*7) (ai:List DV))=([.v (.string ⟨((ae s.kind.toNat).word).toArray⟩),.v (.bool ((ae s.kind.toNat).node)),.v (.bool ((ae s.kind.toNat).peer)),.v (.bool ((ae s.kind.toNat).n)),.v (.bool ((ae s.kind.toNat).bit)),.v (.bool true),.v (.bool ((ae s.kind.toNat).body))]:List DV))
    cases h9:(dS ((ae s.kind.toNat).node) s.node 255) with
    | false=>
     refine aY (y:=.d (.v (.bool false))) (N':=[.gw 0 ai]) ((congrArg (fun b=>AV.d (.v (.bool b))) (by first | exact iW (by omega) | exact iU (by omega) (by omega) (by unfold gS;simp [h0,h1,h2,h9]<;>omega)))) (rfl) ?_
     exact aX tk mo hK rfl al [(1,[(2,.b false),(6,.b false)]),(3,[(2,.ix (s.kind.toNat) [.v (.string ⟨((ae s.kind.toNat).word).toArray⟩),.v (.bool ((ae s.kind.toNat).node)),.v (.bool ((ae s.kind.toNat).peer)),.v (.bool ((ae s.kind.toNat).n)),.v (.bool ((ae s.kind.toNat).bit)),.v (.bool true),.v (.bool ((ae s.kind.toNat).body))])]),(4,[(4,.aG (.v (.bool false)))])] 2000 [0] r (by kernel_rfl) (U h0 (U h1 (U ((by omega):(s.kind)=((s.kind.toNat:Nat):Int)) (U ((by omega):(s.kind.toNat)<14) (U en (U ((by have k:=gh ((ae s.kind.toNat).node) s.node 255;rw [h9] at k;exact k):ay Tryz.prog 54 [.d (.v (.bool ((ae s.kind.toNat).node))),.z s.node,.z 255] (.v (.bool false))) trivial))))))
    | true=>
     have gu:=((by have k:=gh ((ae s.kind.toNat).node) s.node 255;rw [h9] at k;exact k):ay Tryz.prog 54 [.d (.v (.bool ((ae s.kind.toNat).node))),.z s.node,.z 255] (.v (.bool true)))
     cases cW:(dS ((ae s.kind.toNat).peer) s.peer 255) with
     | false=>
      refine aY (y:=.d (.v (.bool false))) (N':=[.gw 0 ai]) ((congrArg (fun b=>AV.d (.v (.bool b))) (by first | exact iW (by omega) | exact iU (by omega) (by omega) (by unfold gS;simp [h0,h1,h2,h9,cW]<;>omega)))) (rfl) ?_
      exact aX tk mo hK rfl al [(1,[(2,.b false),(6,.b false)]),(3,[(2,.ix (s.kind.toNat) [.v (.string ⟨((ae s.kind.toNat).word).toArray⟩),.v (.bool ((ae s.kind.toNat).node)),.v (.bool ((ae s.kind.toNat).peer)),.v (.bool ((ae s.kind.toNat).n)),.v (.bool ((ae s.kind.toNat).bit)),.v (.bool true),.v (.bool ((ae s.kind.toNat).body))])]),(4,[(4,.aG (.v (.bool true))),(10,.aG (.v (.bool false)))])] 2000 [0] r (by kernel_rfl) (U h0 (U h1 (U ((by omega):(s.kind)=((s.kind.toNat:Nat):Int)) (U ((by omega):(s.kind.toNat)<14) (U en (U gu (U ((by have k:=gh ((ae s.kind.toNat).peer) s.peer 255;rw [cW] at k;exact k):ay Tryz.prog 54 [.d (.v (.bool ((ae s.kind.toNat).peer))),.z s.peer,.z 255] (.v (.bool false))) trivial)))))))
     | true=>
      have jC:=((by have k:=gh ((ae s.kind.toNat).peer) s.peer 255;rw [cW] at k;exact k):ay Tryz.prog 54 [.d (.v (.bool ((ae s.kind.toNat).peer))),.z s.peer,.z 255] (.v (.bool true)))
      cases fI:(dS ((ae s.kind.toNat).n) s.n 255) with
      | false=>
       refine aY (y:=.d (.v (.bool false))) (N':=[.gw 0 ai]) ((congrArg (fun b=>AV.d (.v (.bool b))) (by first | exact iW (by omega) | exact iU (by omega) (by omega) (by unfold gS;simp [h0,h1,h2,h9,cW,fI]<;>omega)))) (rfl) ?_
       exact aX tk mo hK rfl al [(1,[(2,.b false),(6,.b false)]),(3,[(2,.ix (s.kind.toNat) [.v (.string ⟨((ae s.kind.toNat).word).toArray⟩),.v (.bool ((ae s.kind.toNat).node)),.v (.bool ((ae s.kind.toNat).peer)),.v (.bool ((ae s.kind.toNat).n)),.v (.bool ((ae s.kind.toNat).bit)),.v (.bool true),.v (.bool ((ae s.kind.toNat).body))])]),(4,[(4,.aG (.v (.bool true))),(10,.aG (.v (.bool true))),(17,.aG (.v (.bool false)))])] 2000 [0] r (by kernel_rfl) (U h0 (U h1 (U ((by omega):(s.kind)=((s.kind.toNat:Nat):Int)) (U ((by omega):(s.kind.toNat)<14) (U en (U gu (U jC (U ((by have k:=gh ((ae s.kind.toNat).n) s.n 255;rw [fI] at k;exact k):ay Tryz.prog 54 [.d (.v (.bool ((ae s.kind.toNat).n))),.z s.n,.z 255] (.v (.bool false))) trivial))))))))
      | true=>
       have nC:=((by have k:=gh ((ae s.kind.toNat).n) s.n 255;rw [fI] at k;exact k):ay Tryz.prog 54 [.d (.v (.bool ((ae s.kind.toNat).n))),.z s.n,.z 255] (.v (.bool true)))
       cases ej:(dS ((ae s.kind.toNat).bit) s.bit 65535) with
       | false=>
        refine aY (y:=.d (.v (.bool false))) (N':=[.gw 0 ai]) ((congrArg (fun b=>AV.d (.v (.bool b))) (by first | exact iW (by omega) | exact iU (by omega) (by omega) (by unfold gS;simp [h0,h1,h2,h9,cW,fI,ej]<;>omega)))) (rfl) ?_
        exact aX tk mo hK rfl al [(1,[(2,.b false),(6,.b false)]),(3,[(2,.ix (s.kind.toNat) [.v (.string ⟨((ae s.kind.toNat).word).toArray⟩),.v (.bool ((ae s.kind.toNat).node)),.v (.bool ((ae s.kind.toNat).peer)),.v (.bool ((ae s.kind.toNat).n)),.v (.bool ((ae s.kind.toNat).bit)),.v (.bool true),.v (.bool ((ae s.kind.toNat).body))])]),(4,[(4,.aG (.v (.bool true))),(10,.aG (.v (.bool true))),(17,.aG (.v (.bool true))),(24,.aG (.v (.bool false)))])] 2000 [0] r (by kernel_rfl) (U h0 (U h1 (U ((by omega):(s.kind)=((s.kind.toNat:Nat):Int)) (U ((by omega):(s.kind.toNat)<14) (U en (U gu (U jC (U nC (U ((by have k:=gh ((ae s.kind.toNat).bit) s.bit 65535;rw [ej] at k;exact k):ay Tryz.prog 54 [.d (.v (.bool ((ae s.kind.toNat).bit))),.z s.bit,.z 65535] (.v (.bool false))) trivial)))))))))
       | true=>
        have DM:=((by have k:=gh ((ae s.kind.toNat).bit) s.bit 65535;rw [ej] at k;exact k):ay Tryz.prog 54 [.d (.v (.bool ((ae s.kind.toNat).bit))),.z s.bit,.z 65535] (.v (.bool true)))
        have DN:=((by first | rfl | simp [af,ah,ints,steps,strs]):(((af s.body).length:Nat):Int)=((s.body.length:Nat):Int))
        cases fy:(dS ((ae s.kind.toNat).body) ((s.body.length:Nat):Int) 255) with
        | false=>
         refine aY (y:=.d (.v (.bool false))) (N':=[.gw 0 ai]) ((congrArg (fun b=>AV.d (.v (.bool b))) (by first | exact iW (by omega) | exact iU (by omega) (by omega) (by unfold gS;simp [h0,h1,h2,h9,cW,fI,ej,fy]<;>omega)))) (rfl) ?_
         exact aX tk mo hK rfl al [(1,[(2,.b false),(6,.b false)]),(3,[(2,.ix (s.kind.toNat) [.v (.string ⟨((ae s.kind.toNat).word).toArray⟩),.v (.bool ((ae s.kind.toNat).node)),.v (.bool ((ae s.kind.toNat).peer)),.v (.bool ((ae s.kind.toNat).n)),.v (.bool ((ae s.kind.toNat).bit)),.v (.bool true),.v (.bool ((ae s.kind.toNat).body))])]),(4,[(4,.aG (.v (.bool true))),(10,.aG (.v (.bool true))),(17,.aG (.v (.bool true))),(24,.aG (.v (.bool true))),(31,.z (((s.body.length:Nat):Int))),(32,.aG (.v (.bool false)))])] 2000 [0] r (by kernel_rfl) (U h0 (U h1 (U ((by omega):(s.kind)=((s.kind.toNat:Nat):Int)) (U ((by omega):(s.kind.toNat)<14) (U en (U gu (U jC (U nC (U DM (U DN (U ((by have k:=gh ((ae s.kind.toNat).body) ((s.body.length:Nat):Int) 255;rw [fy] at k;exact k):ay Tryz.prog 54 [.d (.v (.bool ((ae s.kind.toNat).body))),.n s.body.length,.z 255] (.v (.bool false))) trivial)))))))))))
        | true=>
         refine aY (y:=.d (.v (.bool true))) (N':=[.gw 0 ai]) ((congrArg (fun b=>AV.d (.v (.bool b))) (by first | exact iW (by omega) | exact iU (by omega) (by omega) (by unfold gS;simp [h0,h1,h2,h9,cW,fI,ej,fy]<;>omega)))) (rfl) ?_
         exact aX tk mo hK rfl al [(1,[(2,.b false),(6,.b false)]),(3,[(2,.ix (s.kind.toNat) [.v (.string ⟨((ae s.kind.toNat).word).toArray⟩),.v (.bool ((ae s.kind.toNat).node)),.v (.bool ((ae s.kind.toNat).peer)),.v (.bool ((ae s.kind.toNat).n)),.v (.bool ((ae s.kind.toNat).bit)),.v (.bool true),.v (.bool ((ae s.kind.toNat).body))])]),(4,[(4,.aG (.v (.bool true))),(10,.aG (.v (.bool true))),(17,.aG (.v (.bool true))),(24,.aG (.v (.bool true))),(31,.z (((s.body.length:Nat):Int))),(32,.aG (.v (.bool true)))])] 2000 [0] r (by kernel_rfl) (U h0 (U h1 (U ((by omega):(s.kind)=((s.kind.toNat:Nat):Int)) (U ((by omega):(s.kind.toNat)<14) (U en (U gu (U jC (U nC (U DM (U DN (U ((by have k:=gh ((ae s.kind.toNat).body) ((s.body.length:Nat):Int) 255;rw [fy] at k;exact k):ay Tryz.prog 54 [.d (.v (.bool ((ae s.kind.toNat).body))),.n s.body.length,.z 255] (.v (.bool true))) trivial)))))))))))
  | true=>
   have bR:=of_decide_eq_true h1
   refine aY (y:=.d (.v (.bool false))) (N':=[.gw 0 ai]) ((congrArg (fun b=>AV.d (.v (.bool b))) (by first | exact iW (by omega) | exact iU (by omega) (by omega) (by unfold gS;simp [h0,h1]<;>omega)))) (rfl) ?_
   exact aX tk mo hK rfl al [(1,[(2,.b false),(6,.b true)])] 2000 [0] r (by kernel_rfl) (U h0 (U h1 trivial))
 | true=>
  have aT:=of_decide_eq_true h0
  refine aY (y:=.d (.v (.bool false))) (N':=[.gw 0 ai]) ((congrArg (fun b=>AV.d (.v (.bool b))) (by first | exact iW (by omega) | exact iU (by omega) (by omega) (by unfold gS;simp [h0]<;>omega)))) (rfl) ?_
  exact aX tk mo hK rfl al [(1,[(2,.b true)])] 2000 [0] r (by kernel_rfl) (U h0 trivial)
end Go.Proofs.YtcnpikbbmbombaaGreatDoor
namespace Go.Proofs.YtcnpikbbmbombaaGreatDoor
open Go.RowKit
theorem JU {k:Nat} (h:k<14):(bZ k).length≤4:=l4 (p:=fun k=>(bZ k).length≤4) (by decide) (by decide) (by decide) (by decide) (by decide) (by decide) (by decide) (by decide) (by decide) (by decide) (by decide) (by decide) (by decide) (by decide) h
end Go.Proofs.YtcnpikbbmbombaaGreatDoor
namespace Go.Proofs.YtcnpikbbmbombaaGreatDoor
open Go.RowKit
theorem ay.stays {P:Program} {f:FuncId} {args:List AV} {x:DV} (h:ay P f args x):ay P f args (fa x):=by
 refine ⟨h.1,fun w K ys hK hl hr=>(h.2 w K ys hK hl hr).mono ?_⟩
 rintro ed w' ⟨v,rfl,g,H,⟨Ho,Hi,rfl,hd⟩,n⟩
 exact ⟨_,rfl,g,_,⟨[],Ho++Hi,rfl,tf hd fun w hw=>⟨⟨hw.1,(Holds.app.1 hw.2).2⟩,(Holds.app.1 hw.2).1⟩⟩,n⟩
theorem ew (l:List (Int×Int)):b5 (ah l)=ah l:=by rw [kx];unfold ah;rw [List.map_map];apply List.map_congr_left;intro b _;rfl
theorem ey (l:List Int):b5 (ints l)=ints l:=by rw [kx];unfold ints;rw [List.map_map];apply List.map_congr_left;intro b _;rfl
structure aB.Rd (s:aB):Prop where
 body:s.body.length≤9223372036854775807
 inc:s.inc≤18446744073709551615
theorem ext_get {α:Type} {a b:List α} (hl:a.length=b.length) (h:∀ (j:Nat) x y,j<a.length→a[j]?=some x→b[j]?=some y→x=y):a=b:=by
 apply List.ext_getElem hl
 intro i h1 h2
 exact h i _ _ h1 (List.getElem?_eq_getElem h1) (List.getElem?_eq_getElem h2)
theorem mn {a b:List UInt8} (h:(a==b)=false):a≠b:=by intro e;subst e;simp at h
def lB (a b:bK):Bool:=decide (a=b)
theorem gB {a b:bK} (h:a≠b):lB a b=false:=decide_eq_false h
theorem pa {a b:bK} {i j:Nat} (h0:a.aD=b.aD) (h1:(a.ah.length:Int)=b.ah.length) (h2:(a.homes.length:Int)=b.homes.length) (hi:¬ (i:Int)<a.ah.length) (h3:∀ (k:Nat) x y,k<i→a.ah[k]?=some x→b.ah[k]?=some y→x=y) (hj:¬ (j:Int)<a.homes.length) (h4:∀ (k:Nat) x y,k<j→a.homes[k]?=some x→b.homes[k]?=some y→x=y):lB a b=true:=by
 refine decide_eq_true ?_
 cases a with | mk a1 a2 a3=>cases b with | mk b1 b2 b3=>
 dsimp only at *
 have e2:a2=b2:=ext_get (by omega) fun k x y hk=>h3 k x y (by omega)
 have e3:a3=b3:=ext_get (by omega) fun k x y hk=>h4 k x y (by omega)
 rw [h0,e2,e3]
def jq (a b:List aB):Bool:=decide (a=b)
theorem la {a b:List aB} (h:a≠b):jq a b=false:=decide_eq_false h
theorem gD {a b:List aB} {i:Nat} {x y:aB} (g:a[i]?=some x) (g2:b[i]?=some y) (h:x≠y):jq a b=false:=la fun e=>by subst e;rw [g] at g2;cases g2;exact h rfl
theorem lT {a b:List aB} {i:Nat} (h1:(a.length:Int)=b.length) (hi:¬ (i:Int)<a.length) (h3:∀ (k:Nat) x y,k<i→a[k]?=some x→b[k]?=some y→x=y):jq a b=true:=decide_eq_true (ext_get (by omega) fun k x y hk=>h3 k x y (by omega))
theorem gO {x y:aB} (h:x.kind≠y.kind∨x.node≠y.node∨x.peer≠y.peer∨x.n≠y.n∨x.bit≠y.bit∨(x.inc:Int)≠y.inc∨x.body≠y.body):x≠y:=by
 intro e;subst e;simp at h
theorem Lc {x y:aB} (h1:x.kind=y.kind) (h2:x.node=y.node) (h3:x.peer=y.peer) (h4:x.n=y.n) (h5:x.bit=y.bit) (h6:(x.inc:Int)=y.inc) (h7:x.body=y.body):x=y:=by
 cases x;cases y;dsimp only at *;subst h1 h2 h3 h4 h5 h7;congr 1;omega
theorem JV {x y:Int×Int} (h:(x.1==y.1&&x.2==y.2)=true):x=y:=by
 obtain ⟨a,b⟩:=x;obtain ⟨c,d⟩:=y;simpa using h
theorem pw {x y:Int×Int} (h:(x.1==y.1&&x.2==y.2)=false):x≠y:=by
 intro e;subst e;simp at h
theorem at_next {α:Type} {a b:List α} {i:Nat} {x y:α} (h:∀ (k:Nat) x y,k<i→a[k]?=some x→b[k]?=some y→x=y) (g:a[i]?=some x) (g2:b[i]?=some y) (e:x=y):∀ (k:Nat) x y,k<i+1→a[k]?=some x→b[k]?=some y→x=y:=fun k u v hk hu hv=>by
 rcases Nat.lt_succ_iff_lt_or_eq.1 hk with h' | rfl
 ·exact h k u v h' hu hv
 ·rw [g] at hu;rw [g2] at hv;cases hu;cases hv;exact e
set_option maxRecDepth 100000 in
theorem JW (a b:bK) (hl:a.ah.length≤9223372036854775807) (hh:a.homes.length≤9223372036854775807):ay Tryz.prog 13 [.ag [.z a.aD,.d (.ro 2 (ah a.ah)),.d (.ro 1 (ints a.homes))],.ag [.z b.aD,.d (.ro 2 (ah b.ah)),.d (.ro 1 (ints b.homes))]] (.v (.bool (lB a b))):=by
 refine ay.intro (by kernel_rfl) rfl rfl 66 rfl rfl fun w0 K ac hK r=>?_
 cases h0:((a.aD:Int) != b.aD) with
 | false=>
  have aT:=fM h0
  have aI:=((by first | rfl | simp [af,ah,ints,steps,strs]):(((ah a.ah).length:Nat):Int)=((a.ah.length:Nat):Int))
  have bd:=((by first | rfl | simp [af,ah,ints,steps,strs]):(((ah b.ah).length:Nat):Int)=((b.ah.length:Nat):Int))
  cases h1:((((a.ah.length:Nat):Int):Int) != ((b.ah.length:Nat):Int)) with
  | false=>
   have bR:=fM h1
   have b6:=((by first | rfl | simp [af,ah,ints,steps,strs]):(((ints a.homes).length:Nat):Int)=((a.homes.length:Nat):Int))
   have cO:=((by first | rfl | simp [af,ah,ints,steps,strs]):(((ints b.homes).length:Nat):Int)=((b.homes.length:Nat):Int))
   cases h2:((((a.homes.length:Nat):Int):Int) != ((b.homes.length:Nat):Int)) with
   | false=>
    have cz:=fM h2
    refine bX (todo':=hd Tryz.f13 0) (E':=[(2,.pt 0 0),(3,.pt 1 0),(5,.n 0)]) (M':=[.bx 25 [.z a.aD,.d (.ro 2 (ah a.ah)),.d (.ro 1 (ints a.homes))],.bx 25 [.z b.aD,.d (.ro 2 (ah b.ah)),.d (.ro 1 (ints b.homes))]]) tk mo hK [(1,[(4,.b false),(8,.z (((a.ah.length:Nat):Int))),(11,.z (((b.ah.length:Nat):Int))),(12,.b false),(17,.z (((a.homes.length:Nat):Int))),(20,.z (((b.homes.length:Nat):Int))),(21,.b false)])] 2000 [0,1] [2,3,5] r (by kernel_rfl) (U h0 (U aI (U bd (U h1 (U b6 (U cO (U h2 trivial))))))) fun ac wd r=>?_
    refine aF.rounds (Φ:=fun (i:Nat) ac wd=>(∀ (k:Nat) x y,k<i→a.ah[k]?=some x→b.ah[k]?=some y→x=y)∧dn [] w0 K 66 [(2,.pt 0 0),(3,.pt 1 0),(5,.n i)] [.bx 25 [.z a.aD,.d (.ro 2 (ah a.ah)),.d (.ro 1 (ints a.homes))],.bx 25 [.z b.aD,.d (.ro 2 (ah b.ah)),.d (.ro 1 (ints b.homes))]] ac wd) (a.ah.length) ?_ (Nat.zero_le _) ⟨(fun k x y h=>absurd h (Nat.not_lt_zero _)),r⟩
    clear r
    rintro i dw bj ac wd ⟨ao,r⟩
    cases h3:(decide ((((i:Nat):Int):Int)<((a.ah.length:Nat):Int))) with
    | false=>
     have cT:=of_decide_eq_false h3
     refine bX (todo':=hd Tryz.f13 1) (E':=[(2,.pt 0 0),(3,.pt 1 0),(6,.n 0)]) (M':=[.bx 25 [.z a.aD,.d (.ro 2 (ah a.ah)),.d (.ro 1 (ints a.homes))],.bx 25 [.z b.aD,.d (.ro 2 (ah b.ah)),.d (.ro 1 (ints b.homes))]]) tk mo hK [(4,[(3,.z (((a.ah.length:Nat):Int))),(4,.b false)])] 2000 [0,1] [2,3,6] r (by kernel_rfl) (U aI (U h3 trivial)) fun ac wd r=>?_
     refine aF.rounds (Φ:=fun (i:Nat) ac wd=>(∀ (k:Nat) x y,k<i→a.homes[k]?=some x→b.homes[k]?=some y→x=y)∧dn [] w0 K 66 [(2,.pt 0 0),(3,.pt 1 0),(6,.n i)] [.bx 25 [.z a.aD,.d (.ro 2 (ah a.ah)),.d (.ro 1 (ints a.homes))],.bx 25 [.z b.aD,.d (.ro 2 (ah b.ah)),.d (.ro 1 (ints b.homes))]] ac wd) (a.homes.length) ?_ (Nat.zero_le _) ⟨(fun k x y h=>absurd h (Nat.not_lt_zero _)),r⟩
     clear r
     rintro i kX c9 ac wd ⟨bo,r⟩
     cases h4:(decide ((((i:Nat):Int):Int)<((a.homes.length:Nat):Int))) with
     | false=>
      have dT:=of_decide_eq_false h4
      rw [show (.v (.bool (lB a b)):DV)=.v (.bool true) from (bv (by first | exact pa (by omega) (by omega) (by omega) (by omega) ao (by omega) bo | exact gB (fun e=>by subst e;omega) | exact gB (fun e=>by subst e;rw [lQ] at iQ;cases iQ;exact pw (by assumption) rfl) | exact gB (fun e=>by subst e;rw [lR] at iR;cases iR;omega)))]
      exact aV tk mo hK rfl [(9,[(3,.z (((a.homes.length:Nat):Int))),(4,.b false)])] 2000 r (by kernel_rfl) (U b6 (U h4 trivial))
     | true=>
      have dT:=of_decide_eq_true h4
      obtain ⟨vf,lR⟩:∃ x_,a.homes[i]?=some x_:=⟨_,List.getElem?_eq_getElem (by omega)⟩
      obtain ⟨vg,iR⟩:∃ x_,b.homes[i]?=some x_:=⟨_,List.getElem?_eq_getElem (by omega)⟩
      cases h5:((vf:Int) != vg) with
      | false=>
       have du:=fM h5
       exact bX (todo':=hd Tryz.f13 1) tk mo hK [(9,[(3,.z (((a.homes.length:Nat):Int))),(4,.b true)]),(10,[(1,.z (((i+1:Nat):Int)))]),(11,[(3,.ix (i) [.z vf]),(8,.ix (i) [.z vg]),(10,.b false)])] 2000 [0,1] [2,3,6] r (by kernel_rfl) (U b6 (U h4 (U (ax ((i:Nat):Int)) (U (ints_at lR) (U (ax ((i:Nat):Int)) (U (ints_at iR) (U h5 (U ((wi (by omega)):IntKind.i64.wrap ((((i:Nat):Int):Int)+1)=((i+1:Nat):Int)) trivial)))))))) fun ac wd r=>c9 (by omega) ac wd ⟨(at_next bo lR iR (by omega)),r⟩
      | true=>
       have du:¬ _=_:=bne_iff_ne.1 h5
       rw [show (.v (.bool (lB a b)):DV)=.v (.bool false) from (bv (by first | exact pa (by omega) (by omega) (by omega) (by omega) ao (by omega) bo | exact gB (fun e=>by subst e;omega) | exact gB (fun e=>by subst e;rw [lQ] at iQ;cases iQ;exact pw (by assumption) rfl) | exact gB (fun e=>by subst e;rw [lR] at iR;cases iR;omega)))]
       exact aV tk mo hK rfl [(9,[(3,.z (((a.homes.length:Nat):Int))),(4,.b true)]),(11,[(3,.ix (i) [.z vf]),(8,.ix (i) [.z vg]),(10,.b true)])] 2000 r (by kernel_rfl) (U b6 (U h4 (U (ax ((i:Nat):Int)) (U (ints_at lR) (U (ax ((i:Nat):Int)) (U (ints_at iR) (U h5 trivial)))))))
    | true=>
     have cT:=of_decide_eq_true h3
     obtain ⟨k4,lQ⟩:∃ x_,a.ah[i]?=some x_:=⟨_,List.getElem?_eq_getElem (by omega)⟩
     obtain ⟨k5,iQ⟩:∃ x_,b.ah[i]?=some x_:=⟨_,List.getElem?_eq_getElem (by omega)⟩
     cases h6:(k4.1==k5.1&&k4.2==k5.2) with
     | false=>
      rw [show (.v (.bool (lB a b)):DV)=.v (.bool false) from (bv (by first | exact pa (by omega) (by omega) (by omega) (by omega) ao (by omega) bo | exact gB (fun e=>by subst e;omega) | exact gB (fun e=>by subst e;rw [lQ] at iQ;cases iQ;exact pw (by assumption) rfl) | exact gB (fun e=>by subst e;rw [lR] at iR;cases iR;omega)))]
      exact aV tk mo hK rfl [(4,[(3,.z (((a.ah.length:Nat):Int))),(4,.b true)]),(6,[(3,.ix (i) [.z k4.1,.z k4.2]),(8,.ix (i) [.z k5.1,.z k5.2]),(10,.b false)])] 2000 r (by kernel_rfl) (U aI (U h3 (U (ax ((i:Nat):Int)) (U (c7 lQ) (U (ax ((i:Nat):Int)) (U (c7 iQ) (U ((qq (pI _ _ _ _) h6):kI Tryz.prog 60 [(.int .i64 (k4.1)),(.int .i64 (k4.2))] [(.int .i64 (k5.1)),(.int .i64 (k5.2))] false) trivial)))))))
     | true=>
      exact bX (todo':=hd Tryz.f13 0) tk mo hK [(4,[(3,.z (((a.ah.length:Nat):Int))),(4,.b true)]),(5,[(1,.z (((i+1:Nat):Int)))]),(6,[(3,.ix (i) [.z k4.1,.z k4.2]),(8,.ix (i) [.z k5.1,.z k5.2]),(10,.b true)])] 2000 [0,1] [2,3,5] r (by kernel_rfl) (U aI (U h3 (U (ax ((i:Nat):Int)) (U (c7 lQ) (U (ax ((i:Nat):Int)) (U (c7 iQ) (U ((qq (pI _ _ _ _) h6):kI Tryz.prog 60 [(.int .i64 (k4.1)),(.int .i64 (k4.2))] [(.int .i64 (k5.1)),(.int .i64 (k5.2))] true) (U ((wi (by omega)):IntKind.i64.wrap ((((i:Nat):Int):Int)+1)=((i+1:Nat):Int)) trivial)))))))) fun ac wd r=>bj (by omega) ac wd ⟨(at_next ao lQ iQ (JV (by assumption))),r⟩
   | true=>
    have cz:¬ _=_:=bne_iff_ne.1 h2
    rw [show (.v (.bool (lB a b)):DV)=.v (.bool false) from (bv (by first | exact pa (by omega) (by omega) (by omega) (by omega) ao (by omega) bo | exact gB (fun e=>by subst e;omega) | exact gB (fun e=>by subst e;rw [lQ] at iQ;cases iQ;exact pw (by assumption) rfl) | exact gB (fun e=>by subst e;rw [lR] at iR;cases iR;omega)))]
    exact aV tk mo hK rfl [(1,[(4,.b false),(8,.z (((a.ah.length:Nat):Int))),(11,.z (((b.ah.length:Nat):Int))),(12,.b false),(17,.z (((a.homes.length:Nat):Int))),(20,.z (((b.homes.length:Nat):Int))),(21,.b true)])] 2000 r (by kernel_rfl) (U h0 (U aI (U bd (U h1 (U b6 (U cO (U h2 trivial)))))))
  | true=>
   have bR:¬ _=_:=bne_iff_ne.1 h1
   rw [show (.v (.bool (lB a b)):DV)=.v (.bool false) from (bv (by first | exact pa (by omega) (by omega) (by omega) (by omega) ao (by omega) bo | exact gB (fun e=>by subst e;omega) | exact gB (fun e=>by subst e;rw [lQ] at iQ;cases iQ;exact pw (by assumption) rfl) | exact gB (fun e=>by subst e;rw [lR] at iR;cases iR;omega)))]
   exact aV tk mo hK rfl [(1,[(4,.b false),(8,.z (((a.ah.length:Nat):Int))),(11,.z (((b.ah.length:Nat):Int))),(12,.b true)])] 2000 r (by kernel_rfl) (U h0 (U aI (U bd (U h1 trivial))))
 | true=>
  have aT:¬ _=_:=bne_iff_ne.1 h0
  rw [show (.v (.bool (lB a b)):DV)=.v (.bool false) from (bv (by first | exact pa (by omega) (by omega) (by omega) (by omega) ao (by omega) bo | exact gB (fun e=>by subst e;omega) | exact gB (fun e=>by subst e;rw [lQ] at iQ;cases iQ;exact pw (by assumption) rfl) | exact gB (fun e=>by subst e;rw [lR] at iR;cases iR;omega)))]
  exact aV tk mo hK rfl [(1,[(4,.b true)])] 2000 r (by kernel_rfl) (U h0 trivial)
set_option maxRecDepth 100000 in
theorem JX (a b:List aB) (hl:a.length≤9223372036854775807):ay Tryz.prog 14 [.d (.ro 7 (steps a)),.d (.ro 7 (steps b))] (.v (.bool (jq a b))):=by
 refine ay.intro (by kernel_rfl) rfl rfl 76 rfl rfl fun w0 K ac hK r=>?_
 have aI:=((by first | rfl | simp [af,ah,ints,steps,strs]):(((steps a).length:Nat):Int)=((a.length:Nat):Int))
 have bd:=((by first | rfl | simp [af,ah,ints,steps,strs]):(((steps b).length:Nat):Int)=((b.length:Nat):Int))
 cases h0:((((a.length:Nat):Int):Int) != ((b.length:Nat):Int)) with
 | false=>
  have aT:=fM h0
  refine bX (todo':=hd Tryz.f14 0) (E':=[(0,.d (.ro 7 (steps a))),(1,.d (.ro 7 (steps b))),(5,.n 0)]) (M':=[]) tk mo hK [(1,[(1,.z (((a.length:Nat):Int))),(3,.z (((b.length:Nat):Int))),(4,.b false)])] 2000 [] [0,1,5] r (by kernel_rfl) (U aI (U bd (U h0 trivial))) fun ac wd r=>?_
  refine aF.rounds (Φ:=fun (i:Nat) ac wd=>(∀ (k:Nat) x y,k<i→a[k]?=some x→b[k]?=some y→x=y)∧dn [] w0 K 76 [(0,.d (.ro 7 (steps a))),(1,.d (.ro 7 (steps b))),(5,.n i)] [] ac wd) (a.length) ?_ (Nat.zero_le _) ⟨(fun k x y h=>absurd h (Nat.not_lt_zero _)),r⟩
  clear r
  rintro i dw bj ac wd ⟨ao,r⟩
  cases h1:(decide ((((i:Nat):Int):Int)<((a.length:Nat):Int))) with
  | false=>
   have bR:=of_decide_eq_false h1
   rw [show (.v (.bool (jq a b)):DV)=.v (.bool true) from (bv (by first | exact lT (by omega) (by omega) ao | exact la (fun e=>by subst e;omega) | exact gD fP fQ (gO (by omega)) | exact gD fP fQ (gO (.inr (.inr (.inr (.inr (.inr (.inr (mn (by assumption)))))))))))]
   exact aV tk mo hK rfl [(4,[(2,.z (((a.length:Nat):Int))),(3,.b false)])] 2000 r (by kernel_rfl) (U aI (U h1 trivial))
  | true=>
   have bR:=of_decide_eq_true h1
   obtain ⟨cH,fP⟩:∃ x_,a[i]?=some x_:=⟨_,List.getElem?_eq_getElem (by omega)⟩
   obtain ⟨cI,fQ⟩:∃ x_,b[i]?=some x_:=⟨_,List.getElem?_eq_getElem (by omega)⟩
   have DO:=((by first | rfl | simp [af,ah,ints,steps,strs]):(((steps a).length:Nat):Int)=((a.length:Nat):Int))
   refine Cy (todo':=aft Tryz.f14 6) (E':=[(0,.d (.ro 7 (steps a))),(1,.d (.ro 7 (steps b))),(5,.n i),(13,.n i),(14,.d (.ro 7 (steps a))),(15,.n a.length),(16,.d (.v (.bool true))),(19,.d (.ro 7 (steps a))),(20,.n i),(21,.rp [.z cH.kind,.z cH.node,.z cH.peer,.z cH.n,.z cH.bit,.u cH.inc,.ro 1 (af cH.body)] 0),(22,.ag [.z cH.kind,.z cH.node,.z cH.peer,.z cH.n,.z cH.bit,.u cH.inc,.d (.ro 1 (af cH.body))]),(23,.d (.ro 7 (steps b))),(24,.n i),(25,.rp [.z cI.kind,.z cI.node,.z cI.peer,.z cI.n,.z cI.bit,.u cI.inc,.ro 1 (af cI.body)] 0),(26,.ag [.z cI.kind,.z cI.node,.z cI.peer,.z cI.n,.z cI.bit,.u cI.inc,.d (.ro 1 (af cI.body))]),(6,.pt 0 0),(7,.pt 1 0)]) (M':=[.bx 42 [.z cH.kind,.z cH.node,.z cH.peer,.z cH.n,.z cH.bit,.u cH.inc,.d (.ro 1 (af cH.body))],.bx 42 [.z cI.kind,.z cI.node,.z cI.peer,.z cI.n,.z cI.bit,.u cI.inc,.d (.ro 1 (af cI.body))]]) tk mo hK [(4,[(2,.z (((a.length:Nat):Int))),(3,.b true)]),(6,[(2,.ix (i) [.z cH.kind,.z cH.node,.z cH.peer,.z cH.n,.z cH.bit,.u cH.inc,.ro 1 (af cH.body)]),(6,.ix (i) [.z cI.kind,.z cI.node,.z cI.peer,.z cI.n,.z cI.bit,.u cI.inc,.ro 1 (af cI.body)])])] 8 2 [] [[0,1],[1,0]] [0,1,5,13,14,15,16,19,20,21,22,23,24,25,26,6,7] r (by kernel_rfl) (U (U DO (U h1 (U (ax ((i:Nat):Int)) (U (mV fP) (U (ax ((i:Nat):Int)) (U (mV fQ) trivial)))))) (U (U DO (U h1 (U (ax ((i:Nat):Int)) (U (mV fP) (U (ax ((i:Nat):Int)) (U (mV fQ) trivial)))))) trivial)) fun ac wd r=>?_
   cases h2:((cH.kind:Int) != cI.kind) with
   | false=>
    have cz:=fM h2
    cases h3:((cH.node:Int) != cI.node) with
    | false=>
     have cT:=fM h3
     cases h4:((cH.peer:Int) != cI.peer) with
     | false=>
      have dT:=fM h4
      cases h5:((cH.n:Int) != cI.n) with
      | false=>
       have du:=fM h5
       cases h6:((cH.bit:Int) != cI.bit) with
       | false=>
        have dx:=fM h6
        cases h7:((((cH.inc:Nat):Int):Int) != ((cI.inc:Nat):Int)) with
        | false=>
         have dL:=fM h7
         cases h8:(cH.body==cI.body) with
         | false=>
          have fg:cH.body≠cI.body:=by simpa using h8
          rw [show (.v (.bool (jq a b)):DV)=.v (.bool false) from (bv (by first | exact lT (by omega) (by omega) ao | exact la (fun e=>by subst e;omega) | exact gD fP fQ (gO (by omega)) | exact gD fP fQ (gO (.inr (.inr (.inr (.inr (.inr (.inr (mn (by assumption)))))))))))]
          exact aV tk mo hK rfl [(7,[(4,.b false),(10,.b false),(17,.b false),(24,.b false),(31,.b false),(38,.b false),(43,.res (.v (.string ⟨(cH.body).toArray⟩))),(46,.res (.v (.string ⟨(cI.body).toArray⟩))),(47,.b true)])] 2000 r (by kernel_rfl) (U h2 (U h3 (U h4 (U h5 (U h6 (U h7 (U (rfl:af cH.body=af (cH.body)) (U (rfl:af cI.body=af (cI.body)) (U ((by simpa [bne] using h8):(cH.body != cI.body)=true) trivial)))))))))
         | true=>
          have fg:cH.body=cI.body:=by simpa using h8
          exact bX (todo':=hd Tryz.f14 0) tk mo hK [(5,[(1,.z (((i+1:Nat):Int)))]),(7,[(4,.b false),(10,.b false),(17,.b false),(24,.b false),(31,.b false),(38,.b false),(43,.res (.v (.string ⟨(cH.body).toArray⟩))),(46,.res (.v (.string ⟨(cI.body).toArray⟩))),(47,.b false)])] 2000 [] [0,1,5] r (by kernel_rfl) (U h2 (U h3 (U h4 (U h5 (U h6 (U h7 (U (rfl:af cH.body=af (cH.body)) (U (rfl:af cI.body=af (cI.body)) (U ((by simpa [bne] using h8):(cH.body != cI.body)=false) (U ((wi (by omega)):IntKind.i64.wrap ((((i:Nat):Int):Int)+1)=((i+1:Nat):Int)) trivial)))))))))) fun ac wd r=>bj (by omega) ac wd ⟨(at_next ao fP fQ (Lc (by omega) (by omega) (by omega) (by omega) (by omega) (by omega) (eq_of_beq (by assumption)))),r⟩
        | true=>
         have dL:¬ _=_:=bne_iff_ne.1 h7
         rw [show (.v (.bool (jq a b)):DV)=.v (.bool false) from (bv (by first | exact lT (by omega) (by omega) ao | exact la (fun e=>by subst e;omega) | exact gD fP fQ (gO (by omega)) | exact gD fP fQ (gO (.inr (.inr (.inr (.inr (.inr (.inr (mn (by assumption)))))))))))]
         exact aV tk mo hK rfl [(7,[(4,.b false),(10,.b false),(17,.b false),(24,.b false),(31,.b false),(38,.b true)])] 2000 r (by kernel_rfl) (U h2 (U h3 (U h4 (U h5 (U h6 (U h7 trivial))))))
       | true=>
        have dx:¬ _=_:=bne_iff_ne.1 h6
        rw [show (.v (.bool (jq a b)):DV)=.v (.bool false) from (bv (by first | exact lT (by omega) (by omega) ao | exact la (fun e=>by subst e;omega) | exact gD fP fQ (gO (by omega)) | exact gD fP fQ (gO (.inr (.inr (.inr (.inr (.inr (.inr (mn (by assumption)))))))))))]
        exact aV tk mo hK rfl [(7,[(4,.b false),(10,.b false),(17,.b false),(24,.b false),(31,.b true)])] 2000 r (by kernel_rfl) (U h2 (U h3 (U h4 (U h5 (U h6 trivial)))))
      | true=>
       have du:¬ _=_:=bne_iff_ne.1 h5
       rw [show (.v (.bool (jq a b)):DV)=.v (.bool false) from (bv (by first | exact lT (by omega) (by omega) ao | exact la (fun e=>by subst e;omega) | exact gD fP fQ (gO (by omega)) | exact gD fP fQ (gO (.inr (.inr (.inr (.inr (.inr (.inr (mn (by assumption)))))))))))]
       exact aV tk mo hK rfl [(7,[(4,.b false),(10,.b false),(17,.b false),(24,.b true)])] 2000 r (by kernel_rfl) (U h2 (U h3 (U h4 (U h5 trivial))))
     | true=>
      have dT:¬ _=_:=bne_iff_ne.1 h4
      rw [show (.v (.bool (jq a b)):DV)=.v (.bool false) from (bv (by first | exact lT (by omega) (by omega) ao | exact la (fun e=>by subst e;omega) | exact gD fP fQ (gO (by omega)) | exact gD fP fQ (gO (.inr (.inr (.inr (.inr (.inr (.inr (mn (by assumption)))))))))))]
      exact aV tk mo hK rfl [(7,[(4,.b false),(10,.b false),(17,.b true)])] 2000 r (by kernel_rfl) (U h2 (U h3 (U h4 trivial)))
    | true=>
     have cT:¬ _=_:=bne_iff_ne.1 h3
     rw [show (.v (.bool (jq a b)):DV)=.v (.bool false) from (bv (by first | exact lT (by omega) (by omega) ao | exact la (fun e=>by subst e;omega) | exact gD fP fQ (gO (by omega)) | exact gD fP fQ (gO (.inr (.inr (.inr (.inr (.inr (.inr (mn (by assumption)))))))))))]
     exact aV tk mo hK rfl [(7,[(4,.b false),(10,.b true)])] 2000 r (by kernel_rfl) (U h2 (U h3 trivial))
   | true=>
    have cz:¬ _=_:=bne_iff_ne.1 h2
    rw [show (.v (.bool (jq a b)):DV)=.v (.bool false) from (bv (by first | exact lT (by omega) (by omega) ao | exact la (fun e=>by subst e;omega) | exact gD fP fQ (gO (by omega)) | exact gD fP fQ (gO (.inr (.inr (.inr (.inr (.inr (.inr (mn (by assumption)))))))))))]
    exact aV tk mo hK rfl [(7,[(4,.b true)])] 2000 r (by kernel_rfl) (U h2 trivial)
 | true=>
  have aT:¬ _=_:=bne_iff_ne.1 h0
  rw [show (.v (.bool (jq a b)):DV)=.v (.bool false) from (bv (by first | exact lT (by omega) (by omega) ao | exact la (fun e=>by subst e;omega) | exact gD fP fQ (gO (by omega)) | exact gD fP fQ (gO (.inr (.inr (.inr (.inr (.inr (.inr (mn (by assumption)))))))))))]
  exact aV tk mo hK rfl [(1,[(1,.z (((a.length:Nat):Int))),(3,.z (((b.length:Nat):Int))),(4,.b true)])] 2000 r (by kernel_rfl) (U aI (U bd (U h0 trivial)))
end Go.Proofs.YtcnpikbbmbombaaGreatDoor
