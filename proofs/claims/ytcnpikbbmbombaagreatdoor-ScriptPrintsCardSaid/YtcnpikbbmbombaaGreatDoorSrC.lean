/-
  scriptPrints_card, part 3 of 7: merged by program from the texts that it needs.
-/
import Derived.Test.YtcnpikbbmbombaaGreatDoorSrB
set_option linter.unusedSimpArgs false
set_option linter.unusedVariables false
set_option linter.unnecessarySimpa false
namespace Go.Proofs.YtcnpikbbmbombaaGreatDoor
open Go.RowKit
inductive fq where
 | ends (R:Ending→World→Prop)
 | arr (l:Nat) (k:List Item) (Q:Act→World→Prop)
def fq.ro:fq→Option Nat
 | .ends _=>none
 | .arr l _ _=>some l
def fq.met (P:Program) (f:FuncId) (b:Frame) (cs:List Frame):fq→Machine→Prop
 | .ends R,s=>∃ e w' fr,R e w'∧Comes P s (lone fr cs w') e∧fr.fn=f∧fr.leaving P w' e
 | .arr _ k Q,s=>∃ a' w',Q a' w'∧Steps P s (lone (b.atR a' k) cs w')
theorem fq.met.of {P:Program} {f:FuncId} {b:Frame} {cs:List Frame} {G:fq} {s s':Machine} (h:Steps P s s') (g:G.met P f b cs s'):G.met P f b cs s:=by
 cases G with
 | ends R=>obtain ⟨e,w',fr,h1,h2,h3⟩:=g;exact ⟨e,w',fr,h1,.of_steps h h2,h3⟩
 | arr l k Q=>obtain ⟨a',w',h1,h2⟩:=g;exact ⟨a',w',h1,h.trans h2⟩
def aF (P:Program) (f:FuncId) (todo:List Item) (R:fq) (a:Act) (w:World):Prop:=
 ∀ (b:Frame) (cs:List Frame),b.fn=f→b.kind=.normal→b.roundOf=R.ro→R.met P f b cs (lone (b.atR a todo) cs w)
section
variable {mk:Bool} {P:Program} {f:FuncId} {R:fq} {Re:Ending→World→Prop} {a a':Act} {w w':World} {todo todo':List Item}
theorem aF.step (h:∀ (b:Frame) cs,Go.step P (lone (b.atR a todo) cs w)=.next (lone (b.atR a' todo') cs w')) (g:aF P f todo' R a' w'):aF P f todo R a w:=
 fun b cs hb hk hr=>(g b cs hb hk hr).of (.one (h b cs))
theorem aF.code {c:Code} {k:List Item} (h:c.wpIn (Fl R.ro) 0 P (fun e a w=>e=.normal∧aF P f k R a w) a w):aF P f (.code c::k) R a w:=by
 intro b cs hb hk hr
 obtain ⟨e,a1,w1,⟨rfl,hg⟩,MI⟩:=h b k cs hr trivial (fun d hd=>by cases hd)
 exact (hg b cs hb hk hr).of (stepsIn_wide.1 MI)
theorem aF.ret {fn:Func} {k:List Item} (hf:P.funcs[f]?=some fn) (hd:a.defers=[]) {v:Value} (hr:(results fn a.tmps).run P w=.ok v w) (h:Re (.returned v) w):aF P f (.code .ret::k) (.ends Re) a w:=by
 intro b cs hb hk lZ
 rw [Frame.atR_of_none lZ]
 exact ⟨.returned v,w,{ b.at a (.code .ret::k) with mode:=.returning },h,.of_steps (.one step_ret) (Steps.refl P _),hb,rfl,hd,hk,fn,by rw [← hb] at hf;exact hf,hr⟩
theorem aF.fin {fn:Func} (hf:P.funcs[f]?=some fn) (hd:a.defers=[]) {v:Value} (hr:(results fn a.tmps).run P w=.ok v w) (h:Re (.returned v) w):aF P f [] (.ends Re) a w:=by
 intro b cs hb hk lZ
 rw [Frame.atR_of_none lZ]
 exact ⟨.returned v,w,{ b.at a [] with mode:=.returning },h,.of_steps (.one step_end) (Steps.refl P _),hb,rfl,hd,hk,fn,by rw [← hb] at hf;exact hf,hr⟩
theorem aF.Bn {l:Nat} {k:List Item} {Q:Act→World→Prop} (h:Q a w):aF P f k (.arr l k Q) a w:=fun _ _ _ _ _=>⟨a,w,h,Steps.refl P _⟩
theorem pT {fn:Func} {c:Code} {args:Array Value} (hf:P.funcs[f]?=some fn) (hb:fn.body=some c) (h:aF P f [.code c] (.ends Re) { tmps:=args++Array.replicate (fn.ntmps-args.size) undef,defers:=[] } w):Calls P f args w Re:=by
 intro cs
 let b:Frame:={ (default:Frame) with fn:=f,kind:=.normal,roundOf:=none }
 have JM:Frame.enter P f args .normal=b.atR { tmps:=args++Array.replicate (fn.ntmps-args.size) undef,defers:=[] } [.code c]:=by
  simp [Frame.enter,Frame.atR,hf,hb,b]
 rw [JM]
 exact h b cs rfl rfl rfl
theorem aF.loop {c:Code} {k:List Item} (h:aF P f (.code c::.inLoop c::k) R a w):aF P f (.code (.loop c)::k) R a w:=aF.step (fun _ _=>stepR_loop) h
theorem aF.again {c:Code} {k:List Item} (h:aF P f (.code c::.inLoop c::k) R a w):aF P f (.inLoop c::k) R a w:=aF.step (fun _ _=>stepR_inLoop) h
theorem aF.rounds {Φ:Nat→Act→World→Prop} (n:Nat) (h:∀ i,i≤n→(i<n→∀ a w,Φ (i+1) a w→aF P f todo R a w)→∀ a w,Φ i a w→aF P f todo R a w) {i:Nat} (hi:i≤n) (h0:Φ i a w):aF P f todo R a w:=by
 have key:∀ m i,i≤n→n-i=m→∀ a w,Φ i a w→aF P f todo R a w:=by
  intro m
  induction m with
  | zero=>intro i hi hm;exact h i hi fun aO=>by omega
  | succ m ih=>intro i hi hm;exact h i hi fun aO=>ih (i+1) aO (by omega)
 exact key _ i hi rfl a w h0
end
abbrev dv:=List (Nat×List (Nat×aX))
def xP:dv→Nat→List (Nat×aX)
 | [],_=>[]
 | (k,v)::r,s=>bif k.beq s then v else xP r s
def sw (P:Program) (T:aP) (cl:fE) (sz:Nat) (ops:Array Oper) (draw:Bool) (oc:List (Nat×aX)) (s:RS):Option RS:=
 bif draw then (bif Region.noSelect ops then jP P T cl sz ops oc ops.size (Array.replicate ops.size false) [] s else none)
 else je P T cl sz ops ops.toList 0 oc s
def dB (P:Program) (T:aP) (cl:fE) (sz:Nat) (tb:dv):Nat→List Item→RS→Option (List Item×RS)
 | 0,todo,s=>some (todo,s)
 | n+1,todo,s=>
  match todo with
  | .code .skip::k=>dB P T cl sz tb n k s
  | .code (.label _)::k=>dB P T cl sz tb n k s
  | .inBlock _::k=>dB P T cl sz tb n k s
  | .code (.seq x y)::k=>dB P T cl sz tb n (.code x::.code y::k) s
  | .code (.cond c x y)::k=>(match ln (aI s.E c) with
   | some true=>dB P T cl sz tb n (.code x::k) s
   | some false=>dB P T cl sz tb n (.code y::k) s
   | none=>some (todo,s))
  | .code (.block id c)::k=>dB P T cl sz tb n (.code c::.inBlock id::k) s
  | .code (.exit id)::k=>(match exitTo id k with
   | some k'=>dB P T cl sz tb n k' s
   | none=>none)
  | .code (.region id ops draw)::k=>(match sw P T cl sz ops draw (xP tb id) s with
   | some s'=>dB P T cl sz tb n k s'
   | none=>none)
  | _=>some (todo,s)
variable {mk:Bool} {P:Program} {T:aP} {cl:fE} {f:FuncId} {R:fq} {a:Act} {w:World} {D:List Nat} {w0:World} {K0:World→Prop} {E:List (Nat×AV)} {M:List ai} {sz:Nat} {tb:dv} {todo todo':List Item}
theorem FI {ops:Array Oper} {draw:Bool} {oc:List (Nat×aX)} {s s':RS} (h:sw P T cl sz ops draw oc s=some s') (hv:bk s'.vc):bk s.vc:=by
 unfold sw at h
 cases draw with
 | false=>simp only [cond_false] at h;exact vR _ _ _ _ h hv
 | true=>
  simp only [cond_true] at h
  cases hs:Region.noSelect ops with
  | false=>simp [hs] at h
  | true=>simp only [hs,cond_true] at h;exact u9 _ _ _ _ h hv
theorem AY:∀ (n:Nat) (todo:List Item) (s:RS) {todo':List Item} {s':RS},dB P T cl sz tb n todo s=some (todo',s')→bk s'.vc→bk s.vc:=by
 intro n
 induction n with
 | zero=>intro todo s todo' s' h hv;simp only [dB,Option.some.injEq,Prod.mk.injEq] at h;obtain ⟨-,rfl⟩:=h;exact hv
 | succ n ih=>
  intro todo s todo' s' h hv
  unfold dB at h
  split at h
  ·exact ih _ _ h hv
  ·exact ih _ _ h hv
  ·exact ih _ _ h hv
  ·exact ih _ _ h hv
  ·split at h
   ·exact ih _ _ h hv
   ·exact ih _ _ h hv
   ·simp only [Option.some.injEq,Prod.mk.injEq] at h;obtain ⟨-,rfl⟩:=h;exact hv
  ·exact ih _ _ h hv
  ·split at h
   ·exact ih _ _ h hv
   ·simp at h
  ·split at h
   ·rename_i hr;exact FI hr (ih _ _ h hv)
   ·simp at h
  ·simp only [Option.some.injEq,Prod.mk.injEq] at h;obtain ⟨-,rfl⟩:=h;exact hv
theorem cC.bool (R:cC mk D w0 K0 sz E M a w) {c:Operand} {b:Bool} (h:ln (aI E c)=some b):a.eval c=.bool b:=by
 obtain ⟨-,I,-,β,F,Rm,hs⟩:=R
 unfold ln at h
 split at h
 ·rename_i c' hv
  simp only [Option.some.injEq] at h;subst h
  cases c with
  | tmp t=>
   have:=hs _ _ hv
   generalize a.eval (.tmp t)=y at *
   cases this with | d r=>cases r;rfl
  | const v=>simp only [aI,Option.some.injEq,AV.d.injEq,DV.v.injEq] at hv;rw [← hv];rfl
  | global g=>simp [aI] at hv
  | func f=>simp [aI] at hv
 ·simp at h
theorem kT (hT:aZ P T=true) (cG:jt P cl) (hm:P.follows .mixedOrders=true) (hK:∀ w,Kp D w0 w→K0 w) {b:eG}:∀ (n:Nat) {todo:List Item} {s:RS} {a:Act} {w:World} {todo':List Item} {s':RS},dB P T cl sz tb n todo s=some (todo',s')→db mk D w0 K0 sz b s a w→bk s'.vc→(∀ a' w',db mk D w0 K0 sz b s' a' w'→aF P f todo' R a' w')→aF P f todo R a w:=by
 intro n
 induction n with
 | zero=>intro todo s a w todo' s' h r hv k;simp only [dB,Option.some.injEq,Prod.mk.injEq] at h;obtain ⟨rfl,rfl⟩:=h;exact k a w r
 | succ n ih=>
  intro todo s a w todo' s' h r hv k
  unfold dB at h
  split at h
  ·exact aF.step (fun _ _=>stepR_skip) (ih h r hv k)
  ·exact aF.step (fun _ _=>stepR_label) (ih h r hv k)
  ·exact aF.step (fun _ _=>stepR_inBlock) (ih h r hv k)
  ·exact aF.step (fun _ _=>stepR_seq) (ih h r hv k)
  ·split at h
   ·rename_i hb;exact aF.step (fun _ _=>stepR_cond (r.re.bool hb)) (ih h r hv k)
   ·rename_i hb;exact aF.step (fun _ _=>stepR_cond (r.re.bool hb)) (ih h r hv k)
   ·simp only [Option.some.injEq,Prod.mk.injEq] at h;obtain ⟨rfl,rfl⟩:=h;exact k a w r
  ·exact aF.step (fun _ _=>stepR_block) (ih h r hv k)
  ·split at h
   ·rename_i hx;exact aF.step (fun _ _=>stepR_exit hx) (ih h r hv k)
   ·simp at h
  ·split at h
   ·rename_i id ops draw k0 _ s1 hr
    refine aF.code ?_
    have ea:=AY _ _ _ h hv
    unfold sw at hr
    cases draw with
    | false=>
     simp only [cond_false] at hr
     exact MG hT cG hK r _ hr ea fun a' w' r'=>⟨rfl,ih h r' hv k⟩
    | true=>
     simp only [cond_true] at hr
     cases hs:Region.noSelect ops with
     | false=>simp [hs] at hr
     | true=>
      simp only [hs,cond_true] at hr
      exact MH hT cG hm hK (by rintro d v c a w ⟨h,-⟩;cases h) r _ hs hr ea fun a' w' r'=>⟨rfl,ih h r' hv k⟩
   ·simp at h
  ·simp only [Option.some.injEq,Prod.mk.injEq] at h;obtain ⟨rfl,rfl⟩:=h;exact k a w r
theorem n7 (hT:aZ P T=true) (cG:jt P cl) (hm:P.follows .mixedOrders=true) (hK:∀ w,Kp D w0 w→K0 w) (n:Nat) {vc:List Prop} {s':RS} (h:dB P T cl sz tb n todo ⟨vc,E,M,[],[]⟩=some (todo',s')) (r:cC mk D w0 K0 sz E M a w) (hv:bk s'.vc) (k:∀ a' w',cC mk D w0 K0 sz s'.E s'.M a' w'→aF P f todo' R a' w'):aF P f todo R a w:=
 let ⟨_,rb⟩:=r.b vc
 kT hT cG hm hK n h rb hv fun a' w' r'=>k a' w' r'.re
end Go.Proofs.YtcnpikbbmbombaaGreatDoor
namespace Go.Proofs.YtcnpikbbmbombaaGreatDoor
open Go.RowKit
def BX (w:World) (K:World→Prop) (x:DV):Ending→World→Prop:=Cn w fun r H=>∃ Ho Hi,H=Ho++Hi∧bM (fun w=>K w∧Holds w Hi) x r Ho
abbrev o9 (w:World) (K:World→Prop) (x:DV):fq:=.ends (BX w K x)
def iq:List AV→Nat→List (Nat×AV)
 | [],_=>[]
 | v::r,i=>(i,v)::iq r (i+1)
theorem p5:∀ (vs:List AV) (i:Nat) (x:Nat×AV),x ∈ iq vs i→i≤x.1∧vs[x.1-i]?=some x.2:=by
 intro vs
 induction vs with
 | nil=>intro i x hx;simp [iq] at hx
 | cons v r ih=>
  intro i x hx
  simp only [iq,List.mem_cons] at hx
  rcases hx with e | e
  ·subst e;simp
  ·obtain ⟨h1,h2⟩:=ih (i+1) x e
   refine ⟨by omega,?_⟩
   rw [show x.1-i=(x.1-(i+1))+1 by omega];simpa using h2
variable {mk:Bool} {P:Program} {T:aP} {cl:fE} {f:FuncId} {R:fq} {a:Act} {w:World} {D:List Nat} {w0:World} {K0:World→Prop} {E:List (Nat×AV)} {M:List ai} {β:Beta} {F:Nat→ak} {I X:ak} {sz:Nat} {tb:dv} {todo todo':List Item}
theorem al.intro {fn:Func} {c:Code} {args:List AV} {x:DV} (kd:ig P f=true) (hf:P.funcs[f]?=some fn) (hb:fn.body=some c) (n:Nat) (hn:fn.ntmps=n) (hle:Nat.ble args.length n=true)
  (h:∀ (w0:World) (K:World→Prop) (a:Act),(∀ w,Kp [] w0 w→K w)→cN [] w0 K n (iq args 0) [] a w0→aF P f [.code c] (o9 w0 K x) a w0):al P f args x:=by
 refine ⟨kd,fun w K ys hK hl hr=>?_⟩
 have hle:=Nat.le_of_ble_eq_true hle
 refine pT hf hb (h w K _ (fun w' k=>hK w' k.sG) ⟨by simp;omega,[],rfl,[],fun _=>[],⟨rfl,by simp,by simpa using St.none w⟩,?_⟩)
 intro t v hv
 obtain ⟨y,rfl,rfl,hy⟩:∃ y:Nat×AV,y.1=t∧y.2=v∧y ∈ iq args 0:=⟨(t,v),rfl,rfl,mb hv⟩
 obtain ⟨-,h2⟩:=p5 args 0 y hy
 simp only [Nat.sub_zero] at h2
 obtain ⟨aO,-⟩:=List.getElem?_eq_some_iff.1 h2
 have iV:ys[y.1]?=some ys[y.1]:=List.getElem?_eq_getElem (by omega)
 have he:({ tmps:=ys.toArray++Array.replicate (fn.ntmps-ys.toArray.size) undef,defers:=[] }:Act).eval (.tmp y.1)=ys[y.1]:=by
  have:y.1<ys.length:=by omega
  simp [Act.eval,Array.getD_eq_getD_getElem?,Array.getElem?_append,this]
 rw [he]
 exact (hr y.1 y.2 _ h2 iV).mono (fun w hw=>hw.1) (Ext.refl _)
def iQ (T:aP) (E:List (Nat×AV)) (M:List ai):List ResultVar→Option (List AV)
 | []=>some []
 | .tmp t::r=>(match b5 E t,iQ T E M r with | some v,some l=>some (v::l) | _,_=>none)
 | .cell t ty::r=>(match b5 E t,iQ T E M r with
  | some (.pt u o),some l=>(match M[u]? with | some (.bx _ cells)=>(match kW T ty cells o with | some v=>some (v::l) | none=>none) | _=>none)
  | _,_=>none)
theorem oJ (hT:aZ P T=true) (R:RM D w0 K0 M β F I w) (hs:∀ t v,b5 E t=some v→ax (fun w=>K0 w∧Holds w I) β v (a.eval (.tmp t))):∀ {rs:List ResultVar} {l:List AV},iQ T E M rs=some l→∃ ys,qq P w a rs ys∧ys.length=l.length∧∀ (j:Nat) c y,l[j]?=some c→ys[j]?=some y→ax (fun w=>K0 w∧Holds w I) β c y
 | [],l,h=>by simp only [iQ,Option.some.injEq] at h;subst h;exact ⟨[],trivial,rfl,by simp⟩
 | .tmp t::r,l,h=>by
  unfold iQ at h
  split at h
  ·rename_i v l' h1 h2
   simp only [Option.some.injEq] at h;subst h
   obtain ⟨ys,e1,e2,e3⟩:=oJ hT R hs h2
   refine ⟨a.eval (.tmp t)::ys,⟨rfl,e1⟩,by simp [e2],?_⟩
   intro j c y h3 h4
   cases j with
   | zero=>simp at h3 h4;subst h3 h4;exact hs _ _ h1
   | succ j=>simp at h3 h4;exact e3 j c y h3 h4
  ·simp at h
 | .cell t ty::r,l,h=>by
  unfold iQ at h
  split at h
  ·rename_i u o l' h1 h2
   split at h
   ·rename_i T0 cells hM
    split at h
    ·rename_i v jw
     simp only [Option.some.injEq] at h;subst h
     obtain ⟨ys,e1,e2,e3⟩:=oJ hT R hs h2
     have hr:=hs _ _ h1
     generalize hy:a.eval (.tmp t)=y0 at hr
     cases hr with
     | pt hb=>
      obtain ⟨H,hF,hB,hH⟩:=R.at hM
      cases hB with
      | bx aS zs hl hr=>
       rw [hb] at aS;cases aS
       obtain ⟨y',g1,g2⟩:=oQ (d:=none) (ty:=0) (pos := "") (aft:=#[]) (gd:=none) hT (x:=.tmp t) (ρ:=a.eval) (a:=⟨_,0,none⟩) (R:=ax (fun w=>K0 w∧Holds w I) β) (fun l ys=>ax.ag ys) jw (hy.trans (by rw [add_eq,Nat.zero_add])) hl hr
       have g3:=g2 w fun j z hj=>by rw [add_eq,cell_of hH.one,Nat.zero_add];simpa using hj
       refine ⟨y'::ys,⟨⟨_,hy,?_⟩,e1⟩,by simp [e2],?_⟩
       ·simp only [execOp,hy,Sem.run_bind,Instr.loadAt,Instr.sureAddr] at g3
        cases hv:(loadVar ty _).run P w with
        | ok q w'=>rw [Sem.run_pure,Result.andThen_ok,hv] at g3;simp at g3;obtain ⟨rfl,rfl⟩:=g3;rfl
        | halt q w'=>rw [Sem.run_pure,Result.andThen_ok,hv] at g3;simp [Result.andThen] at g3
       ·intro j c y h3 h4
        cases j with
        | zero=>simp at h3 h4;subst h3 h4;exact g1
        | succ j=>simp at h3 h4;exact e3 j c y h3 h4
    ·simp at h
   ·simp at h
  ·simp at h
def pa:List DV→DV
 | [x]=>x
 | l=>.tu l
theorem back (hT:aZ P T=true) {fn:Func} (hf:P.funcs[f]?=some fn) (r:cN [] w0 K0 sz E M a w) {l:List AV} {vc:List Prop} {xs:List DV} {M':List ai} {x:DV} (h1:iQ T E M fn.results.toList=some l) (h2:lh M l=some (vc,xs,M')) (hv:bk vc) (hx:pa xs=x):
  ∃ v,(results fn a.tmps).run P w=.ok v w∧BX w0 K0 x (.returned v) w:=by
 obtain ⟨-,I,-,β,F,Rm,hs⟩:=r
 obtain ⟨ys,e1,e2,e3⟩:=oJ hT Rm hs h1
 obtain ⟨F',H,R',d⟩:=zK Rm.x h2 hv e2 e3
 refine ⟨_,sa rfl e1,_,rfl,R'.st.kp.sG,H++I,⟨H,I,rfl,?_⟩,?_⟩
 ·subst hx
  have hl:=d.len
  cases d with
  | nil=>exact .tu [] (fun _=>[]) rfl (by simp)
  | cons h r=>
   cases r with
   | nil=>simpa [pa] using h
   | cons h' r'=>
    have dd:=fF.cons h (fF.cons h' r')
    obtain ⟨F2,hF,hG⟩:=dd.to
    rw [hF]
    exact .tu _ F2 dd.len hG
 ·have:=R'.st.ma
  exact (this.perm (by classical rw [List.perm_iff_count];intro z;simp only [List.count_append,List.count_nil];omega)).Mv
theorem G7 (hT:aZ P T=true) {fn:Func} (hf:P.funcs[f]?=some fn) {k:List Item} (r:cN [] w0 K0 sz E M a w) {l:List AV} {vc:List Prop} {xs:List DV} {M':List ai} {x:DV} (h1:iQ T E M fn.results.toList=some l) (h2:lh M l=some (vc,xs,M')) (hv:bk vc) (hx:pa xs=x):aF P f (.code .ret::k) (o9 w0 K0 x) a w:=
 let ⟨_,h3,h4⟩:=back hT hf r h1 h2 hv hx
 aF.ret hf (cC.nG r) h3 h4
theorem G8 (hT:aZ P T=true) {fn:Func} (hf:P.funcs[f]?=some fn) (r:cN [] w0 K0 sz E M a w) {l:List AV} {vc:List Prop} {xs:List DV} {M':List ai} {x:DV} (h1:iQ T E M fn.results.toList=some l) (h2:lh M l=some (vc,xs,M')) (hv:bk vc) (hx:pa xs=x):aF P f [] (o9 w0 K0 x) a w:=
 let ⟨_,h3,h4⟩:=back hT hf r h1 h2 hv hx
 aF.fin hf (cC.nG r) h3 h4
def xQ:List AV→AV
 | [v]=>v
 | l=>.tu l
def nM (T:aP) (rs:List ResultVar) (s:RS):Option Out:=
 match iQ T s.E s.M rs with
 | some l=>some ⟨s.vc,xQ l,s.M,s.tc,s.mv,none⟩
 | none=>none
def qL:List Item→Option LS
 | []=>some .ready
 | .code .ret::_=>some .left
 | _=>none
theorem D8 {l:Nat} {tmps:Array Value} {cY body c2:Code} {Φ:Value→World→Prop} {k2:List Item} {s2:LS} (e9:qL k2=some s2)
  (h:aF P f [.code cY,.beginRound,.code body] (.arr l [.beginRound,.code c2] fun a1 w1=>∃ w2,(Instr.beginRound l).run P w1=.ok () w2∧aF P f [.code c2] (.arr l k2 fun _ w3=>∃ v w4,(Instr.endRound l s2.kf).run P w3=.ok v w4∧Φ v w4) a1 w2) { tmps:=tmps,defers:=[] } w):
  RoundIn Fence.wide 0 P l f tmps cY body w fun e w'=>∃ v,e=.returned v∧Φ v w':=by
 refine ⟨trivial,fun c cs hr=>?_⟩
 let b:Frame:={ (default:Frame) with fn:=f,kind:=.normal,roundOf:=some l }
 have eo:Frame.round l f tmps cY body .normal=b.atR { tmps:=tmps,defers:=[] } [.code cY,.beginRound,.code body]:=by simp [Frame.round,Frame.atR,b]
 obtain ⟨a1,w1,⟨w2,NS,hg⟩,st⟩:=h b (c::cs) rfl rfl rfl
 obtain ⟨a2,w3,⟨v,w4,td,aG⟩,NT⟩:=hg b (c::cs) rfl rfl rfl
 have s1:Steps P (lone (b.atR a1 [.beginRound,.code c2]) (c::cs) w1) (lone (b.atR a1 [.code c2]) (c::cs) w2):=.one (stepR_beginRound rfl NS)
 have s3:Steps P (lone (b.atR a2 k2) (c::cs) w3) (lone (c.finish v) cs w4):=by
  unfold qL at e9
  split at e9
  ·simp only [Option.some.injEq] at e9;subst e9;exact .one (stepR_round_end rfl rfl td)
  ·simp only [Option.some.injEq] at e9;subst e9;exact .one (stepR_round_ret rfl rfl td)
  ·simp at e9
 rw [eo]
 exact ⟨.returned v,w4,⟨v,rfl,aG⟩,stepsIn_wide.2 (((st.trans s1).trans NT).trans s3)⟩
theorem FJ {l:Nat} {r:Loop} (h:w.heap[l]?=some (.loop r)) (hs:r.state=.ready):(Instr.beginRound l).run P w=.ok () (cg w l (.loop { r with state:=.busy })):=by
 unfold Instr.beginRound Instr.getLoop
 simp only [Sem.run_bind,qb h rfl,Result.andThen_ok,Sem.run_pure,r6 h rfl,hs]
def LS.on:LS→Bool
 | .left=>false
 | _=>true
theorem G9 {l:Nat} {r:Loop} {k2:List Item} {s2:LS} (e9:qL k2=some s2) (h:w.heap[l]?=some (.loop r)):(Instr.endRound l s2.kf).run P w=.ok (.bool s2.on) (cg w l (.loop { r with state:=s2.state,pending:=s2.kf })):=by
 unfold Instr.endRound Instr.getLoop
 simp only [Sem.run_bind,qb h rfl,Result.andThen_ok,Sem.run_pure,r6 h rfl]
 unfold qL at e9
 split at e9
 ·simp only [Option.some.injEq] at e9;subst e9;rfl
 ·simp only [Option.some.injEq] at e9;subst e9;rfl
 ·simp at e9
def ke:List (Tmp×Value)→Array Value→Array Value
 | [],tm=>tm
 | (t,v)::r,tm=>ke r (tm.setIfInBounds t v)
theorem zo:∀ (l:List (Tmp×Value)) (tm:Array Value),(ke l tm).size=tm.size
 | [],_=>rfl
 | (t,v)::r,tm=>by rw [ke,zo r];simp
theorem tQ:∀ (l:List (Tmp×Value)) (tm:Array Value) (t:Nat),t ∉ l.map (·.1)→(ke l tm).getD t undef=tm.getD t undef
 | [],_,_,_=>rfl
 | (s,v)::r,tm,t,h=>by
  simp only [List.map_cons,List.mem_cons,not_or] at h
  rw [ke,tQ r _ t h.2]
  simp only [Array.getD_eq_getD_getElem?,Array.getElem?_setIfInBounds]
  rw [if_neg (fun e=>h.1 e.symm)]
theorem Ai:∀ (l:List (Tmp×Value)) (tm:Array Value) (t:Nat) (v:Value),(l.map (·.1)).Nodup→(∀ x ∈ l,x.1<tm.size)→(t,v) ∈ l→(ke l tm).getD t undef=v
 | (s,u)::r,tm,t,v,hn,aO,h=>by
  simp only [List.map_cons,List.nodup_cons] at hn
  rw [ke]
  rcases List.mem_cons.1 h with e | h
  ·cases e
   rw [tQ r _ _ hn.1]
   have hs:=aO (s,u) (by simp)
   simp only at hs
   simp [Array.getD_eq_getD_getElem?,hs]
  ·exact Ai r _ t v hn.2 (fun x hx=>by simpa using aO x (List.mem_cons_of_mem _ hx)) h
def vT (P:Program) (T:aP) (cl:fE) (n:Nat) (tb:dv) (u:Nat) (args:List AV) (M:List ai):Option Out:=
 match M[u]? with
 | some (.lp .ready f sz E rf)=>bif args.length.beq rf.ps.toList.length&&rf.ps.toList.all (·.blt sz)&&nodupB rf.ps.toList then
  (match dB P T cl sz tb n [.code rf.cY,.beginRound,.code rf.body] ⟨[],rf.ps.toList.zip args++E,M,[],[]⟩ with
  | some ([.beginRound,.code c2],s1)=>(match s1.M[u]? with
   | some (.lp .ready f2 pw E2 ks)=>bif f2.beq f&&!(s1.mv.elem u) then (match dB P T cl sz tb n [.code c2] ⟨s1.vc,s1.E,s1.M.set u (.lp .busy f2 pw E2 ks),u::s1.tc,s1.mv⟩ with
    | some (k2,s2)=>(match qL k2,s2.M[u]? with
     | some ls,some (.lp .busy f3 tG E3 px)=>bif !(s2.mv.elem u) then some ⟨s2.vc,.d (.v (.bool ls.on)),s2.M.set u (.lp ls f3 tG E3 px),u::s2.tc,s2.mv,none⟩ else none
     | _,_=>none)
    | _=>none) else none
   | _=>none)
  | _=>none) else none
 | _=>none
def walk (P:Program) (T:aP):Nat→fE
 | 0=>fun _ _ _ _=>none
 | d+1=>fun c args M o=>match c,o with
  | .yl u,.bX n tb=>vT P T (walk P T d) n tb u args M
  | .fn f,.bX n tb=>(bif ig P f then (match P.funcs[f]? with
   | some fn=>(bif Nat.ble args.length fn.ntmps then (match fn.body with
    | some c=>(match dB P T (walk P T d) fn.ntmps tb n [.code c] ⟨[],iq args 0,M,[],[]⟩ with
     | some (.code .ret::_,s)=>nM T fn.results.toList s
     | some ([],s)=>nM T fn.results.toList s
     | _=>none)
    | none=>none) else none)
   | none=>none) else none)
  | _,_=>none
theorem Is (hT:aZ P T=true) {fn:Func} {s:RS} {out:Out} (h:nM T fn.results.toList s=some out) {b:eG} (r:db mk D w0 K0 sz b s a w):
  out.vc=s.vc∧out.rd=none∧∃ v,(results fn a.tmps).run P w=.ok v w∧∃ aB F' I',RM D w0 K0 out.M aB F' I' w∧gk out.mv b.β aB∧bS b.I I'∧(∀ u,u<b.m→u ∉ out.tc→F' u=b.F u)∧ax (fun w=>K0 w∧Holds w I') aB out.av v:=by
 unfold nM at h
 split at h
 ·rename_i l hl
  simp only [Option.some.injEq] at h;subst h
  obtain ⟨-,I,-,-,β,F,Rm,cq,hs⟩:=r
  obtain ⟨ys,e1,e2,e3⟩:=oJ hT Rm hs hl
  refine ⟨rfl,rfl,_,sa rfl e1,β,F,I,Rm,cq.1,cq.2.1,cq.2.2,?_⟩
  match ys,l,e2,e3 with
  | [],[],_,_=>exact .tu [] rfl (by simp)
  | [y],[v],_,e3=>exact e3 0 v y rfl rfl
  | y::y'::ys,v::v'::l,e2,e3=>exact .tu _ e2 e3
 ·simp at h
theorem yX:∀ {A E:List (Nat×AV)} {t:Nat} {v:AV},b5 (A++E) t=some v→t ∈ A.map (·.1)→(t,v) ∈ A
 | [],_,_,_,_,h=>by simp at h
 | (k,u)::r,E,t,v,h,hm=>by
  rw [List.cons_append] at h
  unfold b5 at h
  cases hk:k.beq t with
  | true=>simp only [hk,cond_true,Option.some.injEq] at h;subst h;rw [Nat.eq_of_beq_eq_true hk];exact List.mem_cons_self
  | false=>
   simp only [hk,cond_false] at h
   refine List.mem_cons_of_mem _ (yX h ?_)
   rcases List.mem_cons.1 hm with e | e
   ·exfalso;simp only at e;rw [e] at hk;simp at hk
   ·exact e
theorem EP {ps:List Nat} {args:List AV} {ys:List Value} {t:Nat} {v:AV} (h:(t,v) ∈ ps.zip args) (hl:ys.length=args.length) (hr:∀ (j:Nat) c y,args[j]?=some c→ys[j]?=some y→ax (fun w=>K0 w∧Holds w I) β c y):∃ y,(t,y) ∈ ps.zip ys∧ax (fun w=>K0 w∧Holds w I) β v y:=by
 obtain ⟨j,hj,e⟩:=List.getElem_of_mem h
 have h1:(ps.zip args)[j]?=some (t,v):=by rw [List.getElem?_eq_getElem hj,e]
 obtain ⟨a1,a2⟩:=List.getElem?_zip_eq_some.1 h1
 have aO:=(List.getElem?_eq_some_iff.1 a2).1
 have hy:ys[j]?=some ys[j]:=List.getElem?_eq_getElem (by omega)
 exact ⟨ys[j],List.mem_of_getElem? (List.getElem?_zip_eq_some.2 ⟨a1,hy⟩),hr j v _ a2 hy⟩
theorem y9:∀ (l:List (Tmp×Value)) (tm:Array Value),l.foldl (fun tmps (x:Tmp×Value)=>tmps.setIfInBounds x.1 x.2) tm=ke l tm
 | [],_=>rfl
 | (t,v)::r,tm=>by rw [List.foldl_cons,y9 r];rfl
theorem FK (hT:aZ P T=true) (hm:P.follows .mixedOrders=true) (cG:jt P cl) {n:Nat} {tb:dv} {u:Nat} {args:List AV} {M:List ai} {out:Out} (h:vT P T cl n tb u args M=some out):out.rd=none∧AW P u args M out:=by
 unfold vT at h
 split at h
 rotate_left
 ·simp at h
 rename_i f sz E rf hM
 cases hc:(args.length.beq rf.ps.toList.length&&rf.ps.toList.all (·.blt sz)&&nodupB rf.ps.toList) with
 | false=>simp only [hc,cond_false,reduceCtorEq] at h
 | true=>
  simp only [hc,cond_true] at h
  simp only [Bool.and_eq_true] at hc
  obtain ⟨⟨nY,qX⟩,NU⟩:=hc
  have nY:=Nat.eq_of_beq_eq_true nY
  split at h
  rotate_left
  ·simp at h
  rename_i c2 s1 NV
  split at h
  rotate_left
  ·simp at h
  rename_i f2 pw E2 ks tH
  cases hf:(f2.beq f&&!(s1.mv.elem u)) with
  | false=>simp only [hf,cond_false,reduceCtorEq] at h
  | true=>
   simp only [hf,cond_true] at h
   simp only [Bool.and_eq_true,Bool.not_eq_true'] at hf
   obtain ⟨NW,MJ⟩:=hf
   obtain rfl:=Nat.eq_of_beq_eq_true NW
   split at h
   rotate_left
   ·simp at h
   rename_i k2 s2 jW
   split at h
   rotate_left
   ·simp at h
   rename_i ls f3 tG E3 px e9 mW
   cases xR:(!(s2.mv.elem u)) with
   | false=>simp only [xR,cond_false,reduceCtorEq] at h
   | true=>
    simp only [xR,cond_true,Option.some.injEq] at h;subst h
    refine ⟨rfl,?_⟩
    intro D w0 K0 β F I w ys l c Rm hK hv hl lF rD
    have ea:bk s1.vc:=AY n [.code c2] ⟨s1.vc,s1.E,s1.M.set u (.lp .busy f2 pw E2 ks),u::s1.tc,s1.mv⟩ jW hv
    obtain ⟨H,hF,hB,hH⟩:=Rm.at hM
    cases hB with
    | @lp b0 cc f0 NX nR bz E0 NY tmps hb bA hr=>
     rw [rD] at hb;cases hb
     have Li:=hH.one
     have hlen:rf.ps.size=ys.toArray.size:=by
      have e:rf.ps.toList.length=rf.ps.size:=Array.length_toList
      have e2:ys.toArray.size=ys.length:=by simp
      omega
     have hy:(Instr.yield l ys.toArray).run P w=.ok (.round l f2 ((rf.ps.zip ys.toArray).foldl (fun tmps (x:Tmp×Value)=>tmps.setIfInBounds x.1 x.2) tmps) rf.cY rf.body) w:=by
      unfold Instr.yield Instr.getLoop
      simp only [Sem.run_bind,qb Li rfl,Result.andThen_ok,Sem.run_pure]
      rw [if_neg (by simp [hlen])]
      rfl
     refine ⟨f2,_,rf.cY,rf.body,hy,?_⟩
     have Lj:(rf.ps.zip ys.toArray).foldl (fun tmps (x:Tmp×Value)=>tmps.setIfInBounds x.1 x.2) tmps=ke (rf.ps.toList.zip ys) tmps:=by
      rw [← y9,← Array.foldl_toList];simp
     rw [Lj]
     have w5:(rf.ps.toList.zip ys).map (·.1)=rf.ps.toList:=List.map_fst_zip (by rw [hl,nY];exact Nat.le_refl _)
     have r0:db false D w0 K0 sz ⟨β,F,I,M.length⟩ ⟨[],rf.ps.toList.zip args++E,M,[],[]⟩ { tmps:=ke (rf.ps.toList.zip ys) tmps,defers:=[] } w:=by
      refine ⟨by rw [zo,bA],I,rfl,Nat.le_refl _,β,F,Rm,⟨fun _ _ _ h=>h,bS.refl _,fun _ _ _=>rfl⟩,?_⟩
      intro t v hU
      have Cs:=mb hU
      show ax _ β v ((ke (rf.ps.toList.zip ys) tmps).getD t undef)
      by_cases ht:t ∈ rf.ps.toList
      ·have hz:(t,v) ∈ rf.ps.toList.zip args:=by
        rcases List.mem_append.1 Cs with h1 | h1
        ·exact h1
        ·exact yX hU (by
          rw [List.map_fst_zip (by omega)];exact ht)
       obtain ⟨y,NZ,yH⟩:=EP hz hl lF
       rw [Ai _ _ t y (by rw [w5];exact oy NU) (fun x hx=>by
        have:x.1 ∈ rf.ps.toList:=by rw [← w5];exact List.mem_map_of_mem hx
        have:=List.all_eq_true.1 qX _ this
        rw [bA];simpa [Nat.blt_eq] using this) NZ]
       exact yH
      ·rcases List.mem_append.1 Cs with h1 | h1
       ·exact absurd (by have:=List.mem_map_of_mem (f:=fun x:Nat×AV=>x.1) h1;rwa [List.map_fst_zip (by omega)] at this) ht
       ·rw [tQ _ _ _ (by rw [w5];exact ht)]
        exact hr (t,v) h1
     refine D8 (c2:=c2) e9 (kT hT cG hm hK n NV r0 ea fun a1 w1 r1=>aF.Bn ?_)
     obtain ⟨z1,I1,z2,z3,pQ,F1,Du,tI,ng⟩:=r1
     obtain ⟨H1,qY,N0,N1⟩:=Du.at tH
     have Dv:pQ[u]?=some (some ⟨l,0,none⟩,c):=tI.1 u _ (by simpa using MJ) rD
     cases N0 with
     | @lp b1 Pg f1 Ph Ct Pj E1 Pk BY fK ML MM=>
      rw [Dv] at fK;cases fK
      refine ⟨_,FJ N1.one rfl,?_⟩
      have MN:=Du.set tH qY (o':=.loop { state:=.busy,pending:=none,fn:=f2,tmps:=BY,params:=ks.ps,assign:=ks.cY,body:=ks.body,defers:=Ct }) (blk':=.lp .busy f2 pw E2 ks) (.lp (bz:=.busy) (sz:=pw) Dv ML MM)
      have N2:db false D w0 K0 sz ⟨β,F,I,M.length⟩ ⟨s1.vc,s1.E,s1.M.set u (.lp .busy f2 pw E2 ks),u::s1.tc,s1.mv⟩ a1 (cg w1 l (.loop { state:=.busy,pending:=none,fn:=f2,tmps:=BY,params:=ks.ps,assign:=ks.cY,body:=ks.body,defers:=Ct })):=by
       refine ⟨z1,I1,z2,by rw [List.length_set];exact z3,pQ,_,MN,⟨tI.1,tI.2.1,fun v hU hn=>?_⟩,ng⟩
       simp only [List.mem_cons,not_or] at hn
       simp only [aN];rw [if_neg hn.1];exact tI.2.2 v hU hn.2
      refine kT hT cG hm hK n jW N2 hv fun a2 w2 r2=>aF.Bn ?_
      obtain ⟨y1,I2,y2,y3,ja,F2,Dw,tJ,kX⟩:=r2
      obtain ⟨H2,kY,N3,qU⟩:=Dw.at mW
      have Dx:ja[u]?=some (some ⟨l,0,none⟩,c):=tJ.1 u _ (by simpa using xR) rD
      cases N3 with
      | @lp b2 Pm Pn OV MO Po Pp OW Lk iz sX Cu=>
       rw [Dx] at iz;cases iz
       have MP:=Dw.set mW kY (o':=.loop { state:=ls.state,pending:=ls.kf,fn:=f3,tmps:=Lk,params:=px.ps,assign:=px.cY,body:=px.body,defers:=MO }) (blk':=.lp ls f3 tG E3 px) (.lp (bz:=ls) (sz:=tG) Dx sX Cu)
       refine ⟨_,_,G9 e9 qU.one,ja,_,I2,MP,tJ.1,tJ.2.1,fun v hU hn=>?_,.d (.v _)⟩
       simp only [List.mem_cons,not_or] at hn
       simp only [aN];rw [if_neg hn.1];exact tJ.2.2 v hU hn.2
theorem iI (hT:aZ P T=true) (hm:P.follows .mixedOrders=true):∀ d,jt P (walk P T d):=by
 intro d
 induction d with
 | zero=>intro f args M o out h;simp [walk] at h
 | succ d ih=>
  intro f args M o out h
  unfold walk at h
  split at h
  ·exact FK hT hm ih h
  ·rename_i f n tb
   cases hc:ig P f with
   | false=>simp [hc] at h
   | true=>
    simp only [hc,cond_true] at h
    split at h
    ·rename_i fn hf
     cases hb:Nat.ble args.length fn.ntmps with
     | false=>simp [hb] at h
     | true=>
      simp only [hb,cond_true] at h
      have hle:=Nat.le_of_ble_eq_true hb
      split at h
      ·rename_i c Ll
       have key:∀ {todo':List Item} {s:RS},dB P T (walk P T d) fn.ntmps tb n [.code c] ⟨[],iq args 0,M,[],[]⟩=some (todo',s)→nM T fn.results.toList s=some out→(todo'=[]∨∃ k,todo'=.code .ret::k)→out.rd=none∧Bl P f args M out:=by
        intro todo' s hr he Lm
        have dD:out.rd=none:=by
         unfold nM at he
         split at he
         ·simp only [Option.some.injEq] at he;subst he;rfl
         ·simp at he
        refine ⟨dD,hc,?_⟩
        intro D w0 K0 β F I w ys Rm hK hv hl lF
        have q4:bk s.vc:=by
         unfold nM at he
         split at he
         ·simp only [Option.some.injEq] at he;subst he;exact hv
         ·simp at he
        refine pT hf Ll ?_
        have r0:db false D w0 K0 fn.ntmps ⟨β,F,I,M.length⟩ ⟨[],iq args 0,M,[],[]⟩ { tmps:=ys.toArray++Array.replicate (fn.ntmps-ys.toArray.size) undef,defers:=[] } w:=by
         refine ⟨by simp;omega,I,rfl,Nat.le_refl _,β,F,Rm,⟨fun _ _ _ h=>h,bS.refl _,fun _ _ _=>rfl⟩,?_⟩
         intro t v hU
         obtain ⟨-,h2⟩:=p5 args 0 (t,v) (mb hU)
         simp only [Nat.sub_zero] at h2
         obtain ⟨aO,-⟩:=List.getElem?_eq_some_iff.1 h2
         have iV:ys[t]?=some ys[t]:=List.getElem?_eq_getElem (by omega)
         have he:({ tmps:=ys.toArray++Array.replicate (fn.ntmps-ys.toArray.size) undef,defers:=[] }:Act).eval (.tmp t)=ys[t]:=by
          have:t<ys.length:=by omega
          simp [Act.eval,Array.getD_eq_getD_getElem?,Array.getElem?_append,this]
         rw [he]
         exact lF t v _ h2 iV
        refine kT hT ih hm hK n hr r0 q4 fun a' w' r'=>?_
        obtain ⟨-,-,v,h3,h4⟩:=Is hT he r'
        rcases Lm with rfl | ⟨k,rfl⟩
        ·exact aF.fin hf (db.nG r') h3 ⟨v,rfl,h4⟩
        ·exact aF.ret hf (db.nG r') h3 ⟨v,rfl,h4⟩
       split at h
       ·rename_i k s hr;exact key hr h (Or.inr ⟨k,rfl⟩)
       ·rename_i s hr;exact key hr h (Or.inl rfl)
       ·simp at h
      ·simp at h
    ·simp at h
  ·simp at h
def w6 (T:aP) (E:List (Nat×AV)) (M:List ai) (rs:List ResultVar) (x:DV):Prop:=∃ l vc xs M',iQ T E M rs=some l∧lh M l=some (vc,xs,M')∧bk vc∧pa xs=x
theorem ret (hT:aZ P T=true) {fn:Func} (hf:P.funcs[f]?=some fn) {k:List Item} {x:DV} (r:cN [] w0 K0 sz E M a w) (h:w6 T E M fn.results.toList x):aF P f (.code .ret::k) (o9 w0 K0 x) a w:=
 let ⟨_,_,_,_,h1,h2,h3,h4⟩:=h
 G7 hT hf r h1 h2 h3 h4
theorem fin (hT:aZ P T=true) {fn:Func} (hf:P.funcs[f]?=some fn) {x:DV} (r:cN [] w0 K0 sz E M a w) (h:w6 T E M fn.results.toList x):aF P f [] (o9 w0 K0 x) a w:=
 let ⟨_,_,_,_,h1,h2,h3,h4⟩:=h
 G8 hT hf r h1 h2 h3 h4
theorem al.empty {k:Nat} {x:DV} {pre post:List AV} (h:∀ a c,al P f (pre++.d (.v (.slice a 0 c))::post) x):al P f (pre++.d (.ro k [])::post) x:=by
 refine ⟨(h none 0).1,fun w K ys hK hl hr=>?_⟩
 have hy:∃ a c,ys[pre.length]?=some (.slice a 0 c):=by
  have aO:pre.length<ys.length:=by rw [hl];simp
  have h1:=hr pre.length _ _ (by rw [List.getElem?_append_right (Nat.le_refl _),Nat.sub_self];rfl) (List.getElem?_eq_getElem aO)
  rw [List.getElem?_eq_getElem aO]
  generalize ys[pre.length]=y at h1
  cases h1 with | d h1=>cases h1 with | ro X hl hy hs hr=>obtain ⟨a,c,rfl,-⟩:=hy;exact ⟨a,c,rfl⟩
 obtain ⟨a,c,hy⟩:=hy
 refine (h a c).2 w K ys hK (by rw [hl];simp) fun j v y h1 h2=>?_
 rcases Nat.lt_trichotomy j pre.length with hj | hj | hj
 ·rw [List.getElem?_append_left hj] at h1
  exact hr j v y (by rw [List.getElem?_append_left hj];exact h1) h2
 ·subst hj
  rw [List.getElem?_append_right (Nat.le_refl _),Nat.sub_self] at h1
  simp only [List.getElem?_cons_zero,Option.some.injEq] at h1;subst h1
  rw [hy,Option.some.injEq] at h2;subst h2
  exact .d (.v _)
 ·rw [List.getElem?_append_right (by omega)] at h1
  have e:j-pre.length=(j-pre.length-1)+1:=by omega
  rw [e,List.getElem?_cons_succ] at h1
  exact hr j v y (by rw [List.getElem?_append_right (by omega),e,List.getElem?_cons_succ];exact h1) h2
theorem al.nil {args:List AV} (T k:Nat) (h:al P f args (.v (.slice none 0 0))):al P f args (.em T k []):=by
 refine ⟨h.1,fun w K ys hK hl hr=>(h.2 w K ys hK hl hr).mono ?_⟩
 rintro e w' ⟨v,rfl,g,H,⟨Ho,Hi,rfl,hd⟩,n⟩
 cases hd
 refine ⟨_,rfl,g,_,⟨[],Hi,rfl,?_⟩,n⟩
 have:=bM.em (K:=fun w=>K w∧Holds w Hi) (T:=T) (k:=k) (rows:=[]) (H0:=[]) (fun _=>[]) (fun _ _=>[]) (by simp) (by simpa [lay] using dY.nil T k none) (by simp)
 simpa [bI] using this
end Go.Proofs.YtcnpikbbmbombaaGreatDoor
namespace Go.Proofs.YtcnpikbbmbombaaGreatDoor
open Go.RowKit
variable {mk:Bool} {P:Program} {T:aP} {f:FuncId} {R:fq} {a:Act} {w:World} {D:List Nat} {w0:World} {K0:World→Prop} {E:List (Nat×AV)} {M:List ai} {β:Beta} {F:Nat→ak} {I X:ak} {sz:Nat} {tb:dv} {todo todo':List Item}
def tf (T:aP) (rs:List ResultVar) (s:RS):Option (Prop×DV):=
 match iQ T s.E s.M rs with
 | some l=>(match lh s.M l with | some (vc,xs,_)=>some (bk (s.vc++vc),pa xs) | none=>none)
 | none=>none
def Bo (P:Program) (T:aP) (sz:Nat) (rs:List ResultVar) (tb:dv) (n:Nat) (todo:List Item) (E:List (Nat×AV)) (M:List ai):Option (Prop×DV):=
 match dB P T (walk P T 3) sz tb n todo ⟨[],E,M,[],[]⟩ with
 | some (.code .ret::_,s)=>tf T rs s
 | some ([],s)=>tf T rs s
 | _=>none
theorem AZ {rs:List ResultVar} {s:RS} {A:Prop} {x:DV} (h:tf T rs s=some (A,x)) (hA:A):bk s.vc∧w6 T s.E s.M rs x:=by
 unfold tf at h
 split at h
 ·rename_i l hl
  split at h
  ·rename_i vc xs M' hp
   simp only [Option.some.injEq,Prod.mk.injEq] at h
   obtain ⟨rfl,hx⟩:=h
   rw [bk.app] at hA
   exact ⟨hA.1,l,vc,xs,M',hl,hp,hA.2,hx⟩
  ·simp at h
 ·simp at h
theorem aK (hT:aZ P T=true) (hm:P.follows .mixedOrders=true) (hK:∀ w,Kp [] w0 w→K0 w) {fn:Func} (hf:P.funcs[f]?=some fn) (tb:dv) (n:Nat) {x:DV} {A:Prop} (r:cN [] w0 K0 sz E M a w)
  (h:Bo P T sz fn.results.toList tb n todo E M=some (A,x)) (hA:A):aF P f todo (o9 w0 K0 x) a w:=by
 unfold Bo at h
 split at h
 ·rename_i k s hr
  obtain ⟨h1,h2⟩:=AZ h hA
  exact n7 hT (iI hT hm 3) hm hK n hr r h1 fun a' w' r'=>ret hT hf r' h2
 ·rename_i s hr
  obtain ⟨h1,h2⟩:=AZ h hA
  exact n7 hT (iI hT hm 3) hm hK n hr r h1 fun a' w' r'=>fin hT hf r' h2
 ·simp at h
theorem cC.l0 (r:cC mk D w0 K0 sz E M a w) {l ts:List Nat} {M':List ai} {E':List (Nat×AV)} (hn:nodupB l=true) (hM:fX l M l=some M') (hE:jr l E ts=some E'):cC mk D w0 K0 sz E' M' a w:=by
 obtain ⟨h1,I,h2,β,F,Rm,hs⟩:=r
 obtain ⟨e1,e2⟩:=qg hM
 have aO:∀ u ∈ l,u<M.length:=by
  intro u hu
  obtain ⟨i,hi,rfl⟩:=List.getElem_of_mem hu
  obtain ⟨u',b0,g1,g2,-⟩:=e2 i M'[i] (List.getElem?_eq_getElem (by omega))
  rw [List.getElem?_eq_getElem hi,Option.some.injEq] at g1
  rw [g1];exact ff g2
 obtain ⟨rest,bB⟩:=uB (oy hn) aO Rm.x
 refine ⟨h1,I,h2,eU β l,mz F l,⟨by rw [tP,e1],?_,?_⟩,u1 hs hE⟩
 ·intro i b hb
  obtain ⟨u,b0,g1,g2,g3⟩:=e2 i b hb
  rw [uC g1];exact uZ g1 g3 (Rm.blk u b0 g2)
 ·rw [e1,r4]
  have:=bB.ma
  exact this.perm (by classical rw [List.perm_iff_count];intro z;simp only [List.count_append,List.count_nil];omega)
def nw:Code→List Item→List (List Item)
 | .seq x y,k=>nw x (.code y::k)++nw y k
 | .cond _ x y,k=>nw x k++nw y k
 | .block id c,k=>nw c (.inBlock id::k)
 | .loop c,k=>(.code c::.inLoop c::k)::nw c (.inLoop c::k)
 | _,_=>[]
def hd (fn:Func) (n:Nat):List Item:=
 match fn.body with
 | some c=>(match (nw c [])[n]? with | some t=>t | none=>[])
 | none=>[]
def kL (l ts:List Nat) (t:List Item) (s:RS):Option (List Item×Prop×List (Nat×AV)×List ai):=
 match fX l s.M l,jr l s.E ts with
 | some M',some E'=>some (t,bk s.vc,E',M')
 | _,_=>none
def BZ (P:Program) (T:aP) (sz:Nat) (tb:dv) (n:Nat) (l ts:List Nat) (todo:List Item) (E:List (Nat×AV)) (M:List ai):Option (List Item×Prop×List (Nat×AV)×List ai):=
 bif nodupB l then (match dB P T (walk P T 3) sz tb n todo ⟨[],E,M,[],[]⟩ with
 | some (.code (.loop c)::k,s)=>kL l ts (.code c::.inLoop c::k) s
 | some (.inLoop c::k,s)=>kL l ts (.code c::.inLoop c::k) s
 | _=>none) else none
theorem oB {l ts:List Nat} {t t':List Item} {s:RS} {A:Prop} {E':List (Nat×AV)} {M':List ai} (h:kL l ts t s=some (t',A,E',M')):t=t'∧bk s.vc=A∧fX l s.M l=some M'∧jr l s.E ts=some E':=by
 unfold kL at h
 split at h
 ·rename_i h1 h2
  simp only [Option.some.injEq,Prod.mk.injEq] at h
  obtain ⟨rfl,hA,rfl,rfl⟩:=h
  exact ⟨rfl,hA,h1,h2⟩
 ·simp at h
theorem aU (hT:aZ P T=true) (hm:P.follows .mixedOrders=true) (hK:∀ w,Kp D w0 w→K0 w) (tb:dv) (n:Nat) (l ts:List Nat) {A:Prop} {E':List (Nat×AV)} {M':List ai} (r:cC mk D w0 K0 sz E M a w)
  (h:BZ P T sz tb n l ts todo E M=some (todo',A,E',M')) (hA:A) (k:∀ a' w',cC mk D w0 K0 sz E' M' a' w'→aF P f todo' R a' w'):aF P f todo R a w:=by
 unfold BZ at h
 cases hn:nodupB l with
 | false=>simp [hn] at h
 | true=>
  simp only [hn,cond_true] at h
  split at h
  ·rename_i c k' s hr
   obtain ⟨rfl,rfl,h3,h4⟩:=oB h
   exact n7 hT (iI hT hm 3) hm hK n hr r hA fun a' w' r'=>aF.loop (k a' w' (r'.l0 hn h3 h4))
  ·rename_i c k' s hr
   obtain ⟨rfl,rfl,h3,h4⟩:=oB h
   exact n7 hT (iI hT hm 3) hm hK n hr r hA fun a' w' r'=>aF.again (k a' w' (r'.l0 hn h3 h4))
  ·simp at h
end Go.Proofs.YtcnpikbbmbombaaGreatDoor
namespace Go.Proofs.YtcnpikbbmbombaaGreatDoor
open Go.RowKit
variable {mk:Bool} {P:Program} {T:aP} {f:FuncId} {R:fq} {a:Act} {w:World} {D:List Nat} {w0:World} {K0:World→Prop} {E:List (Nat×AV)} {M:List ai} {β:Beta} {F:Nat→ak} {I X:ak} {sz:Nat} {tb:dv} {todo todo':List Item} {b:eG}
def eJ (mk:Bool) (D:List Nat) (w0:World) (K0:World→Prop) (sz:Nat) (b:eG) (E:List (Nat×AV)) (M:List ai) (a:Act) (w:World):Prop:=
 b.β.length=b.m∧∃ tc,db mk D w0 K0 sz b ⟨[],E,M,tc,[]⟩ a w
abbrev RB (D:List Nat) (w0:World) (K0:World→Prop) (sz:Nat) (b:eG) (E:List (Nat×AV)) (M:List ai) (a:Act) (w:World):Prop:=eJ false D w0 K0 sz b E M a w
def B0 (D:List Nat) (w0:World) (K0:World→Prop) (b:eG) (x:AV) (M':List ai):Ending→World→Prop:=
 fun e w'=>∃ v,e=.returned v∧∃ aB F' I',RM D w0 K0 M' aB F' I' w'∧Ext b.β aB∧bS b.I I'∧ax (fun w=>K0 w∧Holds w I') aB x v
abbrev eZ (D:List Nat) (w0:World) (K0:World→Prop) (b:eG) (x:AV) (M':List ai):fq:=.ends (B0 D w0 K0 b x M')
theorem aE.intro {fn:Func} {c:Code} {args:List AV} {x:AV} {M':List ai} (kd:ig P f=true) (hf:P.funcs[f]?=some fn) (hb:fn.body=some c) (n:Nat) (hn:fn.ntmps=n) (hle:Nat.ble args.length n=true)
  (h:∀ (D:List Nat) (w0:World) (K0:World→Prop) (b:eG) (a:Act) (w:World),(∀ w,Kp D w0 w→K0 w)→b.m=M.length→RB D w0 K0 n b (iq args 0) M a w→aF P f [.code c] (eZ D w0 K0 b x M') a w):aE P f args M x M':=by
 refine ⟨kd,?_⟩
 intro D w0 K0 β F I w ys Rm hK hl hr
 have hle:=Nat.le_of_ble_eq_true hle
 refine pT hf hb (h D w0 K0 ⟨β,F,I,M.length⟩ _ w hK rfl ⟨Rm.len,[],by simp;omega,I,rfl,Nat.le_refl _,β,F,Rm,⟨fun _ _ _ h=>h,bS.refl _,fun _ _ _=>rfl⟩,?_⟩)
 intro t v hv
 obtain ⟨y,rfl,rfl,hy⟩:∃ y:Nat×AV,y.1=t∧y.2=v∧y ∈ iq args 0:=⟨(t,v),rfl,rfl,mb hv⟩
 obtain ⟨-,h2⟩:=p5 args 0 y hy
 simp only [Nat.sub_zero] at h2
 obtain ⟨aO,-⟩:=List.getElem?_eq_some_iff.1 h2
 have iV:ys[y.1]?=some ys[y.1]:=List.getElem?_eq_getElem (by omega)
 have he:({ tmps:=ys.toArray++Array.replicate (fn.ntmps-ys.toArray.size) undef,defers:=[] }:Act).eval (.tmp y.1)=ys[y.1]:=by
  have:y.1<ys.length:=by omega
  simp [Act.eval,Array.getD_eq_getD_getElem?,Array.getElem?_append,this]
 rw [he]
 exact hr y.1 y.2 _ h2 iV
def j5 (m:Nat) (l:List Nat):Bool:=(List.range m).all fun i=>match l[i]? with | some u=>u.beq i | none=>false
theorem zp {m:Nat} {l:List Nat} (h:j5 m l=true) {i:Nat} (hi:i<m):l[i]?=some i:=by
 have:=List.all_eq_true.1 h i (List.mem_range.2 hi)
 split at this
 ·rename_i u hu;rw [hu,Nat.eq_of_beq_eq_true this]
 ·simp at this
def iR (m:Nat) (mv:List Nat):Bool:=mv.all fun u=>Nat.ble m u
theorem It {m:Nat} {mv:List Nat} (h:iR m mv=true) {u:Nat} (hu:u<m):u ∉ mv:=fun hm=>by
 have:=Nat.le_of_ble_eq_true (List.all_eq_true.1 h u hm);omega
theorem zP {l:List Nat} {M':List ai} (hn:nodupB l=true) (hM:fX l M l=some M') (Rm:RM D w0 K0 M β F I w):RM D w0 K0 M' (eU β l) (mz F l) I w:=by
 obtain ⟨e1,e2⟩:=qg hM
 have aO:∀ u ∈ l,u<M.length:=by
  intro u hu
  obtain ⟨i,hi,rfl⟩:=List.getElem_of_mem hu
  obtain ⟨u',b0,g1,g2,-⟩:=e2 i M'[i] (List.getElem?_eq_getElem (by omega))
  rw [List.getElem?_eq_getElem hi,Option.some.injEq] at g1
  rw [g1];exact ff g2
 obtain ⟨rest,bB⟩:=uB (oy hn) aO Rm.x
 refine ⟨by rw [tP,e1],?_,?_⟩
 ·intro i b hb
  obtain ⟨u,b0,g1,g2,g3⟩:=e2 i b hb
  rw [uC g1];exact uZ g1 g3 (Rm.blk u b0 g2)
 ·rw [e1,r4]
  have:=bB.ma
  exact this.perm (by classical rw [List.perm_iff_count];intro z;simp only [List.count_append,List.count_nil];omega)
theorem A0 {l mv tc:List Nat} (hb:b.β.length=b.m) (hs:j5 b.m l=true) (hf:iR b.m mv=true) (h:Since b mv tc β F I):Ext b.β (eU β l):=by
 intro u x hx
 have hu:u<b.m:=by rw [← hb];exact (List.getElem?_eq_some_iff.1 hx).1
 exact fg (zp hs hu) (h.1 u x (It hf hu) hx)
theorem db.l0 {s:RS} (hb:b.β.length=b.m) (r:db mk D w0 K0 sz b s a w) {l ts:List Nat} {M':List ai} {E':List (Nat×AV)} (hn:nodupB l=true) (hs:j5 b.m l=true) (hf:iR b.m s.mv=true) (hM:fX l s.M l=some M') (hE:jr l s.E ts=some E'):eJ mk D w0 K0 sz b E' M' a w:=by
 obtain ⟨h1,I,h2,h3,β,F,Rm,cq,dO⟩:=r
 refine ⟨hb,List.range b.m,h1,I,h2,?_,eU β l,mz F l,zP hn hM Rm,⟨(A0 hb hs hf cq).b _,cq.2.1,fun u hu hn=>absurd (List.mem_range.2 hu) hn⟩,u1 dO hE⟩
 rw [(qg hM).1]
 rcases Nat.lt_or_ge l.length b.m with hl | hl
 ·have:=zp hs (i:=l.length) hl
  rw [List.getElem?_eq_none (Nat.le_refl _)] at this;cases this
 ·exact hl
def Bp (P:Program) (T:aP) (sz:Nat) (m:Nat) (tb:dv) (n:Nat) (l ts:List Nat) (todo:List Item) (E:List (Nat×AV)) (M:List ai):Option (List Item×Prop×List (Nat×AV)×List ai):=
 bif nodupB l&&j5 m l then (match dB P T (walk P T 3) sz tb n todo ⟨[],E,M,[],[]⟩ with
 | some (.code (.loop c)::k,s)=>bif iR m s.mv then kL l ts (.code c::.inLoop c::k) s else none
 | some (.inLoop c::k,s)=>bif iR m s.mv then kL l ts (.code c::.inLoop c::k) s else none
 | _=>none) else none
theorem eJ.re (r:eJ mk D w0 K0 sz b E M a w):∃ b',db mk D w0 K0 sz b' ⟨[],E,M,[],[]⟩ a w∧b'.β.length=b.m∧Ext b.β b'.β∧bS b.I b'.I∧b'.m=b.m:=by
 obtain ⟨hb,tc,h1,I,h2,h3,β,F,Rm,cq,dO⟩:=r
 refine ⟨⟨β.take b.m,F,I,b.m⟩,⟨h1,I,h2,h3,β,F,Rm,⟨fun u x _ hx=>?_,bS.refl _,fun _ _ _=>rfl⟩,dO⟩,?_,fun u x hx=>?_,cq.2.1,rfl⟩
 ·rw [List.getElem?_take] at hx
  split at hx
  ·exact hx
  ·simp at hx
 ·rw [List.length_take,Rm.len];have Pq:b.m≤M.length:=h3;omega
 ·have hu:u<b.m:=by rw [← hb];exact (List.getElem?_eq_some_iff.1 hx).1
  rw [List.getElem?_take,if_pos hu]
  exact cq.1 u x (by simp) hx
theorem eJ.from {b':eG} (ao:b'.m=b.m) (hb:b.β.length=b.m) (hE:Ext b.β b'.β) (hG:bS b.I b'.I) (r:eJ mk D w0 K0 sz b' E M a w):eJ mk D w0 K0 sz b E M a w:=by
 obtain ⟨-,tc,h1,I,h2,h3,β,F,Rm,cq,dO⟩:=r
 refine ⟨hb,List.range b.m,h1,I,h2,by rw [← ao];exact h3,β,F,Rm,⟨fun u x _ hx=>cq.1 u x (by simp) (hE u x hx),hG.trans cq.2.1,fun u hu hn=>absurd (List.mem_range.2 hu) hn⟩,dO⟩
theorem cQ (hT:aZ P T=true) (hm:P.follows .mixedOrders=true) (hK:∀ w,Kp D w0 w→K0 w) {m:Nat} (ao:b.m=m) (tb:dv) (n:Nat) (l ts:List Nat) {A:Prop} {E':List (Nat×AV)} {M':List ai} (r:eJ mk D w0 K0 sz b E M a w)
  (h:Bp P T sz m tb n l ts todo E M=some (todo',A,E',M')) (hA:A) (k:∀ a' w',eJ mk D w0 K0 sz b E' M' a' w'→aF P f todo' R a' w'):aF P f todo R a w:=by
 subst ao
 have hb:=r.1
 obtain ⟨b',rb,aS,hE,hG,gA⟩:=r.re
 unfold Bp at h
 cases hn:(nodupB l&&j5 b.m l) with
 | false=>simp [hn] at h
 | true=>
  simp only [hn,cond_true] at h
  simp only [Bool.and_eq_true] at hn
  have key:∀ {s:RS} {a':Act} {w':World} {M':List ai} {E':List (Nat×AV)},iR b.m s.mv=true→fX l s.M l=some M'→jr l s.E ts=some E'→db mk D w0 K0 sz b' s a' w'→eJ mk D w0 K0 sz b E' M' a' w':=fun hf h3 h4 r'=>
   eJ.from gA hb hE hG (r'.l0 (by rw [aS,gA]) hn.1 (by rw [gA];exact hn.2) (by rw [gA];exact hf) h3 h4)
  split at h
  ·rename_i c k' s hr
   cases hf:iR b.m s.mv with
   | false=>simp [hf] at h
   | true=>
    simp only [hf,cond_true] at h
    obtain ⟨rfl,rfl,h3,h4⟩:=oB h
    exact kT hT (iI hT hm 3) hm hK n hr rb hA fun a' w' r'=>aF.loop (k a' w' (key hf h3 h4 r'))
  ·rename_i c k' s hr
   cases hf:iR b.m s.mv with
   | false=>simp [hf] at h
   | true=>
    simp only [hf,cond_true] at h
    obtain ⟨rfl,rfl,h3,h4⟩:=oB h
    exact kT hT (iI hT hm 3) hm hK n hr rb hA fun a' w' r'=>aF.again (k a' w' (key hf h3 h4 r'))
  ·simp at h
def pc (T:aP) (m:Nat) (cE:List Nat) (rs:List ResultVar) (s:RS):Option (Prop×AV×List ai):=
 bif nodupB cE&&j5 m cE&&iR m s.mv then (match iQ T s.E s.M rs with
 | some l=>(match fX cE s.M cE,s7 cE (xQ l) with
  | some M',some x=>some (bk s.vc,x,M')
  | _,_=>none)
 | none=>none) else none
def A2 (P:Program) (T:aP) (sz:Nat) (m:Nat) (rs:List ResultVar) (tb:dv) (n:Nat) (cE:List Nat) (todo:List Item) (E:List (Nat×AV)) (M:List ai):Option (Prop×AV×List ai):=
 match dB P T (walk P T 3) sz tb n todo ⟨[],E,M,[],[]⟩ with
 | some (.code .ret::_,s)=>pc T m cE rs s
 | some ([],s)=>pc T m cE rs s
 | _=>none
theorem bp (hT:aZ P T=true) (hm:P.follows .mixedOrders=true) (hK:∀ w,Kp D w0 w→K0 w) {fn:Func} (hf:P.funcs[f]?=some fn) {m:Nat} (ao:b.m=m) (tb:dv) (n:Nat) (cE:List Nat) {x:AV} {M':List ai} {A:Prop} (r:RB D w0 K0 sz b E M a w)
  (h:A2 P T sz m fn.results.toList tb n cE todo E M=some (A,x,M')) (hA:A):aF P f todo (eZ D w0 K0 b x M') a w:=by
 subst ao
 have hb:=r.1
 obtain ⟨b',rb,aS,hE,hG,gA⟩:=r.re
 have key:∀ {s:RS} {a':Act} {w':World},pc T b.m cE fn.results.toList s=some (A,x,M')→db false D w0 K0 sz b' s a' w'→bk s.vc=A∧∃ v,(results fn a'.tmps).run P w'=.ok v w'∧B0 D w0 K0 b x M' (.returned v) w':=by
  intro s a' w' eY r'
  unfold pc at eY
  cases hc:(nodupB cE&&j5 b.m cE&&iR b.m s.mv) with
  | false=>simp only [hc,cond_false,reduceCtorEq] at eY
  | true=>
   simp only [hc,cond_true] at eY
   simp only [Bool.and_eq_true] at hc
   split at eY
   ·rename_i l hl
    split at eY
    ·rename_i M1 x1 hM hx
     simp only [Option.some.injEq,Prod.mk.injEq] at eY
     obtain ⟨yI,rfl,rfl⟩:=eY
     refine ⟨yI,?_⟩
     obtain ⟨-,I,-,-,β,F,Rm,cq,hs⟩:=r'
     obtain ⟨ys,e1,e2,e3⟩:=oJ hT Rm hs hl
     refine ⟨_,sa rfl e1,_,rfl,eU β cE,mz F cE,I,zP hc.1.1 hM Rm,?_,hG.trans cq.2.1,AN hx ?_⟩
     ·have:=A0 (b:=b') (by rw [aS,gA]) (by rw [gA];exact hc.1.2) (by rw [gA];exact hc.2) cq
      exact fun u q hq=>this u q (hE u q hq)
     ·match ys,l,e2,e3 with
      | [],[],_,_=>exact .tu [] rfl (by simp)
      | [y],[v],_,e3=>exact e3 0 v y rfl rfl
      | y::y'::ys,v::v'::l,e2,e3=>exact .tu _ e2 e3
    ·simp at eY
   ·simp at eY
 unfold A2 at h
 have da:∀ {s:RS},pc T b.m cE fn.results.toList s=some (A,x,M')→bk s.vc:=by
  intro s eY
  unfold pc at eY
  cases hc:(nodupB cE&&j5 b.m cE&&iR b.m s.mv) with
  | false=>simp only [hc,cond_false,reduceCtorEq] at eY
  | true=>
   simp only [hc,cond_true] at eY
   split at eY
   ·split at eY
    ·simp only [Option.some.injEq,Prod.mk.injEq] at eY
     rw [eY.1];exact hA
    ·simp at eY
   ·simp at eY
 split at h
 ·rename_i k s hr
  refine kT hT (iI hT hm 3) hm hK n hr rb (da h) fun a' w' r'=>?_
  obtain ⟨-,v,h1,h2⟩:=key h r'
  exact aF.ret hf (db.nG r') h1 h2
 ·rename_i s hr
  refine kT hT (iI hT hm 3) hm hK n hr rb (da h) fun a' w' r'=>?_
  obtain ⟨-,v,h1,h2⟩:=key h r'
  exact aF.fin hf (db.nG r') h1 h2
 ·simp at h
theorem bq {x y:AV} {N N':List ai} {todo:List Item} (e1:x=y) (e2:N=N') (h:aF P f todo (eZ D w0 K0 b y N') a w):aF P f todo (eZ D w0 K0 b x N) a w:=e1▸e2▸h
end Go.Proofs.YtcnpikbbmbombaaGreatDoor
namespace Go.Proofs.YtcnpikbbmbombaaGreatDoor
open Go.RowKit
def tb:aP:=[
 (3,⟨.it .i64,1,8,[.int .i64 0]⟩),
 (5,⟨.it .u8,1,1,[.int .u8 0]⟩),
 (9,⟨.st,1,16,[.string .empty]⟩),
 (31,⟨.sl 5,1,24,[.slice none 0 0]⟩),
 (42,⟨.sr [0,1,2,3,4,5,6] [3,3,3,3,3,40,31],7,72,[.int .i64 0,.int .i64 0,.int .i64 0,.int .i64 0,.int .i64 0,.int .u64 0,.slice none 0 0]⟩),
 (25,⟨.sr [0,1,2] [3,22,23],3,56,[.int .i64 0,.slice none 0 0,.slice none 0 0]⟩),
 (40,⟨.it .u64,1,8,[.int .u64 0]⟩),
 (60,⟨.ar 2 3,2,16,[.int .i64 0,.int .i64 0]⟩),
 (87,⟨.sl 9,1,24,[.slice none 0 0]⟩),
 (23,⟨.sl 3,1,24,[.slice none 0 0]⟩),
 (22,⟨.sl 60,1,24,[.slice none 0 0]⟩),
 (4,⟨.pl,1,1,[.bool false]⟩),
 (94,⟨.sr [0,1,2,3,4,5,6] [9,4,4,4,4,4,4],7,24,[.string .empty,.bool false,.bool false,.bool false,.bool false,.bool false,.bool false]⟩),
 (26,⟨.sl 42,1,24,[.slice none 0 0]⟩),
 (71,⟨.sr [0,1] [69,31],2,32,[.pointer none,.slice none 0 0]⟩),
 (51,⟨.pl,1,8,[.pointer none]⟩),
 (61,⟨.pl,1,8,[.pointer none]⟩),
 (106,⟨.sr [0,1] [31,4],2,32,[.slice none 0 0,.bool false]⟩),
 (115,⟨.sr [0,1] [31,4],2,32,[.slice none 0 0,.bool false]⟩),
 (171,⟨.sr [0,1] [5,5],2,2,[.int .u8 0,.int .u8 0]⟩),
 (21,⟨.it .i32,1,4,[.int .i32 0]⟩),
 (113,⟨.pl,1,8,[.pointer none]⟩),
 (108,⟨.sr [0] [106],2,32,[.slice none 0 0,.bool false]⟩),
 (69,⟨.pl,1,8,[.pointer none]⟩),
 (159,⟨.it .u32,1,4,[.int .u32 0]⟩),
 (91,⟨.sr [0] [31],1,24,[.slice none 0 0]⟩),
 (95,⟨.ar 14 94,98,336,[.string .empty,.bool false,.bool false,.bool false,.bool false,.bool false,.bool false,.string .empty,.bool false,.bool false,.bool false,.bool false,.bool false,.bool false,.string .empty,.bool false,.bool false,.bool false,.bool false,.bool false,.bool false,.string .empty,.bool false,.bool false,.bool false,.bool false,.bool false,.bool false,.string .empty,.bool false,.bool false,.bool false,.bool false,.bool false,.bool false,.string .empty,.bool false,.bool false,.bool false,.bool false,.bool false,.bool false,.string .empty,.bool false,.bool false,.bool false,.bool false,.bool false,.bool false,.string .empty,.bool false,.bool false,.bool false,.bool false,.bool false,.bool false,.string .empty,.bool false,.bool false,.bool false,.bool false,.bool false,.bool false,.string .empty,.bool false,.bool false,.bool false,.bool false,.bool false,.bool false,.string .empty,.bool false,.bool false,.bool false,.bool false,.bool false,.bool false,.string .empty,.bool false,.bool false,.bool false,.bool false,.bool false,.bool false,.string .empty,.bool false,.bool false,.bool false,.bool false,.bool false,.bool false,.string .empty,.bool false,.bool false,.bool false,.bool false,.bool false,.bool false]⟩),
 (149,⟨.ar 24 5,24,24,List.replicate 24 (.int .u8 0)⟩),
 (160,⟨.ar 65 5,65,65,List.replicate 65 (.int .u8 0)⟩),
 (135,⟨.sl 40,1,24,[.slice none 0 0]⟩),
 (32,⟨.it .i64,1,8,[.int .i64 0]⟩),
 (98,⟨.it .u16,1,2,[.int .u16 0]⟩),
 (134,⟨.it .u64,1,8,[.int .u64 0]⟩),
 (79,⟨.pl,1,8,[.nilFunc]⟩),
 (146,⟨.ar 8 5,8,8,[.int .u8 0,.int .u8 0,.int .u8 0,.int .u8 0,.int .u8 0,.int .u8 0,.int .u8 0,.int .u8 0]⟩),
 (2,⟨.it .i64,1,8,[.int .i64 0]⟩),
 (158,⟨.ar 20 40,20,160,List.replicate 20 (.int .u64 0)⟩),
 (167,⟨.ar 32 5,32,32,List.replicate 32 (.int .u8 0)⟩),
 (168,⟨.ar 64 5,64,64,List.replicate 64 (.int .u8 0)⟩),
 (172,⟨.ar 16 171,32,32,List.replicate 32 (.int .u8 0)⟩),
 (121,⟨.pl,1,8,[.pointer none]⟩)]
theorem tk:aZ Tryz.prog tb=true:=by kernel_rfl
theorem mo:Tryz.prog.follows .mixedOrders=true:=by kernel_rfl
end Go.Proofs.YtcnpikbbmbombaaGreatDoor
namespace Go.Proofs.YtcnpikbbmbombaaGreatDoor
open Go.RowKit
variable {P:Program}
theorem U {a b:Prop} (h:a) (k:b):a∧b:=⟨h,k⟩
theorem bv {a b:Bool} (h:a=b):DV.v (.bool a)=.v (.bool b):=by rw [h]
theorem wi {x y:Int} (h:x=y ∧ -9223372036854775808≤y∧y<9223372036854775808):IntKind.i64.wrap x=y:=by
 obtain ⟨rfl,h1,h2⟩:=h;simp [IntKind.wrap,IntKind.signed,IntKind.bits];omega
theorem wu {x y:Int} (h:x=y∧0≤y∧y<18446744073709551616):IntKind.u64.wrap x=y:=by
 obtain ⟨rfl,h1,h2⟩:=h;simp [IntKind.wrap,IntKind.signed,IntKind.bits];omega
theorem ne_of_beq_false {a b:Int} (h:(a==b)=false):a≠b:=by intro e;subst e;simp at h
theorem iG {a b:Int} (h:(a != b)=false):a=b:=by simpa [bne] using h
theorem py (c:Bool):(fT (Value.bool c)==some true)=c:=by cases c<;>rfl
theorem pz (c:Bool):(fT (Value.bool c)==some false)=(!c):=by cases c<;>rfl
theorem jQ (a b:Bool):∃ b0:Bool,(Value.bool a)=.bool b0∧(bif b0 then Value.bool true else (bif (!a) then Value.bool b else undef))=.bool (a||b):=⟨a,rfl,by cases a<;>rfl⟩
theorem o1 (a b:Bool):∃ b0:Bool,(Value.bool a)=.bool b0∧(bif b0 then (bif a then Value.bool b else undef) else Value.bool false)=.bool (a&&b):=⟨a,rfl,by cases a<;>rfl⟩
theorem nh (x:DV):x=x:=rfl
theorem ft (n:Nat):n=n:=rfl
theorem aC (n:Int):n=n:=rfl
end Go.Proofs.YtcnpikbbmbombaaGreatDoor
namespace Go.Proofs.YtcnpikbbmbombaaGreatDoor
open Go.RowKit
variable {mk:Bool} {P:Program} {T:aP} {f:FuncId} {R:fq} {a:Act} {w:World} {D:List Nat} {w0:World} {K0:World→Prop} {E E1:List (Nat×AV)} {M M1 M2:List ai} {β:Beta} {F:Nat→ak} {I X:ak} {sz:Nat} {b:eG}
theorem RM.nil (h:RM D w0 K0 M β F I w) (T k:Nat):RM D w0 K0 (M++[.rw T k []]) (β++[(none,0)]) (aN F M.length []) I w:=by
 refine h.new (Gr.refl w) (du.nil w w) ?_
 have:bF (fun w=>K0 w∧Holds w I) (β++[(none,0)]) M.length (.rw T k []) ([]++bI ([]:List (List DV)).length k fun _ _=>[]):=
  .rw (c:=0) (a:=none) (by rw [List.getElem?_append_right (by rw [h.len];exact Nat.le_refl _),h.len];simp) (fun _=>[]) (fun _ _=>[]) (by simp) (by simpa [lay] using dY.nil T k none) (by simp)
 simpa [bI] using this
theorem RM.cells (h:RM D w0 K0 M β F I w) {u Tb:Nat} {cells cells':List AV} (hu:M[u]?=some (.bx Tb cells)) (hl:cells'.length=cells.length)
  (hc:∀ (j:Nat) c c0 y,cells'[j]?=some c→cells[j]?=some c0→ax (fun w=>K0 w∧Holds w I) β c0 y→ax (fun w=>K0 w∧Holds w I) β c y):RM D w0 K0 (M.set u (.bx Tb cells')) β F I w where
 len:=by rw [h.len,List.length_set]
 blk:=by
  intro v bl hv
  rw [List.getElem?_set] at hv
  split at hv
  ·rename_i N4;subst N4
   split at hv
   ·simp only [Option.some.injEq] at hv;subst hv
    have hr:=h.blk _ _ hu
    generalize F _=H at hr ⊢
    cases hr with
    | bx hb ys cS hr=>
     refine .bx hb ys (by omega) fun j c y h1 h2=>?_
     have hj:j<cells.length:=by rw [← hl];exact (List.getElem?_eq_some_iff.1 h1).1
     exact hc j c _ y h1 (List.getElem?_eq_getElem hj) (hr j _ y (List.getElem?_eq_getElem hj) h2)
   ·cases hv
  ·exact h.blk v bl hv
 st:=by rw [List.length_set];exact h.st
def pd (E:List (Nat×AV)) (t:Nat) (v:AV):List (Nat×AV):=E.map fun x=>bif x.1.beq t then (x.1,v) else x
theorem va {t:Nat} {v:AV}:∀ {E:List (Nat×AV)} {s:Nat} {u:AV},b5 (pd E t v) s=some u→(s=t∧u=v∧∃ u0,b5 E t=some u0)∨(s≠t∧b5 E s=some u)
 | [],s,u,h=>by simp [pd,b5] at h
 | (k,x)::r,s,u,h=>by
  have ih:=va (t:=t) (v:=v) (E:=r) (s:=s) (u:=u)
  unfold pd at ih h
  rw [List.map_cons] at h
  cases hk:k.beq t with
  | true=>
   have N5:=Nat.eq_of_beq_eq_true hk;subst N5
   simp only [Nat.beq_refl,cond_true,b5] at h ⊢
   cases hs:k.beq s with
   | true=>
    have:=Nat.eq_of_beq_eq_true hs;subst this
    rw [hs,cond_true,Option.some.injEq] at h
    exact Or.inl ⟨rfl,h.symm,x,rfl⟩
   | false=>
    rw [hs,cond_false] at h
    rcases ih h with ⟨rfl,-,-⟩ | h2
    ·rw [Nat.beq_refl] at hs;cases hs
    ·exact Or.inr h2
  | false=>
   simp only [hk,cond_false,b5] at h ⊢
   cases hs:k.beq s with
   | true=>
    have:=Nat.eq_of_beq_eq_true hs;subst this
    rw [hs,cond_true] at h
    refine Or.inr ⟨?_,h⟩
    rintro rfl;rw [Nat.beq_refl] at hk;cases hk
   | false=>
    rw [hs,cond_false] at h
    exact ih h
def pA:List (Nat×Nat×Nat)→List (Nat×AV)→List ai→Option (List (Nat×AV)×List ai)
 | [],E,M=>some (E,M)
 | (t,T,k)::r,E,M=>match b5 E t with
  | some (.d (.v (.slice none 0 0)))=>pA r (pd E t (.sl M.length 0)) (M++[.rw T k []])
  | _=>none
def pC:List (Nat×Nat×Nat×Nat)→List ai→Option (List ai)
 | [],M=>some M
 | (u,o,T,k)::r,M=>match M[u]? with
  | some (.bx Tb cells)=>(match cells[o]? with
   | some (.d (.v (.slice none 0 0)))=>pC r ((M++[ai.rw T k []]).set u (.bx Tb (cells.set o (.sl M.length 0))))
   | _=>none)
  | _=>none
theorem Bq (h:RM D w0 K0 M β F I w):(β++[((none:Option Addr),0)])[M.length]?=some (none,0):=by rw [List.getElem?_append_right (by rw [h.len];exact Nat.le_refl _),h.len];simp
theorem vV {ev:Nat→Value} {n:Nat}:∀ {ls:List (Nat×Nat×Nat)} {E:List (Nat×AV)} {M:List ai} {β:Beta} {F:Nat→ak},pA ls E M=some (E1,M1)→n≤M.length→RM D w0 K0 M β F I w→(∀ t v,b5 E t=some v→ax (fun w=>K0 w∧Holds w I) β v (ev t))→
  ∃ aB F',RM D w0 K0 M1 aB F' I w∧Ext β aB∧(∀ u,u<n→F' u=F u)∧n≤M1.length∧∀ t v,b5 E1 t=some v→ax (fun w=>K0 w∧Holds w I) aB v (ev t)
 | [],E,M,β,F,h,hn,hR,hs=>by
  simp only [pA,Option.some.injEq,Prod.mk.injEq] at h;obtain ⟨rfl,rfl⟩:=h
  exact ⟨β,F,hR,fun _ _ h=>h,fun _ _=>rfl,hn,hs⟩
 | (t,T,k)::r,E,M,β,F,h,hn,hR,hs=>by
  unfold pA at h
  split at h
  ·rename_i ht
   obtain ⟨aB,F',h1,h2,h3,h4,h5⟩:=vV h (n:=n) (ev:=ev) (by simp;omega) (hR.nil T k) fun s v hv=>by
    rcases va hv with ⟨rfl,rfl,-⟩ | ⟨-,h2⟩
    ·have:=hs s _ ht
     generalize ev s=y at this
     cases this with | d h=>cases h;exact .sl (Bq hR)
    ·exact (hs s v h2).mono (fun _ h=>h) (Ext.app β [((none:Option Addr),0)])
   exact ⟨aB,F',h1,fun u x hx=>h2 u x (Ext.app β [((none:Option Addr),0)] u x hx),fun u hu=>(h3 u hu).trans (lb (tc:=[]) F [] u (by omega) (by simp)),h4,h5⟩
  ·cases h
theorem vW {ev:Nat→Value} {n:Nat}:∀ {lc:List (Nat×Nat×Nat×Nat)} {M:List ai} {β:Beta} {F:Nat→ak},pC lc M=some M1→n≤M.length→RM D w0 K0 M β F I w→(∀ t v,b5 E t=some v→ax (fun w=>K0 w∧Holds w I) β v (ev t))→
  ∃ aB F',RM D w0 K0 M1 aB F' I w∧Ext β aB∧(∀ u,u<n→F' u=F u)∧n≤M1.length∧∀ t v,b5 E t=some v→ax (fun w=>K0 w∧Holds w I) aB v (ev t)
 | [],M,β,F,h,hn,hR,hs=>by
  simp only [pC,Option.some.injEq] at h;subst h
  exact ⟨β,F,hR,fun _ _ h=>h,fun _ _=>rfl,hn,hs⟩
 | (u,o,T,k)::r,M,β,F,h,hn,hR,hs=>by
  unfold pC at h
  split at h
  ·rename_i Tb cells hu
   split at h
   ·rename_i ho
    have N6:=hR.nil T k
    have N7:=N6.cells (cells':=cells.set o (.sl M.length 0)) (by rw [List.getElem?_append_left (List.getElem?_eq_some_iff.1 hu).1];exact hu) (by simp) fun j c c0 y h1 h2 h3=>by
     rw [List.getElem?_set] at h1
     split at h1
     ·rename_i hj;subst hj
      split at h1
      ·simp only [Option.some.injEq] at h1;subst h1
       rw [ho,Option.some.injEq] at h2;subst h2
       cases h3 with | d h=>cases h;exact .sl (Bq hR)
      ·cases h1
     ·rw [h1,Option.some.injEq] at h2;subst h2;exact h3
    obtain ⟨aB,F',h1,h2,h3,h4,h5⟩:=vW h (n:=n) (ev:=ev) (by simp;omega) N7 fun s v hv=>(hs s v hv).mono (fun _ h=>h) (Ext.app β [((none:Option Addr),0)])
    exact ⟨aB,F',h1,fun u x hx=>h2 u x (Ext.app β [((none:Option Addr),0)] u x hx),fun u hu=>(h3 u hu).trans (lb (tc:=[]) F [] u (by omega) (by simp)),h4,h5⟩
   ·cases h
  ·cases h
theorem cC.fG (r:cC mk D w0 K0 sz E M a w) (ls:List (Nat×Nat×Nat)) (lc:List (Nat×Nat×Nat×Nat)) (h:pA ls E M=some (E1,M1)) (h2:pC lc M1=some M2):cC mk D w0 K0 sz E1 M2 a w:=by
 obtain ⟨g1,I,g2,β,F,hR,hs⟩:=r
 obtain ⟨pQ,F1,r1,-,-,-,s1⟩:=vV (ev:=fun t=>a.eval (.tmp t)) (n:=0) h (Nat.zero_le _) hR hs
 obtain ⟨ja,F2,r2,-,-,-,s2⟩:=vW (ev:=fun t=>a.eval (.tmp t)) (n:=0) h2 (Nat.zero_le _) r1 s1
 exact ⟨g1,I,g2,ja,F2,r2,s2⟩
theorem cC.cast {E':List (Nat×AV)} {M':List ai} (r:cC mk D w0 K0 sz E M a w) (hE:E=E') (hM:M=M'):cC mk D w0 K0 sz E' M' a w:=hE▸hM▸r
theorem eJ.cast {E':List (Nat×AV)} {M':List ai} (r:eJ mk D w0 K0 sz b E M a w) (hE:E=E') (hM:M=M'):eJ mk D w0 K0 sz b E' M' a w:=hE▸hM▸r
theorem eJ.fG (r:eJ mk D w0 K0 sz b E M a w) (ls:List (Nat×Nat×Nat)) (lc:List (Nat×Nat×Nat×Nat)) (h:pA ls E M=some (E1,M1)) (h2:pC lc M1=some M2):eJ mk D w0 K0 sz b E1 M2 a w:=by
 obtain ⟨hb,tc,g1,I,g2,g3,β,F,hR,cq,hs⟩:=r
 obtain ⟨pQ,F1,r1,e1,f1,l1,s1⟩:=vV (ev:=fun t=>a.eval (.tmp t)) (n:=b.m) h g3 hR hs
 obtain ⟨ja,F2,r2,e2,f2,l2,s2⟩:=vW (ev:=fun t=>a.eval (.tmp t)) (n:=b.m) h2 l1 r1 s1
 exact ⟨hb,tc,g1,I,g2,l2,ja,F2,r2,⟨fun u x hu hx=>e2 u x (e1 u x (cq.1 u x hu hx)),cq.2.1,fun u hu hn=>(f2 u hu).trans ((f1 u hu).trans (cq.2.2 u hu hn))⟩,s2⟩
end Go.Proofs.YtcnpikbbmbombaaGreatDoor
namespace Go.Proofs.YtcnpikbbmbombaaGreatDoor
open Go.RowKit
variable {mk:Bool} {ro:Option Nat} {P:Program} {T:aP} {cl:fE} {f:FuncId} {R:fq} {a:Act} {w:World} {D:List Nat} {w0:World} {K0:World→Prop} {E:List (Nat×AV)} {M:List ai} {sz:Nat} {tb:dv} {todo todo':List Item} {ops:Array Oper} {Q:Exit→Act→World→Prop}
def sM (P:Program) (T:aP) (cl:fE) (sz:Nat) (ops:Array Oper) (oc:List (Nat×aX)) (rd:List Nat) (i:Nat):RS→Option (List Nat×RS)
 | ⟨vc,E,M,tc,mv⟩=>match ops[i]? with
  | some o=>(bif gn sz o.dst then (match mA sz ops E o.guard with
   | some true=>(match step P T cl E M (mG oc i) o.op with
    | some ⟨na,av,_,_,_,some kr⟩=>some (kr++rd,⟨vc++na,ir E o.dst av,M,tc,mv⟩)
    | _=>none)
   | some false=>some (rd,⟨vc,ir E o.dst (.d (.v undef)),M,tc,mv⟩)
   | none=>none) else none)
  | none=>none
def tg (P:Program) (T:aP) (cl:fE) (sz:Nat) (ops:Array Oper) (oc:List (Nat×aX)) (rd:List Nat) (i:Nat):RS→Option RS
 | ⟨vc,E,M,tc,mv⟩=>match ops[i]? with
  | some o=>(bif gn sz o.dst then (match mA sz ops E o.guard with
   | some true=>(match step P T cl E M (mG oc i) o.op with
    | some out=>(bif xN rd out.tc&&Nat.ble M.length out.M.length then some ⟨vc++out.vc,ir (o0 out.mv E) o.dst out.av,out.M,out.tc++tc,out.mv++mv⟩ else none)
    | none=>none)
   | some false=>some ⟨vc,ir E o.dst (.d (.v undef)),M,tc,mv⟩
   | none=>none) else none)
  | none=>none
def th (g:Nat→Option (List RS)):List Nat→Option (List RS)
 | []=>some []
 | j::r=>match g j,th g r with | some l,some l'=>some (l++l') | _,_=>none
theorem vb {g:Nat→Option (List RS)}:∀ {r:List Nat} {l:List RS},th g r=some l→∀ j ∈ r,∃ l',g j=some l'∧∀ s ∈ l',s ∈ l
 | [],_,_,j,hj=>by cases hj
 | i::r,l,h,j,hj=>by
  unfold th at h
  split at h
  ·rename_i l1 l2 h1 h2
   simp only [Option.some.injEq] at h;subst h
   rcases List.mem_cons.1 hj with rfl | hj
   ·exact ⟨l1,h1,fun s hs=>List.mem_append_left _ hs⟩
   ·obtain ⟨l',h3,h4⟩:=vb h2 j hj
    exact ⟨l',h3,fun s hs=>List.mem_append_right _ (h4 s hs)⟩
  ·cases h
def mI (ops:Array Oper) (nl:List Nat) (L:Array Bool):q9:=match Region.ready .any ops L with
 | []=>.fin
 | i::r=>match me ops L ((i::r).filter fun j=>!(nl.elem j)) with
  | some j=>.look j
  | none=>.bad
theorem Aj {nl:List Nat} {L:Array Bool} (h:mI ops nl L=.fin):Region.ready .any ops L=[]:=by
 unfold mI at h
 split at h
 ·assumption
 ·split at h<;>cases h
theorem FL {nl:List Nat} {L:Array Bool} {i:Nat} (h:mI ops nl L=.look i):i ∈ Region.ready .any ops L∧∃ o,ops[i]?=some o∧Region.free .any ops L i=true:=by
 unfold mI at h
 split at h
 ·cases h
 ·rename_i k r hr
  split at h
  ·rename_i j hj
   simp only [q9.look.injEq] at h;subst h
   obtain ⟨h1,h2⟩:=om hj
   exact ⟨by rw [hr];exact (List.mem_filter.1 h1).1,h2⟩
  ·cases h
def kM (P:Program) (T:aP) (cl:fE) (sz:Nat) (ops:Array Oper) (oc:List (Nat×aX)) (nl:List Nat):Nat→Array Bool→List Nat→RS→Option (List RS)
 | 0,L,_,s=>(match mI ops nl L with | .fin=>some [s] | _=>none)
 | fuel+1,L,rd,s=>match mI ops nl L with
  | .fin=>some [s]
  | .look i=>(match sM P T cl sz ops oc rd i s with
   | some (kr,s1)=>kM P T cl sz ops oc nl fuel (L.setIfInBounds i true) kr s1
   | none=>none)
  | _=>th (fun j=>match tg P T cl sz ops oc rd j s with
   | some s1=>kM P T cl sz ops oc nl fuel (L.setIfInBounds j true) rd s1
   | none=>none) (Region.ready .any ops L)
theorem Ha {oc:List (Nat×aX)} {rd kr:List Nat} {i:Nat} {s s1:RS} (h:sM P T cl sz ops oc rd i s=some (kr,s1)) (hv:bk s1.vc):bk s.vc:=by
 obtain ⟨vc,E,M,tc,mv⟩:=s
 unfold sM at h
 dsimp only at h
 split at h
 ·rename_i o ho
  cases hd:gn sz o.dst with
  | false=>simp [hd] at h
  | true=>
   simp only [hd,cond_true] at h
   split at h
   ·split at h
    ·simp only [Option.some.injEq,Prod.mk.injEq] at h;obtain ⟨-,rfl⟩:=h;exact (bk.app.1 hv).1
    ·cases h
   ·simp only [Option.some.injEq,Prod.mk.injEq] at h;obtain ⟨-,rfl⟩:=h;exact hv
   ·cases h
 ·cases h
theorem Iu {oc:List (Nat×aX)} {rd:List Nat} {i:Nat} {s s1:RS} (h:tg P T cl sz ops oc rd i s=some s1) (hv:bk s1.vc):bk s.vc:=by
 obtain ⟨vc,E,M,tc,mv⟩:=s
 unfold tg at h
 dsimp only at h
 split at h
 ·rename_i o ho
  cases hd:gn sz o.dst with
  | false=>simp [hd] at h
  | true=>
   simp only [hd,cond_true] at h
   split at h
   ·split at h
    ·rename_i out _
     cases hc:(xN rd out.tc&&Nat.ble M.length out.M.length) with
     | false=>simp [hc] at h
     | true=>simp only [hc,cond_true,Option.some.injEq] at h;subst h;exact (bk.app.1 hv).1
    ·cases h
   ·simp only [Option.some.injEq] at h;subst h;exact hv
   ·cases h
 ·cases h
theorem zq {nl:List Nat} {L:Array Bool} (h:mI ops nl L≠.fin):∃ j r,Region.ready .any ops L=j::r:=by
 unfold mI at h
 cases hr:Region.ready .any ops L with
 | nil=>rw [hr] at h;exact absurd rfl h
 | cons j r=>exact ⟨j,r,rfl⟩
theorem uF {oc:List (Nat×aX)} {nl:List Nat}:∀ (fuel:Nat) (L:Array Bool) (rd:List Nat) (s:RS) {l:List RS},kM P T cl sz ops oc nl fuel L rd s=some l→∃ s' ∈ l,bk s'.vc→bk s.vc:=by
 intro fuel
 induction fuel with
 | zero=>
  intro L rd s l h
  unfold kM at h
  split at h
  ·simp only [Option.some.injEq] at h;subst h;exact ⟨s,by simp,id⟩
  ·cases h
 | succ fuel ih=>
  intro L rd s l h
  unfold kM at h
  split at h
  ·simp only [Option.some.injEq] at h;subst h;exact ⟨s,by simp,id⟩
  ·split at h
   ·rename_i hl
    obtain ⟨s',h1,h2⟩:=ih _ _ _ h
    exact ⟨s',h1,fun hv=>Ha hl (h2 hv)⟩
   ·cases h
  ·rename_i hn _
   obtain ⟨j,r,hr⟩:=zq (ops:=ops) (nl:=nl) (L:=L) (by intro hf;exact hn hf)
   obtain ⟨l',h1,h2⟩:=vb h j (by rw [hr];exact List.mem_cons_self)
   split at h1
   ·rename_i ho
    obtain ⟨s',h3,h4⟩:=ih _ _ _ h1
    exact ⟨s',h2 s' h3,fun hv=>Iu ho (h4 hv)⟩
   ·cases h1
theorem Hb (hT:aZ P T=true) (cG:jt P cl) {b:eG} (hK:∀ w,Kp D w0 w→K0 w) (iu:Region.noSelect ops=true) (hQ:∀ d v c a w,Q (.panic c) (Act.put a d v) w→Q (.panic c) a w) {oc:List (Nat×aX)} {nl:List Nat}:
  ∀ (fuel:Nat) (L:Array Bool) (rd:List Nat) (s:RS) {l:List RS} (Rk:World→Prop) (β:Beta) (F:Nat→ak) (I:ak) (a:Act) (w:World),kM P T cl sz ops oc nl fuel L rd s=some l→a.tmps.size=sz→Mk mk a.defers I→b.m≤s.M.length→RM D w0 K0 s.M β F I w→Since b s.mv s.tc β F I→
   (∀ t v,b5 s.E t=some v→ax (fun w=>K0 w∧Holds w I) β v (a.eval (.tmp t)))→(∀ u ∈ rd,u<s.M.length)→(∀ w,iO K0 I F rd w→Rk w)→(∀ s' ∈ l,bk s'.vc∧∀ a' w',db mk D w0 K0 sz b s' a' w'→Q .normal a' w')→j6 ro P ops Q Rk fuel L a w:=by
 intro fuel
 induction fuel with
 | zero=>
  intro L rd s l Rk β F I a w h size defers hm Rm cq hs dD fZ k
  have C:Ctx D w0 K0 s.E s.M β F I a.eval w:=⟨Rm,hs,fun _=>rfl,fun _=>rfl,fun _=>rfl,hK⟩
  have hR:=fZ w (C.xj dD)
  unfold kM at h
  split at h
  ·rename_i hn
   simp only [Option.some.injEq] at h;subst h
   exact ⟨hR,Aj hn,(k s (by simp)).2 a w ⟨size,I,defers,hm,β,F,Rm,cq,hs⟩⟩
  ·cases h
 | succ fuel ih=>
  intro L rd s l Rk β F I a w h size defers hm Rm cq hs dD fZ k
  have C:Ctx D w0 K0 s.E s.M β F I a.eval w:=⟨Rm,hs,fun _=>rfl,fun _=>rfl,fun _=>rfl,hK⟩
  have hR:=fZ w (C.xj dD)
  unfold kM at h
  split at h
  ·rename_i hn
   simp only [Option.some.injEq] at h;subst h
   have hn:=Aj hn
   exact ⟨hR,fun _=>(k s (by simp)).2 a w ⟨size,I,defers,hm,β,F,Rm,cq,hs⟩,fun i hi=>by rw [hn] at hi;cases hi⟩
  ·rename_i i hn
   obtain ⟨ri,o',NR,ly⟩:=FL hn
   split at h
   ·rename_i Pr s1 hl
    obtain ⟨s',ez,da⟩:=uF _ _ _ _ h
    have ea:=da (k s' ez).1
    obtain ⟨vc,E,M,tc,mv⟩:=s
    dsimp only at hm Rm cq hs dD fZ C
    unfold sM at hl
    dsimp only at hl
    split at hl
    ·rename_i o ho
     cases hd:gn sz o.dst with
     | false=>simp [hd] at hl
     | true=>
      simp only [hd,cond_true] at hl
      have lR:=fun j oj hj jT lY jz=>Region.free_spec ho ly j oj hj jT lY jz
      split at hl
      ·rename_i hw
       have eX:=kz (ops:=ops) size hs hw
       split at hl
       ·rename_i na av _ _ _ kr bB
        simp only [Option.some.injEq,Prod.mk.injEq] at hl;obtain ⟨rfl,rfl⟩:=hl
        have n6:=oI (P:=P) hT cG (d:=o.dst) (ty:=o.type) (pos:=o.pos) (aft:=o.after) (gd:=o.guard) bB
        obtain ⟨xO,rfl,-,aO⟩:=n6
        have lH:=(bk.app.1 ea).2
        obtain ⟨v,lF,lz⟩:=xO C lH
        obtain ⟨e1,e2,e3⟩:=RE.put (E:=E) size defers hs hd lF
        have kJ:=ih (L.setIfInBounds i true) _ _ (fun w=>Rk w∧iO K0 I F kr w) β F I (a.put o.dst v) w h e1 e2 hm Rm cq e3 (fun u hu=>by rcases List.mem_append.1 hu with e | e;exact aO u e;exact dD u e)
         (fun w hw=>⟨fZ w ⟨hw.1,fun u hu=>hw.2 u (List.mem_append_right _ hu)⟩,hw.1,fun u hu=>hw.2 u (List.mem_append_left _ hu)⟩) k
        exact y6 (fun w hw=>hw.1) (yZ ho (Region.noSelect_spec iu) (hQ o.dst v) _ L a w lR ri (Or.inl ⟨eX,fun w' dC=>lz w' dC.2⟩) kJ)
       ·cases hl
      ·rename_i hw
       simp only [Option.some.injEq,Prod.mk.injEq] at hl;obtain ⟨rfl,rfl⟩:=hl
       have eX:=kz (ops:=ops) size hs hw
       obtain ⟨e1,e2,e3⟩:=RE.put (E:=E) size defers hs hd (.d (.v undef))
       have kJ:=ih (L.setIfInBounds i true) _ _ Rk β F I (a.put o.dst undef) w h e1 e2 hm Rm cq e3 dD fZ k
       exact yZ ho (Region.noSelect_spec iu) (hQ o.dst undef) _ L a w lR ri (Or.inr ⟨eX,rfl⟩) kJ
      ·cases hl
    ·cases hl
   ·cases h
  ·rename_i hn _
   obtain ⟨j0,r0,Dy⟩:=zq (ops:=ops) (nl:=nl) (L:=L) (by intro hf;exact hn hf)
   refine ⟨hR,fun h0=>(by rw [Dy] at h0;cases h0),fun j hj=>?_⟩
   obtain ⟨l',h1,h2⟩:=vb h j hj
   split at h1
   ·rename_i s1 iA
    obtain ⟨s',ez,da⟩:=uF _ _ _ _ h1
    have ea:=da (k s' (h2 s' ez)).1
    obtain ⟨vc,E,M,tc,mv⟩:=s
    dsimp only at hm Rm cq hs dD fZ C
    unfold tg at iA
    dsimp only at iA
    unfold wpOpIn
    split at iA
    ·rename_i o ho
     simp only [ho]
     cases hd:gn sz o.dst with
     | false=>simp [hd] at iA
     | true=>
      simp only [hd,cond_true] at iA
      split at iA
      ·rename_i hw
       have eX:=kz (ops:=ops) size hs hw
       simp only [eX,if_true]
       split at iA
       ·rename_i out bB
        cases hc:(xN rd out.tc&&Nat.ble M.length out.M.length) with
        | false=>simp [hc] at iA
        | true=>
         simp only [hc,cond_true,Option.some.injEq] at iA;subst iA
         simp only [Bool.and_eq_true] at hc
         have hlen:=Nat.le_of_ble_eq_true hc.2
         have lH:=(bk.app.1 ea).2
         have n6:=(oI (P:=P) hT cG (d:=o.dst) (ty:=o.type) (pos:=o.pos) (aft:=o.after) (gd:=o.guard) bB).pn C lH
         refine aY.wp n6 ?_
         rintro v w' ⟨aB,F',I',R',e,hI,hF,nb⟩
         have hk:=uE (ρ:=a.eval) e hs
         obtain ⟨e1,e2,e3⟩:=RE.put size (defers.grow hI) (fun t v hx=>(hk t v hx).mono (fun w hw=>⟨hw.1,hI.holds w hw.2⟩) (Ext.refl _)) hd nb
         refine ih (L.setIfInBounds j true) _ _ Rk aB F' I' (a.put o.dst v) w' h1 e1 e2 (Nat.le_trans hm hlen) R' (cq.step hm e hI hF) e3 (fun u hu=>Nat.lt_of_lt_of_le (dD u hu) hlen) (fun w hw=>fZ w ⟨⟨hw.1.1,hI.holds w hw.1.2⟩,fun u hu=>?_⟩) fun s' ez=>k s' (h2 s' ez)
         have yG:u ∉ out.tc:=by
          have:=List.all_eq_true.1 hc.1 u hu
          simpa using this
         rw [← hF u (dD u hu) yG];exact hw.2 u hu
       ·cases iA
      ·rename_i hw
       simp only [Option.some.injEq] at iA;subst iA
       have eX:=kz (ops:=ops) size hs hw
       simp only [eX,Bool.false_eq_true,if_false]
       obtain ⟨e1,e2,e3⟩:=RE.put (E:=E) size defers hs hd (.d (.v undef))
       exact ⟨fun _ _=>trivial,ih (L.setIfInBounds j true) _ _ Rk β F I (a.put o.dst undef) w h1 e1 e2 hm Rm cq e3 dD fZ fun s' ez=>k s' (h2 s' ez)⟩
      ·cases iA
    ·cases iA
   ·cases h1
theorem MQ (hT:aZ P T=true) (cG:jt P cl) (hm:P.follows .mixedOrders=true) (hK:∀ w,Kp D w0 w→K0 w) (hQ:∀ d v c a w,Q (.panic c) (Act.put a d v) w→Q (.panic c) a w) {b:eG} {s:RS} (R:db mk D w0 K0 sz b s a w) (oc:List (Nat×aX)) {nl:List Nat} {id:Nat} {l:List RS} (iu:Region.noSelect ops=true)
  (h:kM P T cl sz ops oc nl ops.size (Array.replicate ops.size false) [] s=some l) (k:∀ s' ∈ l,bk s'.vc∧∀ a' w',db mk D w0 K0 sz b s' a' w'→Q .normal a' w'):(Code.region id ops true).wpIn (Fl ro) 0 P Q a w:=by
 refine wpIn_region_any hm ?_
 obtain ⟨size,I,defers,hb,β,F,Rm,cq,hs⟩:=R
 have hg:=Gr.drew w
 exact (Hb hT cG hK iu hQ ops.size _ [] s (fun _=>True) β F I a w.drew h size defers hb (Rm.gr hg) cq hs (by simp) (fun _ _=>trivial) k).to
def oK (ts:List Nat):List (List Nat)→List RS→Option (List Prop×List (List (Nat×AV)×List ai))
 | [],[]=>some ([],[])
 | l::ls,s::r=>bif nodupB l then (match fX l s.M l,jr l s.E ts,oK ts ls r with
  | some M',some E',some (A,r')=>some (bk s.vc::A,(E',M')::r')
  | _,_,_=>none) else none
 | _,_=>none
theorem zr {ts:List Nat} {E':List (Nat×AV)} {M':List ai}:∀ {ls:List (List Nat)} {r:List RS} {A:List Prop} {o:List (List (Nat×AV)×List ai)},oK ts ls r=some (A,o)→(∀ x ∈ o,x=(E',M'))→bk A→∀ s ∈ r,bk s.vc∧∃ l,nodupB l=true∧fX l s.M l=some M'∧jr l s.E ts=some E'
 | [],[],_,_,_,_,_,s,hs=>by cases hs
 | [],_::_,_,_,h,_,_,_,_=>by simp [oK] at h
 | _::_,[],_,_,h,_,_,_,_=>by simp [oK] at h
 | l::ls,s::r,A,o,h,ho,hA,s',ez=>by
  unfold oK at h
  cases hn:nodupB l with
  | false=>simp [hn] at h
  | true=>
   simp only [hn,cond_true] at h
   split at h
   ·rename_i M1 E1 A1 r1 h1 h2 h3
    simp only [Option.some.injEq,Prod.mk.injEq] at h;obtain ⟨rfl,rfl⟩:=h
    have e:=ho _ List.mem_cons_self
    simp only [Prod.mk.injEq] at e;obtain ⟨rfl,rfl⟩:=e
    rcases List.mem_cons.1 ez with rfl | ez
    ·exact ⟨hA.1,l,hn,h1,h2⟩
    ·exact zr h3 (fun x hx=>ho x (List.mem_cons_of_mem _ hx)) hA.2 s' ez
   ·cases h
def A3 (P:Program) (T:aP) (sz:Nat) (tb:dv) (n:Nat) (nl:List Nat) (yJ:List (List Nat)) (ts:List Nat) (todo:List Item) (E:List (Nat×AV)) (M:List ai):Option (List Item×Prop×List (List (Nat×AV)×List ai)):=
 match dB P T (walk P T 3) sz tb n todo ⟨[],E,M,[],[]⟩ with
 | some (.code (.region id ops true)::k,s)=>bif Region.noSelect ops then (match kM P T (walk P T 3) sz ops (xP tb id) nl ops.size (Array.replicate ops.size false) [] s with
  | some Ls=>(match oK ts yJ Ls with | some (A,o)=>some (k,bk A,o) | none=>none)
  | none=>none) else none
 | _=>none
theorem Br (hT:aZ P T=true) (hm:P.follows .mixedOrders=true) (hK:∀ w,Kp D w0 w→K0 w) (tb:dv) (n m:Nat) (nl:List Nat) (yJ:List (List Nat)) (ts:List Nat) {A:Prop} {E':List (Nat×AV)} {M':List ai} (r:cC mk D w0 K0 sz E M a w)
  (h:A3 P T sz tb n nl yJ ts todo E M=some (todo',A,List.replicate m (E',M'))) (hA:A) (k:∀ a' w',cC mk D w0 K0 sz E' M' a' w'→aF P f todo' R a' w'):aF P f todo R a w:=by
 unfold A3 at h
 split at h
 ·rename_i id ops k0 s hr
  cases hs:Region.noSelect ops with
  | false=>simp [hs] at h
  | true=>
   simp only [hs,cond_true] at h
   split at h
   ·rename_i Ls hL
    split at h
    ·rename_i A1 o ho
     simp only [Option.some.injEq,Prod.mk.injEq] at h;obtain ⟨rfl,rfl,rfl⟩:=h
     have hl:=zr ho (fun x hx=>List.eq_of_mem_replicate hx) hA
     obtain ⟨s1,h1,h2⟩:=uF _ _ _ _ hL
     obtain ⟨b,rb⟩:=r.b []
     refine kT hT (iI hT hm 3) hm hK n hr rb (h2 (hl s1 h1).1) fun a1 w1 r1=>aF.code ?_
     refine MQ hT (iI hT hm 3) hm hK (by rintro d v c a w ⟨h,-⟩;cases h) r1 _ hs hL fun s' ez=>⟨(hl s' ez).1,fun a' w' r'=>⟨rfl,?_⟩⟩
     obtain ⟨-,l,g1,g2,g3⟩:=hl s' ez
     exact k a' w' (r'.re.l0 g1 g2 g3)
    ·cases h
   ·cases h
 ·cases h
def B1 (P:Program) (T:aP) (sz:Nat) (tb:dv) (n:Nat) (l ts:List Nat) (todo:List Item) (E:List (Nat×AV)) (M:List ai):Option (List Item×Prop×List (Nat×AV)×List ai):=
 bif nodupB l then (match dB P T (walk P T 3) sz tb n todo ⟨[],E,M,[],[]⟩ with
 | some (t,s)=>kL l ts t s
 | none=>none) else none
theorem Cv (hT:aZ P T=true) (hm:P.follows .mixedOrders=true) (hK:∀ w,Kp D w0 w→K0 w) (tb:dv) (n:Nat) (l ts:List Nat) {A:Prop} {E':List (Nat×AV)} {M':List ai} (r:cC mk D w0 K0 sz E M a w)
  (h:B1 P T sz tb n l ts todo E M=some (todo',A,E',M')) (hA:A) (k:∀ a' w',cC mk D w0 K0 sz E' M' a' w'→aF P f todo' R a' w'):aF P f todo R a w:=by
 unfold B1 at h
 cases hn:nodupB l with
 | false=>simp [hn] at h
 | true=>
  simp only [hn,cond_true] at h
  split at h
  ·rename_i t s hr
   unfold kL at h
   split at h
   ·rename_i M1 E1 hM hE
    simp only [Option.some.injEq,Prod.mk.injEq] at h
    obtain ⟨rfl,rfl,rfl,rfl⟩:=h
    exact n7 hT (iI hT hm 3) hm hK n hr r hA fun a' w' r'=>k a' w' (r'.l0 hn hM hE)
   ·cases h
  ·cases h
def nN (id:Nat):Code→List Item→List (List Item)
 | .seq x y,k=>nN id x (.code y::k)++nN id y k
 | .cond _ x y,k=>nN id x k++nN id y k
 | .block i c,k=>nN id c (.inBlock i::k)
 | .loop c,k=>nN id c (.inLoop c::k)
 | .region i _ _,k=>bif i.beq id then [k] else []
 | _,_=>[]
def aft (fn:Func) (id:Nat):List Item:=
 match fn.body with
 | some c=>(match nN id c [] with | t::_=>t | []=>[])
 | none=>[]
end Go.Proofs.YtcnpikbbmbombaaGreatDoor
namespace Go.Proofs.YtcnpikbbmbombaaGreatDoor
open Go.RowKit
variable {mk:Bool} {P:Program} {T:aP} {f:FuncId} {R:fq} {a:Act} {w:World} {D:List Nat} {w0:World} {K0:World→Prop} {E:List (Nat×AV)} {M:List ai} {sz:Nat} {todo todo':List Item} {b:eG}
theorem eJ.key (r:eJ mk D w0 K0 sz b E M a w):∃ b',db mk D w0 K0 sz b' ⟨[],E,M,[],[]⟩ a w∧∀ {s:RS} {a':Act} {w':World} {M':List ai} {E':List (Nat×AV)} {l ts:List Nat},nodupB l=true→j5 b.m l=true→iR b.m s.mv=true→fX l s.M l=some M'→jr l s.E ts=some E'→db mk D w0 K0 sz b' s a' w'→eJ mk D w0 K0 sz b E' M' a' w':=by
 have hb:=r.1
 obtain ⟨b',rb,aS,hE,hG,gA⟩:=r.re
 exact ⟨b',rb,fun hn hs hf h3 h4 r'=>eJ.from gA hb hE hG (r'.l0 (by rw [aS,gA]) hn (by rw [gA];exact hs) (by rw [gA];exact hf) h3 h4)⟩
def Bs (P:Program) (T:aP) (sz m:Nat) (tb:dv) (n:Nat) (l ts:List Nat) (todo:List Item) (E:List (Nat×AV)) (M:List ai):Option (List Item×Prop×List (Nat×AV)×List ai):=
 bif nodupB l&&j5 m l then (match dB P T (walk P T 3) sz tb n todo ⟨[],E,M,[],[]⟩ with
 | some (t,s)=>bif iR m s.mv then kL l ts t s else none
 | none=>none) else none
theorem b6 (hT:aZ P T=true) (hm:P.follows .mixedOrders=true) (hK:∀ w,Kp D w0 w→K0 w) {m:Nat} (ao:b.m=m) (tb:dv) (n:Nat) (l ts:List Nat) {A:Prop} {E':List (Nat×AV)} {M':List ai} (r:eJ mk D w0 K0 sz b E M a w)
  (h:Bs P T sz m tb n l ts todo E M=some (todo',A,E',M')) (hA:A) (k:∀ a' w',eJ mk D w0 K0 sz b E' M' a' w'→aF P f todo' R a' w'):aF P f todo R a w:=by
 subst ao
 obtain ⟨b',rb,key⟩:=r.key
 unfold Bs at h
 cases hn:(nodupB l&&j5 b.m l) with
 | false=>simp [hn] at h
 | true=>
  simp only [hn,cond_true] at h
  simp only [Bool.and_eq_true] at hn
  split at h
  ·rename_i t s hr
   cases hf:iR b.m s.mv with
   | false=>simp [hf] at h
   | true=>
    simp only [hf,cond_true] at h
    obtain ⟨rfl,rfl,hM,hE⟩:=oB h
    exact kT hT (iI hT hm 3) hm hK n hr rb hA fun a' w' r'=>k a' w' (key hn.1 hn.2 hf hM hE r')
  ·cases h
end Go.Proofs.YtcnpikbbmbombaaGreatDoor
namespace Go.Proofs.YtcnpikbbmbombaaGreatDoor
open Go.RowKit
variable {mk:Bool} {P:Program} {f:FuncId}
def Le (x x':DV):Prop:=∀ (K:World→Prop) (y:Value) (H:ak),bM K x y H→bM K x' y H
theorem Le.refl (x:DV):Le x x:=fun _ _ _ h=>h
theorem Le.B2 (T k:Nat):Le (.v (.slice none 0 0)) (.em T k []):=by
 intro K y H h
 cases h
 have:bM K (.em T k []) (.slice none 0 0) ([]++bI ([]:List (List DV)).length k fun _ _=>[]):=.em (fun _=>[]) (fun _ _=>[]) (by simp) (by simpa [lay] using dY.nil T k none) (by simp)
 simpa [bI] using this
theorem Le.sN (k:Nat):Le (.v (.slice none 0 0)) (.ro k []):=by
 intro K y H h
 cases h
 exact .ro (fun _=>[]) (by simp) ⟨none,0,rfl,Nat.le_refl _⟩ (fun w _=>by simpa [lay] using (dY.nil 0 k none).src (Holds.nil w)) (by simp)
theorem Le.ag {l l':List DV} (hl:l.length=l'.length) (h:∀ (j:Nat) c c',l[j]?=some c→l'[j]?=some c'→Le c c'):Le (.ag l) (.ag l'):=by
 intro K y H r
 cases r with
 | ag ys F mX hr=>
  rw [hl]
  refine .ag ys F (by omega) fun j c z h1 h2=>?_
  have hj:j<l.length:=by rw [hl];exact (List.getElem?_eq_some_iff.1 h1).1
  exact h j _ c (List.getElem?_eq_getElem hj) h1 K z _ (hr j _ z (List.getElem?_eq_getElem hj) h2)
theorem Le.tu {l l':List DV} (hl:l.length=l'.length) (h:∀ (j:Nat) c c',l[j]?=some c→l'[j]?=some c'→Le c c'):Le (.tu l) (.tu l'):=by
 intro K y H r
 cases r with
 | tu ys F mX hr=>
  rw [hl]
  refine .tu ys F (by omega) fun j c z h1 h2=>?_
  have hj:j<l.length:=by rw [hl];exact (List.getElem?_eq_some_iff.1 h1).1
  exact h j _ c (List.getElem?_eq_getElem hj) h1 K z _ (hr j _ z (List.getElem?_eq_getElem hj) h2)
theorem al.le {args:List AV} {x x':DV} (h:al P f args x) (e:Le x x'):al P f args x':=by
 refine ⟨h.1,fun w K ys hK hl hr=>(h.2 w K ys hK hl hr).mono ?_⟩
 rintro ed w' ⟨v,rfl,g,H,⟨Ho,Hi,rfl,hd⟩,n⟩
 exact ⟨_,rfl,g,_,⟨Ho,Hi,rfl,e _ _ _ hd⟩,n⟩
inductive c7:List DV→List DV→Prop where
 | nil:c7 [] []
 | cons {x x':DV} {l l':List DV} (h:Le x x') (t:c7 l l'):c7 (x::l) (x'::l')
theorem c7.ok {l l':List DV} (h:c7 l l'):l.length=l'.length∧∀ (j:Nat) c c',l[j]?=some c→l'[j]?=some c'→Le c c':=by
 induction h with
 | nil=>simp
 | cons h t ih=>
  refine ⟨by simp [ih.1],fun j c c' h1 h2=>?_⟩
  cases j with
  | zero=>simp at h1 h2;subst h1 h2;exact h
  | succ j=>exact ih.2 j c c' (by simpa using h1) (by simpa using h2)
theorem c7.tu {l l':List DV} (h:c7 l l'):Le (.tu l) (.tu l'):=Le.tu h.ok.1 h.ok.2
end Go.Proofs.YtcnpikbbmbombaaGreatDoor
namespace Go.Proofs.YtcnpikbbmbombaaGreatDoor
open Go.RowKit
variable {mk:Bool} {P:Program} {T:aP} {f:FuncId} {a:Act} {w:World} {D:List Nat} {w0:World} {K0:World→Prop} {E E1:List (Nat×AV)} {M M1 M2:List ai} {β:Beta} {F:Nat→ak} {I X:ak} {sz:Nat} {b:eG}
def MR:List Nat→List ai→Option (List ai)
 | [],M=>some M
 | u::r,M=>match M[u]? with
  | some (.rw T k rows)=>MR r (M.set u (.rw T k (c6 rows)))
  | _=>none
theorem RM.B3 (R:RM D w0 K0 M β F I w) {v n T k:Nat} {rows:List (List DV)} (hv:M[v]?=some (.rw T k rows)) (hn:n=rows.length):∃ F' I',RM D w0 K0 (M.set v .dead) β F' I' w∧bS I I'∧∀ y,ax (fun w=>K0 w∧Holds w I) β (.sl v n) y→ax (fun w=>K0 w∧Holds w I') β (.d (.ro k (c6 rows))) y:=by
 have R1:=R.x.fo hv
 rw [List.nil_append] at R1
 have hB:=R.blk v _ hv
 refine ⟨aN F v [],F v++I,⟨R1.len,fun u bl hu=>(R1.blk u bl hu).mono (fun w hw=>⟨hw.1,(Holds.app.1 hw.2).2⟩) (Ext.refl _),R1.st.perm (List.Perm.append_left _ List.perm_append_comm)⟩,⟨F v,rfl⟩,fun y r=>?_⟩
 generalize F v=Fv at hB ⊢
 cases r with
 | sl hb=>
  cases hB with
  | rw aS X G hl hs hr=>
   rw [hb] at aS;cases aS
   have hd:=bM.em (K:=fun w=>K0 w∧Holds w I) X G hl hs hr
   have:=sc (K':=fun w=>K0 w∧Holds w (_++I)) hd fun w hw=>⟨⟨hw.1,(Holds.app.1 hw.2).2⟩,(Holds.app.1 hw.2).1⟩
   rw [ew] at this
   rw [hn]
   exact .d this
def rl:List Nat→List (Nat×AV)→List ai→Option (List Prop×List (Nat×AV)×List ai)
 | [],E,M=>some ([],E,M)
 | t::r,E,M=>match b5 E t with
  | some (.sl v n)=>(match M[v]? with
   | some (.rw _ k rows)=>(match rl r (pd E t (.d (.ro k (c6 rows)))) (M.set v .dead) with | some (p,E',M')=>some ((n=rows.length)::p,E',M') | none=>none)
   | _=>none)
  | _=>none
def rn:List (Nat×Nat)→List ai→Option (List Prop×List ai)
 | [],M=>some ([],M)
 | (u,o)::r,M=>match M[u]? with
  | some (.bx Tb cells)=>(match cells[o]? with
   | some (.sl v n)=>(match M[v]? with
    | some (.rw _ k rows)=>(match rn r ((M.set v .dead).set u (.bx Tb (cells.set o (.d (.ro k (c6 rows)))))) with | some (p,M')=>some ((n=rows.length)::p,M') | none=>none)
    | _=>none)
   | _=>none)
  | _=>none
theorem Bt {ev:Nat→Value}:∀ {ls:List Nat} {E:List (Nat×AV)} {M:List ai} {F:Nat→ak} {I:ak} {p:List Prop},rl ls E M=some (p,E1,M1)→bk p→RM D w0 K0 M β F I w→(∀ t v,b5 E t=some v→ax (fun w=>K0 w∧Holds w I) β v (ev t))→
  ∃ F' I',RM D w0 K0 M1 β F' I' w∧bS I I'∧∀ t v,b5 E1 t=some v→ax (fun w=>K0 w∧Holds w I') β v (ev t)
 | [],E,M,F,I,p,h,_,R,hs=>by
  simp only [rl,Option.some.injEq,Prod.mk.injEq] at h;obtain ⟨-,rfl,rfl⟩:=h
  exact ⟨F,I,R,bS.refl I,hs⟩
 | t::r,E,M,F,I,p,h,hp,R,hs=>by
  unfold rl at h
  split at h
  ·rename_i v n ht
   split at h
   ·rename_i T k rows hv
    split at h
    ·rename_i p' E' M' hr
     simp only [Option.some.injEq,Prod.mk.injEq] at h;obtain ⟨rfl,e1,e2⟩:=h
     rw [e1,e2] at hr
     obtain ⟨F2,I2,R2,g,hA⟩:=R.B3 hv hp.1
     suffices h9:∀ s x,b5 (pd E t (.d (.ro k (c6 rows)))) s=some x→ax (fun w=>K0 w∧Holds w I2) β x (ev s) by
      obtain ⟨F',I',q1,q2,q3⟩:=Bt (ev:=ev) hr hp.2 R2 h9
      exact ⟨F',I',q1,g.trans q2,q3⟩
     intro s x hx
     rcases va hx with ⟨rfl,rfl,-⟩ | ⟨-,h2⟩
     ·exact hA _ (hs _ _ ht)
     ·exact (hs s x h2).mono (fun w hw=>⟨hw.1,g.holds w hw.2⟩) (Ext.refl _)
    ·cases h
   ·cases h
  ·cases h
theorem Bu:∀ {lc:List (Nat×Nat)} {M:List ai} {F:Nat→ak} {I:ak} {p:List Prop},rn lc M=some (p,M1)→bk p→RM D w0 K0 M β F I w→∃ F' I',RM D w0 K0 M1 β F' I' w∧bS I I'
 | [],M,F,I,p,h,_,R=>by
  simp only [rn,Option.some.injEq,Prod.mk.injEq] at h;obtain ⟨-,rfl⟩:=h
  exact ⟨F,I,R,bS.refl I⟩
 | (u,o)::r,M,F,I,p,h,hp,R=>by
  unfold rn at h
  split at h
  ·rename_i Tb cells hu
   split at h
   ·rename_i v n ho
    split at h
    ·rename_i T k rows hv
     split at h
     ·rename_i p' M' hr
      simp only [Option.some.injEq,Prod.mk.injEq] at h;obtain ⟨rfl,e1⟩:=h
      rw [e1] at hr
      have qT:v≠u:=fun e=>by subst e;rw [hu] at hv;cases hv
      obtain ⟨F2,I2,R2,g,hA⟩:=R.B3 hv hp.1
      have hB:=R.blk u _ hu
      obtain ⟨aO,-⟩:=List.getElem?_eq_some_iff.1 hu
      have Dz:(M.set v .dead)[u]?=some (.bx Tb cells):=by rw [List.getElem?_set,if_neg qT];exact hu
      have jy:=R2.blk u _ Dz
      have fW:bF (fun w=>K0 w∧Holds w I2) β u (.bx Tb (cells.set o (.d (.ro k (c6 rows))))) (F2 u):=by
       have bB:∀ {G:ak},bF (fun w=>K0 w∧Holds w I2) β u (.bx Tb cells) G→G=F2 u→bF (fun w=>K0 w∧Holds w I) β u (.bx Tb cells) (F u)→F2 u=F u→bF (fun w=>K0 w∧Holds w I2) β u (.bx Tb (cells.set o (.d (.ro k (c6 rows))))) (F2 u):=by
        intro G _ _ h3 h4
        rw [h4]
        generalize F u=Fu at h3 ⊢
        cases h3 with
        | bx hb ys hl jW=>
         refine .bx hb ys (by rw [List.length_set];exact hl) fun j c y h1 h2=>?_
         rw [List.getElem?_set] at h1
         split at h1
         ·rename_i hj;subst hj
          split at h1
          ·simp only [Option.some.injEq] at h1;subst h1
           exact hA _ (jW _ _ _ ho h2)
          ·cases h1
         ·exact (jW j c y h1 h2).mono (fun w hw=>⟨hw.1,g.holds w hw.2⟩) (Ext.refl _)
       have kY:F2 u=F u:=by
        generalize hq:F2 u=q at jy
        generalize N8:F u=q0 at hB
        cases jy with
        | bx hb ys hl jW=>
         cases hB with
         | bx aS Ps cS Cu=>
          rw [hb] at aS;cases aS
          have h1:Holds w (F2 u):=R2.iK Dz
          have h2:Holds w (F u):=R.iK hu
          rw [hq] at h1;rw [N8] at h2
          have e1:=h1.one
          have e2:=h2.one
          rw [e1] at e2
          simp only [Option.some.injEq,Obj.cells.injEq] at e2
          rw [e2.1]
       exact bB jy rfl hB kY
      have R3:RM D w0 K0 ((M.set v .dead).set u (.bx Tb (cells.set o (.d (.ro k (c6 rows)))))) β F2 I2 w:=by
       refine ⟨by rw [List.length_set];exact R2.len,fun x bl hx=>?_,by rw [List.length_set];exact R2.st⟩
       rw [List.getElem?_set] at hx
       split at hx
       ·rename_i e;subst e
        split at hx
        ·simp only [Option.some.injEq] at hx;subst hx;exact fW
        ·cases hx
       ·exact R2.blk x bl hx
      obtain ⟨F4,I4,R4,g4⟩:=Bu hr hp.2 R3
      exact ⟨F4,I4,R4,g.trans g4⟩
     ·cases h
    ·cases h
   ·cases h
  ·cases h
theorem cC.stay {E2:List (Nat×AV)} {M3:List ai} {p1 p2:List Prop} (r:cC mk D w0 K0 sz E M a w) (ls:List Nat) (lc:List (Nat×Nat)) (h:rl ls E M=some (p1,E1,M1)) (h2:rn lc M1=some (p2,M2)) (q1:bk p1) (q2:bk p2) (e:E1=E2) (e2:M2=M3):cC mk D w0 K0 sz E2 M3 a w:=by
 subst e e2
 obtain ⟨g1,I,g2,β,F,R,hs⟩:=r
 obtain ⟨F1,I1,R1,gI,s1⟩:=Bt (ev:=fun t=>a.eval (.tmp t)) h q1 R hs
 obtain ⟨F2,I2,R2,g⟩:=Bu h2 q2 R1
 exact ⟨g1,I2,(g2.grow gI).grow g,β,F2,R2,fun t v hv=>(s1 t v hv).mono (fun w hw=>⟨hw.1,g.holds w hw.2⟩) (Ext.refl _)⟩
end Go.Proofs.YtcnpikbbmbombaaGreatDoor
namespace Go.Proofs.YtcnpikbbmbombaaGreatDoor
open Go.RowKit Go.Deep
theorem zt {H:Type} {enc:TypeId×Value→H} {P:Program} (hl:laidOutB P=true) {W W':World} (g:Gr W W'):∀ {ts:List TypeId} {vs:List Value} {ds:List (DataW H)} {ps:List MemPlace},(∀ t ∈ ts,P.readableRec t=true∧t<P.types.size)→DataW.TrodAll enc P W 0 (fun _=>true) true ts vs ds ps→(∀ x ∈ ps,x.block<W.heap.size)→DataW.TrodAll enc P W' 0 (fun b=>decide (b<W.heap.size)) true ts vs ds ps
 | [],[],[],_,_,h,_=>h
 | [],_::_,_,_,_,h,_=>h.elim
 | [],[],_::_,_,_,h,_=>h.elim
 | _::_,[],_,_,_,h,_=>h.elim
 | _::_,_::_,[],_,_,h,_=>h.elim
 | t::ts,v::vs,d::ds,ps,ht,h,hp=>by
  obtain ⟨p,q,h1,h2,rfl⟩:=h
  refine ⟨p,q,Below.trod hl (ht t (by simp)).1 (ht t (by simp)).2 h1 g (fun x hx=>hp x (by simp [hx])),zt hl g (fun t' h'=>ht t' (by simp [h'])) h2 (fun x hx=>hp x (by simp [hx])),rfl⟩
theorem Hc {H:Type} {enc:TypeId×Value→H} {P:Program} {f:Func} {s:ChangeSpec} {W W':World} {args:Array Value} {ds gs:List (DataW H)} {before:List MemPlace} {tb:TypeId} (hl:laidOutB P=true)
  (hp:f.params.toList.all (fun t=>P.readableRec t&&decide (t<P.types.size))=true) (hr:f.resultTypes=#[tb]) (ht:P.underlying tb=some .bool) (hv:s.vars=[])
  (hW:DataW.Whole enc P f.params.toList s.vars false W args.toList ds gs before) (ni:s.fn H (ds++gs)={ results:=[.lit (.bool true)],args:=ds }) (g:Gr W W'):s.post enc P f false true false false W args (.bool true) W':=by
 have yK:=hW
 have aO:=hW.lt
 obtain ⟨p,q,hA,hV,rfl,ey,gD⟩:=hW
 rw [hv] at hV
 match gs,hV with
 | [],hV=>
  cases hV
  refine ⟨ds,[],_,[],p,[],yK,?_,?_,?_,?_,fun h=>by cases h⟩
  ·rw [ni,hr]
   exact ⟨[],[],⟨1,by simp [DataW.trod,ht,Value.cells]⟩,rfl,rfl⟩
  ·rw [ni]
   refine zt hl g (fun t h=>?_) hA (fun x hx=>aO x (by simp [hx]))
   have:=List.all_eq_true.1 hp t h
   simpa using this
  ·rw [ni,hv];rfl
  ·exact Below.frame g _
def TR (P:Program) (w:World) (t:TypeId) (cs:List Value):Prop:=∃ (H:Type) (enc:TypeId×Value→H) (base:Nat) (sp:Nat→Bool) (held:Bool) (fuel:Nat) (x:DataW H×List MemPlace),DataW.trod enc P w base sp held fuel t cs=some x
theorem TR.of {H:Type} {enc:TypeId×Value→H} {P:Program} {w:World} {base:Nat} {sp:Nat→Bool} {held:Bool} {t:TypeId} {v:Value} {d:DataW H} {ps:List MemPlace} (h:DataW.Trod enc P w base sp held t v d ps):TR P w t v.cells.toList:=by
 obtain ⟨n,h⟩:=h;exact ⟨H,enc,base,sp,held,n,_,h⟩
section
variable {P:Program} {w:World} {t e:TypeId} {cs:List Value}
theorem TR.int {k:IntKind} (ht:P.underlying t=some (.int k)) (h:TR P w t cs):∃ n,cs=[.int k n]∧(Lit.int k n).wf=true:=by
 obtain ⟨H,enc,base,sp,held,fuel,x,h⟩:=h
 cases fuel with
 | zero=>simp [DataW.trod] at h
 | succ fuel=>
  rw [DataW.trod_step] at h;unfold DataW.trodStep at h;simp only [ht] at h
  split at h<;>simp_all
theorem cells?_some {base:Nat} {a:Addr} {n:Nat} {X:List Value} (h:w.cells? base a n=some X):X.length=n∧∀ j (hj:j<X.length),w.cell? (a.add j)=some X[j]:=by
 obtain ⟨_,h1,h2⟩:=World.cells?_some h
 exact ⟨h1,fun j hj=>by rw [h2 j (by omega)];exact List.getElem?_eq_getElem hj⟩
theorem mapM_each {α β:Type} {f:α→Option β}:∀ {l:List α} {r:List β},l.mapM f=some r→∀ x ∈ l,∃ y,f x=some y
 | [],_,_,x,hx=>by simp at hx
 | z::l,r,h,x,hx=>by
  rw [List.mapM_cons] at h
  obtain ⟨y,h1,h2⟩:=Option.bind_eq_some_iff.1 h
  obtain ⟨ys,h3,_⟩:=Option.bind_eq_some_iff.1 h2
  rcases List.mem_cons.1 hx with rfl | hx
  ·exact ⟨y,h1⟩
  ·exact mapM_each h3 x hx
theorem uG {X:Nat→List Value} {c:Nat}:∀ {n:Nat},(∀ i,i<n→(X i).length=c)→((List.range n).flatMap X).length=n*c
 | 0,_=>by simp
 | k+1,h=>by rw [List.range_succ,List.flatMap_append,List.length_append,uG (n:=k) (fun i hi=>h i (by omega))];simp [h k (by omega),Nat.succ_mul]
theorem TR.Hd (ht:P.underlying t=some (.slice e)) (h:TR P w t cs):∃ (v:Value) (n:Nat) (X:Nat→List Value),cs=[v]∧n≤maxLen∧(∀ i,i<n→(X i).length=P.cellsOf e∧TR P w e (X i))∧Src w (P.cellsOf e) v n ((List.range n).flatMap X)∧∃ a c,v=.slice a n c∧n≤c:=by
 obtain ⟨H,enc,base,sp,held,fuel,x,h⟩:=h
 rcases open_slice ht h with ⟨rfl,_⟩ | ⟨a,len,cap,m,n,D,Pl,rfl,_,DA,MS,hm,_,hx⟩
 ·exact ⟨_,0,fun _=>[],rfl,by simp [maxLen],fun i hi=>by omega,by simp [Src],_,_,rfl,Nat.zero_le _⟩
 ·have hle:len≤m:=by rw [hm];split<;>omega
  obtain ⟨X,hX⟩:=choose_lt (n:=len) (α:=List Value) (p:=fun i c=>w.cells? base (a.add (i*P.cellsOf e)) (P.cellsOf e)=some c∧DataW.trod enc P w base sp held n e c=some (D i,Pl i)) (fun i hi=>hx i (by omega))
  have hlen:∀ i,i<len→(X i).length=P.cellsOf e:=fun i hi=>(cells?_some (hX i hi).1).1
  refine ⟨_,len,X,rfl,by omega,fun i hi=>⟨hlen i hi,H,enc,base,sp,held,n,_,(hX i hi).2⟩,⟨?_,?_⟩,⟨a,cap,rfl,DA⟩⟩
  ·exact uG hlen
  ·refine Or.inr ⟨a,cap,rfl,?_⟩
   have key:∀ k,k≤len→∀ j (hj:j<((List.range k).flatMap X).length),w.cell? (a.add j)=some ((List.range k).flatMap X)[j]:=by
    intro k
    induction k with
    | zero=>intro _ j hj;simp at hj
    | succ k ih=>
     intro hk j hj
     have N9:((List.range k).flatMap X).length=k*P.cellsOf e:=uG (fun i hi=>hlen i (by omega))
     have hE:(List.range (k+1)).flatMap X=(List.range k).flatMap X++X k:=by rw [List.range_succ,List.flatMap_append];simp
     have yL:j<((List.range k).flatMap X++X k).length:=by rw [← hE];exact hj
     have Ln:((List.range (k+1)).flatMap X)[j]=((List.range k).flatMap X++X k)[j]:=by congr 1
     rw [Ln]
     by_cases h1:j<((List.range k).flatMap X).length
     ·rw [List.getElem_append_left h1];exact ih (by omega) j h1
     ·rw [List.getElem_append_right (by omega)]
      have h2:=(cells?_some (hX k (by omega)).1).2 (j-((List.range k).flatMap X).length) (by rw [List.length_append] at yL;omega)
      rw [← h2,Addr.nr]
      congr 2
      omega
   exact key len (Nat.le_refl _)
theorem TR.struct {fs:Array Field} (ht:P.underlying t=some (.struct fs)) (h:TR P w t cs):cs.length=P.cellsOf t∧∀ f ∈ fs.toList,TR P w f.type ((cs.drop f.offset).take (P.cellsOf f.type)):=by
 obtain ⟨H,enc,base,sp,held,fuel,x,h⟩:=h
 cases fuel with
 | zero=>simp [DataW.trod] at h
 | succ fuel=>
  rw [DataW.trod_step] at h;unfold DataW.trodStep at h;simp only [ht] at h
  split at h
  ·rename_i hlen
   refine ⟨hlen,fun f hf=>?_⟩
   obtain ⟨xs,h1,_⟩:=Option.map_eq_some_iff.1 h
   obtain ⟨y,hy⟩:=mapM_each h1 f hf
   exact ⟨H,enc,base,sp,held,fuel,_,hy⟩
  ·simp at h
theorem TR.array {n:Nat} (ht:P.underlying t=some (.array n e)) (h:TR P w t cs):cs.length=P.cellsOf t∧∀ i,i<n→TR P w e ((cs.drop (i*P.cellsOf e)).take (P.cellsOf e)):=by
 obtain ⟨H,enc,base,sp,held,fuel,x,h⟩:=h
 cases fuel with
 | zero=>simp [DataW.trod] at h
 | succ fuel=>
  rw [DataW.trod_step] at h;unfold DataW.trodStep at h;simp only [ht] at h
  split at h
  ·rename_i hlen
   refine ⟨hlen,fun i hi=>?_⟩
   obtain ⟨xs,h1,_⟩:=Option.map_eq_some_iff.1 h
   obtain ⟨y,hy⟩:=mapM_each h1 i (by simpa using hi)
   exact ⟨H,enc,base,sp,held,fuel,_,hy⟩
  ·simp at h
end
end Go.Proofs.YtcnpikbbmbombaaGreatDoor
namespace Go.Proofs.YtcnpikbbmbombaaGreatDoor
open Go.RowKit Go.Deep
def jY (w:World) (l:List DV) (cs:List Value):Prop:=cs.length=l.length∧∀ (j:Nat) c v,l[j]?=some c→cs[j]?=some v→bM (Gr w) c v []
theorem jY.one {w:World} {c:DV} {v:Value} (h:bM (Gr w) c v []):jY w [c] [v]:=⟨rfl,fun j c' v' h1 h2=>by
 cases j with
 | zero=>simp at h1 h2;subst h1 h2;exact h
 | succ j=>simp at h1⟩
theorem jY.app {w:World} {l l':List DV} {cs bW:List Value} (h:jY w l cs) (h':jY w l' bW):jY w (l++l') (cs++bW):=⟨by simp [h.1,h'.1],fun j c v h1 h2=>by
 have e:=h.1
 by_cases hj:j<l.length
 ·rw [List.getElem?_append_left hj] at h1;rw [List.getElem?_append_left (by omega)] at h2;exact h.2 j c v h1 h2
 ·rw [List.getElem?_append_right (by omega)] at h1;rw [List.getElem?_append_right (by omega),e] at h2;exact h'.2 _ c v h1 h2⟩
def Rd (P:Program) (w:World) (t:TypeId) {α:Type} (row:α→List DV) (ok:α→Prop):Prop:=∀ cs,TR P w t cs→∃ x,ok x∧jY w (row x) cs
variable {P:Program} {w:World} {t e:TypeId} {α β γ:Type}
theorem Rd.u64 (h:P.underlying t=some (.int .u64)):Rd P w t (fun n:Nat=>[.u n]) fun n=>n≤18446744073709551615:=fun cs hc=>by
 obtain ⟨n,rfl,hw⟩:=hc.int h
 have dC:(0:Int)≤n∧n≤18446744073709551615:=by simpa [Lit.wf,IntKind.min,IntKind.max,IntKind.signed,IntKind.bits] using hw
 have e:n=((n.toNat:Nat):Int):=by omega
 refine ⟨n.toNat,by omega,.one ?_⟩
 show bM _ (.v (.int .u64 ((n.toNat:Nat):Int))) _ _
 rw [← e];exact .v _
theorem Rd.int (h:P.underlying t=some (.int .i64)):Rd P w t (fun n:Int=>[.z n]) fun _=>True:=fun cs hc=>by
 obtain ⟨n,rfl,hw⟩:=hc.int h
 exact ⟨n,trivial,.one (.v _)⟩
theorem Rd.byte (h:P.underlying t=some (.int .u8)):Rd P w t (fun b:UInt8=>[.v (.int .u8 (b.toNat:Int))]) fun _=>True:=fun cs hc=>by
 obtain ⟨n,rfl,hw⟩:=hc.int h
 have dC:(0:Int)≤n∧n≤255:=by simpa [Lit.wf,IntKind.min,IntKind.max,IntKind.signed,IntKind.bits] using hw
 have e:n=(((UInt8.ofNat n.toNat).toNat:Nat):Int):=by simp;omega
 refine ⟨UInt8.ofNat n.toNat,trivial,.one ?_⟩
 rw [← e];exact .v _
theorem Rd.slice [Inhabited α] {k:Nat} {row:α→List DV} {ok:α→Prop} (h:P.underlying t=some (.slice e)) (hk:P.cellsOf e=k) (hr:Rd P w e row ok):Rd P w t (fun l:List α=>[.ro k (l.map row)]) fun l=>l.length≤9223372036854775807∧∀ x ∈ l,ok x:=fun cs hc=>by
 subst hk
 obtain ⟨v,n,X,rfl,hn,hX,hs,dA⟩:=TR.Hd h hc
 obtain ⟨Y,hY⟩:=choose_lt (n:=n) (α:=α) (p:=fun i x=>ok x∧jY w (row x) (X i)) fun i hi=>hr _ (hX i hi).2
 have hg:∀ (i:Nat) r,(((List.range n).map Y).map row)[i]?=some r→i<n∧r=row (Y i):=fun i r hi=>by
  have aO:=(List.getElem?_eq_some_iff.1 hi).1
  simp at aO
  simp [aO] at hi
  exact ⟨aO,hi.symm⟩
 have hl:(((List.range n).map Y).map row).length=n:=by simp
 refine ⟨(List.range n).map Y,⟨by simp;exact Nat.le_trans hn (by decide),?_⟩,.one (.ro X (fun i r hi=>?_) ?_ (fun w' g=>?_) fun i r j c x h1 h2 h3=>?_)⟩
 ·intro x hx
  obtain ⟨i,hi,rfl⟩:=List.mem_map.1 hx
  exact (hY i (by simpa using hi)).1
 ·obtain ⟨pj,rfl⟩:=hg i r hi
  refine ⟨?_,(hX i pj).1⟩
  rw [← (hX i pj).1];exact (hY i pj).2.1.symm
 ·rw [hl];exact dA
 ·rw [hl];exact hs.gr g
 ·obtain ⟨pj,rfl⟩:=hg i r h1
  exact (hY i pj).2.2 j c x h2 h3
theorem Rd.map {row:α→List DV} {ok:α→Prop} (hr:Rd P w t row ok) (g:α→β) {xF:β→List DV} {DB:β→Prop} (h1:∀ x,row x=xF (g x)) (h2:∀ x,ok x→DB (g x)):Rd P w t xF DB:=fun cs hc=>by
 obtain ⟨x,h3,h4⟩:=hr cs hc
 exact ⟨g x,h2 x h3,h1 x▸h4⟩
end Go.Proofs.YtcnpikbbmbombaaGreatDoor
namespace Go.Proofs
open Go.Shelf
def Tryz.En:Go.Shelf.Ren:=⟨fun | 137=>102 | 217=>113 | 266=>126 | n=>n,fun | 9=>9 | 5=>5 | 3=>3 | n=>n,fun | n=>n⟩
theorem Tryz.Iv:Go.Proofs.Lays.n137 Tryz.prog Tryz.En:={
 mixed:=by kernel_rfl
 f137:=Tryz.func102.trans (congrArg some (by kernel_rfl))
 f217:=Tryz.func113.trans (congrArg some (by kernel_rfl))
 f266:=Tryz.func126.trans (congrArg some (by kernel_rfl))
 t3:=Tryz.underlying3
 a3:=Tryz.isAgg3
 z3:=Tryz.sizeOf3
 v3:=Tryz.zeroValue3
 t5:=Tryz.underlying5
 a5:=Tryz.isAgg5
 z5:=Tryz.sizeOf5
 v5:=Tryz.zeroValue5
 t9:=Tryz.underlying9
 a9:=Tryz.isAgg9
 z9:=Tryz.sizeOf9
 v9:=Tryz.zeroValue9 }
open Go.RowKit in
theorem Tryz.strings_IndexByte (s:ByteArray) (c:Int) (w:World):
  Calls Tryz.prog 102 #[.string s,.int .u8 c] w fun e w'=>e=.returned (.int .i64 (Lib.indexByte s.data.toList c.toNat.toUInt8))∧w'=w:=Any.strings_IndexByte Tryz.Iv s c w
def Tryz.Eo:Go.Shelf.Ren:=⟨fun | 129=>116 | n=>n,fun | 53=>40 | 3=>3 | 4=>4 | 46=>134 | 5=>5 | 9=>9 | n=>n,fun | n=>n⟩
theorem Tryz.Iw:Go.Proofs.Lays.n129 Tryz.prog Tryz.Eo:={
 mixed:=by kernel_rfl
 f129:=Tryz.func116.trans (congrArg some (by kernel_rfl))
 t3:=Tryz.underlying3
 a3:=Tryz.isAgg3
 z3:=Tryz.sizeOf3
 v3:=Tryz.zeroValue3
 t4:=Tryz.underlying4
 a4:=Tryz.isAgg4
 z4:=Tryz.sizeOf4
 v4:=Tryz.zeroValue4
 t5:=Tryz.underlying5
 a5:=Tryz.isAgg5
 z5:=Tryz.sizeOf5
 v5:=Tryz.zeroValue5
 t9:=Tryz.underlying9
 a9:=Tryz.isAgg9
 z9:=Tryz.sizeOf9
 v9:=Tryz.zeroValue9
 t46:=Tryz.underlying134
 a46:=Tryz.isAgg134
 z46:=Tryz.sizeOf134
 v46:=Tryz.zeroValue134
 t53:=Tryz.underlying40
 a53:=Tryz.isAgg40
 z53:=Tryz.sizeOf40
 v53:=Tryz.zeroValue40 }
theorem Tryz.bits_Len64 (x:Int) (w:World) (h0:0≤x) (h1:x≤18446744073709551615):
  Calls Tryz.prog 116 #[.int .u64 x] w fun e w'=>e=.returned (.int .i64 (Lib.bitLen x.toNat))∧w'=w:=Any.bits_Len64 Tryz.Iw x w h0 h1
def Tryz.Ep:Go.Shelf.Ren:=⟨fun | 317=>115 | n=>n,fun | 3=>3 | 46=>134 | n=>n,fun | n=>n⟩
theorem Tryz.Ix:Go.Proofs.Lays.n317 Tryz.prog Tryz.Ep:={
 mixed:=by kernel_rfl
 f317:=Tryz.func115.trans (congrArg some (by kernel_rfl))
 t3:=Tryz.underlying3
 a3:=Tryz.isAgg3
 z3:=Tryz.sizeOf3
 v3:=Tryz.zeroValue3
 t46:=Tryz.underlying134
 a46:=Tryz.isAgg134
 z46:=Tryz.sizeOf134
 v46:=Tryz.zeroValue134 }
open Go.Lib in
theorem Tryz.internal_strconv_log10Pow2 (x:Nat) (h:x≤64) (w:World):
  Calls Tryz.prog 115 #[.int .i64 x] w fun e w'=>e=.returned (.int .i64 (Lib.l10 x))∧w'=w:=Any.internal_strconv_log10Pow2 Tryz.Ix x h w
def Tryz.Er:Go.Shelf.Ren:=⟨fun | 318=>117 | n=>n,fun | 3=>3 | 4=>4 | n=>n,fun | n=>n⟩
theorem Tryz.Iy:Go.Proofs.Lays.n318 Tryz.prog Tryz.Er:={
 mixed:=by kernel_rfl
 f318:=Tryz.func117.trans (congrArg some (by kernel_rfl))
 t3:=Tryz.underlying3
 a3:=Tryz.isAgg3
 z3:=Tryz.sizeOf3
 v3:=Tryz.zeroValue3
 t4:=Tryz.underlying4
 a4:=Tryz.isAgg4
 z4:=Tryz.sizeOf4
 v4:=Tryz.zeroValue4 }
open Go.Lib in
theorem Tryz.internal_strconv_bool2_int (b:Bool) (w:World):
  Calls Tryz.prog 117 #[.bool b] w fun e w'=>e=.returned (.int .i64 (if b then 1 else 0))∧w'=w:=Any.internal_strconv_bool2_int Tryz.Iy b w
def Tryz.Es:Go.Shelf.Ren:=⟨fun | 283=>105 | n=>n,fun | 3=>3 | 9=>9 | 4=>4 | n=>n,fun | n=>n⟩
theorem Tryz.Iz:Go.Proofs.Lays.n283 Tryz.prog Tryz.Es:={
 mixed:=by kernel_rfl
 f283:=Tryz.func105.trans (congrArg some (by kernel_rfl))
 t3:=Tryz.underlying3
 a3:=Tryz.isAgg3
 z3:=Tryz.sizeOf3
 v3:=Tryz.zeroValue3
 t4:=Tryz.underlying4
 a4:=Tryz.isAgg4
 z4:=Tryz.sizeOf4
 v4:=Tryz.zeroValue4
 t9:=Tryz.underlying9
 a9:=Tryz.isAgg9
 z9:=Tryz.sizeOf9
 v9:=Tryz.zeroValue9 }
open Go.Lib in
theorem Tryz.internal_strconv_small (i:Nat) (h:i<100) (w:World):
  Calls Tryz.prog 105 #[.int .i64 i] w fun e w'=>e=.returned (.string ⟨(Lib.decDigits i).toArray⟩)∧w'=w:=Any.internal_strconv_small Tryz.Iz i h w
def Tryz.Et:Go.Shelf.Ren:=⟨fun | 285=>107 | n=>n,fun | 37=>31 | 53=>40 | 3=>3 | 4=>4 | 51=>159 | 9=>9 | 5=>5 | 0=>0 | n=>n,fun | n=>n⟩
theorem Tryz.IA:Go.Proofs.Lays.n285 Tryz.prog Tryz.Et:={
 mixed:=by kernel_rfl
 f285:=Tryz.func107.trans (congrArg some (by kernel_rfl))
 t0:=Tryz.underlying0
 a0:=Tryz.isAgg0
 z0:=Tryz.sizeOf0
 v0:=Tryz.zeroValue0
 t3:=Tryz.underlying3
 a3:=Tryz.isAgg3
 z3:=Tryz.sizeOf3
 v3:=Tryz.zeroValue3
 t4:=Tryz.underlying4
 a4:=Tryz.isAgg4
 z4:=Tryz.sizeOf4
 v4:=Tryz.zeroValue4
 t5:=Tryz.underlying5
 a5:=Tryz.isAgg5
 z5:=Tryz.sizeOf5
 v5:=Tryz.zeroValue5
 t9:=Tryz.underlying9
 a9:=Tryz.isAgg9
 z9:=Tryz.sizeOf9
 v9:=Tryz.zeroValue9
 t37:=Tryz.underlying31
 a37:=Tryz.isAgg31
 z37:=Tryz.sizeOf31
 v37:=Tryz.zeroValue31
 t51:=Tryz.underlying159
 a51:=Tryz.isAgg159
 z51:=Tryz.sizeOf159
 v51:=Tryz.zeroValue159
 t53:=Tryz.underlying40
 a53:=Tryz.isAgg40
 z53:=Tryz.sizeOf40
 v53:=Tryz.zeroValue40 }
open Go.RowKit Go.Sort Go.Lib in
theorem Tryz.internal_strconv_formatBase10 (blk off cap:Nat) (u:Nat) (d:Array UInt8) (w:World) (hH:Holds (fun (b:UInt8)=>Value.int .u8 (b.toNat:Int)) w blk off d) (hu:u<10 ^ d.size) (lI:u<18446744073709551616) (bA:d.size<4611686018427387904):
  Calls Tryz.prog 107 #[.slice (some ⟨blk,off,none⟩) d.size cap,.int .u64 u] w fun e w'=>
   e=.returned (.tuple #[])∧∃ (n v':Nat) (dk:Array UInt8),w'=(putRow (fun (b:UInt8)=>Value.int .u8 (b.toNat:Int)) w blk off dk).drewN n∧FmtInv d.size u 0 v' dk:=Any.internal_strconv_formatBase10 Tryz.IA blk off cap u d w hH hu lI bA
def Tryz.Eu:Go.Shelf.Ren:=⟨fun | 171=>70 | 243=>96 | 246=>103 | 283=>105 | 284=>106 | 285=>107 | 286=>108 | 129=>116 | 317=>115 | 318=>117 | 319=>118 | 320=>119 | 337=>127 | 338=>128 | n=>n,fun | 3=>3 | 9=>9 | 2=>2 | 4=>4 | 171=>149 | 0=>0 | 53=>40 | 37=>31 | 5=>5 | 173=>152 | 212=>158 | 51=>159 | 20=>20 | 213=>160 | 46=>134 | 232=>167 | 233=>168 | n=>n,fun | 17=>1 | 18=>3 | 19=>4 | n=>n⟩
theorem Tryz.IB:Go.Proofs.Lays.n171 Tryz.prog Tryz.Eu:={
 mixed:=by kernel_rfl
 f129:=Tryz.func116.trans (congrArg some (by kernel_rfl))
 f171:=Tryz.func70.trans (congrArg some (by kernel_rfl))
 f243:=Tryz.func96.trans (congrArg some (by kernel_rfl))
 f246:=Tryz.func103.trans (congrArg some (by kernel_rfl))
 f283:=Tryz.func105.trans (congrArg some (by kernel_rfl))
 f284:=Tryz.func106.trans (congrArg some (by kernel_rfl))
 f285:=Tryz.func107.trans (congrArg some (by kernel_rfl))
 f286:=Tryz.func108.trans (congrArg some (by kernel_rfl))
 f317:=Tryz.func115.trans (congrArg some (by kernel_rfl))
 f318:=Tryz.func117.trans (congrArg some (by kernel_rfl))
 f319:=Tryz.func118.trans (congrArg some (by kernel_rfl))
 f320:=Tryz.func119.trans (congrArg some (by kernel_rfl))
 f337:=Tryz.func127.trans (congrArg some (by kernel_rfl))
 f338:=Tryz.func128.trans (congrArg some (by kernel_rfl))
 t0:=Tryz.underlying0
 a0:=Tryz.isAgg0
 z0:=Tryz.sizeOf0
 v0:=Tryz.zeroValue0
 t2:=Tryz.underlying2
 a2:=Tryz.isAgg2
 z2:=Tryz.sizeOf2
 v2:=Tryz.zeroValue2
 t3:=Tryz.underlying3
 a3:=Tryz.isAgg3
 z3:=Tryz.sizeOf3
 v3:=Tryz.zeroValue3
 t4:=Tryz.underlying4
 a4:=Tryz.isAgg4
 z4:=Tryz.sizeOf4
 v4:=Tryz.zeroValue4
 t5:=Tryz.underlying5
 a5:=Tryz.isAgg5
 z5:=Tryz.sizeOf5
 v5:=Tryz.zeroValue5
 t9:=Tryz.underlying9
 a9:=Tryz.isAgg9
 z9:=Tryz.sizeOf9
 v9:=Tryz.zeroValue9
 t20:=Tryz.underlying20
 a20:=Tryz.isAgg20
 z20:=Tryz.sizeOf20
 v20:=Tryz.zeroValue20
 t37:=Tryz.underlying31
 a37:=Tryz.isAgg31
 z37:=Tryz.sizeOf31
 v37:=Tryz.zeroValue31
 t46:=Tryz.underlying134
 a46:=Tryz.isAgg134
 z46:=Tryz.sizeOf134
 v46:=Tryz.zeroValue134
 t51:=Tryz.underlying159
 a51:=Tryz.isAgg159
 z51:=Tryz.sizeOf159
 v51:=Tryz.zeroValue159
 t53:=Tryz.underlying40
 a53:=Tryz.isAgg40
 z53:=Tryz.sizeOf40
 v53:=Tryz.zeroValue40
 t171:=Tryz.underlying149
 a171:=Tryz.isAgg149
 z171:=Tryz.sizeOf149
 v171:=Tryz.zeroValue149
 t173:=Tryz.underlying152
 a173:=Tryz.isAgg152
 z173:=Tryz.sizeOf152
 v173:=Tryz.zeroValue152
 t212:=Tryz.underlying158
 a212:=Tryz.isAgg158
 z212:=Tryz.sizeOf158
 v212:=Tryz.zeroValue158
 t213:=Tryz.underlying160
 a213:=Tryz.isAgg160
 z213:=Tryz.sizeOf160
 t232:=Tryz.underlying167
 a232:=Tryz.isAgg167
 z232:=Tryz.sizeOf167
 v232:=Tryz.zeroValue167
 t233:=Tryz.underlying168
 a233:=Tryz.isAgg168
 z233:=Tryz.sizeOf168
 v233:=Tryz.zeroValue168
 g17:=by kernel_rfl
 g18:=by kernel_rfl
 g19:=by kernel_rfl }
open Go.RowKit Go.Sort Go.Lib in
theorem Tryz.strconv_Itoa_small (i:Nat) (hi:i<100) (w:World):
  Calls Tryz.prog 70 #[.int .i64 i] w fun e w'=>e=.returned (.string ⟨(Lib.decDigits i).toArray⟩)∧w'=w:=Any.strconv_Itoa_small Tryz.IB i hi w
def Tryz.Ev:Go.Shelf.Ren:=⟨fun | 219=>109 | 217=>113 | 225=>120 | 224=>121 | 267=>122 | 266=>126 | 314=>129 | n=>n,fun | 9=>9 | 3=>3 | 4=>4 | 5=>5 | 46=>134 | 146=>165 | 51=>159 | n=>n,fun | 1=>2 | n=>n⟩
theorem Tryz.IC:Go.Proofs.Lays.n219 Tryz.prog Tryz.Ev:={
 mixed:=by kernel_rfl
 f217:=Tryz.func113.trans (congrArg some (by kernel_rfl))
 f219:=Tryz.func109.trans (congrArg some (by kernel_rfl))
 f224:=Tryz.func121.trans (congrArg some (by kernel_rfl))
 f225:=Tryz.func120.trans (congrArg some (by kernel_rfl))
 f266:=Tryz.func126.trans (congrArg some (by kernel_rfl))
 f267:=Tryz.func122.trans (congrArg some (by kernel_rfl))
 f314:=Tryz.func129.trans (congrArg some (by kernel_rfl))
 t3:=Tryz.underlying3
 a3:=Tryz.isAgg3
 z3:=Tryz.sizeOf3
 v3:=Tryz.zeroValue3
 t4:=Tryz.underlying4
 a4:=Tryz.isAgg4
 z4:=Tryz.sizeOf4
 v4:=Tryz.zeroValue4
 t5:=Tryz.underlying5
 a5:=Tryz.isAgg5
 z5:=Tryz.sizeOf5
 v5:=Tryz.zeroValue5
 t9:=Tryz.underlying9
 a9:=Tryz.isAgg9
 z9:=Tryz.sizeOf9
 v9:=Tryz.zeroValue9
 t46:=Tryz.underlying134
 a46:=Tryz.isAgg134
 z46:=Tryz.sizeOf134
 v46:=Tryz.zeroValue134
 t51:=Tryz.underlying159
 a51:=Tryz.isAgg159
 z51:=Tryz.sizeOf159
 v51:=Tryz.zeroValue159
 t146:=Tryz.underlying165
 a146:=Tryz.isAgg165
 z146:=Tryz.sizeOf165
 v146:=Tryz.zeroValue165
 g1:=by kernel_rfl }
open Go.RowKit Go.Lib in
theorem Tryz.stringslite_Index_one (s:ByteArray) (c:UInt8) (w:World):
  Calls Tryz.prog 109 #[.string s,.string ⟨#[c]⟩] w fun e w'=>e=.returned (.int .i64 (Lib.indexByte s.data.toList c))∧w'=w:=Any.stringslite_Index_one Tryz.IC s c w
def Tryz.Ew:Go.Shelf.Ren:=⟨fun | 143=>112 | 219=>109 | 217=>113 | 225=>120 | 224=>121 | 267=>122 | 266=>126 | 314=>129 | n=>n,fun | 9=>9 | 3=>3 | 4=>4 | 5=>5 | 46=>134 | 146=>165 | 51=>159 | n=>n,fun | 1=>2 | n=>n⟩
theorem Tryz.ID:Go.Proofs.Lays.n143 Tryz.prog Tryz.Ew:={
 mixed:=by kernel_rfl
 f143:=Tryz.func112.trans (congrArg some (by kernel_rfl))
 f217:=Tryz.func113.trans (congrArg some (by kernel_rfl))
 f219:=Tryz.func109.trans (congrArg some (by kernel_rfl))
 f224:=Tryz.func121.trans (congrArg some (by kernel_rfl))
 f225:=Tryz.func120.trans (congrArg some (by kernel_rfl))
 f266:=Tryz.func126.trans (congrArg some (by kernel_rfl))
 f267:=Tryz.func122.trans (congrArg some (by kernel_rfl))
 f314:=Tryz.func129.trans (congrArg some (by kernel_rfl))
 t3:=Tryz.underlying3
 a3:=Tryz.isAgg3
 z3:=Tryz.sizeOf3
 v3:=Tryz.zeroValue3
 t4:=Tryz.underlying4
 a4:=Tryz.isAgg4
 z4:=Tryz.sizeOf4
 v4:=Tryz.zeroValue4
 t5:=Tryz.underlying5
 a5:=Tryz.isAgg5
 z5:=Tryz.sizeOf5
 v5:=Tryz.zeroValue5
 t9:=Tryz.underlying9
 a9:=Tryz.isAgg9
 z9:=Tryz.sizeOf9
 v9:=Tryz.zeroValue9
 t46:=Tryz.underlying134
 a46:=Tryz.isAgg134
 z46:=Tryz.sizeOf134
 v46:=Tryz.zeroValue134
 t51:=Tryz.underlying159
 a51:=Tryz.isAgg159
 z51:=Tryz.sizeOf159
 v51:=Tryz.zeroValue159
 t146:=Tryz.underlying165
 a146:=Tryz.isAgg165
 z146:=Tryz.sizeOf165
 v146:=Tryz.zeroValue165
 g1:=by kernel_rfl }
open Go.RowKit Go.Lib in
theorem Tryz.strings_Index_one (s:ByteArray) (c:UInt8) (w:World):
  Calls Tryz.prog 112 #[.string s,.string ⟨#[c]⟩] w fun e w'=>e=.returned (.int .i64 (Lib.indexByte s.data.toList c))∧w'=w:=Any.strings_Index_one Tryz.ID s c w
def Tryz.Ex:Go.Shelf.Ren:=⟨fun | 138=>111 | 195=>123 | 218=>125 | 143=>112 | 219=>109 | 217=>113 | 225=>120 | 224=>121 | 267=>122 | 266=>126 | 314=>129 | n=>n,fun | 9=>9 | 3=>3 | 4=>4 | 5=>5 | 0=>0 | 46=>134 | 146=>165 | 51=>159 | n=>n,fun | 1=>2 | n=>n⟩
theorem Tryz.IE:Go.Proofs.Lays.n138 Tryz.prog Tryz.Ex:={
 mixed:=by kernel_rfl
 f138:=Tryz.func111.trans (congrArg some (by kernel_rfl))
 f143:=Tryz.func112.trans (congrArg some (by kernel_rfl))
 f195:=Tryz.func123.trans (congrArg some (by kernel_rfl))
 f217:=Tryz.func113.trans (congrArg some (by kernel_rfl))
 f218:=Tryz.func125.trans (congrArg some (by kernel_rfl))
 f219:=Tryz.func109.trans (congrArg some (by kernel_rfl))
 f224:=Tryz.func121.trans (congrArg some (by kernel_rfl))
 f225:=Tryz.func120.trans (congrArg some (by kernel_rfl))
 f266:=Tryz.func126.trans (congrArg some (by kernel_rfl))
 f267:=Tryz.func122.trans (congrArg some (by kernel_rfl))
 f314:=Tryz.func129.trans (congrArg some (by kernel_rfl))
 t0:=Tryz.underlying0
 a0:=Tryz.isAgg0
 z0:=Tryz.sizeOf0
 v0:=Tryz.zeroValue0
 t3:=Tryz.underlying3
 a3:=Tryz.isAgg3
 z3:=Tryz.sizeOf3
 v3:=Tryz.zeroValue3
 t4:=Tryz.underlying4
 a4:=Tryz.isAgg4
 z4:=Tryz.sizeOf4
 v4:=Tryz.zeroValue4
 t5:=Tryz.underlying5
 a5:=Tryz.isAgg5
 z5:=Tryz.sizeOf5
 v5:=Tryz.zeroValue5
 t9:=Tryz.underlying9
 a9:=Tryz.isAgg9
 z9:=Tryz.sizeOf9
 v9:=Tryz.zeroValue9
 t46:=Tryz.underlying134
 a46:=Tryz.isAgg134
 z46:=Tryz.sizeOf134
 v46:=Tryz.zeroValue134
 t51:=Tryz.underlying159
 a51:=Tryz.isAgg159
 z51:=Tryz.sizeOf159
 v51:=Tryz.zeroValue159
 t146:=Tryz.underlying165
 a146:=Tryz.isAgg165
 z146:=Tryz.sizeOf165
 v146:=Tryz.zeroValue165
 g1:=by kernel_rfl }
open Go.RowKit Go.Lib in
theorem Tryz.strings_Count_one (s:ByteArray) (c:UInt8) (w:World):
  Calls Tryz.prog 111 #[.string s,.string ⟨#[c]⟩] w fun e w'=>e=.returned (.int .i64 (Lib.countByte s.data.toList c))∧w'=w:=Any.strings_Count_one Tryz.IE s c w
end Go.Proofs
namespace Go.Proofs.YtcnpikbbmbombaaGreatDoor
open Go.RowKit
variable {mk:Bool} {P:Program} {T:aP} {f:FuncId} {R:fq} {a:Act} {w:World} {D:List Nat} {w0:World} {K0:World→Prop} {E:List (Nat×AV)} {M:List ai} {β:Beta} {F:Nat→ak} {I:ak} {sz:Nat} {todo todo':List Item}
theorem aF.rangeFunc {g:Operand} {ps:Array Tmp} {cY body:Code} {k:List Item} {l:Nat} {mark:List Deferred} {w1 w2 wd:World} {gf:FuncId} {args:Array Value} {dd:Deferred} (lZ:R.ro=none)
  (he:(Instr.enterLoop f a.tmps ps cY body none).run P w=.ok (l,mark) w1) (MT:(resolve a.eval (rangeCall g l) 0).run P w1=.ok dd wd) (hinv:(invoke dd.target dd.args).run P wd=.ok (.enter gf args) w2)
  (hc:Calls P gf args w2 fun e w3=>∃ v,e=.returned v∧∃ j w4,(Instr.endLoop l).run P w3=.ok j w4∧aF P f ((j.map Item.code).toList++k) R { a with defers:=mark++a.defers } w4):aF P f (.code (.rangeFunc g ps cY body)::k) R a w:=by
 intro b cs hb hk hr
 have Oa:b.roundOf=none:=hr.trans lZ
 have s1:=stepR_rangeFunc (P:=P) (b:=b) (a:=a) (k:=k) (cs:=cs) (w:=w) (by rw [hb,Oa];exact he) MT hinv
 obtain ⟨e,w3,fr,⟨v,rfl,j,w4,td,hg⟩,Lo,ni,JN⟩:=hc (b.atR { a with defers:=mark++a.defers } (.inRangeFunc l::k)::cs)
 have s2:=step_leave_returned (P:=P) (c:=b.atR { a with defers:=mark++a.defers } (.inRangeFunc l::k)) (cs:=cs) JN
 rw [finish_atR_inRangeFunc] at s2
 have s3:=stepR_endRangeFunc (P:=P) (b:=b) (a:={ a with defers:=mark++a.defers }) (k:=k) (cs:=cs) td
 have hs:Steps P _ _:=Lo
 exact (hg b cs hb hk hr).of ((Steps.one s1).trans (hs.trans ((Steps.one s2).trans (.one s3))))
def qv (E:List (Nat×AV)):List Nat→Option (List (Nat×AV))
 | []=>some []
 | t::r=>(match b5 E t,qv E r with | some v,some l=>some ((t,v)::l) | _,_=>none)
theorem Ak:∀ {ts:List Nat} {E1:List (Nat×AV)},qv E ts=some E1→∀ x ∈ E1,b5 E x.1=some x.2
 | [],E1,h,x,hx=>by simp only [qv,Option.some.injEq] at h;subst h;cases hx
 | t::r,E1,h,x,hx=>by
  unfold qv at h
  split at h
  ·rename_i v l h1 h2
   simp only [Option.some.injEq] at h;subst h
   rcases List.mem_cons.1 hx with rfl | hx
   ·exact h1
   ·exact Ak h2 x hx
  ·simp at h
def LS.still:LS→Bool
 | .busy=>false
 | _=>true
def LS.then:LS→List Item→List Item
 | .left,k=>.code .ret::k
 | _,k=>k
def Al (P:Program) (T:aP) (f:FuncId) (sz:Nat) (tb:dv) (n:Nat) (l ts:List Nat) (x:AV) (M':List ai) (cE w7:List Nat) (todo:List Item) (E:List (Nat×AV)) (M:List ai):Option (List Item×Prop×List (Nat×AV)×List ai):=
 match dB P T (walk P T 3) sz tb n todo ⟨[],E,M,[],[]⟩ with
 | some (.code (.rangeFunc (.tmp g) ps cY body)::k,s)=>(match b5 s.E g,qv s.E ts with
  | some (.fn gf cu),some E1=>(match kc (l++[s.M.length]) (.yl s.M.length::cu),fX (l++[s.M.length]) (s.M++[.lp .ready f sz E1 ⟨ps,cY,body⟩]) (l++[s.M.length]) with
   | some told,some Ms=>bif nodupB (l++[s.M.length])&&Nat.ble (l++[s.M.length]).length M'.length&&ig P gf&&nodupB cE then
    (match (lE (jg (s.M++[.lp .ready f sz E1 ⟨ps,cY,body⟩]) (l++[s.M.length])++(M'.drop (l++[s.M.length]).length).map (fp (outer (l++[s.M.length]) (s.M.length+1)))) (l++[s.M.length]) ((M'.take (l++[s.M.length]).length).map (fp (outer (l++[s.M.length]) (s.M.length+1)))))[s.M.length]? with
    | some (.lp ls _ _ _ _)=>bif ls.still then kL cE w7 (ls.then k) ⟨aE P gf told Ms x M'::s.vc,s.E,(lE (jg (s.M++[.lp .ready f sz E1 ⟨ps,cY,body⟩]) (l++[s.M.length])++(M'.drop (l++[s.M.length]).length).map (fp (outer (l++[s.M.length]) (s.M.length+1)))) (l++[s.M.length]) ((M'.take (l++[s.M.length]).length).map (fp (outer (l++[s.M.length]) (s.M.length+1))))).set s.M.length .dead,[],[]⟩ else none
    | _=>none) else none
   | _,_=>none)
  | _,_=>none)
 | _=>none
theorem He {l:Nat} {r:Loop} {ls:LS} (h:w.heap[l]?=some (.loop r)) (bB:ls.still=true) (hs:r.state=ls.state) (hp:r.pending=ls.kf):(Instr.endLoop l).run P w=.ok ls.kf (cg w l (.loop { r with state:=.exhausted })):=by
 unfold Instr.endLoop Instr.getLoop
 simp only [Sem.run_bind,qb h rfl,Result.andThen_ok,Sem.run_pure,hs,hp]
 rw [if_neg (by cases ls<;>first | decide | simp [LS.still] at bB)]
 simp only [Sem.run_bind,r6 h rfl,Result.andThen_ok,Sem.run_pure]
theorem LS.then_eq (ls:LS) (k:List Item):(ls.kf.map Item.code).toList++k=ls.then k:=by cases ls<;>rfl
theorem IF (hT:aZ P T=true) (hm:P.follows .mixedOrders=true) (hK:∀ w,Kp D w0 w→K0 w) (lZ:R.ro=none) (tb:dv) (n:Nat) (l ts:List Nat) (x:AV) (M':List ai) (cE w7:List Nat) {A:Prop} {E2:List (Nat×AV)} {M2:List ai} (r:cC true D w0 K0 sz E M a w)
  (h:Al P T f sz tb n l ts x M' cE w7 todo E M=some (todo',A,E2,M2)) (hA:A) (k:∀ a' w',cC true D w0 K0 sz E2 M2 a' w'→aF P f todo' R a' w'):aF P f todo R a w:=by
 unfold Al at h
 split at h
 rotate_left
 ·simp at h
 rename_i g ps cY body k0 s hr
 split at h
 rotate_left
 ·simp at h
 rename_i gf cu E1 hg yM
 split at h
 rotate_left
 ·simp at h
 rename_i told Ms oY nZ
 generalize hC:l++[s.M.length]=l2 at h oY nZ
 generalize Ob:(ai.lp .ready f sz E1 ⟨ps,cY,body⟩)=lp at h nZ
 cases hc:(nodupB l2&&Nat.ble l2.length M'.length&&ig P gf&&nodupB cE) with
 | false=>simp only [hc,cond_false,reduceCtorEq] at h
 | true=>
  simp only [hc,cond_true] at h
  simp only [Bool.and_eq_true] at hc
  obtain ⟨⟨⟨gD,hle⟩,kd⟩,Lp⟩:=hc
  generalize Oc:lE (jg (s.M++[lp]) l2++(M'.drop l2.length).map (fp (outer l2 (s.M.length+1)))) l2 ((M'.take l2.length).map (fp (outer l2 (s.M.length+1))))=Mo at h
  split at h
  rotate_left
  ·simp at h
  rename_i ls f9 Pt E9 l3 Cw
  cases bB:ls.still with
  | false=>simp only [bB,cond_false,reduceCtorEq] at h
  | true=>
  simp only [bB,cond_true] at h
  obtain ⟨rfl,rfl,h3,h4⟩:=oB h
  obtain ⟨gl,q4⟩:=hA
  refine n7 hT (iI hT hm 3) hm hK n hr r q4 fun a w r=>?_
  obtain ⟨bA,I,lV,β,F,Rm,hs⟩:=r
  have jX:=hs g _ hg
  generalize hy:a.eval (.tmp g)=y at jX
  cases jX with
  | fn cs cG gx=>
   have he:=run_enterLoop_outer (P:=P) (w:=w) f a.tmps ps cY body
   refine aF.rangeFunc (wd:=(w.alloc (.deferred (some []))).alloc (.loop { state:=.ready,pending:=none,fn:=f,tmps:=a.tmps,params:=ps,assign:=cY,body,defers:=w.heap.size })) (w2:=(w.alloc (.deferred (some []))).alloc (.loop { state:=.ready,pending:=none,fn:=f,tmps:=a.tmps,params:=ps,assign:=cY,body,defers:=w.heap.size })) (gf:=gf) (args:=#[.func (.yield (w.heap.size+1)) #[] #[]]++cs.toArray) (dd:={ target:=.fn (.func gf) cs.toArray,args:=#[.func (.yield (w.heap.size+1)) #[] #[]] }) lZ he (by
    simp only [resolve,hy]
    simp [go_sem]) (by simp [invoke,go_sem,zY kd]) ?_
   have R1:RM D w0 K0 s.M β F ((w.heap.size,.deferred (some []))::I) (w.alloc (.deferred (some []))):=by
    refine ⟨Rm.len,fun u b hb=>(Rm.blk u b hb).mono (fun w hw=>⟨hw.1,(Holds.app.1 (show Holds w ([_]++I) from hw.2)).2⟩) (Ext.refl _),?_⟩
    have:=Rm.st.alloc (.deferred (some []))
    exact this.perm (by classical rw [List.perm_iff_count];intro z;simp only [List.count_append,List.count_cons];omega)
   have gI:bS I ((w.heap.size,.deferred (some []))::I):=⟨[_],rfl⟩
   have ng:∀ t v,b5 s.E t=some v→ax (fun w'=>K0 w'∧Holds w' ((w.heap.size,.deferred (some []))::I)) β v (a.eval (.tmp t)):=fun t v hv=>(hs t v hv).mono (fun w hw=>⟨hw.1,gI.holds w hw.2⟩) (Ext.refl _)
   have R2:=R1.new (q:=(some ⟨w.heap.size+1,0,none⟩,0)) (blk:=lp) (Gr.alloc _ (.loop { state:=.ready,pending:=none,fn:=f,tmps:=a.tmps,params:=ps,assign:=cY,body,defers:=w.heap.size })) (by have:=du.alloc (w.alloc (.deferred (some []))) (.loop { state:=.ready,pending:=none,fn:=f,tmps:=a.tmps,params:=ps,assign:=cY,body,defers:=w.heap.size });rwa [World.size_alloc] at this) (by
    subst Ob
    exact .lp (bz:=.ready) (gQ R1 _) bA fun x hx=>(ng x.1 x.2 (Ak yM x hx)).mono (fun _ h=>h) (Ext.app _ _))
   have Lq:(s.M++[lp]).length=s.M.length+1:=by simp
   have iz:=gQ R1 (some ⟨w.heap.size+1,0,none⟩,0)
   have cF:=zl (vs:=.yl s.M.length::cu) (ys:=.func (.yield (w.heap.size+1)) #[] #[]::cs) R2 hK (by simp [cG]) (fun j c y e1 e2=>by
    cases j with
    | zero=>simp at e1 e2;subst e1 e2;exact .yl iz
    | succ j=>simp at e1 e2;exact ((gx j c y e1 e2).mono (fun w hw=>⟨hw.1,gI.holds w hw.2⟩) (Ext.refl _)).mono (fun _ h=>h) (Ext.app _ _)) oY nZ (oy gD) (Nat.le_of_ble_eq_true hle) gl
   rw [Lq,Oc] at cF
   have Lr:(#[.func (.yield (w.heap.size+1)) #[] #[]]++cs.toArray:Array Value)=(Value.func (.yield (w.heap.size+1)) #[] #[]::cs).toArray:=by simp
   rw [Lr]
   refine cF.mono ?_
   rintro e w3 ⟨v,rfl,yU,F3,I3,R3,e3,g3,-,-⟩
   refine ⟨v,rfl,?_⟩
   obtain ⟨H,hF,hB,hH⟩:=R3.at Cw
   have Od:yU[s.M.length]?=some (some ⟨w.heap.size+1,0,none⟩,0):=e3 _ _ (by simp) iz
   cases hB with
   | @lp b0 c0 f0 NX nR bz E0 NY tmps hb OX Dy=>
    rw [Od] at hb;cases hb
    refine ⟨_,_,He (ls:=ls) hH.one bB rfl rfl,?_⟩
    rw [LS.then_eq]
    have R4:=R3.x.fo Cw
    rw [List.nil_append,hF] at R4
    have R5:RM D w0 K0 (Mo.set s.M.length .dead) yU (aN F3 s.M.length []) I3 (cg w3 (w.heap.size+1) (.loop { state:=.exhausted,pending:=ls.kf,fn:=f9,tmps,params:=l3.ps,assign:=l3.cY,body:=l3.body,defers:=nR })):=by
     refine ⟨R4.len,R4.blk,?_⟩
     have s1:=(R4.st.perm (K:=(w.heap.size+1,.loop { state:=ls.state,pending:=ls.kf,fn:=f9,tmps,params:=l3.ps,assign:=l3.cY,body:=l3.body,defers:=nR })::((List.range (Mo.set s.M.length .dead).length).flatMap (aN F3 s.M.length [])++I3)) (by classical rw [List.perm_iff_count];intro z;simp only [List.count_append,List.count_cons,List.count_nil];omega)).set (.loop { state:=.exhausted,pending:=ls.kf,fn:=f9,tmps,params:=l3.ps,assign:=l3.cY,body:=l3.body,defers:=nR })
     exact St.ma (H:=[_]) s1
    refine k _ _ (cC.l0 (mk:=true) (a:={ a with defers:=[{ target:=.collected w.heap.size,args:=#[] }]++a.defers }) (E:=s.E) (M:=Mo.set s.M.length .dead) ⟨bA,I3,?_,yU,_,R5,fun t v hv=>?_⟩ Lp h3 h4)
    ·have:=Mk.grow lV (gI.trans g3)
     refine ⟨List.nodup_cons.2 ⟨fun hd=>?_,this.1⟩,fun d hd=>?_⟩
     ·obtain ⟨b,e1,e2⟩:=lV.2 _ hd
      cases e1
      have aO:=(Array.getElem?_eq_some_iff.1 ((Holds.app.1 Rm.st.holds).2 _ e2)).1
      exact absurd aO (Nat.lt_irrefl _)
     rcases List.mem_append.1 hd with hd | hd
     ·rw [List.mem_singleton] at hd;subst hd
      obtain ⟨J,hJ⟩:=g3
      exact ⟨_,rfl,by rw [hJ];exact List.mem_append_right _ List.mem_cons_self⟩
     ·exact this.2 d hd
    ·exact ((ng t v hv).mono (fun w hw=>⟨hw.1,g3.holds w hw.2⟩) (Ext.refl _)).mono (fun _ h=>h) (fun u q hq=>e3 u q (by simp) (Ext.app _ _ _ _ hq))
end Go.Proofs.YtcnpikbbmbombaaGreatDoor
namespace Go.Proofs.YtcnpikbbmbombaaGreatDoor
open Go.RowKit
variable {mk:Bool} {P:Program} {T:aP} {f:FuncId} {R:fq} {Re:Ending→World→Prop} {a:Act} {w:World} {D:List Nat} {w0:World} {K0:World→Prop} {E:List (Nat×AV)} {M:List ai} {β:Beta} {F:Nat→ak} {I H:ak} {sz:Nat} {tb:dv} {todo todo':List Item}
def iv (x:AV):Prop:=∀ (K K':World→Prop) (β:Beta) (y:Value),ax K β x y→ax K' β x y
def ju (b:ai):Prop:=∀ (K K':World→Prop) (β:Beta) (u:Nat) (H:ak),bF K β u b H→bF K' β u b H
theorem iv.v (x:Value):iv (.d (.v x)):=fun K K' β y r=>by cases r with | d r=>cases r with | v=>exact .d (.v _)
theorem iv.pt (u o:Nat):iv (.pt u o):=fun K K' β y r=>by cases r with | pt h=>exact .pt h
theorem iv.sl (u n:Nat):iv (.sl u n):=fun K K' β y r=>by cases r with | sl h=>exact .sl h
theorem ju.bx {T:Nat} {cells:List AV} (h:∀ c ∈ cells,iv c):ju (.bx T cells):=fun K K' β u H r=>by
 cases r with | bx hb ys hl hr=>exact .bx hb ys hl (fun j c y h1 h2=>h c (List.mem_of_getElem? h1) _ _ _ _ (hr j c y h1 h2))
def ti (P:Program):List Deferred→World→World→Prop
 | [],w,w'=>w=w'
 | d::ds,w,w'=>∃ b w1,d.target=.collected b∧(Instr.takeDeferred b).run P w=.ok [] w1∧ti P ds w1 w'
theorem zu {cs:List Frame}:∀ {ds:List Deferred} {fr:Frame} {w w':World},fr.mode=.returning→fr.defers=ds→ti P ds w w'→Steps P (lone fr cs w) (lone { fr with defers:=[] } cs w')
 | [],fr,w,w',_,hd,h=>by cases h;rw [show ({ fr with defers:=[] }:Frame)=fr by cases fr;simp_all];exact Steps.refl P _
 | d::ds,fr,w,w',hm,hd,⟨b,w1,h1,h2,h3⟩=>by
  have s1:=step_collected (P:=P) (fr:=fr) (cs:=cs) (by rw [hm];simp) hd h1 h2
  have s2:=zu (cs:=cs) (ds:=ds) (fr:={ fr with defers:=[]++ds }) hm rfl h3
  exact (Steps.one s1).trans s2
theorem aF.MU {fn:Func} {k:List Item} (hf:P.funcs[f]?=some fn) {w':World} (hm:ti P a.defers w w') {v:Value} (hr:(results fn a.tmps).run P w'=.ok v w') (h:Re (.returned v) w'):aF P f (.code .ret::k) (.ends Re) a w:=by
 intro b cs hb hk lZ
 rw [Frame.atR_of_none lZ]
 have s2:=zu (P:=P) (cs:=cs) (fr:={ b.at a (.code .ret::k) with mode:=.returning }) rfl rfl hm
 exact ⟨.returned v,w',{ b.at a (.code .ret::k) with mode:=.returning,defers:=[] },h,.of_steps ((Steps.one step_ret).trans s2) (Steps.refl P _),hb,rfl,rfl,hk,fn,by rw [← hb] at hf;exact hf,hr⟩
theorem Hf {b:Nat} {w:World} (h:w.heap[b]?=some (.deferred (some []))):(Instr.takeDeferred b).run P w=.ok [] (cg w b (.deferred none)):=by
 unfold Instr.takeDeferred
 simp only [Sem.run_bind,qb h rfl,Result.andThen_ok,Sem.run_pure,r6 h rfl]
theorem Am:∀ {ds:List Deferred} {I:ak} {w:World},ds.Nodup→(∀ d ∈ ds,∃ b,d={ target:=.collected b,args:=#[] }∧(b,Obj.deferred (some [])) ∈ I)→St D w0 w (H++I)→∃ w' I',ti P ds w w'∧St D w0 w' (H++I')
 | [],I,w,_,_,s=>⟨w,I,rfl,s⟩
 | d::ds,I,w,hn,h,s=>by
  obtain ⟨b,rfl,hb⟩:=h d List.mem_cons_self
  obtain ⟨s1,s2,rfl⟩:=List.append_of_mem hb
  rw [List.nodup_cons] at hn
  have e1:St D w0 w ((b,.deferred (some []))::(H++(s1++s2))):=s.perm (by classical rw [List.perm_iff_count];intro z;simp only [List.count_append,List.count_cons];omega)
  have e2:=e1.set (.deferred none)
  have e3:St D w0 (cg w b (.deferred none)) (H++((b,.deferred none)::(s1++s2))):=e2.perm (by classical rw [List.perm_iff_count];intro z;simp only [List.count_append,List.count_cons];omega)
  obtain ⟨w',I',g1,g2⟩:=Am (ds:=ds) hn.2 (fun d hd=>by
   obtain ⟨c,rfl,hc⟩:=h d (List.mem_cons_of_mem _ hd)
   refine ⟨c,rfl,?_⟩
   have jT:c≠b:=fun e=>hn.1 (e▸hd)
   rcases List.mem_append.1 hc with hc | hc
   ·exact List.mem_cons_of_mem _ (List.mem_append_left _ hc)
   ·rcases List.mem_cons.1 hc with hc | hc
    ·cases hc;exact absurd rfl jT
    ·exact List.mem_cons_of_mem _ (List.mem_append_right _ hc)) e3
  exact ⟨w',I',⟨b,_,rfl,Hf e1.holds.one,g1⟩,g2⟩
def vd (P:Program) (T:aP) (sz:Nat) (tb:dv) (n:Nat) (cE ts:List Nat) (todo:List Item) (E:List (Nat×AV)) (M:List ai):Option (Prop×List (Nat×AV)×List ai):=
 bif nodupB cE then (match dB P T (walk P T 3) sz tb n todo ⟨[],E,M,[],[]⟩ with
 | some (.code .ret::_,s)=>(match fX cE s.M cE,jr cE s.E ts with
  | some M',some E'=>some (bk s.vc,E',M')
  | _,_=>none)
 | _=>none) else none
theorem JO (hT:aZ P T=true) (hm:P.follows .mixedOrders=true) (hK:∀ w,Kp D w0 w→K0 w) {fn:Func} (hf:P.funcs[f]?=some fn) (tb:dv) (n:Nat) (cE ts:List Nat) {A:Prop} {E':List (Nat×AV)} {M':List ai} (r:cC true D w0 K0 sz E M a w)
  (h:vd P T sz tb n cE ts todo E M=some (A,E',M')) (hA:A) (hE:∀ x ∈ E',iv x.2) (hM:∀ b ∈ M',ju b)
  (k:∀ a' w',cN D w0 K0 sz E' M' a' w'→∃ v,(results fn a'.tmps).run P w'=.ok v w'∧Re (.returned v) w'):aF P f todo (.ends Re) a w:=by
 unfold vd at h
 cases hk:nodupB cE with
 | false=>simp [hk] at h
 | true=>
  simp only [hk,cond_true] at h
  split at h
  rotate_left
  ·simp at h
  rename_i k0 s hr
  split at h
  rotate_left
  ·simp at h
  rename_i M1 E1 tH yM
  simp only [Option.some.injEq,Prod.mk.injEq] at h
  obtain ⟨yI,rfl,rfl⟩:=h
  refine n7 hT (iI hT hm 3) hm hK n hr r (by rw [yI];exact hA) fun a w r=>?_
  obtain ⟨bA,I,lV,β,F,Rm,hs⟩:=cC.l0 r hk tH yM
  obtain ⟨w',I',g1,g2⟩:=Am (P:=P) lV.1 lV.2 Rm.st
  have r':cN D w0 K0 sz E1 M1 { a with defers:=[] } w':=by
   refine ⟨bA,I',rfl,β,F,⟨Rm.len,fun u b hb=>hM b (List.mem_of_getElem? hb) _ _ _ _ _ (Rm.blk u b hb),g2⟩,fun t v hv=>?_⟩
   exact hE (t,v) (mb hv) _ _ _ _ (hs t v hv)
  obtain ⟨v,h1,h2⟩:=k _ _ r'
  exact aF.MU hf g1 h1 h2
def Lt (w0:World) (K0:World→Prop) (x:AV) (M':List ai):Ending→World→Prop:=fun e w'=>∃ v,e=.returned v∧∃ aB F' I',RM [] w0 K0 M' aB F' I' w'∧ax (fun w=>K0 w∧Holds w I') aB x v
abbrev xS (w0:World) (K0:World→Prop) (x:AV) (M':List ai):fq:=.ends (Lt w0 K0 x M')
def Cx (T:aP) (rs:List ResultVar) (E:List (Nat×AV)) (M:List ai):Option AV:=match iQ T E M rs with | some l=>some (xQ l) | none=>none
theorem Bv (hT:aZ P T=true) (hm:P.follows .mixedOrders=true) (hK:∀ w,Kp [] w0 w→K0 w) {fn:Func} (hf:P.funcs[f]?=some fn) (tb:dv) (n:Nat) (cE ts:List Nat) {A:Prop} {E':List (Nat×AV)} {M':List ai} {x:AV} (r:cC true [] w0 K0 sz E M a w)
  (h:vd P T sz tb n cE ts todo E M=some (A,E',M')) (h2:Cx T fn.results.toList E' M'=some x) (hA:A) (hE:∀ x ∈ E',iv x.2) (hM:∀ b ∈ M',ju b):aF P f todo (xS w0 K0 x M') a w:=by
 refine JO hT hm hK hf tb n cE ts r h hA hE hM fun a' w' r'=>?_
 obtain ⟨-,I,-,β,F,Rm,hs⟩:=r'
 unfold Cx at h2
 split at h2
 ·rename_i l hl
  simp only [Option.some.injEq] at h2;subst h2
  obtain ⟨ys,e1,e2,e3⟩:=oJ hT Rm hs hl
  refine ⟨_,sa rfl e1,_,rfl,β,F,I,Rm,?_⟩
  match ys,l,e2,e3 with
  | [],[],_,_=>exact .tu [] rfl (by simp)
  | [y],[v],_,e3=>exact e3 0 v y rfl rfl
  | y::y'::ys,v::v'::l,e2,e3=>exact .tu _ e2 e3
 ·simp at h2
theorem cC.mark (r:cC mk D w0 K0 sz E M a w):cC true D w0 K0 sz E M a w:=by
 cases mk with
 | true=>exact r
 | false=>obtain ⟨h1,I,h2,h3⟩:=r;exact ⟨h1,I,by rw [h2];exact Mk.nil I,h3⟩
end Go.Proofs.YtcnpikbbmbombaaGreatDoor
namespace Go.Proofs.YtcnpikbbmbombaaGreatDoor
open Go.RowKit
variable {P:Program} {f:FuncId}
theorem aE.JP {fn:Func} {c:Code} {args:List AV} {x:AV} {M':List ai} {g:Nat} {row:List DV} (kd:ig P f=true) (hf:P.funcs[f]?=some fn) (hb:fn.body=some c) (n:Nat) (hn:fn.ntmps=n) (hle:Nat.ble args.length n=true)
  (h:∀ (w0:World) (K0:World→Prop) (a:Act),(∀ w,Kp [] w0 w→K0 w)→cN [] w0 K0 n (iq args 0) [.gw g row] a w0→aF P f [.code c] (xS w0 K0 x M') a w0):aE P f args [.gw g row] (mapA (·+1) x) (.gw g row::M'.map (fp (·+1))):=by
 refine ⟨kd,?_⟩
 intro D w0 K0 β F I w ys Rm hK hl hr
 have hle:=Nat.le_of_ble_eq_true hle
 have fK:β.length=1:=Rm.len
 have l4:=Rm.blk 0 _ rfl
 have pv:F 0=[]:=by
  generalize F 0=H at l4
  cases l4;rfl
 have bB:St D w0 w ([]++I):=by
  have:=Rm.st
  simpa [List.range_succ,pv] using this
 have qZ:∀ w',Kp [] w w'→K0 w'∧Holds w' I:=fun w' k=>by
  have t:St [] w w' []:=⟨k,by simp [keys],by simp [keys],Holds.nil _⟩
  have s':=St.call bB rfl t
  rw [List.nil_append] at s'
  exact ⟨hK _ s'.kp,s'.holds⟩
 rw [pv] at l4
 have hg:=h w (fun w=>K0 w∧Holds w I) { tmps:=ys.toArray++Array.replicate (fn.ntmps-ys.toArray.size) undef,defers:=[] } qZ ⟨by simp;omega,[],rfl,β,fun _=>[],⟨fK,fun u b hu=>by
   cases u with
   | zero=>simp at hu;subst hu;exact l4.mono (fun w hw=>hw.1) (Ext.refl _)
   | succ u=>simp at hu,by simpa [List.range_succ] using St.none w⟩,by
  intro t v hv
  obtain ⟨y,rfl,rfl,hy⟩:∃ y:Nat×AV,y.1=t∧y.2=v∧y ∈ iq args 0:=⟨(t,v),rfl,rfl,mb hv⟩
  obtain ⟨-,h2⟩:=p5 args 0 y hy
  simp only [Nat.sub_zero] at h2
  obtain ⟨aO,-⟩:=List.getElem?_eq_some_iff.1 h2
  have iV:ys[y.1]?=some ys[y.1]:=List.getElem?_eq_getElem (by omega)
  have he:({ tmps:=ys.toArray++Array.replicate (fn.ntmps-ys.toArray.size) undef,defers:=[] }:Act).eval (.tmp y.1)=ys[y.1]:=by
   have:y.1<ys.length:=by omega
   simp [Act.eval,Array.getD_eq_getD_getElem?,Array.getElem?_append,this]
  rw [he]
  exact (hr y.1 y.2 _ h2 iV).mono (fun w hw=>hw.1) (Ext.refl _)⟩
 refine (pT hf hb hg).mono ?_
 rintro e w' ⟨v,rfl,aB,F',I',R',hx⟩
 have s2:=St.call bB rfl R'.st
 have cn:∀ w,K0 w∧Holds w (I'++I)→(K0 w∧Holds w I)∧Holds w I':=fun w hw=>⟨⟨hw.1,(Holds.app.1 hw.2).2⟩,(Holds.app.1 hw.2).1⟩
 have l9:∀ (u:Nat) q,aB[u]?=some q→(β++aB)[u+1]?=some q:=fun u q hq=>by
  rw [List.getElem?_append_right (by omega),fK,Nat.add_sub_cancel];exact hq
 refine ⟨v,rfl,β++aB,fun u=>match u with | 0=>[] | u+1=>F' u,I'++I,⟨by simp [fK,R'.len];omega,fun u b hu=>?_,?_⟩,Ext.app _ _,⟨I',rfl⟩,nv l9 (hx.mono cn (Ext.refl _))⟩
 ·cases u with
  | zero=>
   simp at hu;subst hu
   exact l4.mono (fun w hw=>(cn w hw).1) (Ext.app _ _)
  | succ u=>
   rw [List.getElem?_cons_succ,List.getElem?_map,Option.map_eq_some_iff] at hu
   obtain ⟨b0,eo,rfl⟩:=hu
   exact se l9 ((R'.blk u b0 eo).mono cn (Ext.refl _))
 ·rw [List.append_assoc] at s2
  rw [List.length_cons,List.length_map,List.range_succ_eq_map,List.flatMap_cons,List.nil_append,List.flatMap_map]
  exact s2
def Cy:ai→Bool
 | .gw _ _=>true
 | _=>false
theorem aE.IG {fn:Func} {c:Code} {args:List AV} {x:AV} {M' G:List ai} (hG:G.all Cy=true) (kd:ig P f=true) (hf:P.funcs[f]?=some fn) (hb:fn.body=some c) (n:Nat) (hn:fn.ntmps=n) (hle:Nat.ble args.length n=true)
  (h:∀ (w0:World) (K0:World→Prop) (a:Act),(∀ w,Kp [] w0 w→K0 w)→cN [] w0 K0 n (iq args 0) G a w0→aF P f [.code c] (xS w0 K0 x M') a w0):aE P f args G (mapA (·+G.length) x) (G++M'.map (fp (·+G.length))):=by
 refine ⟨kd,?_⟩
 intro D w0 K0 β F I w ys Rm hK hl hr
 have hle:=Nat.le_of_ble_eq_true hle
 have fK:β.length=G.length:=Rm.len
 have l4:∀ (u:Nat) b,G[u]?=some b→bF (fun w=>K0 w∧Holds w I) β u b []∧F u=[]:=fun u b hu=>by
  have hg:=List.all_eq_true.1 hG b (List.mem_of_getElem? hu)
  have h:=Rm.blk u b hu
  generalize F u=H at h
  cases b<;>simp [Cy] at hg
  cases h with | gw X hl hc hr=>exact ⟨.gw X hl hc hr,rfl⟩
 have en:(List.range G.length).flatMap F=[]:=by
  rw [List.flatMap_eq_nil_iff]
  intro u hu
  exact (l4 u _ (List.getElem?_eq_getElem (List.mem_range.1 hu))).2
 have bB:St D w0 w ([]++I):=by
  have:=Rm.st
  rwa [en] at this
 have qZ:∀ w',Kp [] w w'→K0 w'∧Holds w' I:=fun w' k=>by
  have t:St [] w w' []:=⟨k,by simp [keys],by simp [keys],Holds.nil _⟩
  have s':=St.call bB rfl t
  rw [List.nil_append] at s'
  exact ⟨hK _ s'.kp,s'.holds⟩
 have hg:=h w (fun w=>K0 w∧Holds w I) { tmps:=ys.toArray++Array.replicate (fn.ntmps-ys.toArray.size) undef,defers:=[] } qZ ⟨by simp;omega,[],rfl,β,fun _=>[],⟨fK,fun u b hu=>(l4 u b hu).1.mono (fun w hw=>hw.1) (Ext.refl _),by rw [show (List.range G.length).flatMap (fun _=>([]:ak))=[] by simp];simpa using St.none w⟩,by
  intro t v hv
  obtain ⟨y,rfl,rfl,hy⟩:∃ y:Nat×AV,y.1=t∧y.2=v∧y ∈ iq args 0:=⟨(t,v),rfl,rfl,mb hv⟩
  obtain ⟨-,h2⟩:=p5 args 0 y hy
  simp only [Nat.sub_zero] at h2
  obtain ⟨aO,-⟩:=List.getElem?_eq_some_iff.1 h2
  have iV:ys[y.1]?=some ys[y.1]:=List.getElem?_eq_getElem (by omega)
  have he:({ tmps:=ys.toArray++Array.replicate (fn.ntmps-ys.toArray.size) undef,defers:=[] }:Act).eval (.tmp y.1)=ys[y.1]:=by
   have:y.1<ys.length:=by omega
   simp [Act.eval,Array.getD_eq_getD_getElem?,Array.getElem?_append,this]
  rw [he]
  exact (hr y.1 y.2 _ h2 iV).mono (fun w hw=>hw.1) (Ext.refl _)⟩
 refine (pT hf hb hg).mono ?_
 rintro e w' ⟨v,rfl,aB,F',I',R',hx⟩
 have s2:=St.call bB rfl R'.st
 have cn:∀ w,K0 w∧Holds w (I'++I)→(K0 w∧Holds w I)∧Holds w I':=fun w hw=>⟨⟨hw.1,(Holds.app.1 hw.2).2⟩,(Holds.app.1 hw.2).1⟩
 have l9:∀ (u:Nat) q,aB[u]?=some q→(β++aB)[u+G.length]?=some q:=fun u q hq=>by
  rw [List.getElem?_append_right (by omega),fK,Nat.add_sub_cancel];exact hq
 refine ⟨v,rfl,β++aB,fun u=>if u<G.length then [] else F' (u-G.length),I'++I,⟨by simp [fK,R'.len],fun u b hu=>?_,?_⟩,Ext.app _ _,⟨I',rfl⟩,nv l9 (hx.mono cn (Ext.refl _))⟩
 ·rcases Nat.lt_or_ge u G.length with h | h
  ·rw [List.getElem?_append_left h] at hu
   simp only [h,if_true]
   exact (l4 u b hu).1.mono (fun w hw=>(cn w hw).1) (Ext.app _ _)
  ·rw [List.getElem?_append_right h,List.getElem?_map,Option.map_eq_some_iff] at hu
   obtain ⟨b0,eo,rfl⟩:=hu
   have h':¬ u<G.length:=by omega
   simp only [h',if_false]
   have:=se l9 ((R'.blk _ b0 eo).mono cn (Ext.refl _))
   rwa [Nat.sub_add_cancel h] at this
 ·rw [List.append_assoc] at s2
  have e:(List.range (G++M'.map (fp (·+G.length))).length).flatMap (fun u=>if u<G.length then [] else F' (u-G.length))=(List.range M'.length).flatMap F':=by
   rw [List.length_append,List.length_map,List.range_add,List.flatMap_append,List.flatMap_map]
   have e1:(List.range G.length).flatMap (fun u=>if u<G.length then ([]:ak) else F' (u-G.length))=[]:=by
    rw [List.flatMap_eq_nil_iff]
    intro u hu
    simp [List.mem_range.1 hu]
   rw [e1,List.nil_append]
   refine congrArg (fun q=>List.flatMap q _) ?_
   funext u;simp;intro h;omega
  rw [e];exact s2
end Go.Proofs.YtcnpikbbmbombaaGreatDoor
namespace Go.Proofs.YtcnpikbbmbombaaGreatDoor
open Go.RowKit
variable {mk:Bool} {P:Program} {T:aP} {f:FuncId} {R:fq} {a:Act} {w:World} {D:List Nat} {w0:World} {K0:World→Prop} {E:List (Nat×AV)} {M M2:List ai} {β:Beta} {F:Nat→ak} {I H:ak} {sz:Nat} {tb:dv} {todo todo':List Item}
theorem cC.word (r:cC mk D w0 K0 sz E M a w) (u:Nat) {b b':ai} (hM:M[u]?=some b) (h:∀ (K:World→Prop) (β:Beta) (H:ak),bF K β u b H→bF K β u b' H):cC mk D w0 K0 sz E (M.set u b') a w:=by
 obtain ⟨h1,I,h2,β,F,Rm,hs⟩:=r
 refine ⟨h1,I,h2,β,F,⟨by rw [List.length_set];exact Rm.len,fun v c hv=>?_,by rw [List.length_set];exact Rm.st⟩,hs⟩
 rw [List.getElem?_set] at hv
 split at hv
 ·rename_i e
  subst e
  split at hv
  ·simp only [Option.some.injEq] at hv;subst hv;exact h _ _ _ (Rm.blk u b hM)
  ·simp at hv
 ·exact Rm.blk v c hv
inductive k5:List (List DV)→List (List DV)→Prop where
 | nil:k5 [] []
 | cons {x x':List DV} {l l':List (List DV)} (h:c7 x x') (t:k5 l l'):k5 (x::l) (x'::l')
theorem k5.ok {l l':List (List DV)} (h:k5 l l'):l.length=l'.length∧∀ (i:Nat) r r',l[i]?=some r→l'[i]?=some r'→c7 r r':=by
 induction h with
 | nil=>simp
 | cons h t ih=>
  refine ⟨by simp [ih.1],fun i r r' h1 h2=>?_⟩
  cases i with
  | zero=>simp at h1 h2;subst h1 h2;exact h
  | succ i=>exact ih.2 i r r' (by simpa using h1) (by simpa using h2)
theorem cC.less (r:cC mk D w0 K0 sz E M a w) (u:Nat) {Tm k:Nat} {rows rows':List (List DV)} (hM:M[u]?=some (.rw Tm k rows)) (h:k5 rows rows'):cC mk D w0 K0 sz E (M.set u (.rw Tm k rows')) a w:=
 r.word u hM fun K β H hb=>by
  cases hb with
  | rw hb X G hl hs hr=>
   obtain ⟨e1,e2⟩:=h.ok
   rw [e1] at hs ⊢
   have key:∀ (i:Nat) r',rows'[i]?=some r'→∃ r,rows[i]?=some r∧r.length=r'.length∧∀ (j:Nat) c c',r[j]?=some c→r'[j]?=some c'→Le c c':=fun i r' hi=>by
    have aO:i<rows.length:=by rw [e1];exact (List.getElem?_eq_some_iff.1 hi).1
    have e:=List.getElem?_eq_getElem aO
    exact ⟨_,e,(e2 i _ r' e hi).ok⟩
   refine .rw hb X G (fun i r' hi=>?_) hs fun i r' j c x hi h1 h2=>?_
   ·obtain ⟨r,g1,g2,-⟩:=key i r' hi
    have:=hl i r g1;omega
   ·obtain ⟨r,g1,g2,g3⟩:=key i r' hi
    have hj:j<r.length:=by rw [g2];exact (List.getElem?_eq_some_iff.1 h1).1
    have e:=List.getElem?_eq_getElem hj
    exact g3 j _ c e h1 K x _ (hr i r j _ x g1 e h2)
def mJ:Code→List Item→List (RF×List Item)
 | .seq x y,k=>mJ x (.code y::k)++mJ y k
 | .cond _ x y,k=>mJ x k++mJ y k
 | .block i c,k=>mJ c (.inBlock i::k)
 | .loop c,k=>mJ c (.inLoop c::k)
 | .rangeFunc _ ps cY body,k=>[(⟨ps,cY,body⟩,k)]
 | _,_=>[]
def l5 (fn:Func) (n:Nat):RF:=match fn.body with | some c=>(match (mJ c [])[n]? with | some x=>x.1 | none=>⟨#[],.skip,.skip⟩) | none=>⟨#[],.skip,.skip⟩
def MV (fn:Func) (n:Nat):List Item:=match fn.body with | some c=>(match (mJ c [])[n]? with | some x=>x.2 | none=>[]) | none=>[]
def nO (id:Nat):Code→List (Array Oper)
 | .seq x y=>nO id x++nO id y
 | .cond _ x y=>nO id x++nO id y
 | .block _ c=>nO id c
 | .loop c=>nO id c
 | .region i ops _=>bif i.beq id then [ops] else []
 | _=>[]
def ops (fn:Func) (id:Nat):Array Oper:=match fn.body with | some c=>(match nO id c with | o::_=>o | []=>#[]) | none=>#[]
end Go.Proofs.YtcnpikbbmbombaaGreatDoor
namespace Go.Proofs.YtcnpikbbmbombaaGreatDoor
open Go.RowKit
def sO (G:List ai) (K:World→Prop):Prop:=∀ (u:Nat) blk,G[u]?=some blk→bF K [] u blk []
theorem sO.rm {G:List ai} {K:World→Prop} (h:sO G K) (w:World):RM [] w K G (List.replicate G.length (none,0)) (fun _=>[]) [] w:=by
 refine ⟨by simp,fun u blk hu=>(h u blk hu).mono (fun w hw=>hw.1) (fun _ _ he=>by simp at he),?_⟩
 have e:(List.range G.length).flatMap (fun _=>([]:ak))++[]=[]:=by simp
 rw [e];exact St.none w
theorem aE.JQ {P:Program} {f:FuncId} {G:List ai} {args:List AV} {w:World} (h:aE P f args G (.d (.v (.bool true))) G) {ys:List Value} (hG:sO G (Gr w)) (hl:ys.length=args.length) (hr:∀ (j:Nat) c y,args[j]?=some c→ys[j]?=some y→ax (Gr w) [] c y):Calls P f ys.toArray w fun e w'=>e=.returned (.bool true)∧Gr w w':=by
 refine (h.2 ys (hG.rm w) (fun w' k=>k.sG) hl fun j c y a b=>(hr j c y a b).mono (fun w hw=>hw.1) fun _ _ he=>by simp at he).mono ?_
 rintro e w' ⟨v,rfl,aB,F',I',R',-,-,ha⟩
 cases ha with
 | d hd=>cases hd;exact ⟨rfl,R'.st.kp.sG⟩
end Go.Proofs.YtcnpikbbmbombaaGreatDoor
namespace Go.Proofs.YtcnpikbbmbombaaGreatDoor
open Go.RowKit
structure aL where
 kind:Int
 node:Int
 peer:Int
 n:Int
 bit:Int
 inc:Nat
 body:List UInt8
deriving DecidableEq
structure bN where
 az:Int
 ah:List (Int×Int)
 homes:List Int
deriving DecidableEq
def aL.row (s:aL):List DV:=[.z s.kind,.z s.node,.z s.peer,.z s.n,.z s.bit,.u s.inc,.ro 1 (ae s.body)]
def steps (l:List aL):List (List DV):=l.map aL.row
def ah (l:List (Int×Int)):List (List DV):=l.map fun x=>[.z x.1,.z x.2]
def ints (l:List Int):List (List DV):=l.map fun n=>[.z n]
def strs (l:List (List UInt8)):List (List DV):=l.map fun s=>[.v (.string ⟨s.toArray⟩)]
theorem jb {l:List aL} {i:Nat} {s:aL} (h:l[i]?=some s):(steps l)[i]?=some s.row:=by simp [steps,h]
theorem cP {l:List (Int×Int)} {i:Nat} {x:Int×Int} (h:l[i]?=some x):(ah l)[i]?=some [.z x.1,.z x.2]:=by simp [ah,h]
theorem ints_at {l:List Int} {i:Nat} {x:Int} (h:l[i]?=some x):(ints l)[i]?=some [.z x]:=by simp [ints,h]
theorem sh {l:List (List UInt8)} {i:Nat} {x:List UInt8} (h:l[i]?=some x):(strs l)[i]?=some [.v (.string ⟨x.toArray⟩)]:=by simp [strs,h]
theorem jF {l:List UInt8} {i:Nat} {b:UInt8} (h:l[i]?=some b):(ae l)[i]?=some [.v (.int .u8 (b.toNat:Int))]:=by simp [ae,h]
theorem za (l:List UInt8) (n:Nat):ae (l.take n)=(ae l).take n:=by simp [ae,List.map_take]
theorem zb (l:List UInt8) (n:Nat):ae (l.drop n)=(ae l).drop n:=by simp [ae,List.map_drop]
theorem tR (l:List UInt8):c6 (ae l)=ae l:=by rw [kx];unfold ae;rw [List.map_map];apply List.map_congr_left;intro b _;rfl
theorem tK {t:TypeId} {xs ys:List Value} {c c':Bool} (e:lx Tryz.prog t xs ys c) (h:c=c'):lx Tryz.prog t xs ys c':=h▸e
theorem sx (a b c d:Int):lx Tryz.prog 60 [.int .i64 a,.int .i64 b] [.int .i64 c,.int .i64 d] (a==c&&b==d):=⟨by kernel_rfl,fun w=>by
 have:=Ee (P:=Tryz.prog) (w:=w) (t:=60) (e:=3) (dp:=9998) (k:=.i64) (a:=a) (b:=b) (c:=c) (d':=d) (by kernel_rfl) (by kernel_rfl) (by kernel_rfl)
 simpa [Op.equal,Op.maxDepth] using this⟩
def iS (c:bN) (n:Int):Prop:=1≤n∧n≤c.az
structure mK (c:bN):Prop where
 head:1≤c.az∧c.az≤4∧c.homes.length≤6
 link:∀ (i:Nat) x,c.ah[i]?=some x→iS c x.1∧iS c x.2∧x.1≠x.2
 lone:∀ (i k:Nat) x o,c.ah[i]?=some x→k<i→c.ah[k]?=some o→¬ (o.1=x.1∧o.2=x.2)∧¬ (o.1=x.2∧o.2=x.1)
 home:∀ (i:Nat) x,c.homes[i]?=some x→iS c x
noncomputable def bU (c:bN):Bool:=@decide (mK c) (Classical.propDecidable _)
section
variable {c:bN} {i k:Nat}
theorem jh (h:bU c=true):mK c:=@of_decide_eq_true _ (Classical.propDecidable _) h
theorem w9 (h:mK c):bU c=true:=@decide_eq_true _ (Classical.propDecidable _) h
theorem sP (h:¬ mK c):bU c=false:=@decide_eq_false _ (Classical.propDecidable _) h
theorem dT (h:c.az<1∨4<c.az∨6<(c.homes.length:Int)):bU c=false:=sP fun m=>by have:=m.head;omega
theorem dU {x:Int×Int} (g:c.ah[i]?=some x) (h:x.1<1∨c.az<x.1∨x.2<1∨c.az<x.2∨x.1=x.2):bU c=false:=sP fun m=>by have:=m.link i x g;unfold iS at this;omega
theorem dV {x o:Int×Int} (g:c.ah[i]?=some x) (hk:k<i) (g2:c.ah[k]?=some o) (h:(o.1=x.1∧o.2=x.2)∨(o.1=x.2∧o.2=x.1)):bU c=false:=sP fun m=>by have:=m.lone i k x o g hk g2;omega
theorem dW {x:Int} (g:c.homes[i]?=some x) (h:x<1∨c.az<x):bU c=false:=sP fun m=>by have:=m.home i x g;unfold iS at this;omega
def kN (c:bN) (i:Nat):Prop:=∀ (j:Nat) x,j<i→c.ah[j]?=some x→(iS c x.1∧iS c x.2∧x.1≠x.2)∧∀ (k:Nat) o,k<j→c.ah[k]?=some o→¬ (o.1=x.1∧o.2=x.2)∧¬ (o.1=x.2∧o.2=x.1)
def kO (c:bN) (x:Int×Int) (k:Nat):Prop:=∀ (j:Nat) o,j<k→c.ah[j]?=some o→¬ (o.1=x.1∧o.2=x.2)∧¬ (o.1=x.2∧o.2=x.1)
def kP (c:bN) (i:Nat):Prop:=∀ (j:Nat) x,j<i→c.homes[j]?=some x→iS c x
theorem kN.next {x:Int×Int} (h:kN c i) (g:c.ah[i]?=some x) (h1:1≤x.1∧x.1≤c.az∧1≤x.2∧x.2≤c.az∧x.1≠x.2) (h2:kO c x i):kN c (i+1):=fun j y hj gy=>by
 rcases Nat.lt_succ_iff_lt_or_eq.1 hj with h' | rfl
 ·exact h j y h' gy
 ·rw [g] at gy;cases gy
  exact ⟨⟨⟨h1.1,h1.2.1⟩,⟨h1.2.2.1,h1.2.2.2.1⟩,h1.2.2.2.2⟩,h2⟩
theorem kO.next {x o:Int×Int} (h:kO c x k) (g:c.ah[k]?=some o) (h1:¬ (o.1=x.1∧o.2=x.2)∧¬ (o.1=x.2∧o.2=x.1)):kO c x (k+1):=fun j y hj gy=>by
 rcases Nat.lt_succ_iff_lt_or_eq.1 hj with h' | rfl
 ·exact h j y h' gy
 ·rw [g] at gy;cases gy;exact h1
theorem kO.none (x:Int×Int):kO c x 0:=fun _ _ h=>absurd h (Nat.not_lt_zero _)
theorem kN.none:kN c 0:=fun _ _ h=>absurd h (Nat.not_lt_zero _)
theorem kP.none:kP c 0:=fun _ _ h=>absurd h (Nat.not_lt_zero _)
theorem kP.next {x:Int} (h:kP c i) (g:c.homes[i]?=some x) (h1:1≤x∧x≤c.az):kP c (i+1):=fun j y hj gy=>by
 rcases Nat.lt_succ_iff_lt_or_eq.1 hj with h' | rfl
 ·exact h j y h' gy
 ·rw [g] at gy;cases gy;exact h1
theorem dX (h0:1≤c.az∧c.az≤4∧(c.homes.length:Int)≤6) (h1:kN c i) (hi:c.ah.length≤i) (h2:kP c k) (hk:c.homes.length≤k):bU c=true:=w9
 ⟨by omega,fun j x g=>(h1 j x (by have:=(List.getElem?_eq_some_iff.1 g).1;omega) g).1,fun j k x o g hk g2=>(h1 j x (by have:=(List.getElem?_eq_some_iff.1 g).1;omega) g).2 k o hk g2,fun j x g=>h2 j x (by have:=(List.getElem?_eq_some_iff.1 g).1;omega) g⟩
end
theorem ec {a b c d:Int}:(a==c&&b==d)=true→a=c∧b=d:=by simp
theorem B4 {a b c d:Int}:(a==c&&b==d)=false→¬ (a=c∧b=d):=by simp
set_option maxRecDepth 100000 in
theorem qw (c:bN) (hl:c.ah.length≤9223372036854775807) (hh:c.homes.length≤9223372036854775807):al Tryz.prog 21 [.ag [.z c.az,.d (.ro 2 (ah c.ah)),.d (.ro 1 (ints c.homes))]] (.v (.bool (bU c))):=by
 refine al.intro (by kernel_rfl) rfl rfl 87 rfl rfl fun w0 K ac hK r=>?_
 cases h0:(decide ((c.az:Int)<1)) with
 | false=>
  have a7:=of_decide_eq_false h0
  cases h1:(decide ((4:Int)<c.az)) with
  | false=>
   have bP:=of_decide_eq_false h1
   have aM:=((by first | rfl | (simp [ah];omega) | simp [ae,ah,ints]):(((ints c.homes).length:Nat):Int)=((c.homes.length:Nat):Int))
   cases h2:(decide ((6:Int)<((c.homes.length:Nat):Int))) with
   | false=>
    have c8:=of_decide_eq_false h2
    refine aU (todo':=hd Tryz.f21 0) (E':=[(1,.pt 0 0),(3,.fn 52 [.pt 0 0]),(26,.d (.ro 2 (ah c.ah))),(27,.n c.ah.length),(28,.n 0)]) (M':=[.bx 25 [.z c.az,.d (.ro 2 (ah c.ah)),.d (.ro 1 (ints c.homes))]]) tk mo hK [(1,[(2,.b false),(6,.b false),(11,.z (((c.homes.length:Nat):Int))),(12,.b false)]),(4,[(2,.z (((c.ah.length:Nat):Int)))])] 2000 [0] [1,3,26,27,28] r (by kernel_rfl) (U h0 (U h1 (U aM (U h2 (U ((by first | rfl | (simp [ah];omega) | simp [ae,ah,ints]):(((ah c.ah).length:Nat):Int)=((c.ah.length:Nat):Int)) trivial))))) fun ac wd r=>?_
    refine aF.rounds (Φ:=fun (i:Nat) ac wd=>(kN c i)∧cN [] w0 K 87 [(1,.pt 0 0),(3,.fn 52 [.pt 0 0]),(26,.d (.ro 2 (ah c.ah))),(27,.n c.ah.length),(28,.n i)] [.bx 25 [.z c.az,.d (.ro 2 (ah c.ah)),.d (.ro 1 (ints c.homes))]] ac wd) (c.ah.length) ?_ (Nat.zero_le _) ⟨kN.none,r⟩
    clear r
    rintro i dw bH ac wd ⟨aq,r⟩
    cases h3:(decide ((((i:Nat):Int):Int)<((c.ah.length:Nat):Int))) with
    | false=>
     have dP:=of_decide_eq_false h3
     refine aU (todo':=hd Tryz.f21 2) (E':=[(1,.pt 0 0),(3,.fn 52 [.pt 0 0]),(76,.d (.ro 1 (ints c.homes))),(77,.n c.homes.length),(78,.n 0)]) (M':=[.bx 25 [.z c.az,.d (.ro 2 (ah c.ah)),.d (.ro 1 (ints c.homes))]]) tk mo hK [(5,[(0,.b false)]),(16,[(2,.z (((c.homes.length:Nat):Int)))])] 2000 [0] [1,3,76,77,78] r (by kernel_rfl) (U h3 (U aM trivial)) fun ac wd r=>?_
     refine aF.rounds (Φ:=fun (i:Nat) ac wd=>(kP c i)∧cN [] w0 K 87 [(1,.pt 0 0),(3,.fn 52 [.pt 0 0]),(76,.d (.ro 1 (ints c.homes))),(77,.n c.homes.length),(78,.n i)] [.bx 25 [.z c.az,.d (.ro 2 (ah c.ah)),.d (.ro 1 (ints c.homes))]] ac wd) (c.homes.length) ?_ (Nat.zero_le _) ⟨kP.none,r⟩
     clear r
     rintro i Oe vX ac wd ⟨dj,r⟩
     cases h4:(decide ((((i:Nat):Int):Int)<((c.homes.length:Nat):Int))) with
     | false=>
      have fa:=of_decide_eq_false h4
      rw [show (.v (.bool (bU c)):DV)=.v (.bool true) from (bv (by first | exact dX (by omega) aq (by omega) dj (by omega) | exact dT (by omega) | exact dW cr (by omega) | exact dV a8 (by omega) ct (by first | omega | exact .inl (ec (by assumption)) | exact .inr (ec (by assumption))) | exact dU a8 (by omega)))]
      exact aK tk mo hK rfl [(17,[(0,.b false)])] 2000 r (by kernel_rfl) (U h4 trivial)
     | true=>
      have fa:=of_decide_eq_true h4
      obtain ⟨cW,cr⟩:∃ x_,c.homes[i]?=some x_:=⟨_,List.getElem?_eq_getElem (by omega)⟩
      cases h5:(decide ((1:Int)≤cW)) with
      | false=>
       have fb:=of_decide_eq_false h5
       rw [show (.v (.bool (bU c)):DV)=.v (.bool false) from (bv (by first | exact dX (by omega) aq (by omega) dj (by omega) | exact dT (by omega) | exact dW cr (by omega) | exact dV a8 (by omega) ct (by first | omega | exact .inl (ec (by assumption)) | exact .inr (ec (by assumption))) | exact dU a8 (by omega)))]
       exact aK tk mo hK rfl [(17,[(0,.b true)]),(18,[(0,.ix (i) [.z cW])]),(19,[(2,.bX 200 [(1,[(1,.b false)])])])] 2000 r (by kernel_rfl) (U h4 (U (aC ((i:Nat):Int)) (U (ints_at cr) (U h5 trivial))))
      | true=>
       have fb:=of_decide_eq_true h5
       cases h6:(decide ((cW:Int)≤c.az)) with
       | false=>
        have fL:=of_decide_eq_false h6
        rw [show (.v (.bool (bU c)):DV)=.v (.bool false) from (bv (by first | exact dX (by omega) aq (by omega) dj (by omega) | exact dT (by omega) | exact dW cr (by omega) | exact dV a8 (by omega) ct (by first | omega | exact .inl (ec (by assumption)) | exact .inr (ec (by assumption))) | exact dU a8 (by omega)))]
        exact aK tk mo hK rfl [(17,[(0,.b true)]),(18,[(0,.ix (i) [.z cW])]),(19,[(2,.bX 200 [(1,[(1,.b true),(6,.b false)])])])] 2000 r (by kernel_rfl) (U h4 (U (aC ((i:Nat):Int)) (U (ints_at cr) (U h5 (U h6 trivial)))))
       | true=>
        have fL:=of_decide_eq_true h6
        exact aU (todo':=hd Tryz.f21 2) tk mo hK [(17,[(0,.b true)]),(18,[(0,.ix (i) [.z cW])]),(19,[(2,.bX 200 [(1,[(1,.b true),(6,.b true)])])]),(21,[(0,.z (((i+1:Nat):Int)))])] 2000 [0] [1,3,76,77,78] r (by kernel_rfl) (U h4 (U (aC ((i:Nat):Int)) (U (ints_at cr) (U h5 (U h6 (U ((wi (by omega)):IntKind.i64.wrap ((((i:Nat):Int):Int)+1)=((i+1:Nat):Int)) trivial)))))) fun ac wd r=>vX (by omega) ac wd ⟨(dj.next cr (by omega)),r⟩
    | true=>
     have dP:=of_decide_eq_true h3
     obtain ⟨aA,a8⟩:∃ x_,c.ah[i]?=some x_:=⟨_,List.getElem?_eq_getElem (by omega)⟩
     cases h7:(decide ((1:Int)≤aA.1)) with
     | false=>
      have eh:=of_decide_eq_false h7
      rw [show (.v (.bool (bU c)):DV)=.v (.bool false) from (bv (by first | exact dX (by omega) aq (by omega) dj (by omega) | exact dT (by omega) | exact dW cr (by omega) | exact dV a8 (by omega) ct (by first | omega | exact .inl (ec (by assumption)) | exact .inr (ec (by assumption))) | exact dU a8 (by omega)))]
      exact aK tk mo hK rfl [(5,[(0,.b true)]),(6,[(1,.ix (i) [.z aA.1,.z aA.2])]),(7,[(1,.n 0),(3,.bX 200 [(1,[(1,.b false)])])])] 2000 r (by kernel_rfl) (U h3 (U (aC ((i:Nat):Int)) (U (cP a8) (U (rfl:(0)=((0:Nat):Int)) (U ((by omega):(0)<2) (U h7 trivial))))))
     | true=>
      have eh:=of_decide_eq_true h7
      cases h8:(decide ((aA.1:Int)≤c.az)) with
      | false=>
       have fM:=of_decide_eq_false h8
       rw [show (.v (.bool (bU c)):DV)=.v (.bool false) from (bv (by first | exact dX (by omega) aq (by omega) dj (by omega) | exact dT (by omega) | exact dW cr (by omega) | exact dV a8 (by omega) ct (by first | omega | exact .inl (ec (by assumption)) | exact .inr (ec (by assumption))) | exact dU a8 (by omega)))]
       exact aK tk mo hK rfl [(5,[(0,.b true)]),(6,[(1,.ix (i) [.z aA.1,.z aA.2])]),(7,[(1,.n 0),(3,.bX 200 [(1,[(1,.b true),(6,.b false)])])])] 2000 r (by kernel_rfl) (U h3 (U (aC ((i:Nat):Int)) (U (cP a8) (U (rfl:(0)=((0:Nat):Int)) (U ((by omega):(0)<2) (U h7 (U h8 trivial)))))))
      | true=>
       have fM:=of_decide_eq_true h8
       cases h9:(decide ((1:Int)≤aA.2)) with
       | false=>
        have k6:=of_decide_eq_false h9
        rw [show (.v (.bool (bU c)):DV)=.v (.bool false) from (bv (by first | exact dX (by omega) aq (by omega) dj (by omega) | exact dT (by omega) | exact dW cr (by omega) | exact dV a8 (by omega) ct (by first | omega | exact .inl (ec (by assumption)) | exact .inr (ec (by assumption))) | exact dU a8 (by omega)))]
        exact aK tk mo hK rfl [(5,[(0,.b true)]),(6,[(1,.ix (i) [.z aA.1,.z aA.2])]),(7,[(1,.n 0),(3,.bX 200 [(1,[(1,.b true),(6,.b true)])]),(7,.n 1),(9,.bX 200 [(1,[(1,.b false)])])])] 2000 r (by kernel_rfl) (U h3 (U (aC ((i:Nat):Int)) (U (cP a8) (U (rfl:(0)=((0:Nat):Int)) (U ((by omega):(0)<2) (U h7 (U h8 (U (rfl:(1)=((1:Nat):Int)) (U ((by omega):(1)<2) (U h9 trivial))))))))))
       | true=>
        have k6:=of_decide_eq_true h9
        cases cy:(decide ((aA.2:Int)≤c.az)) with
        | false=>
         have lJ:=of_decide_eq_false cy
         rw [show (.v (.bool (bU c)):DV)=.v (.bool false) from (bv (by first | exact dX (by omega) aq (by omega) dj (by omega) | exact dT (by omega) | exact dW cr (by omega) | exact dV a8 (by omega) ct (by first | omega | exact .inl (ec (by assumption)) | exact .inr (ec (by assumption))) | exact dU a8 (by omega)))]
         exact aK tk mo hK rfl [(5,[(0,.b true)]),(6,[(1,.ix (i) [.z aA.1,.z aA.2])]),(7,[(1,.n 0),(3,.bX 200 [(1,[(1,.b true),(6,.b true)])]),(7,.n 1),(9,.bX 200 [(1,[(1,.b true),(6,.b false)])])])] 2000 r (by kernel_rfl) (U h3 (U (aC ((i:Nat):Int)) (U (cP a8) (U (rfl:(0)=((0:Nat):Int)) (U ((by omega):(0)<2) (U h7 (U h8 (U (rfl:(1)=((1:Nat):Int)) (U ((by omega):(1)<2) (U h9 (U cy trivial)))))))))))
        | true=>
         have lJ:=of_decide_eq_true cy
         cases eb:((aA.1:Int)==aA.2) with
         | false=>
          have xT:=ne_of_beq_false eb
          refine aU (todo':=hd Tryz.f21 1) (E':=[(1,.pt 0 0),(3,.fn 52 [.pt 0 0]),(26,.d (.ro 2 (ah c.ah))),(27,.n c.ah.length),(28,.n i),(55,.d (.ro 2 (List.take (i) (ah c.ah)))),(56,.n i),(57,.n 0),(5,.pt 1 0)]) (M':=[.bx 25 [.z c.az,.d (.ro 2 (ah c.ah)),.d (.ro 1 (ints c.homes))],.bx 60 [.z aA.1,.z aA.2]]) tk mo hK [(5,[(0,.b true)]),(6,[(1,.ix (i) [.z aA.1,.z aA.2])]),(7,[(1,.n 0),(3,.bX 200 [(1,[(1,.b true),(6,.b true)])]),(7,.n 1),(9,.bX 200 [(1,[(1,.b true),(6,.b true)])]),(13,.n 0),(15,.n 1),(17,.b false)]),(9,[(3,.n2 (i) (0)),(4,.z (((i:Nat):Int)))])] 2000 [0,1] [1,3,26,27,28,55,56,57,5] r (by kernel_rfl) (U h3 (U (aC ((i:Nat):Int)) (U (cP a8) (U (rfl:(0)=((0:Nat):Int)) (U ((by omega):(0)<2) (U h7 (U h8 (U (rfl:(1)=((1:Nat):Int)) (U ((by omega):(1)<2) (U h9 (U cy (U (rfl:(0)=((0:Nat):Int)) (U ((by omega):(0)<2) (U (rfl:(1)=((1:Nat):Int)) (U ((by omega):(1)<2) (U eb (U (aC ((i:Nat):Int)) (U ((by first | omega | (simp [ae,ah,ints,steps,strs];done) | (simp [ae,ah,ints,steps,strs];omega)):(i)≤(ah c.ah:List (List DV)).length) (U ((by first | rfl | (simp [ah];omega) | simp [ae,ah,ints]):(((List.take (i) (ah c.ah)).length:Nat):Int)=((i:Nat):Int)) trivial))))))))))))))))))) fun ac wd r=>?_
          refine aF.rounds (Φ:=fun (k:Nat) ac wd=>(kO c aA k)∧cN [] w0 K 87 [(1,.pt 0 0),(3,.fn 52 [.pt 0 0]),(26,.d (.ro 2 (ah c.ah))),(27,.n c.ah.length),(28,.n i),(55,.d (.ro 2 (List.take (i) (ah c.ah)))),(56,.n i),(57,.n k),(5,.pt 1 0)] [.bx 25 [.z c.az,.d (.ro 2 (ah c.ah)),.d (.ro 1 (ints c.homes))],.bx 60 [.z aA.1,.z aA.2]] ac wd) (i) ?_ (Nat.zero_le _) ⟨kO.none _,r⟩
          clear r
          rintro k n8 fU ac wd ⟨ea,r⟩
          cases dc:(decide ((((k:Nat):Int):Int)<((i:Nat):Int))) with
          | false=>
           have xU:=of_decide_eq_false dc
           exact aU (todo':=hd Tryz.f21 0) tk mo hK [(10,[(0,.b false)]),(15,[(0,.z (((i+1:Nat):Int)))])] 2000 [0] [1,3,26,27,28] r (by kernel_rfl) (U dc (U ((wi (by omega)):IntKind.i64.wrap ((((i:Nat):Int):Int)+1)=((i+1:Nat):Int)) trivial)) fun ac wd r=>bH (by omega) ac wd ⟨(aq.next a8 (by omega) (fun j o hj hx=>ea j o (by omega) hx)),r⟩
          | true=>
           have xU:=of_decide_eq_true dc
           obtain ⟨b8,ct⟩:∃ x_,c.ah[k]?=some x_:=⟨_,List.getElem?_eq_getElem (by omega)⟩
           have br:=((by rw [List.getElem?_take,if_pos (by omega)];exact cP ct):(List.take (i) (ah c.ah))[k]?=some [.z b8.1,.z b8.2])
           cases ei:(b8.1==aA.1&&b8.2==aA.2) with
           | false=>
            have cT:=((tK (sx _ _ _ _) ei):lx Tryz.prog 60 [(.int .i64 (b8.1)),(.int .i64 (b8.2))] [(.int .i64 (aA.1)),(.int .i64 (aA.2))] false)
            cases iY:(b8.1==aA.2&&b8.2==aA.1) with
            | false=>
             exact aU (todo':=hd Tryz.f21 1) tk mo hK [(10,[(0,.b true)]),(11,[(0,.ix (k) [.z b8.1,.z b8.2])]),(12,[(2,.b false),(5,.n 1),(7,.n 0),(10,.b false)]),(14,[(0,.z (((k+1:Nat):Int)))])] 2000 [0,1] [1,3,26,27,28,55,56,57,5] r (by kernel_rfl) (U dc (U (aC ((k:Nat):Int)) (U br (U cT (U (rfl:(1)=((1:Nat):Int)) (U ((by omega):(1)<2) (U (rfl:(0)=((0:Nat):Int)) (U ((by omega):(0)<2) (U ((tK (sx _ _ _ _) iY):lx Tryz.prog 60 [(.int .i64 (b8.1)),(.int .i64 (b8.2))] [(.int .i64 (aA.2)),(.int .i64 (aA.1))] false) (U ((wi (by omega)):IntKind.i64.wrap ((((k:Nat):Int):Int)+1)=((k+1:Nat):Int)) trivial)))))))))) fun ac wd r=>fU (by omega) ac wd ⟨(ea.next ct ⟨by first | exact B4 (by assumption) | omega,by first | exact B4 (by assumption) | omega⟩),r⟩
            | true=>
             rw [show (.v (.bool (bU c)):DV)=.v (.bool false) from (bv (by first | exact dX (by omega) aq (by omega) dj (by omega) | exact dT (by omega) | exact dW cr (by omega) | exact dV a8 (by omega) ct (by first | omega | exact .inl (ec (by assumption)) | exact .inr (ec (by assumption))) | exact dU a8 (by omega)))]
             exact aK tk mo hK rfl [(10,[(0,.b true)]),(11,[(0,.ix (k) [.z b8.1,.z b8.2])]),(12,[(2,.b false),(5,.n 1),(7,.n 0),(10,.b true)])] 2000 r (by kernel_rfl) (U dc (U (aC ((k:Nat):Int)) (U br (U cT (U (rfl:(1)=((1:Nat):Int)) (U ((by omega):(1)<2) (U (rfl:(0)=((0:Nat):Int)) (U ((by omega):(0)<2) (U ((tK (sx _ _ _ _) iY):lx Tryz.prog 60 [(.int .i64 (b8.1)),(.int .i64 (b8.2))] [(.int .i64 (aA.2)),(.int .i64 (aA.1))] true) trivial)))))))))
           | true=>
            rw [show (.v (.bool (bU c)):DV)=.v (.bool false) from (bv (by first | exact dX (by omega) aq (by omega) dj (by omega) | exact dT (by omega) | exact dW cr (by omega) | exact dV a8 (by omega) ct (by first | omega | exact .inl (ec (by assumption)) | exact .inr (ec (by assumption))) | exact dU a8 (by omega)))]
            exact aK tk mo hK rfl [(10,[(0,.b true)]),(11,[(0,.ix (k) [.z b8.1,.z b8.2])]),(12,[(2,.b true)])] 2000 r (by kernel_rfl) (U dc (U (aC ((k:Nat):Int)) (U br (U ((tK (sx _ _ _ _) ei):lx Tryz.prog 60 [(.int .i64 (b8.1)),(.int .i64 (b8.2))] [(.int .i64 (aA.1)),(.int .i64 (aA.2))] true) trivial))))
         | true=>
          have xT:=eq_of_beq eb
          rw [show (.v (.bool (bU c)):DV)=.v (.bool false) from (bv (by first | exact dX (by omega) aq (by omega) dj (by omega) | exact dT (by omega) | exact dW cr (by omega) | exact dV a8 (by omega) ct (by first | omega | exact .inl (ec (by assumption)) | exact .inr (ec (by assumption))) | exact dU a8 (by omega)))]
          exact aK tk mo hK rfl [(5,[(0,.b true)]),(6,[(1,.ix (i) [.z aA.1,.z aA.2])]),(7,[(1,.n 0),(3,.bX 200 [(1,[(1,.b true),(6,.b true)])]),(7,.n 1),(9,.bX 200 [(1,[(1,.b true),(6,.b true)])]),(13,.n 0),(15,.n 1),(17,.b true)])] 2000 r (by kernel_rfl) (U h3 (U (aC ((i:Nat):Int)) (U (cP a8) (U (rfl:(0)=((0:Nat):Int)) (U ((by omega):(0)<2) (U h7 (U h8 (U (rfl:(1)=((1:Nat):Int)) (U ((by omega):(1)<2) (U h9 (U cy (U (rfl:(0)=((0:Nat):Int)) (U ((by omega):(0)<2) (U (rfl:(1)=((1:Nat):Int)) (U ((by omega):(1)<2) (U eb trivial))))))))))))))))
   | true=>
    have c8:=of_decide_eq_true h2
    rw [show (.v (.bool (bU c)):DV)=.v (.bool false) from (bv (by first | exact dX (by omega) aq (by omega) dj (by omega) | exact dT (by omega) | exact dW cr (by omega) | exact dV a8 (by omega) ct (by first | omega | exact .inl (ec (by assumption)) | exact .inr (ec (by assumption))) | exact dU a8 (by omega)))]
    exact aK tk mo hK rfl [(1,[(2,.b false),(6,.b false),(11,.z (((c.homes.length:Nat):Int))),(12,.b true)])] 2000 r (by kernel_rfl) (U h0 (U h1 (U aM (U h2 trivial))))
  | true=>
   have bP:=of_decide_eq_true h1
   rw [show (.v (.bool (bU c)):DV)=.v (.bool false) from (bv (by first | exact dX (by omega) aq (by omega) dj (by omega) | exact dT (by omega) | exact dW cr (by omega) | exact dV a8 (by omega) ct (by first | omega | exact .inl (ec (by assumption)) | exact .inr (ec (by assumption))) | exact dU a8 (by omega)))]
   exact aK tk mo hK rfl [(1,[(2,.b false),(6,.b true)])] 2000 r (by kernel_rfl) (U h0 (U h1 trivial))
 | true=>
  have a7:=of_decide_eq_true h0
  rw [show (.v (.bool (bU c)):DV)=.v (.bool false) from (bv (by first | exact dX (by omega) aq (by omega) dj (by omega) | exact dT (by omega) | exact dW cr (by omega) | exact dV a8 (by omega) ct (by first | omega | exact .inl (ec (by assumption)) | exact .inr (ec (by assumption))) | exact dU a8 (by omega)))]
  exact aK tk mo hK rfl [(1,[(2,.b true)])] 2000 r (by kernel_rfl) (U h0 trivial)
end Go.Proofs.YtcnpikbbmbombaaGreatDoor
namespace Go.Proofs.YtcnpikbbmbombaaGreatDoor
open Go.RowKit
set_option maxRecDepth 100000 in
theorem An (c:bN) (hl:c.ah.length≤9223372036854775807) (hh:c.homes.length≤9223372036854775807):al Tryz.prog 28 [.ag [.z c.az,.d (.ro 2 (ah c.ah)),.d (.ro 1 (ints c.homes))]] (.v (.bool (bU c))):=by
 refine al.intro (by kernel_rfl) rfl rfl 124 rfl rfl fun w0 K ac hK r=>?_
 cases h0:(decide ((c.az:Int)<1)) with
 | false=>
  have a7:=of_decide_eq_false h0
  cases h1:(decide ((4:Int)<c.az)) with
  | false=>
   have bP:=of_decide_eq_false h1
   have aM:=((by first | rfl | simp [ae,ah,ints,steps,strs]):(((ints c.homes).length:Nat):Int)=((c.homes.length:Nat):Int))
   cases h2:(decide ((6:Int)<((c.homes.length:Nat):Int))) with
   | false=>
    have c8:=of_decide_eq_false h2
    refine aU (todo':=hd Tryz.f28 0) (E':=[(1,.pt 0 0),(3,.n 0)]) (M':=[.bx 25 [.z c.az,.d (.ro 2 (ah c.ah)),.d (.ro 1 (ints c.homes))]]) tk mo hK [(1,[(2,.b false),(6,.b false),(11,.z (((c.homes.length:Nat):Int))),(12,.b false)])] 2000 [0] [1,3] r (by kernel_rfl) (U h0 (U h1 (U aM (U h2 trivial)))) fun ac wd r=>?_
    refine aF.rounds (Φ:=fun (i:Nat) ac wd=>(kN c i)∧cN [] w0 K 124 [(1,.pt 0 0),(3,.n i)] [.bx 25 [.z c.az,.d (.ro 2 (ah c.ah)),.d (.ro 1 (ints c.homes))]] ac wd) (c.ah.length) ?_ (Nat.zero_le _) ⟨kN.none,r⟩
    clear r
    rintro i dw bH ac wd ⟨aq,r⟩
    have br:=((by first | rfl | simp [ae,ah,ints,steps,strs]):(((ah c.ah).length:Nat):Int)=((c.ah.length:Nat):Int))
    cases h3:(decide ((((i:Nat):Int):Int)<((c.ah.length:Nat):Int))) with
    | false=>
     have dP:=of_decide_eq_false h3
     refine aU (todo':=hd Tryz.f28 2) (E':=[(1,.pt 0 0),(9,.n 0)]) (M':=[.bx 25 [.z c.az,.d (.ro 2 (ah c.ah)),.d (.ro 1 (ints c.homes))]]) tk mo hK [(4,[(3,.z (((c.ah.length:Nat):Int))),(4,.b false)])] 2000 [0] [1,9] r (by kernel_rfl) (U br (U h3 trivial)) fun ac wd r=>?_
     refine aF.rounds (Φ:=fun (i:Nat) ac wd=>(kP c i)∧cN [] w0 K 124 [(1,.pt 0 0),(9,.n i)] [.bx 25 [.z c.az,.d (.ro 2 (ah c.ah)),.d (.ro 1 (ints c.homes))]] ac wd) (c.homes.length) ?_ (Nat.zero_le _) ⟨kP.none,r⟩
     clear r
     rintro i Oe vX ac wd ⟨dj,r⟩
     cases h4:(decide ((((i:Nat):Int):Int)<((c.homes.length:Nat):Int))) with
     | false=>
      have fa:=of_decide_eq_false h4
      rw [show (.v (.bool (bU c)):DV)=.v (.bool true) from (bv (by first | exact dX (by omega) aq (by omega) dj (by omega) | exact dT (by omega) | exact dW cr (by omega) | exact dV a8 (by omega) ct (by omega) | exact dU a8 (by omega)))]
      exact aK tk mo hK rfl [(16,[(3,.z (((c.homes.length:Nat):Int))),(4,.b false)])] 2000 r (by kernel_rfl) (U aM (U h4 trivial))
     | true=>
      have fa:=of_decide_eq_true h4
      obtain ⟨cW,cr⟩:∃ x_,c.homes[i]?=some x_:=⟨_,List.getElem?_eq_getElem (by omega)⟩
      cases h5:(decide ((cW:Int)<1)) with
      | false=>
       have fb:=of_decide_eq_false h5
       cases h6:(decide ((c.az:Int)<cW)) with
       | false=>
        have fL:=of_decide_eq_false h6
        exact aU (todo':=hd Tryz.f28 2) tk mo hK [(16,[(3,.z (((c.homes.length:Nat):Int))),(4,.b true)]),(17,[(1,.z (((i+1:Nat):Int)))]),(18,[(3,.ix (i) [.z cW]),(5,.b false),(10,.ix (i) [.z cW]),(14,.b false)])] 2000 [0] [1,9] r (by kernel_rfl) (U aM (U h4 (U (aC ((i:Nat):Int)) (U (ints_at cr) (U h5 (U (aC ((i:Nat):Int)) (U (ints_at cr) (U h6 (U ((wi (by omega)):IntKind.i64.wrap ((((i:Nat):Int):Int)+1)=((i+1:Nat):Int)) trivial))))))))) fun ac wd r=>vX (by omega) ac wd ⟨(dj.next cr (by omega)),r⟩
       | true=>
        have fL:=of_decide_eq_true h6
        rw [show (.v (.bool (bU c)):DV)=.v (.bool false) from (bv (by first | exact dX (by omega) aq (by omega) dj (by omega) | exact dT (by omega) | exact dW cr (by omega) | exact dV a8 (by omega) ct (by omega) | exact dU a8 (by omega)))]
        exact aK tk mo hK rfl [(16,[(3,.z (((c.homes.length:Nat):Int))),(4,.b true)]),(18,[(3,.ix (i) [.z cW]),(5,.b false),(10,.ix (i) [.z cW]),(14,.b true)])] 2000 r (by kernel_rfl) (U aM (U h4 (U (aC ((i:Nat):Int)) (U (ints_at cr) (U h5 (U (aC ((i:Nat):Int)) (U (ints_at cr) (U h6 trivial))))))))
      | true=>
       have fb:=of_decide_eq_true h5
       rw [show (.v (.bool (bU c)):DV)=.v (.bool false) from (bv (by first | exact dX (by omega) aq (by omega) dj (by omega) | exact dT (by omega) | exact dW cr (by omega) | exact dV a8 (by omega) ct (by omega) | exact dU a8 (by omega)))]
       exact aK tk mo hK rfl [(16,[(3,.z (((c.homes.length:Nat):Int))),(4,.b true)]),(18,[(3,.ix (i) [.z cW]),(5,.b true)])] 2000 r (by kernel_rfl) (U aM (U h4 (U (aC ((i:Nat):Int)) (U (ints_at cr) (U h5 trivial)))))
    | true=>
     have dP:=of_decide_eq_true h3
     obtain ⟨aA,a8⟩:∃ x_,c.ah[i]?=some x_:=⟨_,List.getElem?_eq_getElem (by omega)⟩
     cases h7:(decide ((aA.1:Int)<1)) with
     | false=>
      have eh:=of_decide_eq_false h7
      cases h8:(decide ((aA.2:Int)<1)) with
      | false=>
       have fM:=of_decide_eq_false h8
       cases h9:(decide ((c.az:Int)<aA.1)) with
       | false=>
        have k6:=of_decide_eq_false h9
        cases cy:(decide ((c.az:Int)<aA.2)) with
        | false=>
         have lJ:=of_decide_eq_false cy
         cases eb:((aA.1:Int)==aA.2) with
         | false=>
          have xT:=ne_of_beq_false eb
          refine aU (todo':=hd Tryz.f28 1) (E':=[(1,.pt 0 0),(3,.n i),(4,.z aA.1),(5,.z aA.2),(6,.n 0)]) (M':=[.bx 25 [.z c.az,.d (.ro 2 (ah c.ah)),.d (.ro 1 (ints c.homes))]]) tk mo hK [(4,[(3,.z (((c.ah.length:Nat):Int))),(4,.b true)]),(6,[(3,.ix (i) [.z aA.1,.z aA.2]),(4,.n 0),(9,.ix (i) [.z aA.1,.z aA.2]),(10,.n 1)]),(7,[(1,.b false),(4,.b false),(10,.b false),(16,.b false),(21,.b false)])] 2000 [0] [1,3,4,5,6] r (by kernel_rfl) (U br (U h3 (U (aC ((i:Nat):Int)) (U (cP a8) (U (rfl:(0)=((0:Nat):Int)) (U ((by omega):(0)<2) (U (aC ((i:Nat):Int)) (U (cP a8) (U (rfl:(1)=((1:Nat):Int)) (U ((by omega):(1)<2) (U h7 (U h8 (U h9 (U cy (U eb trivial))))))))))))))) fun ac wd r=>?_
          refine aF.rounds (Φ:=fun (k:Nat) ac wd=>(kO c aA k)∧cN [] w0 K 124 [(1,.pt 0 0),(3,.n i),(4,.z aA.1),(5,.z aA.2),(6,.n k)] [.bx 25 [.z c.az,.d (.ro 2 (ah c.ah)),.d (.ro 1 (ints c.homes))]] ac wd) (i) ?_ (Nat.zero_le _) ⟨kO.none _,r⟩
          clear r
          rintro k n8 fU ac wd ⟨ea,r⟩
          cases dc:(decide ((((k:Nat):Int):Int)<((i:Nat):Int))) with
          | false=>
           have xU:=of_decide_eq_false dc
           exact aU (todo':=hd Tryz.f28 0) tk mo hK [(5,[(1,.z (((i+1:Nat):Int)))]),(10,[(2,.b false)])] 2000 [0] [1,3] r (by kernel_rfl) (U dc (U ((wi (by omega)):IntKind.i64.wrap ((((i:Nat):Int):Int)+1)=((i+1:Nat):Int)) trivial)) fun ac wd r=>bH (by omega) ac wd ⟨(aq.next a8 (by omega) (fun j o hj hx=>ea j o (by omega) hx)),r⟩
          | true=>
           have xU:=of_decide_eq_true dc
           obtain ⟨b8,ct⟩:∃ x_,c.ah[k]?=some x_:=⟨_,List.getElem?_eq_getElem (by omega)⟩
           cases ei:((b8.1:Int)==aA.1) with
           | false=>
            have MW:=ne_of_beq_false ei
            cases iY:((b8.1:Int)==aA.2) with
            | false=>
             have MX:=ne_of_beq_false iY
             exact aU (todo':=hd Tryz.f28 1) tk mo hK [(10,[(2,.b true)]),(11,[(1,.z (((k+1:Nat):Int)))]),(12,[(3,.ix (k) [.z b8.1,.z b8.2]),(4,.n 0),(9,.ix (k) [.z b8.1,.z b8.2]),(10,.n 1)]),(13,[(2,.b false),(11,.b false)])] 2000 [0] [1,3,4,5,6] r (by kernel_rfl) (U dc (U (aC ((k:Nat):Int)) (U (cP ct) (U (rfl:(0)=((0:Nat):Int)) (U ((by omega):(0)<2) (U (aC ((k:Nat):Int)) (U (cP ct) (U (rfl:(1)=((1:Nat):Int)) (U ((by omega):(1)<2) (U ei (U iY (U ((wi (by omega)):IntKind.i64.wrap ((((k:Nat):Int):Int)+1)=((k+1:Nat):Int)) trivial)))))))))))) fun ac wd r=>fU (by omega) ac wd ⟨(ea.next ct (by omega)),r⟩
            | true=>
             have MX:=eq_of_beq iY
             cases l6:((b8.2:Int)==aA.1) with
             | false=>
              have MY:=ne_of_beq_false l6
              exact aU (todo':=hd Tryz.f28 1) tk mo hK [(10,[(2,.b true)]),(11,[(1,.z (((k+1:Nat):Int)))]),(12,[(3,.ix (k) [.z b8.1,.z b8.2]),(4,.n 0),(9,.ix (k) [.z b8.1,.z b8.2]),(10,.n 1)]),(13,[(2,.b false),(11,.b true),(15,.b false)])] 2000 [0] [1,3,4,5,6] r (by kernel_rfl) (U dc (U (aC ((k:Nat):Int)) (U (cP ct) (U (rfl:(0)=((0:Nat):Int)) (U ((by omega):(0)<2) (U (aC ((k:Nat):Int)) (U (cP ct) (U (rfl:(1)=((1:Nat):Int)) (U ((by omega):(1)<2) (U ei (U iY (U l6 (U ((wi (by omega)):IntKind.i64.wrap ((((k:Nat):Int):Int)+1)=((k+1:Nat):Int)) trivial))))))))))))) fun ac wd r=>fU (by omega) ac wd ⟨(ea.next ct (by omega)),r⟩
             | true=>
              have MY:=eq_of_beq l6
              rw [show (.v (.bool (bU c)):DV)=.v (.bool false) from (bv (by first | exact dX (by omega) aq (by omega) dj (by omega) | exact dT (by omega) | exact dW cr (by omega) | exact dV a8 (by omega) ct (by omega) | exact dU a8 (by omega)))]
              exact aK tk mo hK rfl [(10,[(2,.b true)]),(12,[(3,.ix (k) [.z b8.1,.z b8.2]),(4,.n 0),(9,.ix (k) [.z b8.1,.z b8.2]),(10,.n 1)]),(13,[(2,.b false),(11,.b true),(15,.b true)])] 2000 r (by kernel_rfl) (U dc (U (aC ((k:Nat):Int)) (U (cP ct) (U (rfl:(0)=((0:Nat):Int)) (U ((by omega):(0)<2) (U (aC ((k:Nat):Int)) (U (cP ct) (U (rfl:(1)=((1:Nat):Int)) (U ((by omega):(1)<2) (U ei (U iY (U l6 trivial))))))))))))
           | true=>
            have MW:=eq_of_beq ei
            cases pD:((b8.2:Int)==aA.2) with
            | false=>
             have MZ:=ne_of_beq_false pD
             cases rq:((b8.1:Int)==aA.2) with
             | false=>
              have M0:=ne_of_beq_false rq
              exact aU (todo':=hd Tryz.f28 1) tk mo hK [(10,[(2,.b true)]),(11,[(1,.z (((k+1:Nat):Int)))]),(12,[(3,.ix (k) [.z b8.1,.z b8.2]),(4,.n 0),(9,.ix (k) [.z b8.1,.z b8.2]),(10,.n 1)]),(13,[(2,.b true),(6,.b false),(11,.b false)])] 2000 [0] [1,3,4,5,6] r (by kernel_rfl) (U dc (U (aC ((k:Nat):Int)) (U (cP ct) (U (rfl:(0)=((0:Nat):Int)) (U ((by omega):(0)<2) (U (aC ((k:Nat):Int)) (U (cP ct) (U (rfl:(1)=((1:Nat):Int)) (U ((by omega):(1)<2) (U ei (U pD (U rq (U ((wi (by omega)):IntKind.i64.wrap ((((k:Nat):Int):Int)+1)=((k+1:Nat):Int)) trivial))))))))))))) fun ac wd r=>fU (by omega) ac wd ⟨(ea.next ct (by omega)),r⟩
             | true=>
              have M0:=eq_of_beq rq
              cases tL:((b8.2:Int)==aA.1) with
              | false=>
               have M4:=ne_of_beq_false tL
               exact aU (todo':=hd Tryz.f28 1) tk mo hK [(10,[(2,.b true)]),(11,[(1,.z (((k+1:Nat):Int)))]),(12,[(3,.ix (k) [.z b8.1,.z b8.2]),(4,.n 0),(9,.ix (k) [.z b8.1,.z b8.2]),(10,.n 1)]),(13,[(2,.b true),(6,.b false),(11,.b true),(15,.b false)])] 2000 [0] [1,3,4,5,6] r (by kernel_rfl) (U dc (U (aC ((k:Nat):Int)) (U (cP ct) (U (rfl:(0)=((0:Nat):Int)) (U ((by omega):(0)<2) (U (aC ((k:Nat):Int)) (U (cP ct) (U (rfl:(1)=((1:Nat):Int)) (U ((by omega):(1)<2) (U ei (U pD (U rq (U tL (U ((wi (by omega)):IntKind.i64.wrap ((((k:Nat):Int):Int)+1)=((k+1:Nat):Int)) trivial)))))))))))))) fun ac wd r=>fU (by omega) ac wd ⟨(ea.next ct (by omega)),r⟩
              | true=>
               have M4:=eq_of_beq tL
               rw [show (.v (.bool (bU c)):DV)=.v (.bool false) from (bv (by first | exact dX (by omega) aq (by omega) dj (by omega) | exact dT (by omega) | exact dW cr (by omega) | exact dV a8 (by omega) ct (by omega) | exact dU a8 (by omega)))]
               exact aK tk mo hK rfl [(10,[(2,.b true)]),(12,[(3,.ix (k) [.z b8.1,.z b8.2]),(4,.n 0),(9,.ix (k) [.z b8.1,.z b8.2]),(10,.n 1)]),(13,[(2,.b true),(6,.b false),(11,.b true),(15,.b true)])] 2000 r (by kernel_rfl) (U dc (U (aC ((k:Nat):Int)) (U (cP ct) (U (rfl:(0)=((0:Nat):Int)) (U ((by omega):(0)<2) (U (aC ((k:Nat):Int)) (U (cP ct) (U (rfl:(1)=((1:Nat):Int)) (U ((by omega):(1)<2) (U ei (U pD (U rq (U tL trivial)))))))))))))
            | true=>
             have MZ:=eq_of_beq pD
             rw [show (.v (.bool (bU c)):DV)=.v (.bool false) from (bv (by first | exact dX (by omega) aq (by omega) dj (by omega) | exact dT (by omega) | exact dW cr (by omega) | exact dV a8 (by omega) ct (by omega) | exact dU a8 (by omega)))]
             exact aK tk mo hK rfl [(10,[(2,.b true)]),(12,[(3,.ix (k) [.z b8.1,.z b8.2]),(4,.n 0),(9,.ix (k) [.z b8.1,.z b8.2]),(10,.n 1)]),(13,[(2,.b true),(6,.b true)])] 2000 r (by kernel_rfl) (U dc (U (aC ((k:Nat):Int)) (U (cP ct) (U (rfl:(0)=((0:Nat):Int)) (U ((by omega):(0)<2) (U (aC ((k:Nat):Int)) (U (cP ct) (U (rfl:(1)=((1:Nat):Int)) (U ((by omega):(1)<2) (U ei (U pD trivial)))))))))))
         | true=>
          have xT:=eq_of_beq eb
          rw [show (.v (.bool (bU c)):DV)=.v (.bool false) from (bv (by first | exact dX (by omega) aq (by omega) dj (by omega) | exact dT (by omega) | exact dW cr (by omega) | exact dV a8 (by omega) ct (by omega) | exact dU a8 (by omega)))]
          exact aK tk mo hK rfl [(4,[(3,.z (((c.ah.length:Nat):Int))),(4,.b true)]),(6,[(3,.ix (i) [.z aA.1,.z aA.2]),(4,.n 0),(9,.ix (i) [.z aA.1,.z aA.2]),(10,.n 1)]),(7,[(1,.b false),(4,.b false),(10,.b false),(16,.b false),(21,.b true)])] 2000 r (by kernel_rfl) (U br (U h3 (U (aC ((i:Nat):Int)) (U (cP a8) (U (rfl:(0)=((0:Nat):Int)) (U ((by omega):(0)<2) (U (aC ((i:Nat):Int)) (U (cP a8) (U (rfl:(1)=((1:Nat):Int)) (U ((by omega):(1)<2) (U h7 (U h8 (U h9 (U cy (U eb trivial)))))))))))))))
        | true=>
         have lJ:=of_decide_eq_true cy
         rw [show (.v (.bool (bU c)):DV)=.v (.bool false) from (bv (by first | exact dX (by omega) aq (by omega) dj (by omega) | exact dT (by omega) | exact dW cr (by omega) | exact dV a8 (by omega) ct (by omega) | exact dU a8 (by omega)))]
         exact aK tk mo hK rfl [(4,[(3,.z (((c.ah.length:Nat):Int))),(4,.b true)]),(6,[(3,.ix (i) [.z aA.1,.z aA.2]),(4,.n 0),(9,.ix (i) [.z aA.1,.z aA.2]),(10,.n 1)]),(7,[(1,.b false),(4,.b false),(10,.b false),(16,.b true)])] 2000 r (by kernel_rfl) (U br (U h3 (U (aC ((i:Nat):Int)) (U (cP a8) (U (rfl:(0)=((0:Nat):Int)) (U ((by omega):(0)<2) (U (aC ((i:Nat):Int)) (U (cP a8) (U (rfl:(1)=((1:Nat):Int)) (U ((by omega):(1)<2) (U h7 (U h8 (U h9 (U cy trivial))))))))))))))
       | true=>
        have k6:=of_decide_eq_true h9
        rw [show (.v (.bool (bU c)):DV)=.v (.bool false) from (bv (by first | exact dX (by omega) aq (by omega) dj (by omega) | exact dT (by omega) | exact dW cr (by omega) | exact dV a8 (by omega) ct (by omega) | exact dU a8 (by omega)))]
        exact aK tk mo hK rfl [(4,[(3,.z (((c.ah.length:Nat):Int))),(4,.b true)]),(6,[(3,.ix (i) [.z aA.1,.z aA.2]),(4,.n 0),(9,.ix (i) [.z aA.1,.z aA.2]),(10,.n 1)]),(7,[(1,.b false),(4,.b false),(10,.b true)])] 2000 r (by kernel_rfl) (U br (U h3 (U (aC ((i:Nat):Int)) (U (cP a8) (U (rfl:(0)=((0:Nat):Int)) (U ((by omega):(0)<2) (U (aC ((i:Nat):Int)) (U (cP a8) (U (rfl:(1)=((1:Nat):Int)) (U ((by omega):(1)<2) (U h7 (U h8 (U h9 trivial)))))))))))))
      | true=>
       have fM:=of_decide_eq_true h8
       rw [show (.v (.bool (bU c)):DV)=.v (.bool false) from (bv (by first | exact dX (by omega) aq (by omega) dj (by omega) | exact dT (by omega) | exact dW cr (by omega) | exact dV a8 (by omega) ct (by omega) | exact dU a8 (by omega)))]
       exact aK tk mo hK rfl [(4,[(3,.z (((c.ah.length:Nat):Int))),(4,.b true)]),(6,[(3,.ix (i) [.z aA.1,.z aA.2]),(4,.n 0),(9,.ix (i) [.z aA.1,.z aA.2]),(10,.n 1)]),(7,[(1,.b false),(4,.b true)])] 2000 r (by kernel_rfl) (U br (U h3 (U (aC ((i:Nat):Int)) (U (cP a8) (U (rfl:(0)=((0:Nat):Int)) (U ((by omega):(0)<2) (U (aC ((i:Nat):Int)) (U (cP a8) (U (rfl:(1)=((1:Nat):Int)) (U ((by omega):(1)<2) (U h7 (U h8 trivial))))))))))))
     | true=>
      have eh:=of_decide_eq_true h7
      rw [show (.v (.bool (bU c)):DV)=.v (.bool false) from (bv (by first | exact dX (by omega) aq (by omega) dj (by omega) | exact dT (by omega) | exact dW cr (by omega) | exact dV a8 (by omega) ct (by omega) | exact dU a8 (by omega)))]
      exact aK tk mo hK rfl [(4,[(3,.z (((c.ah.length:Nat):Int))),(4,.b true)]),(6,[(3,.ix (i) [.z aA.1,.z aA.2]),(4,.n 0),(9,.ix (i) [.z aA.1,.z aA.2]),(10,.n 1)]),(7,[(1,.b true)])] 2000 r (by kernel_rfl) (U br (U h3 (U (aC ((i:Nat):Int)) (U (cP a8) (U (rfl:(0)=((0:Nat):Int)) (U ((by omega):(0)<2) (U (aC ((i:Nat):Int)) (U (cP a8) (U (rfl:(1)=((1:Nat):Int)) (U ((by omega):(1)<2) (U h7 trivial)))))))))))
   | true=>
    have c8:=of_decide_eq_true h2
    rw [show (.v (.bool (bU c)):DV)=.v (.bool false) from (bv (by first | exact dX (by omega) aq (by omega) dj (by omega) | exact dT (by omega) | exact dW cr (by omega) | exact dV a8 (by omega) ct (by omega) | exact dU a8 (by omega)))]
    exact aK tk mo hK rfl [(1,[(2,.b false),(6,.b false),(11,.z (((c.homes.length:Nat):Int))),(12,.b true)])] 2000 r (by kernel_rfl) (U h0 (U h1 (U aM (U h2 trivial))))
  | true=>
   have bP:=of_decide_eq_true h1
   rw [show (.v (.bool (bU c)):DV)=.v (.bool false) from (bv (by first | exact dX (by omega) aq (by omega) dj (by omega) | exact dT (by omega) | exact dW cr (by omega) | exact dV a8 (by omega) ct (by omega) | exact dU a8 (by omega)))]
   exact aK tk mo hK rfl [(1,[(2,.b false),(6,.b true)])] 2000 r (by kernel_rfl) (U h0 (U h1 trivial))
 | true=>
  have a7:=of_decide_eq_true h0
  rw [show (.v (.bool (bU c)):DV)=.v (.bool false) from (bv (by first | exact dX (by omega) aq (by omega) dj (by omega) | exact dT (by omega) | exact dW cr (by omega) | exact dV a8 (by omega) ct (by omega) | exact dU a8 (by omega)))]
  exact aK tk mo hK rfl [(1,[(2,.b true)])] 2000 r (by kernel_rfl) (U h0 trivial)
structure jZ where
 word:List UInt8
 node:Bool
 peer:Bool
 n:Bool
 bit:Bool
 inc:Bool
 body:Bool
def eV:List jZ:=[⟨[110,111,110,101],false,false,false,false,false,false⟩,⟨[116,105,99,107],true,false,false,false,false,false⟩,⟨[100,101,108,105,118,101,114],true,true,true,false,false,false⟩,⟨[100,114,111,112],true,true,true,false,false,false⟩,⟨[100,111,117,98,108,101],true,true,true,false,false,false⟩,⟨[115,112,111,105,108],true,true,true,true,false,false⟩,⟨[99,117,116],true,true,false,false,false,false⟩,⟨[104,101,97,108],true,true,false,false,false,false⟩,⟨[99,114,97,115,104],true,false,false,false,false,false⟩,⟨[115,116,97,114,116],true,false,false,false,true,false⟩,⟨[115,101,110,100],true,false,false,false,false,true⟩,⟨[98,108,111,99,107,111,107],true,false,false,false,false,false⟩,⟨[106,111,105,110],true,false,false,false,false,false⟩,⟨[108,101,97,118,101],true,false,false,false,false,false⟩]
def JR:List (List UInt8):=[[],[110],[110,112,105],[110,112,105],[110,112,105],[110,112,105,98],[110,112],[110,112],[110],[110,99],[110,116],[110],[110],[110]]
def af (k:Nat):jZ:=eV.getD k ⟨[],false,false,false,false,false,false⟩
def cD (k:Nat):List UInt8:=JR.getD k []
def jZ.row (x:jZ):List DV:=[.v (.string ⟨x.word.toArray⟩),.v (.bool x.node),.v (.bool x.peer),.v (.bool x.n),.v (.bool x.bit),.v (.bool x.inc),.v (.bool x.body)]
def aj:List DV:=eV.flatMap jZ.row
theorem kG {p:Nat→Prop} (h0:p 0) (h1:p 1) (h2:p 2) (h3:p 3) (h4:p 4) (h5:p 5) (h6:p 6) (h7:p 7) (h8:p 8) (h9:p 9) (cy:p 10) (eb:p 11) (dc:p 12) (ei:p 13) {k:Nat} (h:k<14):p k:=
 match k,h with
 | 0,_=>h0 | 1,_=>h1 | 2,_=>h2 | 3,_=>h3 | 4,_=>h4 | 5,_=>h5 | 6,_=>h6 | 7,_=>h7 | 8,_=>h8 | 9,_=>h9 | 10,_=>cy | 11,_=>eb | 12,_=>dc | 13,_=>ei
theorem np {k:Nat} (h:k<14):List.take 7 (List.drop (k*7) aj)=(af k).row:=kG (p:=fun k=>List.take 7 (List.drop (k*7) aj)=(af k).row) rfl rfl rfl rfl rfl rfl rfl rfl rfl rfl rfl rfl rfl rfl h
def fieldsOf (k:Int):List UInt8:=if 0≤k∧k<14 then cD k.toNat else [45]
theorem rF {k:Int} (h:k<0∨14≤k):fieldsOf k=[45]:=by unfold fieldsOf;rw [if_neg (by omega)]
theorem pV {k:Int} (h:0≤k) (h2:k<14):fieldsOf k=cD k.toNat:=by unfold fieldsOf;rw [if_pos ⟨h,h2⟩]
theorem sv {a b:List UInt8} (h:a=b):DV.v (.string ⟨a.toArray⟩)=.v (.string ⟨b.toArray⟩):=by rw [h]
def bj (l:List UInt8) (f:Nat):Bool:=l.any fun b=>b.toNat==f
theorem zQ {l:List UInt8} {f i:Nat} {b:UInt8} (g:l[i]?=some b) (h:((b.toNat:Nat):Int)=(f:Int)):bj l f=true:=by
 unfold bj;rw [List.any_eq_true];exact ⟨b,List.mem_of_getElem? g,by simp;omega⟩
theorem Ao {l:List UInt8} {f i:Nat} (hi:l.length≤i) (h:∀ (j:Nat) b,j<i→l[j]?=some b→((b.toNat:Nat):Int)≠(f:Int)):bj l f=false:=by
 unfold bj;rw [List.any_eq_false];intro b hb
 obtain ⟨j,hj,rfl⟩:=List.getElem_of_mem hb
 have:=h j _ (by omega) (List.getElem?_eq_getElem hj)
 simp;omega
def dh (has:Bool) (n most:Int):Bool:=decide (n=0)||(has&&(decide (0<n)&&decide (n≤most)))
def fB (s:aL) (x:jZ):Bool:=dh x.node s.node 255&&(dh x.peer s.peer 255&&(dh x.n s.n 255&&(dh x.bit s.bit 65535&&(dh x.body s.body.length 255&&(x.inc||decide ((s.inc:Int)=0))))))
def hasB (s:aL):Bool:=decide (0≤s.kind)&&(decide (s.kind<14)&&fB s (af s.kind.toNat))
theorem ik {s:aL} (h:s.kind<0∨14≤s.kind):hasB s=false:=by unfold hasB;simp;omega
theorem ij {s:aL} {b:Bool} (h:0≤s.kind) (h2:s.kind<14) (e:fB s (af s.kind.toNat)=b):hasB s=b:=by unfold hasB;rw [decide_eq_true h,decide_eq_true h2,Bool.true_and,Bool.true_and,e]
set_option maxRecDepth 100000 in
theorem FM (n most:Int):al Tryz.prog 54 [.d (.v (.bool true)),.z n,.z most] (.v (.bool (dh true n most))):=by
 refine al.intro (by kernel_rfl) rfl rfl 21 rfl rfl fun w0 K ac hK r=>?_
 cases h0:((n:Int)==0) with
 | false=>
  have a7:=ne_of_beq_false h0
  cases h1:(decide ((0:Int)<n)) with
  | false=>
   have bP:=of_decide_eq_false h1
   rw [show (.v (.bool (dh true n most)):DV)=.v (.bool false) from (bv (by unfold dh;simp<;>omega))]
   exact aK tk mo hK rfl [(1,[(1,.b false),(6,.b false)])] 2000 r (by kernel_rfl) (U h0 (U h1 trivial))
  | true=>
   have bP:=of_decide_eq_true h1
   cases h2:(decide ((n:Int)≤most)) with
   | false=>
    have c8:=of_decide_eq_false h2
    rw [show (.v (.bool (dh true n most)):DV)=.v (.bool false) from (bv (by unfold dh;simp<;>omega))]
    exact aK tk mo hK rfl [(1,[(1,.b false),(6,.b true),(11,.b false)])] 2000 r (by kernel_rfl) (U h0 (U h1 (U h2 trivial)))
   | true=>
    have c8:=of_decide_eq_true h2
    rw [show (.v (.bool (dh true n most)):DV)=.v (.bool true) from (bv (by unfold dh;simp<;>omega))]
    exact aK tk mo hK rfl [(1,[(1,.b false),(6,.b true),(11,.b true)])] 2000 r (by kernel_rfl) (U h0 (U h1 (U h2 trivial)))
 | true=>
  have a7:=eq_of_beq h0
  rw [show (.v (.bool (dh true n most)):DV)=.v (.bool true) from (bv (by unfold dh;simp<;>omega))]
  exact aK tk mo hK rfl [(1,[(1,.b true)])] 2000 r (by kernel_rfl) (U h0 trivial)
set_option maxRecDepth 100000 in
theorem ER (n most:Int):al Tryz.prog 54 [.d (.v (.bool false)),.z n,.z most] (.v (.bool (dh false n most))):=by
 refine al.intro (by kernel_rfl) rfl rfl 21 rfl rfl fun w0 K ac hK r=>?_
 cases h0:((n:Int)==0) with
 | false=>
  have a7:=ne_of_beq_false h0
  rw [show (.v (.bool (dh false n most)):DV)=.v (.bool false) from (bv (by unfold dh;simp<;>omega))]
  exact aK tk mo hK rfl [(1,[(1,.b false)])] 2000 r (by kernel_rfl) (U h0 trivial)
 | true=>
  have a7:=eq_of_beq h0
  rw [show (.v (.bool (dh false n most)):DV)=.v (.bool true) from (bv (by unfold dh;simp<;>omega))]
  exact aK tk mo hK rfl [(1,[(1,.b true)])] 2000 r (by kernel_rfl) (U h0 trivial)
theorem fy (has:Bool) (n most:Int):al Tryz.prog 54 [.d (.v (.bool has)),.z n,.z most] (.v (.bool (dh has n most))):=by
 cases has with
 | true=>exact FM n most
 | false=>exact ER n most
set_option maxRecDepth 100000 in
theorem oL (l:List UInt8) (f:Nat) (hl:l.length≤9223372036854775807):al Tryz.prog 60 [.d (.v (.string ⟨l.toArray⟩)),.d (.v (.int .u8 (((f:Nat):Int))))] (.v (.bool (bj l f))):=by
 refine al.intro (by kernel_rfl) rfl rfl 17 rfl rfl fun w0 K ac hK r=>?_
 refine aU (todo':=hd Tryz.f60 0) (E':=[(0,.d (.v (.string ⟨l.toArray⟩))),(1,.d (.v (.int .u8 (((f:Nat):Int))))),(5,.n 0)]) (M':=[]) tk mo hK [] 2000 [] [0,1,5] r (by kernel_rfl) trivial fun ac wd r=>?_
 refine aF.rounds (Φ:=fun (i:Nat) ac wd=>(∀ (j:Nat) b,j<i→l[j]?=some b→((b.toNat:Nat):Int)≠(f:Int))∧cN [] w0 K 17 [(0,.d (.v (.string ⟨l.toArray⟩))),(1,.d (.v (.int .u8 (((f:Nat):Int))))),(5,.n i)] [] ac wd) (l.length) ?_ (Nat.zero_le _) ⟨(fun j b h=>absurd h (Nat.not_lt_zero _)),r⟩
 clear r
 rintro i dw bH ac wd ⟨aq,r⟩
 cases h0:(decide ((((i:Nat):Int):Int)<((l.length:Nat):Int))) with
 | false=>
  have a7:=of_decide_eq_false h0
  rw [show (.v (.bool (bj l f)):DV)=.v (.bool false) from (bv (by first | exact zQ bY (by omega) | exact Ao (by omega) aq))]
  exact aK tk mo hK rfl [(2,[(3,.b false)])] 2000 r (by kernel_rfl) (U h0 trivial)
 | true=>
  have a7:=of_decide_eq_true h0
  obtain ⟨ay,bY⟩:∃ x_,l[i]?=some x_:=⟨_,List.getElem?_eq_getElem (by omega)⟩
  have aM:=(⟨_,bY,rfl⟩:∃ u:UInt8,(l:List UInt8)[i]?=some u∧(.v (.int .u8 (((ay.toNat:Nat):Int))):DV)=.v (.int .u8 (u.toNat:Int)))
  cases h1:((((ay.toNat:Nat):Int):Int)==((f:Nat):Int)) with
  | false=>
   have bP:=ne_of_beq_false h1
   exact aU (todo':=hd Tryz.f60 0) tk mo hK [(2,[(3,.b true)]),(3,[(1,.z (((i+1:Nat):Int)))]),(4,[(2,.ix (i) [.v (.int .u8 (((ay.toNat:Nat):Int)))]),(4,.b false)])] 2000 [] [0,1,5] r (by kernel_rfl) (U h0 (U (aC ((i:Nat):Int)) (U aM (U h1 (U ((wi (by omega)):IntKind.i64.wrap ((((i:Nat):Int):Int)+1)=((i+1:Nat):Int)) trivial))))) fun ac wd r=>bH (by omega) ac wd ⟨(fun j o hj hx=>by rcases Nat.lt_succ_iff_lt_or_eq.1 hj with h | rfl;exact aq j o h hx;rw [bY] at hx;cases hx;omega),r⟩
  | true=>
   have bP:=eq_of_beq h1
   rw [show (.v (.bool (bj l f)):DV)=.v (.bool true) from (bv (by first | exact zQ bY (by omega) | exact Ao (by omega) aq))]
   exact aK tk mo hK rfl [(2,[(3,.b true)]),(4,[(2,.ix (i) [.v (.int .u8 (((ay.toNat:Nat):Int)))]),(4,.b true)])] 2000 r (by kernel_rfl) (U h0 (U (aC ((i:Nat):Int)) (U aM (U h1 trivial))))
theorem FN {k:Nat} (h:k<14):([[.v (.string .empty)],[.v (.string ⟨([110]).toArray⟩)],[.v (.string ⟨([110,112,105]).toArray⟩)],[.v (.string ⟨([110,112,105]).toArray⟩)],[.v (.string ⟨([110,112,105]).toArray⟩)],[.v (.string ⟨([110,112,105,98]).toArray⟩)],[.v (.string ⟨([110,112]).toArray⟩)],[.v (.string ⟨([110,112]).toArray⟩)],[.v (.string ⟨([110]).toArray⟩)],[.v (.string ⟨([110,99]).toArray⟩)],[.v (.string ⟨([110,116]).toArray⟩)],[.v (.string ⟨([110]).toArray⟩)],[.v (.string ⟨([110]).toArray⟩)],[.v (.string ⟨([110]).toArray⟩)]]:List (List DV))[k]?=some [.v (.string ⟨(cD k).toArray⟩)]:=kG (p:=fun k=>([[.v (.string .empty)],[.v (.string ⟨([110]).toArray⟩)],[.v (.string ⟨([110,112,105]).toArray⟩)],[.v (.string ⟨([110,112,105]).toArray⟩)],[.v (.string ⟨([110,112,105]).toArray⟩)],[.v (.string ⟨([110,112,105,98]).toArray⟩)],[.v (.string ⟨([110,112]).toArray⟩)],[.v (.string ⟨([110,112]).toArray⟩)],[.v (.string ⟨([110]).toArray⟩)],[.v (.string ⟨([110,99]).toArray⟩)],[.v (.string ⟨([110,116]).toArray⟩)],[.v (.string ⟨([110]).toArray⟩)],[.v (.string ⟨([110]).toArray⟩)],[.v (.string ⟨([110]).toArray⟩)]]:List (List DV))[k]?=some [.v (.string ⟨(cD k).toArray⟩)]) rfl rfl rfl rfl rfl rfl rfl rfl rfl rfl rfl rfl rfl rfl h
set_option maxRecDepth 100000 in
theorem df (k:Int):al Tryz.prog 59 [.z k] (.v (.string ⟨(fieldsOf k).toArray⟩)):=by
 refine al.intro (by kernel_rfl) rfl rfl 17 rfl rfl fun w0 K ac hK r=>?_
 cases h0:(decide ((k:Int)<0)) with
 | false=>
  have a7:=of_decide_eq_false h0
  cases h1:(decide ((((14:Nat):Int):Int)≤k)) with
  | false=>
   have bP:=of_decide_eq_false h1
   rw [show (.v (.string ⟨(fieldsOf k).toArray⟩):DV)=.v (.string ⟨(cD k.toNat).toArray⟩) from (by first | exact sv (pV (by omega) (by omega)) | exact sv (rF (by omega)))]
   exact aK tk mo hK rfl [(2,[(1,.b false),(6,.b false)]),(4,[(2,.n (k.toNat)),(3,.ix 0 [.v (.string ⟨(cD k.toNat).toArray⟩)])])] 2000 r (by kernel_rfl) (U h0 (U h1 (U ((by omega):(k)=((k.toNat:Nat):Int)) (U ((by first | omega | decide | (simp;done) | (simp;omega)):(k.toNat)<(14)) (U ((by first | rfl | (simp;done) | (simp<;>omega)):(14)≤([[.v (.string .empty)],[.v (.string ⟨([110]).toArray⟩)],[.v (.string ⟨([110,112,105]).toArray⟩)],[.v (.string ⟨([110,112,105]).toArray⟩)],[.v (.string ⟨([110,112,105]).toArray⟩)],[.v (.string ⟨([110,112,105,98]).toArray⟩)],[.v (.string ⟨([110,112]).toArray⟩)],[.v (.string ⟨([110,112]).toArray⟩)],[.v (.string ⟨([110]).toArray⟩)],[.v (.string ⟨([110,99]).toArray⟩)],[.v (.string ⟨([110,116]).toArray⟩)],[.v (.string ⟨([110]).toArray⟩)],[.v (.string ⟨([110]).toArray⟩)],[.v (.string ⟨([110]).toArray⟩)]]:List (List DV)).length) (U (FN (by omega):([[.v (.string .empty)],[.v (.string ⟨([110]).toArray⟩)],[.v (.string ⟨([110,112,105]).toArray⟩)],[.v (.string ⟨([110,112,105]).toArray⟩)],[.v (.string ⟨([110,112,105]).toArray⟩)],[.v (.string ⟨([110,112,105,98]).toArray⟩)],[.v (.string ⟨([110,112]).toArray⟩)],[.v (.string ⟨([110,112]).toArray⟩)],[.v (.string ⟨([110]).toArray⟩)],[.v (.string ⟨([110,99]).toArray⟩)],[.v (.string ⟨([110,116]).toArray⟩)],[.v (.string ⟨([110]).toArray⟩)],[.v (.string ⟨([110]).toArray⟩)],[.v (.string ⟨([110]).toArray⟩)]]:List (List DV))[k.toNat]?=some [.v (.string ⟨(cD k.toNat).toArray⟩)]) trivial))))))
  | true=>
   have bP:=of_decide_eq_true h1
   rw [show (.v (.string ⟨(fieldsOf k).toArray⟩):DV)=.v (.string ⟨([45]).toArray⟩) from (by first | exact sv (pV (by omega) (by omega)) | exact sv (rF (by omega)))]
   exact aK tk mo hK rfl [(2,[(1,.b false),(6,.b true)])] 2000 r (by kernel_rfl) (U h0 (U h1 trivial))
 | true=>
  have a7:=of_decide_eq_true h0
  rw [show (.v (.string ⟨(fieldsOf k).toArray⟩):DV)=.v (.string ⟨([45]).toArray⟩) from (by first | exact sv (pV (by omega) (by omega)) | exact sv (rF (by omega)))]
  exact aK tk mo hK rfl [(2,[(1,.b true)])] 2000 r (by kernel_rfl) (U h0 trivial)
set_option maxRecDepth 100000 in
theorem xa (s:aL):aE Tryz.prog 24 [.ag [.z s.kind,.z s.node,.z s.peer,.z s.n,.z s.bit,.u s.inc,.d (.ro 1 (ae s.body))]] [.gw 0 aj] (.d (.v (.bool (hasB s)))) ([.gw 0 aj]):=by
 refine aE.intro (by kernel_rfl) rfl rfl 59 rfl rfl fun D w0 K bs ac wd hK (ao:bs.m=1) r=>?_
 cases h0:(decide ((s.kind:Int)<0)) with
 | false=>
  have a7:=of_decide_eq_false h0
  cases h1:(decide ((14:Int)≤s.kind)) with
  | false=>
   have bP:=of_decide_eq_false h1
   cases h2:((af s.kind.toNat).inc) with
   | false=>
    have aM:=((by rw [np (by omega)];unfold jZ.row;rw [h2]):List.take 7 (List.drop ((s.kind.toNat)*7) (aj:List DV))=([.v (.string ⟨((af s.kind.toNat).word).toArray⟩),.v (.bool ((af s.kind.toNat).node)),.v (.bool ((af s.kind.toNat).peer)),.v (.bool ((af s.kind.toNat).n)),.v (.bool ((af s.kind.toNat).bit)),.v (.bool false),.v (.bool ((af s.kind.toNat).body))]:List DV))
    cases h3:(dh ((af s.kind.toNat).node) s.node 255) with
    | false=>
     refine bq (y:=.d (.v (.bool false))) (N':=[.gw 0 aj]) ((congrArg (fun b=>AV.d (.v (.bool b))) (by first | exact ik (by omega) | exact ij (by omega) (by omega) (by unfold fB;simp [h0,h1,h2,h3]<;>omega)))) (rfl) ?_
     exact bp tk mo hK rfl ao [(1,[(2,.b false),(6,.b false)]),(3,[(2,.ix (s.kind.toNat) [.v (.string ⟨((af s.kind.toNat).word).toArray⟩),.v (.bool ((af s.kind.toNat).node)),.v (.bool ((af s.kind.toNat).peer)),.v (.bool ((af s.kind.toNat).n)),.v (.bool ((af s.kind.toNat).bit)),.v (.bool false),.v (.bool ((af s.kind.toNat).body))])]),(4,[(4,.au (.v (.bool false)))])] 2000 [0] r (by kernel_rfl) (U h0 (U h1 (U ((by omega):(s.kind)=((s.kind.toNat:Nat):Int)) (U ((by omega):(s.kind.toNat)<14) (U aM (U ((by have k:=fy ((af s.kind.toNat).node) s.node 255;rw [h3] at k;exact k):al Tryz.prog 54 [.d (.v (.bool ((af s.kind.toNat).node))),.z s.node,.z 255] (.v (.bool false))) trivial))))))
    | true=>
     have br:=((by have k:=fy ((af s.kind.toNat).node) s.node 255;rw [h3] at k;exact k):al Tryz.prog 54 [.d (.v (.bool ((af s.kind.toNat).node))),.z s.node,.z 255] (.v (.bool true)))
     cases h4:(dh ((af s.kind.toNat).peer) s.peer 255) with
     | false=>
      refine bq (y:=.d (.v (.bool false))) (N':=[.gw 0 aj]) ((congrArg (fun b=>AV.d (.v (.bool b))) (by first | exact ik (by omega) | exact ij (by omega) (by omega) (by unfold fB;simp [h0,h1,h2,h3,h4]<;>omega)))) (rfl) ?_
      exact bp tk mo hK rfl ao [(1,[(2,.b false),(6,.b false)]),(3,[(2,.ix (s.kind.toNat) [.v (.string ⟨((af s.kind.toNat).word).toArray⟩),.v (.bool ((af s.kind.toNat).node)),.v (.bool ((af s.kind.toNat).peer)),.v (.bool ((af s.kind.toNat).n)),.v (.bool ((af s.kind.toNat).bit)),.v (.bool false),.v (.bool ((af s.kind.toNat).body))])]),(4,[(4,.au (.v (.bool true))),(10,.au (.v (.bool false)))])] 2000 [0] r (by kernel_rfl) (U h0 (U h1 (U ((by omega):(s.kind)=((s.kind.toNat:Nat):Int)) (U ((by omega):(s.kind.toNat)<14) (U aM (U br (U ((by have k:=fy ((af s.kind.toNat).peer) s.peer 255;rw [h4] at k;exact k):al Tryz.prog 54 [.d (.v (.bool ((af s.kind.toNat).peer))),.z s.peer,.z 255] (.v (.bool false))) trivial)))))))
     | true=>
      have cT:=((by have k:=fy ((af s.kind.toNat).peer) s.peer 255;rw [h4] at k;exact k):al Tryz.prog 54 [.d (.v (.bool ((af s.kind.toNat).peer))),.z s.peer,.z 255] (.v (.bool true)))
      cases h5:(dh ((af s.kind.toNat).n) s.n 255) with
      | false=>
       refine bq (y:=.d (.v (.bool false))) (N':=[.gw 0 aj]) ((congrArg (fun b=>AV.d (.v (.bool b))) (by first | exact ik (by omega) | exact ij (by omega) (by omega) (by unfold fB;simp [h0,h1,h2,h3,h4,h5]<;>omega)))) (rfl) ?_
       exact bp tk mo hK rfl ao [(1,[(2,.b false),(6,.b false)]),(3,[(2,.ix (s.kind.toNat) [.v (.string ⟨((af s.kind.toNat).word).toArray⟩),.v (.bool ((af s.kind.toNat).node)),.v (.bool ((af s.kind.toNat).peer)),.v (.bool ((af s.kind.toNat).n)),.v (.bool ((af s.kind.toNat).bit)),.v (.bool false),.v (.bool ((af s.kind.toNat).body))])]),(4,[(4,.au (.v (.bool true))),(10,.au (.v (.bool true))),(17,.au (.v (.bool false)))])] 2000 [0] r (by kernel_rfl) (U h0 (U h1 (U ((by omega):(s.kind)=((s.kind.toNat:Nat):Int)) (U ((by omega):(s.kind.toNat)<14) (U aM (U br (U cT (U ((by have k:=fy ((af s.kind.toNat).n) s.n 255;rw [h5] at k;exact k):al Tryz.prog 54 [.d (.v (.bool ((af s.kind.toNat).n))),.z s.n,.z 255] (.v (.bool false))) trivial))))))))
      | true=>
       have dx:=((by have k:=fy ((af s.kind.toNat).n) s.n 255;rw [h5] at k;exact k):al Tryz.prog 54 [.d (.v (.bool ((af s.kind.toNat).n))),.z s.n,.z 255] (.v (.bool true)))
       cases h6:(dh ((af s.kind.toNat).bit) s.bit 65535) with
       | false=>
        refine bq (y:=.d (.v (.bool false))) (N':=[.gw 0 aj]) ((congrArg (fun b=>AV.d (.v (.bool b))) (by first | exact ik (by omega) | exact ij (by omega) (by omega) (by unfold fB;simp [h0,h1,h2,h3,h4,h5,h6]<;>omega)))) (rfl) ?_
        exact bp tk mo hK rfl ao [(1,[(2,.b false),(6,.b false)]),(3,[(2,.ix (s.kind.toNat) [.v (.string ⟨((af s.kind.toNat).word).toArray⟩),.v (.bool ((af s.kind.toNat).node)),.v (.bool ((af s.kind.toNat).peer)),.v (.bool ((af s.kind.toNat).n)),.v (.bool ((af s.kind.toNat).bit)),.v (.bool false),.v (.bool ((af s.kind.toNat).body))])]),(4,[(4,.au (.v (.bool true))),(10,.au (.v (.bool true))),(17,.au (.v (.bool true))),(24,.au (.v (.bool false)))])] 2000 [0] r (by kernel_rfl) (U h0 (U h1 (U ((by omega):(s.kind)=((s.kind.toNat:Nat):Int)) (U ((by omega):(s.kind.toNat)<14) (U aM (U br (U cT (U dx (U ((by have k:=fy ((af s.kind.toNat).bit) s.bit 65535;rw [h6] at k;exact k):al Tryz.prog 54 [.d (.v (.bool ((af s.kind.toNat).bit))),.z s.bit,.z 65535] (.v (.bool false))) trivial)))))))))
       | true=>
        have dQ:=((by have k:=fy ((af s.kind.toNat).bit) s.bit 65535;rw [h6] at k;exact k):al Tryz.prog 54 [.d (.v (.bool ((af s.kind.toNat).bit))),.z s.bit,.z 65535] (.v (.bool true)))
        have fc:=((by first | rfl | simp [ae,ah,ints,steps,strs]):(((ae s.body).length:Nat):Int)=((s.body.length:Nat):Int))
        cases h7:(dh ((af s.kind.toNat).body) ((s.body.length:Nat):Int) 255) with
        | false=>
         refine bq (y:=.d (.v (.bool false))) (N':=[.gw 0 aj]) ((congrArg (fun b=>AV.d (.v (.bool b))) (by first | exact ik (by omega) | exact ij (by omega) (by omega) (by unfold fB;simp [h0,h1,h2,h3,h4,h5,h6,h7]<;>omega)))) (rfl) ?_
         exact bp tk mo hK rfl ao [(1,[(2,.b false),(6,.b false)]),(3,[(2,.ix (s.kind.toNat) [.v (.string ⟨((af s.kind.toNat).word).toArray⟩),.v (.bool ((af s.kind.toNat).node)),.v (.bool ((af s.kind.toNat).peer)),.v (.bool ((af s.kind.toNat).n)),.v (.bool ((af s.kind.toNat).bit)),.v (.bool false),.v (.bool ((af s.kind.toNat).body))])]),(4,[(4,.au (.v (.bool true))),(10,.au (.v (.bool true))),(17,.au (.v (.bool true))),(24,.au (.v (.bool true))),(31,.z (((s.body.length:Nat):Int))),(32,.au (.v (.bool false)))])] 2000 [0] r (by kernel_rfl) (U h0 (U h1 (U ((by omega):(s.kind)=((s.kind.toNat:Nat):Int)) (U ((by omega):(s.kind.toNat)<14) (U aM (U br (U cT (U dx (U dQ (U fc (U ((by have k:=fy ((af s.kind.toNat).body) ((s.body.length:Nat):Int) 255;rw [h7] at k;exact k):al Tryz.prog 54 [.d (.v (.bool ((af s.kind.toNat).body))),.n s.body.length,.z 255] (.v (.bool false))) trivial)))))))))))
        | true=>
         have dE:=((by have k:=fy ((af s.kind.toNat).body) ((s.body.length:Nat):Int) 255;rw [h7] at k;exact k):al Tryz.prog 54 [.d (.v (.bool ((af s.kind.toNat).body))),.n s.body.length,.z 255] (.v (.bool true)))
         cases h8:((((s.inc:Nat):Int):Int)==0) with
         | false=>
          have fM:=ne_of_beq_false h8
          refine bq (y:=.d (.v (.bool false))) (N':=[.gw 0 aj]) ((congrArg (fun b=>AV.d (.v (.bool b))) (by first | exact ik (by omega) | exact ij (by omega) (by omega) (by unfold fB;simp [h0,h1,h2,h3,h4,h5,h6,h7,h8]<;>omega)))) (rfl) ?_
          exact bp tk mo hK rfl ao [(1,[(2,.b false),(6,.b false)]),(3,[(2,.ix (s.kind.toNat) [.v (.string ⟨((af s.kind.toNat).word).toArray⟩),.v (.bool ((af s.kind.toNat).node)),.v (.bool ((af s.kind.toNat).peer)),.v (.bool ((af s.kind.toNat).n)),.v (.bool ((af s.kind.toNat).bit)),.v (.bool false),.v (.bool ((af s.kind.toNat).body))])]),(4,[(4,.au (.v (.bool true))),(10,.au (.v (.bool true))),(17,.au (.v (.bool true))),(24,.au (.v (.bool true))),(31,.z (((s.body.length:Nat):Int))),(32,.au (.v (.bool true))),(40,.b false)])] 2000 [0] r (by kernel_rfl) (U h0 (U h1 (U ((by omega):(s.kind)=((s.kind.toNat:Nat):Int)) (U ((by omega):(s.kind.toNat)<14) (U aM (U br (U cT (U dx (U dQ (U fc (U dE (U h8 trivial))))))))))))
         | true=>
          have fM:=eq_of_beq h8
          refine bq (y:=.d (.v (.bool true))) (N':=[.gw 0 aj]) ((congrArg (fun b=>AV.d (.v (.bool b))) (by first | exact ik (by omega) | exact ij (by omega) (by omega) (by unfold fB;simp [h0,h1,h2,h3,h4,h5,h6,h7,h8]<;>omega)))) (rfl) ?_
          exact bp tk mo hK rfl ao [(1,[(2,.b false),(6,.b false)]),(3,[(2,.ix (s.kind.toNat) [.v (.string ⟨((af s.kind.toNat).word).toArray⟩),.v (.bool ((af s.kind.toNat).node)),.v (.bool ((af s.kind.toNat).peer)),.v (.bool ((af s.kind.toNat).n)),.v (.bool ((af s.kind.toNat).bit)),.v (.bool false),.v (.bool ((af s.kind.toNat).body))])]),(4,[(4,.au (.v (.bool true))),(10,.au (.v (.bool true))),(17,.au (.v (.bool true))),(24,.au (.v (.bool true))),(31,.z (((s.body.length:Nat):Int))),(32,.au (.v (.bool true))),(40,.b true)])] 2000 [0] r (by kernel_rfl) (U h0 (U h1 (U ((by omega):(s.kind)=((s.kind.toNat:Nat):Int)) (U ((by omega):(s.kind.toNat)<14) (U aM (U br (U cT (U dx (U dQ (U fc (U dE (U h8 trivial))))))))))))
   | true=>
    have dF:=((by rw [np (by omega)];unfold jZ.row;rw [h2]):List.take 7 (List.drop ((s.kind.toNat)*7) (aj:List DV))=([.v (.string ⟨((af s.kind.toNat).word).toArray⟩),.v (.bool ((af s.kind.toNat).node)),.v (.bool ((af s.kind.toNat).peer)),.v (.bool ((af s.kind.toNat).n)),.v (.bool ((af s.kind.toNat).bit)),.v (.bool true),.v (.bool ((af s.kind.toNat).body))]:List DV))
    cases h9:(dh ((af s.kind.toNat).node) s.node 255) with
    | false=>
     refine bq (y:=.d (.v (.bool false))) (N':=[.gw 0 aj]) ((congrArg (fun b=>AV.d (.v (.bool b))) (by first | exact ik (by omega) | exact ij (by omega) (by omega) (by unfold fB;simp [h0,h1,h2,h9]<;>omega)))) (rfl) ?_
     exact bp tk mo hK rfl ao [(1,[(2,.b false),(6,.b false)]),(3,[(2,.ix (s.kind.toNat) [.v (.string ⟨((af s.kind.toNat).word).toArray⟩),.v (.bool ((af s.kind.toNat).node)),.v (.bool ((af s.kind.toNat).peer)),.v (.bool ((af s.kind.toNat).n)),.v (.bool ((af s.kind.toNat).bit)),.v (.bool true),.v (.bool ((af s.kind.toNat).body))])]),(4,[(4,.au (.v (.bool false)))])] 2000 [0] r (by kernel_rfl) (U h0 (U h1 (U ((by omega):(s.kind)=((s.kind.toNat:Nat):Int)) (U ((by omega):(s.kind.toNat)<14) (U dF (U ((by have k:=fy ((af s.kind.toNat).node) s.node 255;rw [h9] at k;exact k):al Tryz.prog 54 [.d (.v (.bool ((af s.kind.toNat).node))),.z s.node,.z 255] (.v (.bool false))) trivial))))))
    | true=>
     have eK:=((by have k:=fy ((af s.kind.toNat).node) s.node 255;rw [h9] at k;exact k):al Tryz.prog 54 [.d (.v (.bool ((af s.kind.toNat).node))),.z s.node,.z 255] (.v (.bool true)))
     cases cy:(dh ((af s.kind.toNat).peer) s.peer 255) with
     | false=>
      refine bq (y:=.d (.v (.bool false))) (N':=[.gw 0 aj]) ((congrArg (fun b=>AV.d (.v (.bool b))) (by first | exact ik (by omega) | exact ij (by omega) (by omega) (by unfold fB;simp [h0,h1,h2,h9,cy]<;>omega)))) (rfl) ?_
      exact bp tk mo hK rfl ao [(1,[(2,.b false),(6,.b false)]),(3,[(2,.ix (s.kind.toNat) [.v (.string ⟨((af s.kind.toNat).word).toArray⟩),.v (.bool ((af s.kind.toNat).node)),.v (.bool ((af s.kind.toNat).peer)),.v (.bool ((af s.kind.toNat).n)),.v (.bool ((af s.kind.toNat).bit)),.v (.bool true),.v (.bool ((af s.kind.toNat).body))])]),(4,[(4,.au (.v (.bool true))),(10,.au (.v (.bool false)))])] 2000 [0] r (by kernel_rfl) (U h0 (U h1 (U ((by omega):(s.kind)=((s.kind.toNat:Nat):Int)) (U ((by omega):(s.kind.toNat)<14) (U dF (U eK (U ((by have k:=fy ((af s.kind.toNat).peer) s.peer 255;rw [cy] at k;exact k):al Tryz.prog 54 [.d (.v (.bool ((af s.kind.toNat).peer))),.z s.peer,.z 255] (.v (.bool false))) trivial)))))))
     | true=>
      have gG:=((by have k:=fy ((af s.kind.toNat).peer) s.peer 255;rw [cy] at k;exact k):al Tryz.prog 54 [.d (.v (.bool ((af s.kind.toNat).peer))),.z s.peer,.z 255] (.v (.bool true)))
      cases eb:(dh ((af s.kind.toNat).n) s.n 255) with
      | false=>
       refine bq (y:=.d (.v (.bool false))) (N':=[.gw 0 aj]) ((congrArg (fun b=>AV.d (.v (.bool b))) (by first | exact ik (by omega) | exact ij (by omega) (by omega) (by unfold fB;simp [h0,h1,h2,h9,cy,eb]<;>omega)))) (rfl) ?_
       exact bp tk mo hK rfl ao [(1,[(2,.b false),(6,.b false)]),(3,[(2,.ix (s.kind.toNat) [.v (.string ⟨((af s.kind.toNat).word).toArray⟩),.v (.bool ((af s.kind.toNat).node)),.v (.bool ((af s.kind.toNat).peer)),.v (.bool ((af s.kind.toNat).n)),.v (.bool ((af s.kind.toNat).bit)),.v (.bool true),.v (.bool ((af s.kind.toNat).body))])]),(4,[(4,.au (.v (.bool true))),(10,.au (.v (.bool true))),(17,.au (.v (.bool false)))])] 2000 [0] r (by kernel_rfl) (U h0 (U h1 (U ((by omega):(s.kind)=((s.kind.toNat:Nat):Int)) (U ((by omega):(s.kind.toNat)<14) (U dF (U eK (U gG (U ((by have k:=fy ((af s.kind.toNat).n) s.n 255;rw [eb] at k;exact k):al Tryz.prog 54 [.d (.v (.bool ((af s.kind.toNat).n))),.z s.n,.z 255] (.v (.bool false))) trivial))))))))
      | true=>
       have iw:=((by have k:=fy ((af s.kind.toNat).n) s.n 255;rw [eb] at k;exact k):al Tryz.prog 54 [.d (.v (.bool ((af s.kind.toNat).n))),.z s.n,.z 255] (.v (.bool true)))
       cases dc:(dh ((af s.kind.toNat).bit) s.bit 65535) with
       | false=>
        refine bq (y:=.d (.v (.bool false))) (N':=[.gw 0 aj]) ((congrArg (fun b=>AV.d (.v (.bool b))) (by first | exact ik (by omega) | exact ij (by omega) (by omega) (by unfold fB;simp [h0,h1,h2,h9,cy,eb,dc]<;>omega)))) (rfl) ?_
        exact bp tk mo hK rfl ao [(1,[(2,.b false),(6,.b false)]),(3,[(2,.ix (s.kind.toNat) [.v (.string ⟨((af s.kind.toNat).word).toArray⟩),.v (.bool ((af s.kind.toNat).node)),.v (.bool ((af s.kind.toNat).peer)),.v (.bool ((af s.kind.toNat).n)),.v (.bool ((af s.kind.toNat).bit)),.v (.bool true),.v (.bool ((af s.kind.toNat).body))])]),(4,[(4,.au (.v (.bool true))),(10,.au (.v (.bool true))),(17,.au (.v (.bool true))),(24,.au (.v (.bool false)))])] 2000 [0] r (by kernel_rfl) (U h0 (U h1 (U ((by omega):(s.kind)=((s.kind.toNat:Nat):Int)) (U ((by omega):(s.kind.toNat)<14) (U dF (U eK (U gG (U iw (U ((by have k:=fy ((af s.kind.toNat).bit) s.bit 65535;rw [dc] at k;exact k):al Tryz.prog 54 [.d (.v (.bool ((af s.kind.toNat).bit))),.z s.bit,.z 65535] (.v (.bool false))) trivial)))))))))
       | true=>
        have nP:=((by have k:=fy ((af s.kind.toNat).bit) s.bit 65535;rw [dc] at k;exact k):al Tryz.prog 54 [.d (.v (.bool ((af s.kind.toNat).bit))),.z s.bit,.z 65535] (.v (.bool true)))
        have pe:=((by first | rfl | simp [ae,ah,ints,steps,strs]):(((ae s.body).length:Nat):Int)=((s.body.length:Nat):Int))
        cases ei:(dh ((af s.kind.toNat).body) ((s.body.length:Nat):Int) 255) with
        | false=>
         refine bq (y:=.d (.v (.bool false))) (N':=[.gw 0 aj]) ((congrArg (fun b=>AV.d (.v (.bool b))) (by first | exact ik (by omega) | exact ij (by omega) (by omega) (by unfold fB;simp [h0,h1,h2,h9,cy,eb,dc,ei]<;>omega)))) (rfl) ?_
         exact bp tk mo hK rfl ao [(1,[(2,.b false),(6,.b false)]),(3,[(2,.ix (s.kind.toNat) [.v (.string ⟨((af s.kind.toNat).word).toArray⟩),.v (.bool ((af s.kind.toNat).node)),.v (.bool ((af s.kind.toNat).peer)),.v (.bool ((af s.kind.toNat).n)),.v (.bool ((af s.kind.toNat).bit)),.v (.bool true),.v (.bool ((af s.kind.toNat).body))])]),(4,[(4,.au (.v (.bool true))),(10,.au (.v (.bool true))),(17,.au (.v (.bool true))),(24,.au (.v (.bool true))),(31,.z (((s.body.length:Nat):Int))),(32,.au (.v (.bool false)))])] 2000 [0] r (by kernel_rfl) (U h0 (U h1 (U ((by omega):(s.kind)=((s.kind.toNat:Nat):Int)) (U ((by omega):(s.kind.toNat)<14) (U dF (U eK (U gG (U iw (U nP (U pe (U ((by have k:=fy ((af s.kind.toNat).body) ((s.body.length:Nat):Int) 255;rw [ei] at k;exact k):al Tryz.prog 54 [.d (.v (.bool ((af s.kind.toNat).body))),.n s.body.length,.z 255] (.v (.bool false))) trivial)))))))))))
        | true=>
         refine bq (y:=.d (.v (.bool true))) (N':=[.gw 0 aj]) ((congrArg (fun b=>AV.d (.v (.bool b))) (by first | exact ik (by omega) | exact ij (by omega) (by omega) (by unfold fB;simp [h0,h1,h2,h9,cy,eb,dc,ei]<;>omega)))) (rfl) ?_
         exact bp tk mo hK rfl ao [(1,[(2,.b false),(6,.b false)]),(3,[(2,.ix (s.kind.toNat) [.v (.string ⟨((af s.kind.toNat).word).toArray⟩),.v (.bool ((af s.kind.toNat).node)),.v (.bool ((af s.kind.toNat).peer)),.v (.bool ((af s.kind.toNat).n)),.v (.bool ((af s.kind.toNat).bit)),.v (.bool true),.v (.bool ((af s.kind.toNat).body))])]),(4,[(4,.au (.v (.bool true))),(10,.au (.v (.bool true))),(17,.au (.v (.bool true))),(24,.au (.v (.bool true))),(31,.z (((s.body.length:Nat):Int))),(32,.au (.v (.bool true)))])] 2000 [0] r (by kernel_rfl) (U h0 (U h1 (U ((by omega):(s.kind)=((s.kind.toNat:Nat):Int)) (U ((by omega):(s.kind.toNat)<14) (U dF (U eK (U gG (U iw (U nP (U pe (U ((by have k:=fy ((af s.kind.toNat).body) ((s.body.length:Nat):Int) 255;rw [ei] at k;exact k):al Tryz.prog 54 [.d (.v (.bool ((af s.kind.toNat).body))),.n s.body.length,.z 255] (.v (.bool true))) trivial)))))))))))
  | true=>
   have bP:=of_decide_eq_true h1
   refine bq (y:=.d (.v (.bool false))) (N':=[.gw 0 aj]) ((congrArg (fun b=>AV.d (.v (.bool b))) (by first | exact ik (by omega) | exact ij (by omega) (by omega) (by unfold fB;simp [h0,h1]<;>omega)))) (rfl) ?_
   exact bp tk mo hK rfl ao [(1,[(2,.b false),(6,.b true)])] 2000 [0] r (by kernel_rfl) (U h0 (U h1 trivial))
 | true=>
  have a7:=of_decide_eq_true h0
  refine bq (y:=.d (.v (.bool false))) (N':=[.gw 0 aj]) ((congrArg (fun b=>AV.d (.v (.bool b))) (by first | exact ik (by omega) | exact ij (by omega) (by omega) (by unfold fB;simp [h0]<;>omega)))) (rfl) ?_
  exact bp tk mo hK rfl ao [(1,[(2,.b true)])] 2000 [0] r (by kernel_rfl) (U h0 trivial)
end Go.Proofs.YtcnpikbbmbombaaGreatDoor
