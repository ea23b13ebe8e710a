/-
  scriptSteps_card, part 2 of 6: merged by program from the texts that it needs.
-/
import Derived.Test.YtcnpikbbmbombaaDoorSsA
set_option linter.unusedSimpArgs false
set_option linter.unusedVariables false
set_option linter.unnecessarySimpa false
namespace Go.Proofs.YtcnpikbbmbombaaDoor
open Go.RowKit
variable {P:Program} {T:aE} {D:List Nat} {w0:World} {K0:World→Prop} {E:List (Nat×AV)} {M:List ai} {β:Beta} {F:Nat→ak} {I X:ak} {ρ:Operand→Value} {w:World}
variable {d:Option Tmp} {ty:TypeId} {pos:String} {aft:Array Edge} {gd:Option (Nat×Bool)} {oc:Option aO} {out:Out}
def af (l:List UInt8):List (List DV):=l.map fun b=>[.v (.int .u8 (b.toNat:Int))]
theorem y4 {K:World→Prop} {l:List UInt8} {X:Nat→List Value} {G:Nat→Nat→ak} (h:de K 1 (af l) X G):lay (af l).length X=l.map fun b:UInt8=>.int .u8 b.toNat:=by
 have hl:(af l).length=l.length:=by simp [af]
 have hX:∀ i,i<(af l).length→(X i).length=1:=fun i hi=>(h.hl i _ (List.getElem?_eq_getElem hi)).2
 apply List.ext_getElem?
 intro p
 have gb:=dQ hX
 rcases Nat.lt_or_ge p l.length with hp | hp
 ·have Cl:p<(af l).length:=by omega
  have hg:=jz hX Cl (show 0<1 by omega)
  rw [Nat.mul_one,Nat.add_zero] at hg
  have bP:(af l)[p]?=some [.v (.int .u8 (l[p].toNat:Int))]:=by simp [af,List.getElem?_eq_getElem hp]
  obtain ⟨x,h1⟩:∃ x,(X p)[0]?=some x:=⟨(X p)[0]'(by rw [hX p Cl];omega),List.getElem?_eq_getElem _⟩
  have hd:=h.hr p _ 0 _ _ bP rfl h1
  generalize G p 0=GG at hd
  cases hd
  rw [hg,h1,List.getElem?_map,List.getElem?_eq_getElem hp];rfl
 ·rw [List.getElem?_eq_none (by omega),List.getElem?_eq_none (by simp;omega)]
def wZ (T:aE) (E:List (Nat×AV)) (M:List ai) (oc:Option aO) (t t':TypeId) (x:Operand):Option Out:=
 match iy T t,cR T t',oc with
 | some (e,_,_,_),some .st,some (.res (.v (.string s)))=>(match cR T e,aA E x with
  | some (.it .u8),some (.d (.ro k rows))=>bif Nat.beq k 1 then some (lk [rows=af s.data.toList] (.d (.v (.string s))) M) else none
  | some (.it .u8),some (.sl u n)=>(match M[u]? with | some (.rw _ k rows)=>bif Nat.beq k 1 then some ⟨[n=rows.length,rows=af s.data.toList],.d (.v (.string s)),M,[],[],some [u]⟩ else none | _=>none)
  | _,_=>none)
 | _,_,_=>none
theorem GZ (hT:aR P T=true) {t t':TypeId} {x:Operand} (h:wZ T E M oc t t' x=some out):aB P ⟨d,.convert t t' x,ty,pos,aft,gd⟩ E M out:=by
 unfold wZ at h
 split at h
 ·rename_i e _ _ _ s he a8
  obtain ⟨zv,ok,-,-⟩:=ka hT he
  split at h
  ·rename_i k rows qF hx
   cases hk:Nat.beq k 1 with
   | false=>simp [hk] at h
   | true=>
    simp only [hk,cond_true,Option.some.injEq] at h;subst h
    obtain rfl:=Nat.eq_of_beq_eq_true hk
    refine aB.same ?_
    intro D w0 K0 β F I ρ w C hv
    obtain ⟨rfl,-⟩:=hv
    have r:=C.ev hx
    generalize hy:ρ x=y at r
    cases r with | d r=>
    cases r with
    | ro X hl iv hs hr=>
     refine ⟨_,fun w' dv=>rr (.of fun _=>⟨_,rfl⟩) (yz (l:=s.data.toList) ok.a8 (cD hT qF) (cD hT a8) hy ?_ ⟨rfl,rfl⟩),.d (.v _)⟩
     have:=hs w' dv
     rw [y4 (G:=fun _ _=>[]) ⟨hl,hr⟩] at this
     simpa [af] using this
  ·rename_i u n qF hx
   split at h
   ·rename_i T2 k rows hM
    cases hk:Nat.beq k 1 with
    | false=>simp [hk] at h
    | true=>
     simp only [hk,cond_true,Option.some.injEq] at h;subst h
     obtain rfl:=Nat.eq_of_beq_eq_true hk
     refine aB.look ?_ (by simpa using eD hM)
     intro D w0 K0 β F I ρ w C hv
     obtain ⟨rfl,rfl,-⟩:=hv
     obtain ⟨X,G,H0,hF,dE,ra,hH⟩:=lH C.rm hM rfl (C.ev hx)
     refine ⟨_,.d (.v _),fun w' dv=>rr (.of fun _=>⟨_,rfl⟩) (yz (l:=s.data.toList) ok.a8 (cD hT qF) (cD hT a8) rfl ?_ ⟨rfl,rfl⟩)⟩
     have Cm:Holds w' (F u):=dv.2 u (by simp)
     rw [hF] at Cm
     have:=dE.src (Holds.app.1 Cm).1
     rw [y4 ra] at this
     simpa [af] using this
   ·simp at h
  ·simp at h
 ·simp at h
def oF (P:Program) (t:TypeId):Bool:=match P.underlying t with | some .bool=>true | _=>false
theorem yB {t:TypeId} (h:oF P t=true) (a b:Bool) (w:World):(Op.equal t (.bool a) (.bool b)).run P w=.ok (a==b) w:=by
 unfold oF at h
 split at h
 ·rename_i hu
  have:∀ m,(Op.equalIn (m+1) t (.bool a) (.bool b)).run P w=.ok (a==b) w:=by intro m;simp [Op.equalIn,Sem.run_bind,run_underlying hu]
  exact this 9999
 ·simp at h
def vS (P:Program) (E:List (Nat×AV)) (M:List ai) (oc:Option aO) (op:BinOp) (t:TypeId) (x y:Operand):Option Out:=
 match kK (aA E x),kK (aA E y),op with
 | some a,some b,.eql=>bif oF P t then some (kL oc (a==b) M) else none
 | some a,some b,.neq=>bif oF P t then some (kL oc (!(a==b)) M) else none
 | _,_,_=>none
theorem Ft {op:BinOp} {t t':TypeId} {x y:Operand} (h:vS P E M oc op t x y=some out):aB P ⟨d,.binOp op t x y t',ty,pos,aft,gd⟩ E M out:=by
 unfold vS at h
 split at h
 ·rename_i a b ha xJ
  cases hb:oF P t with
  | false=>simp [hb] at h
  | true=>
   simp only [hb,cond_true,Option.some.injEq] at h;subst h
   exact mO (.of fun _=>⟨_,rfl⟩) fun C w Φ az=>.pure (v:=.bool (a==b)) (by simp [execOp,C.bool ha,C.bool xJ,eqGuard,binOp,yB hb]) az
 ·rename_i a b ha xJ
  cases hb:oF P t with
  | false=>simp [hb] at h
  | true=>
   simp only [hb,cond_true,Option.some.injEq] at h;subst h
   exact mO (.of fun _=>⟨_,rfl⟩) fun C w Φ az=>.pure (v:=.bool (!(a==b))) (by simp [execOp,C.bool ha,C.bool xJ,eqGuard,binOp,yB hb]) az
 ·simp at h
def vT (T:aE) (E:List (Nat×AV)) (M:List ai) (oc:Option aO) (op:BinOp) (t:TypeId) (x y:Operand):Option Out:=
 match op,cR T t,y,aA E x with
 | .eql,some (.sl _),.const (.slice none 0 0),some (.d (.v (.slice a _ _)))=>some (kL oc a.isNone M)
 | .eql,some (.sl _),.const (.slice none 0 0),some (.d (.ro _ rows))=>some (lk [0<rows.length] (.b false) M)
 | .eql,some (.sl _),.const (.slice none 0 0),some (.sl u n)=>(match M[u]? with | some (.rw _ _ rows)=>some ⟨[n=rows.length,0<n],.b false,M,[],[],some [u]⟩ | _=>none)
 | _,_,_,_=>none
theorem Fw (hT:aR P T=true) {op:BinOp} {t t':TypeId} {x y:Operand} (h:vT T E M oc op t x y=some out):aB P ⟨d,.binOp op t x y t',ty,pos,aft,gd⟩ E M out:=by
 unfold vT at h
 split at h
 ·rename_i e a n c hu hx
  simp only [Option.some.injEq] at h;subst h
  refine mO (.of fun _=>⟨_,rfl⟩) ?_
  intro D w0 K0 β F I ρ w' C w Φ az
  have r:=C.ev hx
  generalize hy:ρ x=y at r
  cases r with | d r=>cases r;exact tt (cD hT hu) hy (C.const _) rfl az
 ·rename_i e k rows hu hx
  simp only [Option.some.injEq] at h;subst h
  refine jC (.of fun _=>⟨_,rfl⟩) ?_
  intro D w0 K0 β F I ρ w' C hv
  obtain ⟨nj,-⟩:=hv
  have r:=C.ev hx
  generalize hy:ρ x=y at r
  cases r with | d r=>
  cases r with
  | ro X hl iv hs hr=>
   obtain ⟨a,c,sX,-⟩:=(hs _ C.now).row nj
   exact ⟨_,.d (.v _),fun w Φ az=>tt (cD hT hu) (hy.trans sX) (C.const _) rfl az⟩
 ·rename_i e u n hu hx
  split at h
  ·rename_i T2 k rows hM
   simp only [Option.some.injEq] at h;subst h
   refine aB.look ?_ (by simpa using eD hM)
   intro D w0 K0 β F I ρ w C hv
   obtain ⟨hn,nj,-⟩:=hv
   obtain ⟨X,G,H0,hF,dE,ra,hH⟩:=lH C.rm hM hn (C.ev hx)
   obtain ⟨b,cap,cs,xK,-⟩:=dE.block nj
   exact ⟨_,.d (.v _),fun w' _=>rr (.of fun _=>⟨_,rfl⟩) (tt (cD hT hu) xK (C.const _) rfl ⟨rfl,rfl⟩)⟩
  ·simp at h
 ·simp at h
def u7 (T:aE) (E:List (Nat×AV)) (M:List ai) (t t':TypeId) (x:Operand):Option Out:=
 bif Nat.beq t t' then (match iy T t with
 | some (e,k,_,_)=>(match cR T e,aA E x with
  | some (.it .u8),some (.sl u n)=>(match M[u]? with
   | some (.rw e' k' rows)=>bif Nat.beq e e'&&Nat.beq k k'&&rows.all (fun r=>r.all DV.cp) then some ⟨[n=rows.length,0<n],.d (.ro k rows),M.set u .dead,[u],[],none⟩ else none
   | _=>none)
  | _,_=>none)
 | none=>none) else none
theorem Em (hT:aR P T=true) {t t':TypeId} {x:Operand} (h:u7 T E M t t' x=some out):aB P ⟨d,.convert t t' x,ty,pos,aft,gd⟩ E M out:=by
 unfold u7 at h
 cases xL:Nat.beq t t' with
 | false=>simp [xL] at h
 | true=>
  simp only [xL,cond_true] at h
  obtain rfl:=Nat.eq_of_beq_eq_true xL
  split at h
  ·rename_i e k _ _ he
   obtain ⟨zv,ok,-,-⟩:=ka hT he
   split at h
   ·rename_i u n qF hx
    split at h
    ·rename_i e' k' rows hM
     cases hc:(Nat.beq e e'&&Nat.beq k k'&&rows.all fun r=>r.all DV.cp) with
     | false=>simp [hc] at h
     | true=>
      simp only [hc,cond_true,Option.some.injEq] at h;subst h
      simp only [Bool.and_eq_true] at hc
      obtain rfl:=Nat.eq_of_beq_eq_true hc.1.1
      obtain rfl:=Nat.eq_of_beq_eq_true hc.1.2
      intro D w0 K0 β F I ρ w C hv
      obtain ⟨hn,nj,-⟩:=hv
      obtain ⟨X,G,H0,hF,dE,ra,hH⟩:=lH C.rm hM hn (C.ev hx)
      obtain ⟨b,cap,cs,xK,rfl,cv,hle,se⟩:=dE.block nj
      have R1:=C.rm.x.eJ hM
      rw [hF,List.nil_append] at R1
      have hb:=hH.one
      refine Dj ok.a8 (cD hT qF) xK hb ?_
      have kQ:St D w0 w ((b,.cells cs e (0,0))::(bk n k G++((List.range (M.set u .dead).length).flatMap (aD F u [])++I))):=R1.st.perm (by classical rw [List.perm_iff_count];intro z;simp only [List.count_append,List.count_cons,List.count_nil];omega)
      have kR:=kQ.set (.cells cs e (cs.size,cs.size+1))
      have R2:RM D w0 K0 (M.set u .dead) β (aD F u []) ([(b,.cells cs e (cs.size,cs.size+1))]++I) (bZ w b (.cells cs e (cs.size,cs.size+1))):=by
       refine ⟨R1.len,fun v bl hv=>(R1.blk v bl hv).mono (fun w hw=>⟨hw.1,(Holds.app.1 hw.2).2⟩) (Ext.refl _),?_⟩
       have:=(kR.perm (K:=bk n k G++((List.range (M.set u .dead).length).flatMap (aD F u [])++([(b,.cells cs e (cs.size,cs.size+1))]++I))) (by classical rw [List.perm_iff_count];intro z;simp only [List.count_append,List.count_cons,List.count_nil];omega)).lA
       exact this
      refine ⟨β,_,_,R2,(Ext.refl β).b _,⟨_,rfl⟩,fun q _ hq=>by simp only [aD];rw [if_neg (by simpa using hq)],?_⟩
      refine .d (.ro X ra.hl ⟨_,_,by rw [← hn],by rw [← hn];exact hle⟩ (fun w' dv=>?_) fun i r j c x h1 h2 h3=>?_)
      ·have aI:w'.heap[b]?=some (.cells cs e (cs.size,cs.size+1)):=(Holds.app.1 dv.2).1.one
       refine ⟨by rw [← hn];exact dE.1,Or.inr ⟨_,cap,by rw [← hn],fun j hj=>?_⟩⟩
       rw [add_eq,Nat.zero_add,cell_of aI]
       have l6:lay rows.length X=cs.toList.take (n*k):=by rw [← hn];exact se.symm
       have key:∀ q,q=cs.toList.take (n*k)→∀ (hj:j<q.length),cs[j]?=some q[j]:=by
        intro q hq hj
        subst hq
        have iu:=hj
        simp only [List.length_take] at iu
        rw [List.getElem_take,← Array.getElem?_toList]
        exact List.getElem?_eq_getElem _
       exact key _ l6 hj
      ·have:=(ra.hr i r j c x h1 h2 h3).cp (List.all_eq_true.1 (List.all_eq_true.1 hc.2 r (List.mem_of_getElem? h1)) c (List.mem_of_getElem? h2))
       exact this.mono fun w hw=>⟨hw.1,(Holds.app.1 hw.2).2⟩
    ·simp at h
   ·simp at h
  ·simp at h
theorem En {t:TypeId} {xs:Array Value} {o:Nat} {v:Value} (w:World) (ht:scalar P t=true) (h:xs[o]?=some v):(part t xs o).run P w=.ok v w:=by
 simp [part,Sem.run_bind,yc ht,h]
theorem Eo {t:TypeId} {xs:Array Value} {o n:Nat} (w:World) (ht:lR P t n=true):(part t xs o).run P w=.ok (.agg (xs.extract o (o+n))) w:=by
 unfold lR at ht
 simp only [Bool.and_eq_true] at ht
 obtain ⟨h1,h2⟩:=ht
 cases hu:P.underlying t with
 | none=>simp [hu] at h1
 | some u=>
  cases hi:P.info? t with
  | none=>simp [hi] at h2
  | some i=>
   simp only [hi,beq_iff_eq] at h2
   have ha:(isAgg t).run P w=.ok true w:=by cases u<;>simp [hu] at h1<;>simp [isAgg,Sem.run_bind,run_underlying hu]
   simp [part,Sem.run_bind,ha,sizeOf,typeInfo,hi,h2]
def nC (T:aE) (e:TypeId) (l:List AV) (o:Nat):Option AV:=kq T e l o
theorem u9 (hT:aR P T=true) {K:World→Prop} {e:TypeId} {l:List AV} {o:Nat} {v:AV} (h:nC T e l o=some v) {ys:List Value} (hl:ys.length=l.length) (hr:∀ (j:Nat) c y,l[j]?=some c→ys[j]?=some y→ao K β c y):
  ∃ y,ao K β v y∧∀ w:World,(part e ys.toArray o).run P w=.ok y w:=by
 unfold nC kq at h
 split at h
 ·rename_i ht
  obtain ⟨y,h1,h2⟩:=uV hl hr h
  exact ⟨y,h2,fun w=>En w (ui hT ht) (by simpa using h1)⟩
 ·rename_i n ht
  simp only [wN] at h
  cases hb:(o+n).ble l.length with
  | false=>simp [hb] at h
  | true=>
   simp only [hb,cond_true,Option.some.injEq] at h
   have hle:o+n≤l.length:=Nat.le_of_ble_eq_true hb
   subst h
   have he:(ys.toArray.extract o (o+n))=((ys.drop o).take n).toArray:=by
    simp [List.extract_eq_take_drop]
   refine ⟨.agg ((ys.drop o).take n).toArray,.ag _ (by simp;omega) ?_,fun w=>by rw [Eo w (zg hT ht),he]⟩
   intro j c y h1 h2
   rw [List.getElem?_take,List.getElem?_drop] at h1 h2
   split at h1
   ·rename_i hj;rw [if_pos hj] at h2;exact hr _ _ _ h1 h2
   ·simp at h1
 ·simp at h
def w5 (T:aE) (E:List (Nat×AV)) (M:List ai) (t:TypeId) (x:Operand) (f:Nat):Option Out:=
 match xq T t f,aA E x with
 | some (o,ty),some (.ag l)=>(match nC T ty l o with | some v=>some (lk [] v M) | none=>none)
 | _,_=>none
theorem G3 (hT:aR P T=true) {t:TypeId} {x:Operand} {f:Nat} (h:w5 T E M t x f=some out):aB P ⟨d,.field t x f,ty,pos,aft,gd⟩ E M out:=by
 unfold w5 at h
 split at h
 ·rename_i o e l hf hx
  split at h
  ·rename_i v hp
   simp only [Option.some.injEq] at h;subst h
   obtain ⟨fs,q,hu,hq,rfl,rfl⟩:=Iq hT hf
   refine aB.same ?_
   intro D w0 K0 β F I ρ w C _
   have r:=C.ev hx
   generalize hy:ρ x=y at r
   cases r with
   | ag ys hl hr=>
    obtain ⟨y,h1,h2⟩:=u9 hT hp hl hr
    exact ⟨y,fun w' _=>by simp only [execOp,hy,Instr.field,Sem.run_bind,run_underlying hu,Result.andThen_ok,hq,asAgg,Sem.run_pure,h2],h1⟩
  ·simp at h
 ·simp at h
def w6 (T:aE) (E:List (Nat×AV)) (M:List ai) (oc:Option aO) (t:TypeId) (x ix:Operand):Option Out:=
 match cR T t,aA E x,cy (aA E ix),oc with
 | some (.ar n e),some (.ag l),some (_,z),some (.n i)=>(match eW T e with
  | some k=>(match nC T e l (i*k) with | some v=>some (lk [z=(i:Int),i<n] v M) | none=>none)
  | none=>none)
 | _,_,_,_=>none
theorem G4 (hT:aR P T=true) {t:TypeId} {x ix:Operand} (h:w6 T E M oc t x ix=some out):aB P ⟨d,.index t x ix,ty,pos,aft,gd⟩ E M out:=by
 unfold w6 at h
 split at h
 ·rename_i n e l _ z i hu hx hz
  split at h
  ·rename_i k hk
   split at h
   ·rename_i v hp
    simp only [Option.some.injEq] at h;subst h
    have bj:∀ w:World,(sizeOf e).run P w=.ok k w:=fun w=>by
     have:=fS hT hk
     cases hi:P.info? e with
     | none=>simp [hi] at this
     | some inf=>simp only [hi,Option.map_some,Option.some.injEq] at this;simp [sizeOf,typeInfo,Sem.run_bind,hi,this]
    refine aB.same ?_
    intro D w0 K0 β F I ρ w C hv
    obtain ⟨rfl,aF,-⟩:=hv
    have r:=C.ev hx
    have hi:=C.int hz
    generalize hy:ρ x=y at r
    cases r with
    | ag ys hl hr=>
     obtain ⟨y,h1,h2⟩:=u9 hT hp hl hr
     refine ⟨y,fun w' _=>?_,h1⟩
     have fI:=cD hT hu
     have hc:(0:Int)≤(i:Int)∧(i:Int)<(n:Int):=by omega
     simp only [execOp,hy,hi,Instr.index,asIntOf,Sem.run_bind,Sem.run_pure,run_underlying fI,Result.andThen_ok]
     rw [if_pos hc]
     simp only [Sem.run_bind,bj,Result.andThen_ok,Int.toNat_natCast,h2,Sem.run_pure]
   ·simp at h
  ·simp at h
 ·simp at h
def uu (T:aE) (E:List (Nat×AV)) (M:List ai) (t:TypeId) (parts:Array (Nat×Operand)):Option Out:=
 match cR T t,oC T t with
 | some (.ar _ e),some z=>(match eW T e with
  | some k=>(match ke E (fun i=>some (i*k,k)) (kH z) parts.toList with
   | some l=>some (lk [] (.ag l) M)
   | none=>none)
  | none=>none)
 | _,_=>none
theorem DK (hT:aR P T=true) {t:TypeId} {parts:Array (Nat×Operand)} (h:uu T E M t parts=some out):aB P ⟨d,.build t parts,ty,pos,aft,gd⟩ E M out:=by
 unfold uu at h
 split at h
 ·rename_i n e z hu hz
  split at h
  ·rename_i k hk
   split at h
   ·rename_i l hl
    simp only [Option.some.injEq] at h;subst h
    obtain ⟨zv,nz,nA⟩:=rn hT hz
    have bj:∀ w:World,(sizeOf e).run P w=.ok k w:=fun w=>by
     have:=fS hT hk
     cases hi:P.info? e with
     | none=>simp [hi] at this
     | some inf=>simp only [hi,Option.map_some,Option.some.injEq] at this;simp [sizeOf,typeInfo,Sem.run_bind,hi,this]
    refine aB.same ?_
    intro D w0 K0 β F I ρ w C _
    obtain ⟨p1,p2⟩:=pz (K:=fun w=>K0 w∧Holds w I) (β:=β) z
    obtain ⟨bJ,g1,g2,g3⟩:=rA C (cs:=z.toArray) hl (by simpa using p1) (by intro j c y e1 e2;exact p2 j c y e1 (by simpa using e2))
    refine ⟨.agg bJ,fun w' _=>?_,?_⟩
    ·have o3:(parts.map fun (p:Nat×Operand)=>(p.1,ρ p.2)).toList=parts.toList.map fun p=>(p.1,ρ p.2):=by simp
     have hb:(Instr.build t (parts.map fun (p:Nat×Operand)=>(p.1,ρ p.2))).run P w'=.ok (.agg bJ) w':=by
      simp only [Instr.build,Sem.run_bind,nA,Result.andThen_ok,run_underlying (cD hT hu),bj,nz,o3,g1,Sem.run_pure]
     simp only [execOp,Sem.run_bind]
     have:(parts.map fun (i,x)=>(i,ρ x))=parts.map fun (p:Nat×Operand)=>(p.1,ρ p.2):=rfl
     rw [this,hb];rfl
    ·have:(ao (fun w=>K0 w∧Holds w I) β (.ag l) (.agg bJ.toList.toArray)):=.ag bJ.toList (by simpa using g2) (by intro j c y e1 e2;exact g3 j c y e1 (by simpa using e2))
     simpa using this
   ·simp at h
  ·simp at h
 ·simp at h
end Go.Proofs.YtcnpikbbmbombaaDoor
namespace Go.Proofs.YtcnpikbbmbombaaDoor
open Go.RowKit
variable {P:Program} {T:aE} {D:List Nat} {w0:World} {K0:World→Prop} {E:List (Nat×AV)} {M:List ai} {β:Beta} {F:Nat→ak} {I X:ak} {ρ:Operand→Value} {w:World}
variable {d:Option Tmp} {ty:TypeId} {pos:String} {aft:Array Edge} {gd:Option (Nat×Bool)} {oc:Option aO} {out:Out}
theorem bq.hC (R:bq D w0 K0 M β F I X w) {u:Nat} {blk:ai} (h:M[u]?=some blk):Holds w (F u):=by
 intro x hx
 obtain ⟨hu,-⟩:=List.getElem?_eq_some_iff.1 h
 exact R.st.holds x (List.mem_append_left _ (List.mem_flatMap.2 ⟨u,List.mem_range.2 hu,hx⟩))
theorem bq.back {X Y:ak} (R:bq D w0 K0 M β F I (X++Y) w) {u:Nat} (hu:u<M.length) (hF:F u=[]) {blk:ai} (hb:bg (fun w=>K0 w∧Holds w I) β u blk X):
  bq D w0 K0 (M.set u blk) β (aD F u X) I Y w where
 len:=by rw [List.length_set];exact R.len
 blk:=by
  intro v bl hv
  rw [List.getElem?_set] at hv
  by_cases e:u=v
  ·subst e
   simp only [hu,if_pos,Option.some.injEq] at hv;subst hv
   simpa [aD] using hb
  ·rw [if_neg e] at hv
   have:aD F u X v=F v:=by simp only [aD];rw [if_neg (fun h=>e h.symm)]
   rw [this];exact R.blk v bl hv
 st:=by
  have hs:=R.st
  rw [List.length_set,range_split hu]
  rw [range_split hu,hF] at hs
  have c1:(List.range u).flatMap (aD F u X)=(List.range u).flatMap F:=eG fun a ha=>by have:=List.mem_range.1 ha;simp [aD];omega
  have c2:(List.range' (u+1) (M.length-(u+1))).flatMap (aD F u X)=(List.range' (u+1) (M.length-(u+1))).flatMap F:=eG fun a ha=>by have:=(List.mem_range'_1.1 ha).1;simp [aD];omega
  have fI:aD F u X u=X:=by simp [aD]
  rw [c1,c2,fI]
  exact hs.perm (by classical rw [List.perm_iff_count];intro z;simp only [List.count_append,List.count_nil];omega)
theorem ym {k o m:Nat} (h:o+m≤k) (f:Nat→ak):(List.range k).flatMap f=(List.range o).flatMap f++((List.range' o m).flatMap f++(List.range' (o+m) (k-(o+m))).flatMap f):=by
 have:List.range k=List.range o++(List.range' o m++List.range' (o+m) (k-(o+m))):=by
  rw [List.range_eq_range',List.range_eq_range']
  have h1:k=o+(m+(k-(o+m))):=by omega
  conv=>lhs;rw [h1]
  rw [← List.range'_append_1,← List.range'_append_1]
  simp
 rw [this,List.flatMap_append,List.flatMap_append]
def du (G:Nat→Nat→ak) (i o m:Nat) (Gx:Nat→ak):Nat→Nat→ak:=fun a j=>if a=i∧o≤j∧j<o+m then Gx (j-o) else G a j
theorem tT {n k i o m:Nat} (hi:i<n) (ho:o+m≤k) (G:Nat→Nat→ak) (Gx:Nat→ak):(bk n k G++(List.range m).flatMap Gx).Perm (bk n k (du G i o m Gx)++(List.range' o m).flatMap (G i)):=by
 unfold bk
 have c1:(List.range i).flatMap (fun a=>(List.range k).flatMap (du G i o m Gx a))=(List.range i).flatMap (fun a=>(List.range k).flatMap (G a)):=eG fun a ha=>eG fun j _=>by have:=List.mem_range.1 ha;simp only [du];rw [if_neg (by omega)]
 have c2:(List.range' (i+1) (n-(i+1))).flatMap (fun a=>(List.range k).flatMap (du G i o m Gx a))=(List.range' (i+1) (n-(i+1))).flatMap (fun a=>(List.range k).flatMap (G a)):=eG fun a ha=>eG fun j _=>by have:=(List.mem_range'_1.1 ha).1;simp only [du];rw [if_neg (by omega)]
 have c3:(List.range o).flatMap (du G i o m Gx i)=(List.range o).flatMap (G i):=eG fun j hj=>by have:=List.mem_range.1 hj;simp only [du];rw [if_neg (by omega)]
 have c4:(List.range' o m).flatMap (du G i o m Gx i)=(List.range m).flatMap Gx:=by
  rw [List.range'_eq_map_range,List.flatMap_map]
  exact eG fun j hj=>by
   have:=List.mem_range.1 hj
   show du G i o m Gx i (o+j)=Gx j
   unfold du;rw [if_pos ⟨rfl,by omega,by omega⟩,Nat.add_sub_cancel_left]
 have c5:(List.range' (o+m) (k-(o+m))).flatMap (du G i o m Gx i)=(List.range' (o+m) (k-(o+m))).flatMap (G i):=eG fun j hj=>by have:=(List.mem_range'_1.1 hj).1;simp only [du];rw [if_neg (by omega)]
 rw [range_split hi (fun a=>(List.range k).flatMap (G a)),range_split hi (fun a=>(List.range k).flatMap (du G i o m Gx a)),c1,c2]
 rw [ym ho (G i),ym ho (du G i o m Gx i),c3,c4,c5]
 classical rw [List.perm_iff_count];intro z;simp only [List.count_append];omega
def ig (X:Nat→List Value) (i o:Nat) (zs:List Value):Nat→List Value:=fun a=>if a=i then (X i).take o++(zs++(X i).drop (o+zs.length)) else X a
theorem mP {α:Type} {l zs:List α} {o j:Nat} (h:o+zs.length≤l.length):(l.take o++(zs++l.drop (o+zs.length)))[j]?=if o≤j∧j<o+zs.length then zs[j-o]? else l[j]?:=by
 by_cases h1:o≤j∧j<o+zs.length
 ·rw [if_pos h1,List.getElem?_append_right (by simp;omega),List.getElem?_append_left (by simp;omega)]
  congr 1;simp;omega
 ·rw [if_neg h1]
  rcases Nat.lt_or_ge j o with hj | hj
  ·rw [List.getElem?_append_left (by simp;omega),List.getElem?_take,if_pos hj]
  ·rw [List.getElem?_append_right (by simp;omega),List.getElem?_append_right (by simp;omega),List.getElem?_drop]
   congr 1;simp;omega
theorem pJ {X:Nat→List Value} {i o k:Nat} {zs:List Value} (ho:o+zs.length≤k) {a:Nat} (h:(X a).length=k):(ig X i o zs a).length=k:=by
 unfold ig;split
 ·rename_i e;subst e;simp;omega
 ·exact h
theorem zS {n k i o:Nat} {X:Nat→List Value} {zs:List Value} {cs:Array Value} (hX:∀ a,a<n→(X a).length=k) (hi:i<n) (ho:o+zs.length≤k) (ht:cs.toList.take (n*k)=lay n X) (bj:n*k≤cs.size):
  (bX cs (i*k+o) zs).toList.take (n*k)=lay n (ig X i o zs):=by
 have Cn:∀ a,a<n→(ig X i o zs a).length=k:=fun a ha=>pJ ho (hX a ha)
 have gb:=dQ Cn
 have xM:i*k+k≤n*k:=by have:=Nat.mul_le_mul_right k (show i+1≤n from hi);rw [Nat.succ_mul] at this;exact this
 apply List.ext_getElem?
 intro p
 rcases Nat.lt_or_ge p (n*k) with hp | hp
 ·have hk:0<k:=by
   rcases Nat.eq_zero_or_pos k with h0 | h0
   ·subst h0;simp at hp
   ·exact h0
  have hd:p / k<n:=Nat.div_lt_of_lt_mul (by rw [Nat.mul_comm];exact hp)
  have hm:p%k<k:=Nat.mod_lt _ hk
  have hg:=jz Cn hd hm
  have Co:=jz hX hd hm
  have e:p / k*k+p%k=p:=by rw [Nat.mul_comm,Nat.div_add_mod]
  rw [e] at hg Co
  rw [hg,List.getElem?_take,if_pos hp,Array.getElem?_toList,nX _ _ _ _ (by omega)]
  have hc:cs[p]?=(X (p / k))[p%k]?:=by rw [← Co,← ht,List.getElem?_take,if_pos hp,Array.getElem?_toList]
  generalize hA:p / k=a at *
  generalize hJ:p%k=j at *
  by_cases ha:a=i
  ·subst ha
   unfold ig
   rw [if_pos rfl,mP (by rw [hX a hd];exact ho)]
   by_cases h1:o≤j∧j<o+zs.length
   ·rw [if_pos h1,if_pos (by omega)];congr 1;omega
   ·rw [if_neg h1,if_neg (by omega)];exact hc
  ·unfold ig
   rw [if_neg ha,if_neg ?_]
   ·exact hc
   ·intro h1
    rcases Nat.lt_or_gt_of_ne ha with h2 | h2
    ·have:=Nat.mul_le_mul_right k (show a+1≤i from h2);rw [Nat.succ_mul] at this;omega
    ·have:=Nat.mul_le_mul_right k (show i+1≤a from h2);rw [Nat.succ_mul] at this;omega
 ·rw [List.getElem?_eq_none (by simp [kz];omega),List.getElem?_eq_none (by omega)]
theorem de.put {K:World→Prop} {k i o:Nat} {rows:List (List DV)} {X:Nat→List Value} {G:Nat→Nat→ak} {row xs:List DV} {zs:List Value} {Gx:Nat→ak} (h:de K k rows X G) (bP:rows[i]?=some row) (ho:o+zs.length≤k) (hx:zs.length=xs.length) (hd:∀ (j:Nat) c y,xs[j]?=some c→zs[j]?=some y→bB K c y (Gx j)):
  de K k (rows.set i (row.take o++(xs++row.drop (o+xs.length)))) (ig X i o zs) (du G i o zs.length Gx):=by
 have kt:=h.hl i row bP
 constructor
 ·intro a r ha
  rw [List.getElem?_set] at ha
  by_cases e:i=a
  ·subst e
   rw [if_pos rfl] at ha
   split at ha
   ·simp only [Option.some.injEq] at ha;subst ha
    exact ⟨by simp;omega,pJ ho kt.2⟩
   ·simp at ha
  ·rw [if_neg e] at ha
   have:=h.hl a r ha
   exact ⟨this.1,pJ ho this.2⟩
 ·intro a r j c x ha hj la
  rw [List.getElem?_set] at ha
  by_cases e:i=a
  ·subst e
   rw [if_pos rfl] at ha
   split at ha
   ·simp only [Option.some.injEq] at ha;subst ha
    rw [mP (by omega)] at hj
    unfold ig at la
    rw [if_pos rfl,mP (by omega)] at la
    unfold du
    by_cases h1:o≤j∧j<o+zs.length
    ·rw [if_pos (by omega)] at hj
     rw [if_pos h1] at la
     rw [if_pos ⟨rfl,h1⟩]
     exact hd _ c x hj la
    ·rw [if_neg (by omega)] at hj
     rw [if_neg h1] at la
     rw [if_neg (fun q=>h1 q.2)]
     exact h.hr i row j c x bP hj la
   ·simp at ha
  ·rw [if_neg e] at ha
   unfold ig at la
   rw [if_neg (fun q=>e q.symm)] at la
   unfold du
   rw [if_neg (fun q=>e q.1.symm)]
   exact h.hr a r j c x ha hj la
def uv (T:aE) (E:List (Nat×AV)) (M:List ai) (oc:Option aO) (t:TypeId) (x y:Operand):Option Out:=
 match aA E x,aA E y,eW T t,oc with
 | some (.ep u k i o),some v,some n,some (.ix _ row)=>(match mV v with
  | some l=>(match jH M l with
   | some (vc,xs,M')=>(match M'[u]? with
    | some (.rw e k' rows)=>bif k.beq k'&&l.length.beq n&&(o+n).ble k then some ⟨(rows[i]?=some row)::vc,.d .jk,M'.set u (.rw e k (rows.set i (row.take o++(xs++row.drop (o+xs.length))))),u::oQ l,[],none⟩ else none
    | _=>none)
   | none=>none)
  | none=>none)
 | _,_,_,_=>none
theorem DL (hT:aR P T=true) {t:TypeId} {x y:Operand} (h:uv T E M oc t x y=some out):aB P ⟨d,.store t x y,ty,pos,aft,gd⟩ E M out:=by
 unfold uv at h
 split at h
 rotate_left
 ·simp at h
 rename_i u k i o v n i0 row hx hy hn
 split at h
 rotate_left
 ·simp at h
 rename_i l hl
 split at h
 rotate_left
 ·simp at h
 rename_i vc xs M' hp
 split at h
 rotate_left
 ·simp at h
 rename_i e k' rows hM
 cases hc:(k.beq k'&&l.length.beq n&&(o+n).ble k) with
 | false=>simp [hc] at h
 | true=>
  simp only [hc,cond_true,Option.some.injEq] at h;subst h
  simp only [Bool.and_eq_true] at hc
  obtain rfl:=Nat.eq_of_beq_eq_true hc.1.1
  have qz:=Nat.eq_of_beq_eq_true hc.1.2
  have hle:=Nat.le_of_ble_eq_true hc.2
  intro D w0 K0 β F I ρ w C hv
  obtain ⟨bP,hv⟩:=hv
  obtain ⟨yx,iw,rx⟩:=C.bC hx
  obtain ⟨yy,nB,ry⟩:=C.bC hy
  obtain ⟨zs,h1,h2,h3,h4⟩:=py hl ry
  obtain ⟨lM,F',Hp,R',dd,xN⟩:=rL C.rm.x hp hv (ys:=zs) h2 h3
  rw [List.nil_append] at R'
  cases rx with
  | @ep _ _ _ _ b0 c0 hb=>
   have aF:u<M'.length:=eD hM
   have hB:=R'.blk u _ hM
   have hH:=R'.hC hM
   have R1:=R'.eJ hM
   have dl:=dd.len
   obtain ⟨Gx,xO,qE⟩:=dd.to
   generalize ja:F' u=Fu at hB hH R1
   cases hB with
   | rw aI X G cH hs hr=>
    rw [hb] at aI;cases aI
    obtain ⟨hi,-⟩:=List.getElem?_eq_some_iff.1 bP
    obtain ⟨b',cap,cs,he,rfl,cv,dm,ht⟩:=hs.block (by omega)
    cases he
    have hw:=(Holds.app.1 hH).1.one
    have hX:∀ a,a<rows.length→(X a).length=k:=fun a ha=>(cH a _ (List.getElem?_eq_getElem ha)).2
    have xM:i*k+k≤rows.length*k:=by have:=Nat.mul_le_mul_right k (show i+1≤rows.length from hi);rw [Nat.succ_mul] at this;exact this
    have bj:rows.length*k≤cs.size:=by rw [cv];exact Nat.mul_le_mul_right _ dm
    refine ug n (fS hT hn) iw nB hw (by rw [h1];simp;omega) (by omega) (by rw [h1];simpa using h4) ?_
    rw [h1]
    have ra:de (fun w=>K0 w∧Holds w I) k rows X G:=⟨cH,hr⟩
    have gh:=ra.put (o:=o) (zs:=zs) (xs:=xs) (Gx:=Gx) bP (by omega) dl qE
    have a8:=R1.st
    have kQ:St D w0 w ((b0,.cells cs e (0,0))::(bk rows.length k G++(Hp++((List.range (M'.set u .dead).length).flatMap (aD F' u [])++I)))):=a8.perm (by classical rw [List.perm_iff_count];intro z;simp only [List.count_append,List.count_cons,List.cons_append,List.nil_append];omega)
    have kR:=kQ.set (.cells (bX cs (i*k+o) zs) e (0,0))
    have kS:=tT (n:=rows.length) (k:=k) (i:=i) (o:=o) (m:=zs.length) hi (by omega) G Gx
    rw [xO,← dl] at kR
    have R2:bq D w0 K0 (M'.set u .dead) β (aD F' u []) I (([(b0,.cells (bX cs (i*k+o) zs) e (0,0))]++bk rows.length k (du G i o zs.length Gx))++(List.range' o zs.length).flatMap (G i)) _:=R1.move (kR.perm (by
     classical
     have hc:=List.perm_iff_count.1 kS
     rw [List.perm_iff_count];intro z
     have:=hc z
     simp only [List.count_append,List.count_cons,List.cons_append,List.nil_append] at this ⊢
     omega))
    have fq:bg (fun w=>K0 w∧Holds w I) β u (.rw e k (rows.set i (row.take o++(xs++row.drop (o+xs.length))))) ([(b0,.cells (bX cs (i*k+o) zs) e (0,0))]++bk rows.length k (du G i o zs.length Gx)):=by
     have:=bg.rw (K:=fun w=>K0 w∧Holds w I) (u:=u) (T:=e) (k:=k) (rows:=rows.set i (row.take o++(xs++row.drop (o+xs.length)))) (H0:=[(b0,.cells (bX cs (i*k+o) zs) e (0,0))]) hb (ig X i o zs) (du G i o zs.length Gx) gh.hl (by
      rw [List.length_set]
      exact ⟨dQ fun a ha=>pJ (by omega) (hX a ha),Or.inr ⟨_,_,_,rfl,rfl,by rw [kz];exact cv,dm,zS hX hi (by omega) ht bj⟩⟩) gh.hr
     rw [List.length_set] at this;exact this
    have R3:=((R2.drop.perm (Y:=([(b0,.cells (bX cs (i*k+o) zs) e (0,0))]++bk rows.length k (du G i o zs.length Gx))++[]) (by rw [List.append_nil])).back (by rw [List.length_set];exact aF) (by simp [aD]) fq).nil rfl
    rw [List.set_set] at R3
    refine ⟨β,_,I,R3,(Ext.refl β).b _,bE.refl _,fun q hq fL=>?_,.d (.jk _)⟩
    simp only [List.mem_cons,not_or] at fL
    simp only [aD];rw [if_neg fL.1,if_neg fL.1]
    exact xN q fL.2
def vV (T:aE) (E:List (Nat×AV)) (M:List ai) (oc:Option aO) (t:TypeId) (x:Operand):Option Out:=
 match aA E x,oc,o0 T t with
 | some (.ep u k i o),some (.ix _ row),some .one=>(match M[u]?,row[o]? with
  | some (.rw e k' rows),some (.em T2 k2 bI)=>bif k.beq k' then some ⟨[rows[i]?=some row],.sl M.length bI.length,M.set u (.rw e k (rows.set i (row.take o++([.jk]++row.drop (o+1)))))++[.rw T2 k2 bI],[u],[],none⟩ else none
  | _,_=>none)
 | _,_,_=>none
theorem Fx (hT:aR P T=true) {t:TypeId} {x:Operand} (h:vV T E M oc t x=some out):aB P ⟨d,.load t x,ty,pos,aft,gd⟩ E M out:=by
 unfold vV at h
 split at h
 rotate_left
 ·simp at h
 rename_i u k i o i0 row hx iY
 split at h
 rotate_left
 ·simp at h
 rename_i e k' rows T2 k2 bI hM jG
 cases hk:k.beq k' with
 | false=>simp [hk] at h
 | true=>
  simp only [hk,cond_true,Option.some.injEq] at h;subst h
  obtain rfl:=Nat.eq_of_beq_eq_true hk
  intro D w0 K0 β F I ρ w C hv
  obtain ⟨bP,-⟩:=hv
  obtain ⟨yx,iw,rx⟩:=C.bC hx
  have R:=C.rm.x
  have hB:=R.blk u _ hM
  have hH:=R.hC hM
  have R1:=R.eJ hM
  have aF:=eD hM
  cases rx with
  | @ep _ _ _ _ b0 c0 hb=>
   generalize ja:F u=Fu at hB hH R1
   cases hB with
   | rw aI X G cH hs hr=>
    rw [hb] at aI;cases aI
    obtain ⟨hi,-⟩:=List.getElem?_eq_some_iff.1 bP
    obtain ⟨ho,-⟩:=List.getElem?_eq_some_iff.1 jG
    obtain ⟨xu,xv⟩:=cH i row bP
    obtain ⟨b',cap,cs,he,rfl,cv,dm,ht⟩:=hs.block (by omega)
    cases he
    have hw:=(Holds.app.1 hH).1.one
    have hX:∀ a,a<rows.length→(X a).length=k:=fun a ha=>(cH a _ (List.getElem?_eq_getElem ha)).2
    have xM:i*k+k≤rows.length*k:=by have:=Nat.mul_le_mul_right k (show i+1≤rows.length from hi);rw [Nat.succ_mul] at this;exact this
    have bj:rows.length*k≤cs.size:=by rw [cv];exact Nat.mul_le_mul_right _ dm
    obtain ⟨y,hy⟩:∃ y,(X i)[o]?=some y:=⟨_,List.getElem?_eq_getElem (by omega)⟩
    have hd:=hr i row o _ y bP jG hy
    have Iv:w.cell? ⟨b0,i*k+o,none⟩=some y:=by
     rw [cell_of hw,← hy,← jz hX hi (by omega),← ht,List.getElem?_take,if_pos (by omega),Array.getElem?_toList]
    refine aQ.pure (Al (ui hT iY) iw Iv) ?_
    have ra:de (fun w=>K0 w∧Holds w I) k rows X G:=⟨cH,hr⟩
    have gh:=ra.put (o:=o) (zs:=[y]) (xs:=[.jk]) (Gx:=fun _=>[]) bP (by simp;omega) rfl (fun j c z h1 h2=>by
     cases j with
     | zero=>simp at h1;subst h1;exact .jk _
     | succ j=>simp at h1)
    have kS:=tT (n:=rows.length) (k:=k) (i:=i) (o:=o) (m:=1) hi (by omega) G (fun _=>[])
    have dt:(List.range 1).flatMap (fun _=>([]:ak))=[]:=by simp
    have JH:(List.range' o 1).flatMap (G i)=G i o:=by simp
    rw [dt,JH,List.append_nil] at kS
    have R2:=R1.perm (Y:=([(b0,.cells cs e (0,0))]++bk rows.length k (du G i o 1 fun _=>[]))++G i o) (by
     classical
     have hc:=List.perm_iff_count.1 kS
     rw [List.perm_iff_count];intro z
     have:=hc z
     simp only [List.count_append,List.count_nil] at this ⊢
     omega)
    have Iw:lay rows.length (ig X i o [y])=lay rows.length X:=by
     refine uo fun a ha=>?_
     unfold ig;split
     ·rename_i e;subst e
      apply List.ext_getElem?;intro j
      rw [mP (by simp;omega)]
      split
      ·rename_i h1;simp at h1
       obtain rfl:j=o:=by omega
       rw [hy];simp
      ·rfl
     ·rfl
    have fq:bg (fun w=>K0 w∧Holds w I) β u (.rw e k (rows.set i (row.take o++([.jk]++row.drop (o+1))))) ([(b0,.cells cs e (0,0))]++bk rows.length k (du G i o 1 fun _=>[])):=by
     have:=bg.rw (K:=fun w=>K0 w∧Holds w I) (u:=u) (T:=e) (k:=k) (rows:=rows.set i (row.take o++([.jk]++row.drop (o+1)))) (H0:=[(b0,.cells cs e (0,0))]) hb (ig X i o [y]) (du G i o 1 fun _=>[]) gh.hl (by
      rw [List.length_set,Iw]
      exact ⟨dQ hX,Or.inr ⟨_,_,_,rfl,rfl,cv,dm,ht⟩⟩) gh.hr
     rw [List.length_set] at this;exact this
    have R3:=R2.back (by rw [List.length_set];exact aF) (by simp [aD]) fq
    rw [List.set_set] at R3
    have Cp:(M.set u (ai.rw e k (rows.set i (row.take o++([.jk]++row.drop (o+1)))))).length=M.length:=by rw [List.length_set]
    generalize G i o=Ni at hd R3
    cases hd with
    | em X2 F2 my kr ju=>
     obtain ⟨a2,c2,rfl⟩:=kr.len
     have hq:(β++[(a2,c2)])[M.length]?=some (a2,c2):=by rw [← R.len];simp
     have iz:=bg.rw (K:=fun w=>K0 w∧Holds w I) (T:=T2) (k:=k2) (rows:=bI) hq X2 F2 my kr ju
     rw [← Cp] at iz
     have R4:=((R3.perm (Y:=_++[]) (by rw [List.append_nil])).take iz).nil rfl
     rw [Cp] at R4
     refine ⟨_,_,I,R4,(Ext.app _ _).b _,bE.refl _,fun q o4 fL=>?_,.sl hq⟩
     have jR:q≠u:=by simpa using fL
     simp only [aD]
     rw [if_neg (by omega),if_neg jR,if_neg jR]
def vW (T:aE) (E:List (Nat×AV)) (M:List ai) (oc:Option aO) (st:TypeId) (x y:Operand):Option Out:=
 match iy T st,aA E x,aA E y,oc with
 | some (_,k,_,_),some (.sl u n),some vy,some (.n c)=>(match M[u]?,oP M k vy with
  | some (.rw e' k' rows),some (none,_,bI)=>bif k.beq k' then some ⟨[n=rows.length,min bI.length n=c,bf bI],.d (.v (.int .i64 (c:Int))),M.set u (.rw e' k (bI.take c++rows.drop c)),[u],[],none⟩ else none
  | _,_=>none)
 | _,_,_,_=>none
theorem de.take {K:World→Prop} {k c:Nat} {rows:List (List DV)} {X:Nat→List Value} {G:Nat→Nat→ak} (h:de K k rows X G):de K k (rows.take c) X G:=by
 constructor
 ·intro i r hi
  rw [List.getElem?_take] at hi
  split at hi
  ·exact h.hl i r hi
  ·simp at hi
 ·intro i r j c' x hi
  rw [List.getElem?_take] at hi
  split at hi
  ·exact h.hr i r j c' x hi
  ·simp at hi
theorem de.drop {K:World→Prop} {k c:Nat} {rows:List (List DV)} {X:Nat→List Value} {G:Nat→Nat→ak} (h:de K k rows X G):de K k (rows.drop c) (fun i=>X (c+i)) (fun i=>G (c+i)):=by
 constructor
 ·intro i r hi;rw [List.getElem?_drop] at hi;exact h.hl _ r hi
 ·intro i r j c' x hi;rw [List.getElem?_drop] at hi;exact h.hr _ r j c' x hi
theorem n3 {n c k:Nat} {X:Nat→List Value} (hX:∀ a,a<n→(X a).length=k) (hc:c≤n):lay c X=(lay n X).take (c*k):=by
 have h1:=oa c (n-c) X (fun i=>X (c+i))
 rw [show c+(n-c)=n by omega] at h1
 have h2:lay n (fun i=>if i<c then X i else X (c+(i-c)))=lay n X:=uo fun i hi=>by
  split
  ·rfl
  ·congr 1;omega
 rw [h2] at h1
 rw [h1,List.take_append_of_le_length (by rw [dQ fun a ha=>hX a (by omega)];exact Nat.le_refl _),List.take_of_length_le (by rw [dQ fun a ha=>hX a (by omega)];exact Nat.le_refl _)]
theorem tU {n c k:Nat} {X:Nat→List Value} (hX:∀ a,a<n→(X a).length=k) (hc:c≤n):lay (n-c) (fun i=>X (c+i))=(lay n X).drop (c*k):=by
 have h1:=oa c (n-c) X (fun i=>X (c+i))
 rw [show c+(n-c)=n by omega] at h1
 have h2:lay n (fun i=>if i<c then X i else X (c+(i-c)))=lay n X:=uo fun i hi=>by
  split
  ·rfl
  ·congr 1;omega
 rw [h2] at h1
 have hl:=dQ (n:=c) (k:=k) (X:=X) (fun a ha=>hX a (by omega))
 rw [h1,List.drop_append_of_le_length (by omega),List.drop_of_length_le (by omega),List.nil_append]
theorem q7 {n c k:Nat} (G:Nat→Nat→ak) (hc:c≤n):bk n k G=bk c k G++bk (n-c) k (fun i=>G (c+i)):=by
 have h1:=pI c (n-c) k G (fun i=>G (c+i))
 rw [show c+(n-c)=n by omega] at h1
 rw [← h1]
 simp only [bk]
 refine eG fun i hi=>eG fun j _=>?_
 show G i j=(if i<c then G i else G (c+(i-c))) j
 split
 ·rfl
 ·congr 2;omega
theorem Ds (cs:Array Value) (zs:List Value) (h:zs.length≤cs.size):(bX cs 0 zs).toList=zs++cs.toList.drop zs.length:=by
 apply List.ext_getElem?
 intro p
 rw [Array.getElem?_toList,nX _ _ _ _ (by omega)]
 by_cases hp:p<zs.length
 ·rw [if_pos (by omega),List.getElem?_append_left hp,Nat.sub_zero]
 ·rw [if_neg (by omega),List.getElem?_append_right (by omega),List.getElem?_drop,Array.getElem?_toList]
  congr 1;omega
theorem Src.pre {size:Nat} {x:Value} {m c:Nat} {X:List Value} (h:Src w size x m X) (hc:c≤m):(Builtin.lenOf x).run P w=.ok m w∧(Builtin.firstCells size c x).run P w=.ok (X.take (c*size)).toArray w:=by
 obtain ⟨hl,hh⟩:=h
 refine ⟨(Src.first (P:=P) ⟨hl,hh⟩).1,?_⟩
 rcases hh with ⟨rfl,a,c',rfl⟩ | ⟨a,c',rfl,h⟩
 ·obtain rfl:c=0:=by omega
  have:X=[]:=List.eq_nil_of_length_eq_zero (by simpa using hl)
  subst this
  cases a with
  | none=>simp [Builtin.firstCells]
  | some a=>simp [Builtin.firstCells,loadCells,loadCellsFrom]
 ·have hlen:(X.take (c*size)).length=c*size:=by rw [List.length_take,hl];exact Nat.min_eq_left (Nat.mul_le_mul_right _ hc)
  simp only [Builtin.firstCells]
  have:=run_loadCells (P:=P) (w:=w) (a:=a) (X:=X.take (c*size)) (fun j hj=>by
   rw [h j (by simp at hj;omega),List.getElem_take])
  rw [hlen] at this;exact this
theorem Fy (hT:aR P T=true) {st xt:TypeId} {x y:Operand} (h:vW T E M oc st x y=some out):aB P ⟨d,.call ⟨.builtin .copy,#[x,y],#[st,xt]⟩,ty,pos,aft,gd⟩ E M out:=by
 unfold vW at h
 split at h
 rotate_left
 ·simp at h
 rename_i e k b z u n vy c he hx hy
 obtain ⟨zv,ok,-,-⟩:=ka hT he
 split at h
 rotate_left
 ·simp at h
 rename_i e' k' rows m bI hM hs
 cases hk:k.beq k' with
 | false=>simp [hk] at h
 | true=>
  simp only [hk,cond_true,Option.some.injEq] at h;subst h
  obtain rfl:=Nat.eq_of_beq_eq_true hk
  obtain ⟨qB,hm⟩:=tG hs
  intro D w0 K0 β F I ρ w C hv
  obtain ⟨hn,l7,dt,-⟩:=hv
  subst hn
  obtain ⟨X2,a2,fF⟩:=tR C.now qB (C.ev hy)
  have nD:c≤bI.length:=by omega
  have qG:c≤rows.length:=by omega
  have bj:∀ w:World,(sizeOf e).run P w=.ok k w:=fun w=>by obtain ⟨i,hi,h1,-⟩:=ok.info;simp [sizeOf,typeInfo,Sem.run_bind,hi,h1]
  obtain ⟨hlen,om⟩:=fF.pre (P:=P) nD
  have xP:∀ a,a<bI.length→(X2 a).length=k:=fun a ha=>(a2.hl a _ (List.getElem?_eq_getElem ha)).2
  rw [← n3 xP nD] at om
  have Cq:(lay c X2).length=c*k:=dQ fun a ha=>xP a (by omega)
  have vX:∀ q ∈ lay c X2,bS q=true:=fun q hq=>a2.one dt q (by rw [n3 xP nD] at hq;exact List.mem_of_mem_take hq)
  obtain ⟨yx,iw,rx⟩:=C.bC hx
  cases rx with
  | @sl _ _ c0 q0 hb=>
   have R:=C.rm.x
   have hB:=R.blk u _ hM
   have hH:=R.hC hM
   have R1:=R.eJ hM
   have aF:=eD hM
   generalize ja:F u=Fu at hB hH R1
   cases hB with
   | rw aI X G cH hs hr=>
    rw [hb] at aI;cases aI
    have hX:∀ a,a<rows.length→(X a).length=k:=fun a ha=>(cH a _ (List.getElem?_eq_getElem ha)).2
    have kt:(bI.take c++rows.drop c).length=rows.length:=by simp;omega
    have ra:de (fun w=>K0 w∧Holds w I) k rows X G:=⟨cH,hr⟩
    have Ly:min c bI.length=c:=by omega
    have gh:=(a2.take (c:=c)).app (ra.drop (c:=c))
    rw [List.length_take,Ly] at gh
    have mZ:∀ (a0:Option Addr) (c0:Nat) w',ρ x=.slice a0 rows.length c0→(∀ a:Addr,a0=some a→(storeCells a (lay c X2)).run P w=.ok () w')→(a0=none→w'=w)→(execOp ρ ⟨d,.call ⟨.builtin .copy,#[x,y],#[st,xt]⟩,ty,pos,aft,gd⟩).run P w=.ok (.value (.int .i64 (c:Int))) w':=by
     intro a0 c0 w' iw a8 jb
     have vY:Nat.min bI.length rows.length=c:=l7
     simp only [execOp,resolve,List.map_toArray,List.map,iw,Sem.run_bind,Sem.run_pure,Result.andThen_ok,invoke,builtin,Builtin.copy_,List.getElem?_toArray,List.getElem?_cons_zero,List.getElem?_cons_succ,run_underlying ok.a8,hlen,vY,bj,om]
     cases a0 with
     | some a=>simp only [Sem.run_bind,a8 _ rfl,Result.andThen_ok,Sem.run_pure];rfl
     | none=>rw [jb rfl];simp only [Sem.run_pure,Result.andThen_ok];rfl
    have et:∀ {w':World} {H0':ak},St D w0 w' (H0'++(bk rows.length k G++((List.range (M.set u .dead).length).flatMap (aD F u [])++I)))→(∀ a0 c0,β[u]?=some (a0,c0)→dy e' k (.slice a0 rows.length c0) rows.length (lay c X2++(lay rows.length X).drop (c*k)) H0')→∃ au F' I',RM D w0 K0 (M.set u (.rw e' k (bI.take c++rows.drop c))) au F' I' w'∧fD [] β au∧bE I I'∧(∀ v,v<M.length→v ∉ [u]→F' v=F v)∧ao (fun w=>K0 w∧Holds w I') au (.d (.v (.int .i64 (c:Int)))) (.int .i64 (c:Int)):=by
     intro w' H0' a8 dE
     rw [q7 G qG] at a8
     have R2:bq D w0 K0 (M.set u .dead) β (aD F u []) I ((H0'++bk (rows.length-c) k (fun i=>G (c+i)))++bk c k G) w':=R1.move (a8.perm (by classical rw [List.perm_iff_count];intro z;simp only [List.count_append];omega))
     have fq:bg (fun w=>K0 w∧Holds w I) β u (.rw e' k (bI.take c++rows.drop c)) (H0'++bk (rows.length-c) k (fun i=>G (c+i))):=by
      have l6:lay rows.length (fun i=>if i<c then X2 i else X (c+(i-c)))=lay c X2++(lay rows.length X).drop (c*k):=by
       have:=oa c (rows.length-c) X2 (fun i=>X (c+i))
       rw [show c+(rows.length-c)=rows.length by omega,tU hX qG] at this
       exact this
      have JI:bk rows.length k (fun i=>if i<c then (fun _=>[]) else G (c+(i-c)))=bk (rows.length-c) k (fun i=>G (c+i)):=by
       have:=pI c (rows.length-c) k (fun _ _=>[]) (fun i=>G (c+i))
       rw [show c+(rows.length-c)=rows.length by omega,kC,List.nil_append] at this
       exact this
      have:=bg.rw (K:=fun w=>K0 w∧Holds w I) (u:=u) (T:=e') (k:=k) (rows:=bI.take c++rows.drop c) (H0:=H0') hb _ _ gh.hl (by
       rw [kt,l6];exact dE _ _ hb) gh.hr
      rw [kt,JI] at this;exact this
     have R3:=((R2.drop.perm (Y:=(H0'++bk (rows.length-c) k (fun i=>G (c+i)))++[]) (by rw [List.append_nil])).back (by rw [List.length_set];exact aF) (by simp [aD]) fq).nil rfl
     rw [List.set_set] at R3
     refine ⟨β,_,I,R3,(Ext.refl β).b _,bE.refl _,fun q hq fL=>?_,.d (.v _)⟩
     have jR:q≠u:=by simpa using fL
     simp only [aD];rw [if_neg jR,if_neg jR]
    have BQ:=R1.st
    rcases hs.2 with ⟨h0,rfl,a,Cr⟩ | ⟨b',cap,cs,Cs,rfl,cv,dm,ht⟩
    ·have xD:c=0:=by omega
     simp only [Value.slice.injEq] at Cr
     obtain ⟨-,-,rfl⟩:=Cr
     have qz:lay c X2=[]:=by subst xD;simp [lay]
     refine aQ.pure (mZ _ _ w iw (fun a _=>by rw [qz];simp [storeCells]) (fun _=>rfl)) (et (H0':=[]) (BQ.perm (by classical rw [List.perm_iff_count];intro z;simp only [List.count_append,List.count_nil];omega)) fun a0 c0 dM=>?_)
     rw [hb] at dM;cases dM
     have:lay rows.length X=[]:=by rw [h0];simp [lay]
     rw [qz,this,List.drop_nil,List.append_nil]
     rw [h0];exact dy.nil _ _ _
    ·simp only [Value.slice.injEq] at Cs
     obtain ⟨rfl,-,rfl⟩:=Cs
     have hw:=(Holds.app.1 hH).1.one
     have Lz:c*k≤rows.length*k:=Nat.mul_le_mul_right _ qG
     have sB:rows.length*k≤cs.size:=by rw [cv];exact Nat.mul_le_mul_right _ dm
     have An:=nT (P:=P) (lay c X2) w cs 0 0 hw (by omega) vX
     rw [Nat.add_zero] at An
     refine aQ.pure (mZ _ _ _ iw (fun a ha=>by simp only [Option.some.injEq] at ha;subst ha;exact An) (fun jb=>by simp at jb)) (et (H0':=[(b',.cells (bX cs 0 (lay c X2)) e' (0,0))]) ?_ fun a0 c0 dM=>?_)
     ·have kQ:St D w0 w ((b',.cells cs e' (0,0))::(bk rows.length k G++((List.range (M.set u .dead).length).flatMap (aD F u [])++I))):=BQ.perm (by classical rw [List.perm_iff_count];intro z;simp only [List.count_append,List.count_cons,List.cons_append,List.nil_append];omega)
      exact kQ.set _
     ·rw [hb] at dM;cases dM
      refine ⟨by rw [List.length_append,List.length_drop,Cq,dQ hX];omega,Or.inr ⟨b',_,_,rfl,rfl,by rw [kz];exact cv,dm,?_⟩⟩
      rw [Ds cs _ (by omega),List.take_append,Cq,List.take_of_length_le (by omega),← ht,List.drop_take]
def va (T:aE) (E:List (Nat×AV)) (M:List ai) (oc:Option aO) (t:TypeId) (x y:Operand):Option Out:=
 match iy T t,cy (aA E x),cy (aA E y),oc with
 | some (e,k,b,z),some (.i64,n),some (.i64,n'),some (.n2 m c)=>some ⟨[n=(m:Int),n'=(c:Int),m≤c,b*c≤281474976710656,c<4611686018427387904],.sl M.length m,M++[.rw e k (List.replicate m (z.map .v))],[],[],none⟩
 | _,_,_,_=>none
set_option maxRecDepth 20000 in
theorem Dc {t e k b:Nat} {z:List Value} {zv:Value} (ok:oB P t e k b zv) (hz:zv.cells=z.toArray) (ec:z.length=k) {m c:Nat} (mz:m≤c) (hb:b*c≤281474976710656) (hm:c<4611686018427387904):
  (Instr.makeSlice t (.int .i64 m) (.int .i64 c)).run P w=.ok (.slice (some ⟨w.heap.size,0,none⟩) m c) (w.alloc (.cells (lay c fun _=>z).toArray e)):=by
 obtain ⟨i,hi,h1,h2,h3⟩:=ok.info
 have hw:∀ m:Nat,m<4611686018427387904→IntKind.i64.wrap (m:Int)=m:=by
  intro m hm;simp [IntKind.wrap,IntKind.signed,IntKind.bits];omega
 have bj:∀ w:World,(sizeOf e).run P w=.ok k w:=fun w=>by simp [sizeOf,typeInfo,Sem.run_bind,hi,h1]
 have kc:∀ w:World,(typeInfo e).run P w=.ok i w:=fun w=>by simp [typeInfo,Sem.run_bind,hi]
 have hzero:∀ w:World,(zeroValue e).run P w=.ok zv w:=fun w=>by simp [zeroValue,Sem.run_bind,kc,h3]
 have ql:∀ (k:Nat) (w:World),(askRoom k).run P w=.ok () w:=by
  intro k w;unfold askRoom;split<;>simp [mark,Sem.run]
 have xC:∀ n:Int,asInt (.int .i64 n)=pure n:=fun n=>rfl
 have bP:∀ (cs:Array Value) (w:World),(newRow e cs).run P w=.ok ⟨w.heap.size,0,none⟩ (w.alloc (.cells cs e)):=by
  intro cs w;simp [newRow,newObj,Sem.run]
 have Cj:∀ m:Nat,b*m≤281474976710656→¬ ((i.bytes:Int)*(m:Int)>2 ^ 48):=by
  intro m hb
  rw [h2]
  have e:((b*m:Nat):Int)=(b:Int)*(m:Int):=Int.natCast_mul b m
  rw [← e]
  generalize b*m=q at hb
  omega
 have u6:∀ n,n=c*k→(if n=0 then ((Array.range n).map fun i=>(#[]:Array Value)[i%(#[]:Array Value).size]!) else ((Array.range n).map fun i=>z.toArray[i%z.toArray.size]!))=(lay c fun _=>z).toArray:=by
  intro n hn
  subst hn
  rw [← rB z c k ec]
  by_cases h0:c*k=0
  ·rw [if_pos h0,h0];simp
  ·rw [if_neg h0]
 unfold Instr.makeSlice
 simp only [Sem.run_bind,run_underlying ok.a8,Result.andThen_ok,xC,Sem.run_pure,kc,hw c hm,hw m (by omega)]
 have n2:=Cj c hb
 have vP:¬ ((((m:Int)<0:Bool)||decide ((i.bytes:Int)*(c:Int)>2 ^ 48))=true∨(m:Int)<0∨(m:Int)>c):=by
  simp only [Bool.or_eq_true,decide_eq_true_eq]
  omega
 rw [if_neg (by simpa using vP)]
 simp only [Sem.run_bind,Result.andThen_ok,ql,bj,Int.toNat_natCast]
 have:=u6 (c*k) rfl
 by_cases h0:c*k=0
 ·rw [if_pos h0] at this ⊢
  simp only [Sem.run_pure,Result.andThen_ok,Sem.run_bind,bP,this]
 ·rw [if_neg h0] at this ⊢
  simp only [Sem.run_pure,Result.andThen_ok,Sem.run_bind,hzero,hz,bP,this]
theorem Ep (hT:aR P T=true) {t:TypeId} {x y:Operand} (h:va T E M oc t x y=some out):aB P ⟨d,.makeSlice t x y,ty,pos,aft,gd⟩ E M out:=by
 unfold va at h
 split at h
 ·rename_i e k b z n n' m c he hx hy
  simp only [Option.some.injEq] at h;subst h
  obtain ⟨zv,ok,hz,ec⟩:=ka hT he
  intro D w0 K0 β F I ρ w C hv
  obtain ⟨rfl,rfl,mz,hb,hm,-⟩:=hv
  refine aQ.pure (v:=.slice (some ⟨w.heap.size,0,none⟩) m c) (w':=w.alloc (.cells (lay c fun _=>z).toArray e)) (by simp only [execOp,C.int hx,C.int hy,Sem.run_bind,Dc ok hz ec mz hb hm,Result.andThen_ok,Sem.run_pure]) ?_
  have gb:=dQ (n:=c) (k:=k) (X:=fun _=>z) (fun _ _=>ec)
  have LA:=dQ (n:=m) (k:=k) (X:=fun _=>z) (fun _ _=>ec)
  refine ⟨_,_,I,C.rm.new (q:=(some ⟨w.heap.size,0,none⟩,c)) (Gr.alloc w _) (df.alloc w _) ?_,(Ext.app _ _).b _,bE.refl _,lL _ _,.sl (hU C.rm _)⟩
  have:=bg.rw (K:=fun w=>K0 w∧Holds w I) (β:=β++[(some ⟨w.heap.size,0,none⟩,c)]) (u:=M.length) (T:=e) (k:=k) (rows:=List.replicate m (z.map .v)) (H0:=[(w.heap.size,.cells (lay c fun _=>z).toArray e (0,0))]) (hU C.rm _) (fun _=>z) (fun _ _=>[]) (fun i r hi=>by
   rw [List.getElem?_replicate] at hi
   split at hi
   ·simp only [Option.some.injEq] at hi;subst hi;rw [List.length_map];exact ⟨ec,ec⟩
   ·simp at hi) (by
    rw [List.length_replicate]
    exact ⟨LA,Or.inr ⟨w.heap.size,c,_,rfl,rfl,by simpa using gb,mz,(n3 (n:=c) (k:=k) (X:=fun _=>z) (fun _ _=>ec) mz).symm⟩⟩) (fun i r j c x hi h1 h2=>by
    rw [List.getElem?_replicate] at hi
    split at hi
    ·simp only [Option.some.injEq] at hi;subst hi;exact tv h1 h2
    ·simp at hi)
  rw [kC,List.append_nil] at this
  exact this
 ·simp at h
end Go.Proofs.YtcnpikbbmbombaaDoor
namespace Go.Proofs.YtcnpikbbmbombaaDoor
open Go.RowKit
variable {P:Program} {T:aE} {D:List Nat} {w0:World} {K0:World→Prop} {E:List (Nat×AV)} {M:List ai} {β:Beta} {F:Nat→ak} {I X:ak} {ρ:Operand→Value} {w:World}
variable {d:Option Tmp} {ty:TypeId} {pos:String} {aft:Array Edge} {gd:Option (Nat×Bool)} {oc:Option aO} {out:Out}
theorem mQ {t e size n c l h m:Nat} {a:Option Addr} (ht:P.underlying t=some (.slice e)) (hs:(P.info? e).map (·.size)=some size) {vl vh vm:Option Value} (hb:(Instr.sliceBounds true n c vl vh vm).run P w=.ok (l,h,m) w):
  (Instr.sliceAt t (.slice a n c) vl vh vm).run P w=.ok (.slice (if m=l then a else a.map (·.add (l*size))) (h-l) (m-l)) w:=by
 cases hi:P.info? e with
 | none=>simp [hi] at hs
 | some inf=>
  simp only [hi,Option.map_some,Option.some.injEq] at hs
  have bj:(sizeOf e).run P w=.ok size w:=by simp [sizeOf,typeInfo,Sem.run_bind,hi,hs]
  simp only [Instr.sliceAt,Instr.slice,Sem.run_bind,run_underlying ht,Result.andThen_ok,hb,bj,Sem.run_pure]
def xQ (T:aE) (E:List (Nat×AV)) (M:List ai) (oc:Option aO) (t:TypeId) (x:Operand) (lo hi mx:Option Operand):Option Out:=
 match cR T t,aA E x,oc with
 | some (.sl e),some (.sl u n),some o=>(match eW T e,M[u]? with
  | some k,some (.rw Te k' rows)=>(match lo,hi,mx,o with
   | some l,none,none,.n c=>(match cy (aA E l) with
    | some (.i64,z)=>bif k.beq k' then some ⟨[z=(c:Int),c<n,n=rows.length],.sb u k c (n-c),M,[],[],some [u]⟩ else none
    | _=>none)
   | none,some h,none,.n c=>(match cy (aA E h) with
    | some (.i64,z)=>some ⟨[z=(c:Int),c≤n,n=rows.length],.sl u c,M.set u (.rw Te k' (rows.take c)),[u],[],none⟩
    | _=>none)
   | none,some h,some m,.res (.ro k2 bI)=>(match cy (aA E h),cy (aA E m) with
    | some (.i64,z),some (.i64,z')=>some ⟨[z=(n:Int),z'=(n:Int),n=rows.length,k'=k2,b9 rows=bI],.d (.ro k2 bI),M.set u .dead,[u],[],none⟩
    | _,_=>none)
   | _,_,_,_=>none)
  | _,_=>none)
 | _,_,_=>none
theorem Src.cap {size n c c':Nat} {a:Option Addr} {xs:List Value} (h:Src w size (.slice a n c) n xs):Src w size (.slice a n c') n xs:=by
 refine ⟨h.1,?_⟩
 rcases h.2 with ⟨rfl,_,_,_⟩ | ⟨a',_,e,h2⟩
 ·exact Or.inl ⟨rfl,_,_,rfl⟩
 ·simp only [Value.slice.injEq] at e;obtain ⟨rfl,-,rfl⟩:=e
  exact Or.inr ⟨a',c',rfl,h2⟩
theorem bB.cap {K:World→Prop} {k n c c':Nat} {a:Option Addr} {rows:List (List DV)} {H:ak} (h:bB K (.ro k rows) (.slice a n c) H) (hc:n≤c'):bB K (.ro k rows) (.slice a n c') H:=by
 cases h with
 | ro X hl hy hs hr=>
  obtain ⟨a',LB,e,-⟩:=hy
  simp only [Value.slice.injEq] at e;obtain ⟨rfl,rfl,rfl⟩:=e
  exact .ro X hl ⟨_,_,rfl,hc⟩ (fun w hw=>(hs w hw).cap) hr
theorem Ix (hT:aR P T=true) {t:TypeId} {x:Operand} {lo hi mx:Option Operand} (h:xQ T E M oc t x lo hi mx=some out):aB P ⟨d,.slice t x lo hi mx,ty,pos,aft,gd⟩ E M out:=by
 unfold xQ at h
 split at h
 rotate_left
 ·simp at h
 rename_i e u n o ht hx
 split at h
 rotate_left
 ·simp at h
 rename_i k Te k' rows hk hM
 replace ht:=cD hT ht
 replace hk:=fS hT hk
 split at h
 ·rename_i l c
  split at h
  rotate_left
  ·simp at h
  rename_i z hz
  cases bU:k.beq k' with
  | false=>simp [bU] at h
  | true=>
   simp only [bU,cond_true,Option.some.injEq] at h;subst h
   obtain rfl:=Nat.eq_of_beq_eq_true bU
   refine aB.look ?_ (by simpa using eD hM)
   intro D w0 K0 β F I ρ w C hv
   obtain ⟨rfl,hc,hn,-⟩:=hv
   obtain ⟨y,hy,r⟩:=C.bC hx
   cases r with
   | @sl _ _ cc a hb=>
    obtain ⟨H,hF,hB,hH⟩:=C.rm.at hM
    cases hB with
    | rw aI X G hl hs hr=>
     rw [hb] at aI;cases aI
     obtain ⟨b',cap,cs,he,rfl,cv,dm,lb⟩:=hs.block (by omega)
     simp only [Value.slice.injEq] at he;obtain ⟨rfl,-,rfl⟩:=he
     refine ⟨_,ao.sb (k:=k) (o:=c) (n:=n-c) (c':=cc-c) hb,fun w' _=>?_⟩
     have:=mQ (P:=P) (w:=w') (a:=some ⟨b',0,none⟩) ht hk (n:=n) (c:=cc) (l:=c) (h:=n) (m:=cc) (vl:=some (.int .i64 c)) (vh:=none) (vm:=none) (by simp [Instr.sliceBounds,gU (show c≤n by omega)])
     rw [if_neg (by omega)] at this
     simp only [execOp,hy,C.int hz,Option.map_some,Option.map_none,Sem.run_bind,this,Result.andThen_ok,Sem.run_pure,add_eq,Nat.zero_add]
 ·rename_i hh c
  split at h
  rotate_left
  ·simp at h
  rename_i z hz
  simp only [Option.some.injEq] at h;subst h
  intro D w0 K0 β F I ρ w C hv
  obtain ⟨rfl,hc,hn,-⟩:=hv
  obtain ⟨y,hy,r⟩:=C.bC hx
  cases r with
  | @sl _ _ cc a hb=>
   have R:=C.rm.x
   have hB:=R.blk u _ hM
   have R1:=R.eJ hM
   have aF:=eD hM
   generalize ja:F u=Fu at hB R1
   cases hB with
   | @rw _ _ _ _ _ H0 aI X G hl hs hr=>
    rw [hb] at aI;cases aI
    have js:n≤cc:=by
     rcases hs.2 with ⟨h0,-,a,hq⟩ | ⟨b',cap,cs,hq,-,-,dm,-⟩
     ·omega
     ·simp only [Value.slice.injEq] at hq;omega
    have ft:=mQ (P:=P) (w:=w) (a:=a) ht hk (n:=n) (c:=cc) (l:=0) (h:=c) (m:=cc) (vl:=none) (vh:=some (.int .i64 c)) (vm:=none) (by simp [Instr.sliceBounds,gU (show c≤cc by omega)])
    have iZ:(if cc=0 then a else a.map (·.add (0*k)))=a:=by
     split
     ·rfl
     ·cases a with
      | none=>rfl
      | some a=>simp [add_zero']
    rw [iZ] at ft
    refine aQ.pure (v:=.slice a c cc) (w':=w) (by simp only [execOp,hy,C.int hz,Option.map_some,Option.map_none,Sem.run_bind,ft,Result.andThen_ok,Sem.run_pure,Nat.sub_zero]) ?_
    have hX:∀ a,a<rows.length→(X a).length=k':=fun a ha=>(hl a _ (List.getElem?_eq_getElem ha)).2
    have fJ:c≤rows.length:=by omega
    have hlen:(rows.take c).length=c:=by simp;omega
    have ra:de (fun w=>K0 w∧Holds w I) k' rows X G:=⟨hl,hr⟩
    have dE:dy Te k' (.slice a c cc) c (lay c X) H0:=by
     refine ⟨dQ fun i hi=>hX i (by omega),?_⟩
     rcases hs.2 with ⟨h0,e0,a',hq⟩ | ⟨b',cap,cs,hq,e0,h1,dm,lb⟩
     ·simp only [Value.slice.injEq] at hq
      obtain ⟨rfl,-,rfl⟩:=hq
      obtain rfl:c=0:=by omega
      exact Or.inl ⟨rfl,e0,_,rfl⟩
     ·simp only [Value.slice.injEq] at hq
      obtain ⟨rfl,-,rfl⟩:=hq
      refine Or.inr ⟨b',cc,cs,rfl,e0,h1,by omega,?_⟩
      rw [n3 hX fJ,← lb,List.take_take,Nat.min_eq_left (Nat.mul_le_mul_right _ fJ)]
    have fq:bg (fun w=>K0 w∧Holds w I) β u (.rw Te k' (rows.take c)) (H0++bk c k' G):=by
     have:=bg.rw (K:=fun w=>K0 w∧Holds w I) (u:=u) (T:=Te) (k:=k') (rows:=rows.take c) hb X G (ra.take (c:=c)).hl (by rw [hlen];exact dE) (ra.take (c:=c)).hr
     rw [hlen] at this;exact this
    rw [List.nil_append,q7 G fJ,← List.append_assoc] at R1
    have R3:=((R1.drop.perm (Y:=(H0++bk c k' G)++[]) (by rw [List.append_nil])).back (by rw [List.length_set];exact aF) (by simp [aD]) fq).nil rfl
    rw [List.set_set] at R3
    refine ⟨β,_,I,R3,(Ext.refl β).b _,bE.refl _,fun q hq fL=>?_,.sl hb⟩
    have jR:q≠u:=by simpa using fL
    simp only [aD];rw [if_neg jR,if_neg jR]
 ·rename_i hh m k2 bI
  split at h
  rotate_left
  ·simp at h
  rename_i z z' hz iZ
  simp only [Option.some.injEq] at h;subst h
  intro D w0 K0 β F I ρ w C hv
  obtain ⟨rfl,rfl,hn,rfl,rfl,-⟩:=hv
  obtain ⟨y,hy,r⟩:=C.bC hx
  cases r with
  | @sl _ _ cc a hb=>
   have R:=C.rm.x
   have hB:=R.blk u _ hM
   have R1:=R.eJ hM
   generalize ja:F u=Fu at hB R1
   have hd:bB (fun w=>K0 w∧Holds w I) (.em Te k' rows) (.slice a n cc) Fu∧n≤cc:=by
    cases hB with
    | rw aI X G hl hs hr=>
     rw [hb] at aI;cases aI
     refine ⟨by rw [hn];exact .em X G hl hs hr,?_⟩
     rcases hs.2 with ⟨h0,-,a,hq⟩ | ⟨b',cap,cs,hq,-,-,dm,-⟩
     ·omega
     ·simp only [Value.slice.injEq] at hq;omega
   obtain ⟨hd,js⟩:=hd
   have ft:=mQ (P:=P) (w:=w) (a:=a) ht hk (n:=n) (c:=cc) (l:=0) (h:=n) (m:=n) (vl:=none) (vh:=some (.int .i64 n)) (vm:=some (.int .i64 n)) (by simp [Instr.sliceBounds,gU js,gU (Nat.le_refl n)])
   have LC:(if n=0 then a else a.map (·.add (0*k)))=a:=by
    split
    ·rfl
    ·cases a with
     | none=>rfl
     | some a=>simp [add_zero']
   rw [LC] at ft
   refine aQ.pure (v:=.slice a n n) (w':=w) (by simp only [execOp,hy,C.int hz,C.int iZ,Option.map_some,Option.map_none,Sem.run_bind,ft,Result.andThen_ok,Sem.run_pure,Nat.sub_zero]) ?_
   rw [List.nil_append] at R1
   have R2:RM D w0 K0 (M.set u .dead) β (aD F u []) (Fu++I) w:=by
    refine ⟨R1.len,fun v bl hv=>(R1.blk v bl hv).mono (fun w hw=>⟨hw.1,(Holds.app.1 hw.2).2⟩) (Ext.refl _),?_⟩
    exact R1.st.perm (List.Perm.append_left _ List.perm_append_comm)
   refine ⟨β,_,_,R2,(Ext.refl β).b _,⟨_,rfl⟩,fun q _ hq=>by simp only [aD];rw [if_neg (by simpa using hq)],?_⟩
   have:=rK (K':=fun w=>K0 w∧Holds w (Fu++I)) hd fun w hw=>⟨⟨hw.1,(Holds.app.1 hw.2).2⟩,(Holds.app.1 hw.2).1⟩
   rw [dS] at this
   exact .d (this.cap (Nat.le_refl _))
 ·simp at h
def uw (T:aE) (E:List (Nat×AV)) (M:List ai) (oc:Option aO) (t:TypeId) (x ix:Operand):Option Out:=
 match cy (aA E ix),cR T t,aA E x,oc with
 | some (_,z),some (.sl e),some (.sb u k o n),some (.n i)=>(match eW T e,M[u]? with
  | some k',some (.rw _ _ rows)=>bif k.beq k' then some ⟨[z=(i:Int),i<n,o+n≤rows.length],.ep u k (o+i) 0,M,[],[],some []⟩ else none
  | _,_=>none)
 | _,_,_,_=>none
theorem DM (hT:aR P T=true) {t:TypeId} {x ix:Operand} (h:uw T E M oc t x ix=some out):aB P ⟨d,.indexAddr t x ix,ty,pos,aft,gd⟩ E M out:=by
 unfold uw at h
 split at h
 rotate_left
 ·simp at h
 rename_i kk z e u k o n i hz ht hx
 split at h
 rotate_left
 ·simp at h
 rename_i k' Tt k2 rows hk hM
 cases bU:k.beq k' with
 | false=>simp [bU] at h
 | true=>
  simp only [bU,cond_true,Option.some.injEq] at h;subst h
  obtain rfl:=Nat.eq_of_beq_eq_true bU
  replace ht:=cD hT ht
  replace hk:=fS hT hk
  refine aB.look ?_ (by simp)
  intro D w0 K0 β F I ρ w C cY
  obtain ⟨rfl,hi,Cd,-⟩:=cY
  obtain ⟨y,hy,r⟩:=C.bC hx
  cases r with
  | sb hb=>
   refine ⟨_,?_,fun _ _=>rq ht hk hy (C.int hz) (by omega) (by omega)⟩
   rw [add_eq]
   have:=ao.ep (K:=fun w=>K0 w∧Holds w I) (k:=k) (i:=o+i) (o:=0) hb
   rw [Nat.add_mul,Nat.add_zero] at this
   simpa using this
def vb (T:aE) (E:List (Nat×AV)) (M:List ai) (t:TypeId) (x:Operand):Option Out:=
 match iy T t,aA E x with
 | some (_,k,_,z),some (.sb u k' o n)=>(match M[u]? with
  | some (.rw Te k2 rows)=>bif k.beq k'&&k.beq k2&&z.all bS then some ⟨[0<n,o+n≤rows.length],.d (.v (.tuple #[])),M.set u (.rw Te k2 (rows.take o++(List.replicate n (z.map .v)++rows.drop (o+n)))),[u],[],none⟩ else none
  | _=>none)
 | _,_=>none
theorem Er (cs:Array Value) (i:Nat) (zs:List Value) (h:i+zs.length≤cs.size):(bX cs i zs).toList=cs.toList.take i++(zs++cs.toList.drop (i+zs.length)):=by
 apply List.ext_getElem?;intro p
 rw [Array.getElem?_toList,nX _ _ _ _ h,mP (by simpa using h)]
 split
 ·rfl
 ·simp
theorem Fz {l z:List Value} {i n N:Nat} (hz:z.length=n) (h1:i+n≤N) (h2:N≤l.length):(l.take i++(z++l.drop (i+n))).take N=(l.take N).take i++(z++(l.take N).drop (i+n)):=by
 subst hz
 apply List.ext_getElem?;intro p
 rw [List.getElem?_take,mP (by omega),mP (by simp;omega),List.getElem?_take]
 by_cases hp:p<N
 ·rw [if_pos hp,if_pos hp]
 ·rw [if_neg hp,if_neg hp,if_neg (by omega)]
theorem FA {z:List Value} {zv:Value} (hz:zv.cells=z.toArray) (n:Nat):(Builtin.zeroCells zv.cells n).toList=lay n fun _=>z:=by
 rw [hz];unfold Builtin.zeroCells
 have:=rB z n z.length rfl
 simpa using this
theorem Es (hT:aR P T=true) {t:TypeId} {x:Operand} (h:vb T E M t x=some out):aB P ⟨d,.call ⟨.builtin .clear,#[x],#[t]⟩,ty,pos,aft,gd⟩ E M out:=by
 unfold vb at h
 split at h
 rotate_left
 ·simp at h
 rename_i e k b z u k' o n he hx
 split at h
 rotate_left
 ·simp at h
 rename_i Te k2 rows hM
 cases hc:(k.beq k'&&k.beq k2&&z.all bS) with
 | false=>simp [hc] at h
 | true=>
  simp only [hc,cond_true,Option.some.injEq] at h;subst h
  simp only [Bool.and_eq_true] at hc
  obtain rfl:=Nat.eq_of_beq_eq_true hc.1.1
  obtain rfl:=Nat.eq_of_beq_eq_true hc.1.2
  obtain ⟨zv,ok,hz,ec⟩:=ka hT he
  intro D w0 K0 β F I ρ w C hv
  obtain ⟨nj,sZ,-⟩:=hv
  obtain ⟨y,hy,r⟩:=C.bC hx
  have hzero:∀ w:World,(zeroValue e).run P w=.ok zv w:=fun w=>by obtain ⟨i,hi,-,-,h3⟩:=ok.info;simp [zeroValue,typeInfo,Sem.run_bind,hi,h3]
  cases r with
  | @sb _ _ _ _ b0 c0 c1 hb=>
   have R:=C.rm.x
   have hB:=R.blk u _ hM
   have hH:=R.hC hM
   have R1:=R.eJ hM
   have aF:=eD hM
   generalize ja:F u=Fu at hB hH R1
   cases hB with
   | rw aI X G hl hs hr=>
    rw [hb] at aI;cases aI
    obtain ⟨b',cap,cs,hq,rfl,cv,dm,lb⟩:=hs.block (by omega)
    simp only [Value.slice.injEq,Option.some.injEq,Addr.mk.injEq] at hq
    obtain ⟨⟨rfl,-⟩,-,rfl⟩:=hq
    have hw:=(Holds.app.1 hH).1.one
    have hX:∀ a,a<rows.length→(X a).length=k:=fun a ha=>(hl a _ (List.getElem?_eq_getElem ha)).2
    have xR:(lay n fun _=>z).length=n*k:=dQ fun _ _=>ec
    have hmul:o*k+n*k≤rows.length*k:=by rw [← Nat.add_mul];exact Nat.mul_le_mul_right _ sZ
    have bj:rows.length*k≤cs.size:=by rw [cv];exact Nat.mul_le_mul_right _ dm
    obtain ⟨n',rfl⟩:∃ n',n=n'+1:=⟨n-1,by omega⟩
    refine E8 (Z:=lay (n'+1) fun _=>z) ok.a8 (hzero w) hy hw (FA hz _) (by omega) (fun q hq=>?_) ?_
    ·simp only [lay,List.mem_flatMap] at hq
     obtain ⟨_,-,hq⟩:=hq
     exact List.all_eq_true.1 hc.2 q hq
    have ra:de (fun w=>K0 w∧Holds w I) k rows X G:=⟨hl,hr⟩
    have rz:de (fun w=>K0 w∧Holds w I) k (List.replicate (n'+1) (z.map DV.v)) (fun _=>z) (fun _ _=>[]):=⟨fun i r hi=>by
     rw [List.getElem?_replicate] at hi
     split at hi
     ·simp only [Option.some.injEq] at hi;subst hi;rw [List.length_map];exact ⟨ec,ec⟩
     ·simp at hi,fun i r j c x hi h1 h2=>by
     rw [List.getElem?_replicate] at hi
     split at hi
     ·simp only [Option.some.injEq] at hi;subst hi;exact tv h1 h2
     ·simp at hi⟩
    have gh:=(ra.take (c:=o)).app (rz.app (ra.drop (c:=o+(n'+1))))
    have ho:(rows.take o).length=o:=by simp;omega
    have kt:(rows.take o++(List.replicate (n'+1) (z.map DV.v)++rows.drop (o+(n'+1)))).length=rows.length:=by simp;omega
    rw [ho,List.length_replicate] at gh
    have e1:=oa o ((n'+1)+(rows.length-(o+(n'+1)))) X (fun i=>if i<n'+1 then z else X (o+(n'+1)+(i-(n'+1))))
    rw [oa (n'+1) (rows.length-(o+(n'+1))) (fun _=>z) (fun i=>X (o+(n'+1)+i)),tU hX sZ,show o+((n'+1)+(rows.length-(o+(n'+1))))=rows.length by omega] at e1
    have e2:=pI o ((n'+1)+(rows.length-(o+(n'+1)))) k G (fun i=>if i<n'+1 then (fun _=>[]) else G (o+(n'+1)+(i-(n'+1))))
    rw [pI (n'+1) (rows.length-(o+(n'+1))) k (fun _ _=>[]) (fun i=>G (o+(n'+1)+i)),kC,List.nil_append,show o+((n'+1)+(rows.length-(o+(n'+1))))=rows.length by omega] at e2
    have e3:=q7 (k:=k) G (show o+(n'+1)≤rows.length by omega)
    have e4:=q7 (n:=o+(n'+1)) (k:=k) G (show o≤o+(n'+1) by omega)
    have a8:=R1.st
    rw [e3,e4] at a8
    have kQ:St D w0 w ((b0,.cells cs Te (0,0))::((bk o k G++bk (rows.length-(o+(n'+1))) k fun i=>G (o+(n'+1)+i))++(((bk (o+(n'+1)-o) k fun i=>G (o+i)))++((List.range (M.set u .dead).length).flatMap (aD F u [])++I)))):=a8.perm (by classical rw [List.perm_iff_count];intro z;simp only [List.count_append,List.count_cons,List.cons_append,List.nil_append];omega)
    have kR:=kQ.set (.cells (bX cs (o*k) (lay (n'+1) fun _=>z)) Te (0,0))
    have R2:bq D w0 K0 (M.set u .dead) β (aD F u []) I (([(b0,.cells (bX cs (o*k) (lay (n'+1) fun _=>z)) Te (0,0))]++(bk o k G++bk (rows.length-(o+(n'+1))) k fun i=>G (o+(n'+1)+i)))++(bk (o+(n'+1)-o) k fun i=>G (o+i))) _:=R1.move (kR.perm (by classical rw [List.perm_iff_count];intro z;simp only [List.count_append,List.count_cons,List.cons_append,List.nil_append];omega))
    have fq:bg (fun w=>K0 w∧Holds w I) β u (.rw Te k (rows.take o++(List.replicate (n'+1) (z.map DV.v)++rows.drop (o+(n'+1))))) ([(b0,.cells (bX cs (o*k) (lay (n'+1) fun _=>z)) Te (0,0))]++(bk o k G++bk (rows.length-(o+(n'+1))) k fun i=>G (o+(n'+1)+i))):=by
     have:=bg.rw (K:=fun w=>K0 w∧Holds w I) (u:=u) (T:=Te) (k:=k) (rows:=rows.take o++(List.replicate (n'+1) (z.map DV.v)++rows.drop (o+(n'+1)))) (H0:=[(b0,.cells (bX cs (o*k) (lay (n'+1) fun _=>z)) Te (0,0))]) hb _ _ gh.hl (by
      rw [kt,e1]
      refine ⟨by rw [List.length_append,List.length_append,xR,List.length_drop,dQ hX,dQ (n:=o) fun a ha=>hX a (by omega),Nat.add_mul o];omega,Or.inr ⟨_,_,_,rfl,rfl,by rw [kz];exact cv,dm,?_⟩⟩
      rw [Er _ _ _ (by omega),xR,Fz xR (by omega) (by simpa using bj),lb,n3 (c:=o) hX (by omega),Nat.add_mul o]) gh.hr
     rw [kt,e2] at this;exact this
    have R3:=((R2.drop.perm (Y:=([(b0,.cells (bX cs (o*k) (lay (n'+1) fun _=>z)) Te (0,0))]++(bk o k G++bk (rows.length-(o+(n'+1))) k fun i=>G (o+(n'+1)+i)))++[]) (by rw [List.append_nil])).back (by rw [List.length_set];exact aF) (by simp [aD]) fq).nil rfl
    rw [List.set_set] at R3
    refine ⟨β,_,I,R3,(Ext.refl β).b _,bE.refl _,fun q hq fL=>?_,.d (.v _)⟩
    have jR:q≠u:=by simpa using fL
    simp only [aD];rw [if_neg jR,if_neg jR]
def vZ (T:aE) (E:List (Nat×AV)) (M:List ai) (oc:Option aO) (t:TypeId) (x ix:Operand):Option Out:=
 match cR T t,jm (aA E x),cy (aA E ix),oc with
 | some .st,some l,some (_,z),some (.n i)=>(match l[i]? with | some b=>some (lk [z=(i:Int)] (.d (.v (.int .u8 (b.toNat:Int)))) M) | none=>none)
 | _,_,_,_=>none
theorem FB (hT:aR P T=true) {t:TypeId} {x ix:Operand} (h:vZ T E M oc t x ix=some out):aB P ⟨d,.index t x ix,ty,pos,aft,gd⟩ E M out:=by
 unfold vZ at h
 split at h
 ·rename_i l k z i hu hx hz
  split at h
  ·rename_i b hb
   simp only [Option.some.injEq] at h;subst h
   refine aB.same ?_
   intro D w0 K0 β F I ρ w C hv
   obtain ⟨rfl,-⟩:=hv
   refine ⟨_,fun w' _=>?_,.d (.v _)⟩
   have h1:=C.str hx
   have h2:=C.int hz
   have h3:=cD hT hu
   have h4:(⟨l.toArray⟩:ByteArray)[i]?=some b:=by
    obtain ⟨hi,rfl⟩:=List.getElem?_eq_some_iff.1 hb
    exact getElem?_pos (⟨l.toArray⟩:ByteArray) i (by show i<l.toArray.size;simpa using hi)
   simp [execOp,h1,h2,Instr.index,asIntOf,Sem.run_bind,run_underlying h3,h4]
  ·simp at h
 ·simp at h
def ux (T:aE) (E:List (Nat×AV)) (M:List ai) (oc:Option aO) (t:TypeId) (x ix:Operand):Option Out:=
 match cy (aA E ix),cR T t,aA E x,oc with
 | some (_,z),some (.ar n e),some (.ep u k j o),some (.n2 i _)=>(match eW T e with
  | some sz=>bif Nat.beq k 1&&Nat.beq o 0 then some (lk [z=(i:Int),i<n] (.ep u 1 (j+i*sz) 0) M) else none
  | none=>none)
 | _,_,_,_=>none
theorem DN (hT:aR P T=true) {t:TypeId} {x ix:Operand} (h:ux T E M oc t x ix=some out):aB P ⟨d,.indexAddr t x ix,ty,pos,aft,gd⟩ E M out:=by
 unfold ux at h
 split at h
 rotate_left
 ·simp at h
 rename_i kk z n e u k j o i _ hz ht hx
 split at h
 rotate_left
 ·simp at h
 rename_i sz hk
 cases bU:(Nat.beq k 1&&Nat.beq o 0) with
 | false=>simp [bU] at h
 | true=>
  simp only [bU,cond_true,Option.some.injEq] at h;subst h
  simp only [Bool.and_eq_true] at bU
  obtain rfl:=Nat.eq_of_beq_eq_true bU.1
  obtain rfl:=Nat.eq_of_beq_eq_true bU.2
  replace ht:=cD hT ht
  replace hk:=fS hT hk
  refine aB.same fun C cY=>?_
  obtain ⟨rfl,hi,-⟩:=cY
  obtain ⟨y,hy,r⟩:=C.bC hx
  cases r with
  | ep hb=>
   refine ⟨_,fun _ _=>nW ht hk hy (C.int hz) (by omega) (by omega),?_⟩
   rw [add_eq,Int.toNat_natCast,show j*1+0+i*sz=(j+i*sz)*1+0 by omega]
   exact .ep hb
def nk:List ai→List Nat→List ai
 | M,[]=>M
 | M,u::r=>nk (M.set u .dead) r
theorem zn:∀ (b:List Nat) (M:List ai),(nk M b).length=M.length
 | [],_=>rfl
 | u::r,M=>by rw [nk,zn r,List.length_set]
theorem RM.die:∀ {b:List Nat} {M:List ai} {F:Nat→ak} {I:ak},RM D w0 K0 M β F I w→(∀ u ∈ b,u<M.length)→∃ F' I',RM D w0 K0 (nk M b) β F' I' w∧bE I I'∧(∀ w,Holds w I'→∀ u ∈ b,Holds w (F u))∧∀ u,u ∉ b→F' u=F u
 | [],M,F,I,R,_=>⟨F,I,R,bE.refl I,fun _ _ u hu=>by simp at hu,fun _ _=>rfl⟩
 | u::r,M,F,I,R,hb=>by
  have hu:=hb u (by simp)
  have R1:=R.x.eJ (List.getElem?_eq_getElem hu)
  rw [List.nil_append] at R1
  have R2:RM D w0 K0 (M.set u .dead) β (aD F u []) (F u++I) w:=
   ⟨R1.len,fun v bl hv=>(R1.blk v bl hv).mono (fun w hw=>⟨hw.1,(Holds.app.1 hw.2).2⟩) (Ext.refl _),R1.st.perm (List.Perm.append_left _ List.perm_append_comm)⟩
  obtain ⟨F',I',R3,g,h1,h2⟩:=R2.die (b:=r) (fun v hv=>by rw [List.length_set];exact hb v (by simp [hv]))
  refine ⟨F',I',R3,(show bE I (F u++I) from ⟨F u,rfl⟩).trans g,fun w hw v hv=>?_,fun v hv=>?_⟩
  ·by_cases e:v=u
   ·subst e;exact (Holds.app.1 (g.holds w hw)).1
   ·have:=h1 w hw v ((List.mem_cons.1 hv).resolve_left e)
    simpa [aD,e] using this
  ·simp only [List.mem_cons,not_or] at hv
   rw [h2 v hv.2];simp only [aD];rw [if_neg hv.1]
def vd (P:Program) (E:List (Nat×AV)) (M:List ai) (oc:Option aO) (g:Operand) (args:Array Operand):Option Out:=
 match aA E g,kj E args.toList,oc with
 | some (.fn f b4),some l,some (.stay told x)=>(match mW M (l++b4) told with
  | some (vc,b)=>bif kN x&&na M b then some ⟨ay P f told x::vc,(mr (nk M b) x).1,(mr (nk M b) x).2,b,[],none⟩ else none
  | none=>none)
 | _,_,_=>none
theorem Et {g:Operand} {args:Array Operand} {ey:Array TypeId} (h:vd P E M oc g args=some out):aB P ⟨d,.call ⟨.value g,args,ey⟩,ty,pos,aft,gd⟩ E M out:=by
 unfold vd at h
 split at h
 ·rename_i f b4 l told x hg hl
  split at h
  ·rename_i vc b vN
   cases dL:(kN x&&na M b) with
   | false=>simp [dL] at h
   | true=>
    simp only [dL,cond_true,Option.some.injEq] at h;subst h
    simp only [Bool.and_eq_true] at dL
    have hb:=tQ dL.2
    intro D w0 K0 β F I ρ w C hv
    obtain ⟨fE,hv⟩:=hv
    obtain ⟨y,hy,r⟩:=C.bC hg
    cases r with
    | fn cs cA fJ=>
     obtain ⟨dw,jQ⟩:=C.mq hl
     have fY:(args.toList.map ρ++cs).length=(l++b4).length:=by rw [List.length_append,List.length_append,dw,cA]
     have ni:∀ (j:Nat) c y,(l++b4)[j]?=some c→(args.toList.map ρ++cs)[j]?=some y→ao (fun w=>K0 w∧Holds w I) β c y:=by
      intro j c y h1 h2
      rcases Nat.lt_or_ge j l.length with hj | hj
      ·rw [List.getElem?_append_left hj] at h1
       rw [List.getElem?_append_left (by omega)] at h2
       exact jQ j c y h1 h2
      ·rw [List.getElem?_append_right hj] at h1
       rw [List.getElem?_append_right (by omega),dw] at h2
       exact fJ _ c y h1 h2
     obtain ⟨F1,I1,R1,g1,a8,qH⟩:=C.rm.die hb
     obtain ⟨e1,e2⟩:=tD C.rm (K':=ie K0 I1 F1 []) vN hv (fun w hw=>⟨⟨hw.1.1,g1.holds w hw.1.2⟩,a8 w hw.1.2⟩) fY ni
     have hm:args.map ρ=(args.toList.map ρ).toArray:=by rw [← Array.toList_map]
     refine px hy fE.1 hm ?_
     have kP:((args.toList.map ρ).toArray++cs.toArray:Array Value)=(args.toList.map ρ++cs).toArray:=by simp
     rw [kP]
     refine (fE.now R1 C.k (b:=[]) (by simp) e1 e2 (fun h=>absurd rfl h)).mono ?_
     rintro e w' ⟨v,rfl,I',X,R,hI,hd⟩
     refine ⟨v,rfl,?_⟩
     have R':bq D w0 K0 (nk M b) β F1 I' (X++[]) w':=by rw [List.append_nil];exact R
     obtain ⟨au,F',R2,e,f2,-,a2⟩:=u3 dL.1 R' hd
     exact ⟨au,F',I',R2.nil rfl,e.b _,g1.trans hI,fun u hu xS=>(f2 u (by rw [zn];exact hu)).trans (qH u xS),a2⟩
  ·simp at h
 ·simp at h
end Go.Proofs.YtcnpikbbmbombaaDoor
namespace Go.Proofs.YtcnpikbbmbombaaDoor
open Go.RowKit
variable {mk:Bool} {P:Program} {T:aE} {f:FuncId} {w:World} {D:List Nat} {w0:World} {K0:World→Prop} {E:List (Nat×AV)} {M:List ai} {β:Beta} {F:Nat→ak} {I X:ak} {ρ:Operand→Value}
variable {d:Option Tmp} {ty:TypeId} {pos:String} {aft:Array Edge} {gd:Option (Nat×Bool)} {oc:Option aO} {out:Out}
def iS:List Nat→Nat→Option Nat
 | [],_=>none
 | k::r,u=>bif k.beq u then some 0 else (match iS r u with | some i=>some (i+1) | none=>none)
theorem j7:∀ {l:List Nat} {u i:Nat},iS l u=some i→l[i]?=some u
 | [],u,i,h=>by simp [iS] at h
 | k::r,u,i,h=>by
  unfold iS at h
  cases hk:k.beq u with
  | true=>simp only [hk,cond_true,Option.some.injEq] at h;subst h;simp [Nat.eq_of_beq_eq_true hk]
  | false=>
   simp only [hk,cond_false] at h
   split at h
   ·rename_i j hj;simp only [Option.some.injEq] at h;subst h;simpa using j7 hj
   ·simp at h
def sF (l:List Nat):AV→Option AV
 | .d x=>some (.d x)
 | .sl u n=>(match iS l u with | some v=>some (.sl v n) | none=>none)
 | .pt u o=>(match iS l u with | some v=>some (.pt v o) | none=>none)
 | .mv u=>(match iS l u with | some v=>some (.mv v) | none=>none)
 | .yl u=>(match iS l u with | some v=>some (.yl v) | none=>none)
 | .sb u k o n=>(match iS l u with | some v=>some (.sb v k o n) | none=>none)
 | .ep u k i o=>(match iS l u with | some v=>some (.ep v k i o) | none=>none)
 | .sf u k o n q=>(match iS l u with | some v=>some (.sf v k o n q) | none=>none)
 | .rp r o=>some (.rp r o)
 | .bt bs=>some (.bt bs)
 | .uk=>some .uk
 | _=>none
def nb (l:List Nat):List AV→Option (List AV)
 | []=>some []
 | c::r=>(match sF l c,nb l r with | some c',some r'=>some (c'::r') | _,_=>none)
def qn (l:List Nat):AV→Option AV
 | .fn f cs=>(match nb l cs with | some bJ=>some (.fn f bJ) | none=>none)
 | .ag cs=>(match nb l cs with | some bJ=>some (.ag bJ) | none=>none)
 | .tu cs=>(match nb l cs with | some bJ=>some (.tu bJ) | none=>none)
 | c=>sF l c
def jJ (l:List Nat):List AV→Option (List AV)
 | []=>some []
 | c::r=>(match qn l c,jJ l r with | some c',some r'=>some (c'::r') | _,_=>none)
def qo (l:List Nat):List (Nat×AV)→Option (List (Nat×AV))
 | []=>some []
 | (t,c)::r=>(match qn l c,qo l r with | some c',some r'=>some ((t,c')::r') | _,_=>none)
def sG (l:List Nat):ai→Option ai
 | .bx T cs=>(match jJ l cs with | some bJ=>some (.bx T bJ) | none=>none)
 | .rw T k rows=>some (.rw T k rows)
 | .tw a c T k rows=>some (.tw a c T k rows)
 | .nm v b=>(match iS l v with | some i=>some (.nm i b) | none=>none)
 | .gw g row=>some (.gw g row)
 | .fl T k m cs=>(match jJ l cs with | some bJ=>some (.fl T k m bJ) | none=>none)
 | .mf _ _ _=>none
 | .il _ _ _ _=>none
 | .mp T c es=>some (.mp T c es)
 | .mu T c es=>some (.mu T c es)
 | .it (some v) a s c=>(match iS l v with | some i=>some (.it (some i) a s c) | none=>none)
 | .it none a s c=>some (.it none a s c)
 | .lp b f sz E rf=>(match qo l E with | some E'=>some (.lp b f sz E' rf) | none=>none)
 | .dead=>some .dead
def fu (l:List Nat) (M:List ai):List Nat→Option (List ai)
 | []=>some []
 | u::r=>(match M[u]? with
  | some b=>(match sG l b,fu l M r with | some b',some r'=>some (b'::r') | _,_=>none)
  | none=>none)
def sH (l:List Nat):AV→Option AV
 | .ag cs=>(match jJ l cs with | some bJ=>some (.ag bJ) | none=>none)
 | .tu cs=>(match jJ l cs with | some bJ=>some (.tu bJ) | none=>none)
 | c=>qn l c
def iT (l:List Nat) (E:List (Nat×AV)):List Nat→Option (List (Nat×AV))
 | []=>some []
 | t::r=>(match bM E t with
  | some v=>(match sH l v,iT l E r with | some v',some r'=>some ((t,v')::r') | _,_=>none)
  | none=>none)
def en (β:Beta):List Nat→Beta
 | []=>[]
 | u::r=>(match β[u]? with | some x=>x | none=>(none,0))::en β r
theorem eE:∀ {l:List Nat} {i u:Nat} {x:Option Addr×Nat},l[i]?=some u→β[u]?=some x→(en β l)[i]?=some x
 | [],i,u,x,h,_=>by simp at h
 | v::r,i,u,x,h,hx=>by
  cases i with
  | zero=>simp at h;subst h;simp [en,hx]
  | succ i=>simp at h;simpa [en] using eE h hx
theorem tj (β:Beta) (l:List Nat):(en β l).length=l.length:=by induction l with | nil=>rfl | cons u r ih=>simp [en,ih]
theorem zT {K:World→Prop} {l:List Nat} {c c':AV} (h:sF l c=some c') {y:Value} (r:ao K β c y):ao K (en β l) c' y:=by
 unfold sF at h
 split at h
 ·simp only [Option.some.injEq] at h;subst h;cases r with | d r=>exact .d r
 ·split at h
  ·rename_i hv;simp only [Option.some.injEq] at h;subst h;cases r with | sl hb=>exact .sl (eE (j7 hv) hb)
  ·simp at h
 ·split at h
  ·rename_i hv;simp only [Option.some.injEq] at h;subst h;cases r with | pt hb=>exact .pt (eE (j7 hv) hb)
  ·simp at h
 ·split at h
  ·rename_i hv;simp only [Option.some.injEq] at h;subst h;cases r with | mv hb=>exact .mv (eE (j7 hv) hb)
  ·simp at h
 ·split at h
  ·rename_i hv;simp only [Option.some.injEq] at h;subst h;cases r with | yl hb=>exact .yl (eE (j7 hv) hb)
  ·simp at h
 ·split at h
  ·rename_i hv;simp only [Option.some.injEq] at h;subst h;cases r with | sb hb=>exact .sb (eE (j7 hv) hb)
  ·simp at h
 ·split at h
  ·rename_i hv;simp only [Option.some.injEq] at h;subst h;cases r with | ep hb=>exact .ep (eE (j7 hv) hb)
  ·simp at h
 ·split at h
  ·rename_i hv;simp only [Option.some.injEq] at h;subst h;cases r with | sf hb h1 h2 h3=>exact .sf (eE (j7 hv) hb) h1 h2 h3
  ·simp at h
 ·simp only [Option.some.injEq] at h;subst h;cases r with | rp a X hl hc hr=>exact .rp a X hl hc hr
 ·simp only [Option.some.injEq] at h;subst h;cases r with | bt hd hn=>exact .bt hd hn
 ·simp only [Option.some.injEq] at h;subst h;cases r with | uk hu=>exact .uk hu
 ·simp at h
theorem rC {K:World→Prop} {l:List Nat}:∀ {cs bJ:List AV},nb l cs=some bJ→bJ.length=cs.length∧∀ {ys:List Value},(∀ (j:Nat) c y,cs[j]?=some c→ys[j]?=some y→ao K β c y)→∀ (j:Nat) c y,bJ[j]?=some c→ys[j]?=some y→ao K (en β l) c y
 | [],bJ,h=>by simp only [nb,Option.some.injEq] at h;subst h;simp
 | c::r,bJ,h=>by
  unfold nb at h
  split at h
  ·rename_i c1 r1 h1 h2
   simp only [Option.some.injEq] at h;subst h
   obtain ⟨e1,e2⟩:=rC (K:=K) h2
   refine ⟨by simp [e1],fun {ys} hr j d y h3 h4=>?_⟩
   cases ys with
   | nil=>simp at h4
   | cons z zs=>
    cases j with
    | zero=>simp at h3 h4;subst h3 h4;exact zT h1 (hr 0 _ _ rfl rfl)
    | succ j=>simp at h3 h4;exact e2 (ys:=zs) (fun j c y h5 h6=>hr (j+1) c y (by simpa using h5) (by simpa using h6)) j d y h3 h4
  ·simp at h
theorem uy {K:World→Prop} {l:List Nat} {c c':AV} (h:qn l c=some c') {y:Value} (r:ao K β c y):ao K (en β l) c' y:=by
 unfold qn at h
 split at h
 ·split at h
  ·rename_i hl;simp only [Option.some.injEq] at h;subst h
   cases r with | fn ys cH hr=>obtain ⟨e1,e2⟩:=rC (β:=β) (K:=K) hl;exact .fn ys (by omega) (e2 hr)
  ·simp at h
 ·split at h
  ·rename_i hl;simp only [Option.some.injEq] at h;subst h
   cases r with | ag ys cH hr=>obtain ⟨e1,e2⟩:=rC (β:=β) (K:=K) hl;exact .ag ys (by omega) (e2 hr)
  ·simp at h
 ·split at h
  ·rename_i hl;simp only [Option.some.injEq] at h;subst h
   cases r with | tu ys cH hr=>obtain ⟨e1,e2⟩:=rC (β:=β) (K:=K) hl;exact .tu ys (by omega) (e2 hr)
  ·simp at h
 ·exact zT h r
theorem n4 {K:World→Prop} {l:List Nat}:∀ {cs bJ:List AV},jJ l cs=some bJ→bJ.length=cs.length∧∀ {ys:List Value},(∀ (j:Nat) c y,cs[j]?=some c→ys[j]?=some y→ao K β c y)→∀ (j:Nat) c y,bJ[j]?=some c→ys[j]?=some y→ao K (en β l) c y
 | [],bJ,h=>by simp only [jJ,Option.some.injEq] at h;subst h;simp
 | c::r,bJ,h=>by
  unfold jJ at h
  split at h
  ·rename_i c1 r1 h1 h2
   simp only [Option.some.injEq] at h;subst h
   obtain ⟨e1,e2⟩:=n4 (K:=K) h2
   refine ⟨by simp [e1],fun {ys} hr j d y h3 h4=>?_⟩
   cases ys with
   | nil=>simp at h4
   | cons z zs=>
    cases j with
    | zero=>simp at h3 h4;subst h3 h4;exact uy h1 (hr 0 _ _ rfl rfl)
    | succ j=>simp at h3 h4;exact e2 (ys:=zs) (fun j c y h5 h6=>hr (j+1) c y (by simpa using h5) (by simpa using h6)) j d y h3 h4
  ·simp at h
theorem zU {K:World→Prop} {l:List Nat} {c c':AV} (h:sH l c=some c') {y:Value} (r:ao K β c y):ao K (en β l) c' y:=by
 unfold sH at h
 split at h
 ·split at h
  ·rename_i hl;simp only [Option.some.injEq] at h;subst h
   cases r with | ag ys cH hr=>obtain ⟨e1,e2⟩:=n4 (β:=β) (K:=K) hl;exact .ag ys (by omega) (e2 hr)
  ·simp at h
 ·split at h
  ·rename_i hl;simp only [Option.some.injEq] at h;subst h
   cases r with | tu ys cH hr=>obtain ⟨e1,e2⟩:=n4 (β:=β) (K:=K) hl;exact .tu ys (by omega) (e2 hr)
  ·simp at h
 ·exact uy h r
theorem zV {K:World→Prop} {l:List Nat} {g:Nat→Value}:∀ {E E':List (Nat×AV)},qo l E=some E'→(∀ x ∈ E,ao K β x.2 (g x.1))→∀ x ∈ E',ao K (en β l) x.2 (g x.1)
 | [],E',h,_,x,hx=>by simp only [qo,Option.some.injEq] at h;subst h;cases hx
 | (t,c)::r,E',h,hr,x,hx=>by
  unfold qo at h
  split at h
  ·rename_i c1 r1 h1 h2
   simp only [Option.some.injEq] at h;subst h
   rcases List.mem_cons.1 hx with rfl | hx
   ·exact uy h1 (hr (t,c) List.mem_cons_self)
   ·exact zV h2 (fun y hy=>hr y (List.mem_cons_of_mem _ hy)) x hx
  ·simp at h
theorem uz {K:World→Prop} {l:List Nat} {u i:Nat} {b b':ai} {H:ak} (hi:l[i]?=some u) (h:sG l b=some b') (r:bg K β u b H):bg K (en β l) i b' H:=by
 unfold sG at h
 split at h
 ·split at h
  ·rename_i hl;simp only [Option.some.injEq] at h;subst h
   cases r with
   | bx hb ys cH hr=>obtain ⟨e1,e2⟩:=n4 (β:=β) (K:=K) hl;exact .bx (eE hi hb) ys (by omega) (e2 hr)
  ·simp at h
 ·simp only [Option.some.injEq] at h;subst h
  cases r with | rw hb X G hl hs hr=>exact .rw (eE hi hb) X G hl hs hr
 ·simp only [Option.some.injEq] at h;subst h
  cases r with | tw hb X G hl hs hr=>exact .tw (eE hi hb) X G hl hs hr
 ·split at h
  ·rename_i hv;simp only [Option.some.injEq] at h;subst h
   cases r with | nm hb=>exact .nm (eE (j7 hv) hb)
  ·simp at h
 ·simp only [Option.some.injEq] at h;subst h
  cases r with | gw X hl hc hr=>exact .gw X hl hc hr
 ·split at h
  ·rename_i hl;simp only [Option.some.injEq] at h;subst h
   cases r with
   | fl hb ys cH hm hc hr=>obtain ⟨e1,e2⟩:=n4 (β:=β) (K:=K) hl;exact .fl (eE hi hb) ys cH (by omega) hc (e2 hr)
  ·simp at h
 ·simp at h
 ·simp at h
 ·simp only [Option.some.injEq] at h;subst h
  cases r with | mp hb vs G hl hr=>exact .mp (eE hi hb) vs G hl hr
 ·simp only [Option.some.injEq] at h;subst h
  cases r with | mu gG hp hn aF hb vs G hl hr=>exact .mu gG hp hn aF (eE hi hb) vs G hl hr
 ·split at h
  ·rename_i hv;simp only [Option.some.injEq] at h;subst h
   cases r with
   | @it b bm c since ck um seen hb hm=>
    obtain ⟨c',h'⟩:=hm _ rfl
    exact .it (bm:=bm) (eE hi hb) (fun v' gg=>by cases gg;exact ⟨c',eE (j7 hv) h'⟩)
  ·simp at h
 ·simp only [Option.some.injEq] at h;subst h
  cases r with
  | @it b bm c since ck um seen hb hm=>exact .it (bm:=bm) (eE hi hb) (fun v' gg=>by cases gg)
 ·split at h
  ·rename_i hp;simp only [Option.some.injEq] at h;subst h
   cases r with | @lp b c f sz nv bz E rf tmps hb bj hr=>exact .lp (eE hi hb) bj (zV (g:=fun t=>tmps.getD t undef) hp hr)
  ·simp at h
 ·simp only [Option.some.injEq] at h;subst h
  cases r with | dead=>exact .dead i
theorem pR {l:List Nat}:∀ {k:List Nat} {M':List ai},fu l M k=some M'→M'.length=k.length∧∀ (i:Nat) b,M'[i]?=some b→∃ u b0,k[i]?=some u∧M[u]?=some b0∧sG l b0=some b
 | [],M',h=>by simp only [fu,Option.some.injEq] at h;subst h;simp
 | u::r,M',h=>by
  unfold fu at h
  split at h
  ·rename_i b hb
   split at h
   ·rename_i b' r' h1 h2
    simp only [Option.some.injEq] at h;subst h
    obtain ⟨e1,e2⟩:=pR h2
    refine ⟨by simp [e1],fun i c hc=>?_⟩
    cases i with
    | zero=>simp at hc;subst hc;exact ⟨u,b,rfl,hb,h1⟩
    | succ i=>simp at hc;simpa using e2 i c hc
   ·simp at h
  ·simp at h
theorem uA {K:World→Prop} {l:List Nat} {ρ:Operand→Value} (hs:∀ t v,bM E t=some v→ao K β v (ρ (.tmp t))):∀ {ts:List Nat} {E':List (Nat×AV)},iT l E ts=some E'→∀ t v,bM E' t=some v→ao K (en β l) v (ρ (.tmp t))
 | [],E',h,t,v,hv=>by simp only [iT,Option.some.injEq] at h;subst h;simp [bM] at hv
 | s::r,E',h,t,v,hv=>by
  unfold iT at h
  split at h
  ·rename_i u hu
   split at h
   ·rename_i u' r' h1 h2
    simp only [Option.some.injEq] at h;subst h
    unfold bM at hv
    cases hk:s.beq t with
    | true=>
     simp only [hk,cond_true,Option.some.injEq] at hv;subst hv
     rw [← Nat.eq_of_beq_eq_true hk];exact zU h1 (hs s u hu)
    | false=>simp only [hk,cond_false] at hv;exact uA hs h2 t v hv
   ·simp at h
  ·simp at h
theorem tV:∀ {l:List Nat} {M:List ai} {F:Nat→ak} {X:ak},l.Nodup→(∀ u ∈ l,u<M.length)→bq D w0 K0 M β F I X w→∃ rest,St D w0 w (rest++(I++(X++l.flatMap F)))
 | [],M,F,X,_,_,R=>⟨_,by simpa using R.st⟩
 | u::r,M,F,X,hn,hl,R=>by
  have hu:=hl u (by simp)
  have R':=R.eJ (List.getElem?_eq_getElem hu)
  simp only [List.nodup_cons] at hn
  obtain ⟨rest,h⟩:=tV hn.2 (fun v hv=>by rw [List.length_set];exact hl v (by simp [hv])) R'
  refine ⟨rest,?_⟩
  have:r.flatMap (aD F u [])=r.flatMap F:=eG fun v hv=>by
   simp only [aD];rw [if_neg (fun e=>hn.1 (by rw [← e];exact hv))]
  rw [this] at h
  rw [List.flatMap_cons]
  simpa [List.append_assoc] using h
def lW (F:Nat→ak) (l:List Nat) (i:Nat):ak:=match l[i]? with | some u=>F u | none=>[]
theorem tW {F:Nat→ak} {l:List Nat} {i u:Nat} (h:l[i]?=some u):lW F l i=F u:=by simp [lW,h]
theorem rD (F:Nat→ak):∀ (l:List Nat),(List.range l.length).flatMap (lW F l)=l.flatMap F
 | []=>by simp
 | u::r=>by
  rw [List.length_cons,q6,List.flatMap_cons]
  congr 1
  have:=rD F r
  exact this
def nodupB:List Nat→Bool
 | []=>true
 | u::r=>!(r.elem u)&&nodupB r
theorem nY:∀ {l:List Nat},nodupB l=true→l.Nodup
 | [],_=>by simp
 | u::r,h=>by
  simp only [nodupB,Bool.and_eq_true,Bool.not_eq_true'] at h
  rw [List.nodup_cons]
  refine ⟨?_,nY h.2⟩
  intro hu;have:=h.1;simp [hu] at this
mutual
def mapA (σ:Nat→Nat):AV→AV
 | .d x=>.d x
 | .sl u n=>.sl (σ u) n
 | .pt u o=>.pt (σ u) o
 | .mv u=>.mv (σ u)
 | .yl u=>.yl (σ u)
 | .sb u k o n=>.sb (σ u) k o n
 | .sf u k o n q=>.sf (σ u) k o n q
 | .ep u k i o=>.ep (σ u) k i o
 | .rp r o=>.rp r o
 | .bt bs=>.bt bs
 | .uk=>.uk
 | .fn f l=>.fn f (kl σ l)
 | .fm f l=>.fm f (kl σ l)
 | .ag l=>.ag (kl σ l)
 | .tu l=>.tu (kl σ l)
def kl (σ:Nat→Nat):List AV→List AV
 | []=>[]
 | c::r=>mapA σ c::kl σ r
end
theorem kD (σ:Nat→Nat) (l:List AV):kl σ l=l.map (mapA σ):=by induction l with | nil=>rfl | cons c r ih=>rw [kl,ih];rfl
theorem mR {K:World→Prop} {β au:Beta} {σ:Nat→Nat} (h:∀ (u:Nat) x,β[u]?=some x→au[σ u]?=some x) {v:AV} {y:Value} (r:ao K β v y):ao K au (mapA σ v) y:=by
 have key:∀ {l:List AV} {ys:List Value},(∀ (j:Nat) c y,l[j]?=some c→ys[j]?=some y→ao K au (mapA σ c) y)→∀ (j:Nat) c y,(kl σ l)[j]?=some c→ys[j]?=some y→ao K au c y:=by
  intro l ys hh j c y h1 h2
  rw [kD,List.getElem?_map,Option.map_eq_some_iff] at h1
  obtain ⟨c',h1,rfl⟩:=h1
  exact hh j c' y h1 h2
 induction r with
 | d h=>exact .d h
 | sl hb=>exact .sl (h _ _ hb)
 | pt hb=>exact .pt (h _ _ hb)
 | mv hb=>exact .mv (h _ _ hb)
 | yl hb=>exact .yl (h _ _ hb)
 | sb hb=>exact .sb (h _ _ hb)
 | sf hb h1 h2 h3=>exact .sf (h _ _ hb) h1 h2 h3
 | ep hb=>exact .ep (h _ _ hb)
 | rp a X hl hc hr=>exact .rp a X hl hc hr
 | bt hd hn=>exact .bt hd hn
 | uk hu=>exact .uk hu
 | fn ys hl hr ih=>exact .fn ys (by rw [kD,List.length_map];exact hl) (key ih)
 | fm ys hl hr ih=>exact .fm ys (by rw [kD,List.length_map];exact hl) (key ih)
 | ag ys hl hr ih=>exact .ag ys (by rw [kD,List.length_map];exact hl) (key ih)
 | tu ys hl hr ih=>exact .tu ys (by rw [kD,List.length_map];exact hl) (key ih)
def eu (σ:Nat→Nat):ai→ai
 | .bx T cs=>.bx T (kl σ cs)
 | .rw T k rows=>.rw T k rows
 | .tw a c T k rows=>.tw a c T k rows
 | .nm v b=>.nm (σ v) b
 | .gw g row=>.gw g row
 | .fl T k m cs=>.fl T k m (kl σ cs)
 | .mf T c es=>.mf T c (es.map fun e=>(e.1,e.2.1,mapA σ e.2.2))
 | .il um s l c=>.il (um.map σ) s l c
 | .mp T c es=>.mp T c es
 | .mu T c es=>.mu T c es
 | .it um a s c=>.it (um.map σ) a s c
 | .lp b f sz E rf=>.lp b f sz (E.map fun x=>(x.1,mapA σ x.2)) rf
 | .dead=>.dead
theorem rM {K:World→Prop} {β au:Beta} {σ:Nat→Nat} (h:∀ (u:Nat) x,β[u]?=some x→au[σ u]?=some x) {u:Nat} {b:ai} {H:ak} (r:bg K β u b H):bg K au (σ u) (eu σ b) H:=by
 cases r with
 | dead=>exact .dead _
 | bx hb ys hl hr=>
  refine .bx (h _ _ hb) ys (by rw [kD,List.length_map];exact hl) fun j c y h1 h2=>?_
  rw [kD,List.getElem?_map,Option.map_eq_some_iff] at h1
  obtain ⟨c',h1,rfl⟩:=h1
  exact mR h (hr j c' y h1 h2)
 | rw hb X G hl hs hr=>exact .rw (h _ _ hb) X G hl hs hr
 | tw hb X G hl hs hr=>exact .tw (h _ _ hb) X G hl hs hr
 | nm hb=>exact .nm (h _ _ hb)
 | gw X hl hc hr=>exact .gw X hl hc hr
 | fl hb ys hl hm hc hr=>
  refine .fl (h _ _ hb) ys hl (by rw [kD,List.length_map];exact hm) hc fun j c y h1 h2=>?_
  rw [kD,List.getElem?_map,Option.map_eq_some_iff] at h1
  obtain ⟨c',h1,rfl⟩:=h1
  exact mR h (hr j c' y h1 h2)
 | @mf _ _ Tm xE xF hb vs hl hr=>
  have hh:=bg.mf (K:=K) (T:=Tm) (ck:=xE) (u:=σ u) (h _ _ hb) vs (by rw [List.length_map];exact hl) (es:=List.map (fun (e:Nat×MK×AV)=>(e.1,e.2.1,mapA σ e.2.2)) xF) (fun j c y h1 h2=>by
   rw [List.getElem?_map,Option.map_eq_some_iff] at h1
   obtain ⟨c',h1,rfl⟩:=h1
   exact mR h (hr j c' y h1 h2))
  rw [tN (fun (e:Nat×MK×AV)=>(e.1,e.2.1,mapA σ e.2.2)) (fun _=>⟨rfl,rfl⟩)] at hh
  exact hh
 | mp hb vs G hl hr=>exact .mp (h _ _ hb) vs G hl hr
 | mu gG hp hn aF hb vs G hl hr=>exact .mu gG hp hn aF (h _ _ hb) vs G hl hr
 | lp hb bj hr=>
  refine .lp (h _ _ hb) bj fun x hx=>?_
  obtain ⟨x0,sY,rfl⟩:=List.mem_map.1 hx
  exact mR h (hr x0 sY)
 | @il b bm c since last ck um seen hb hm=>
  refine .il (bm:=bm) (seen:=seen) (h _ _ hb) (fun v hv=>?_)
  cases um with
  | none=>cases hv
  | some v0=>cases hv;obtain ⟨c',h'⟩:=hm v0 rfl;exact ⟨c',h _ _ h'⟩
 | @it b bm c since ck um seen hb hm=>
  refine .it (bm:=bm) (h _ _ hb) (fun v hv=>?_)
  cases um with
  | none=>cases hv
  | some v0=>cases hv;obtain ⟨c',h'⟩:=hm v0 rfl;exact ⟨c',h _ _ h'⟩
def iN (M:List ai):List Nat→List ai
 | []=>M
 | u::r=>iN (M.set u .dead) r
theorem y5:∀ (l:List Nat) (M:List ai),(iN M l).length=M.length
 | [],_=>rfl
 | u::r,M=>by rw [iN,y5 r,List.length_set]
theorem y6:∀ {l:List Nat} {M:List ai} {F:Nat→ak} {X:ak},l.Nodup→(∀ u ∈ l,u<M.length)→bq D w0 K0 M β F I X w→
  ∃ F0,bq D w0 K0 (iN M l) β F0 I (X++l.flatMap F) w∧(∀ u ∈ l,F0 u=[])∧∀ u,u ∉ l→F0 u=F u
 | [],M,F,X,_,_,R=>⟨F,by simpa [iN] using R,by simp,fun _ _=>rfl⟩
 | u::r,M,F,X,hn,hl,R=>by
  have hu:=hl u (by simp)
  have R':=R.eJ (List.getElem?_eq_getElem hu)
  simp only [List.nodup_cons] at hn
  obtain ⟨F0,h1,h2,h3⟩:=y6 hn.2 (fun v hv=>by rw [List.length_set];exact hl v (by simp [hv])) R'
  have:r.flatMap (aD F u [])=r.flatMap F:=eG fun v hv=>by
   simp only [aD];rw [if_neg (fun e=>hn.1 (by rw [← e];exact hv))]
  rw [this] at h1
  refine ⟨F0,by rw [List.flatMap_cons,← List.append_assoc];exact h1,fun v hv=>?_,fun v hv=>?_⟩
  ·rcases List.mem_cons.1 hv with e | e
   ·subst e;rw [h3 v hn.1];simp [aD]
   ·exact h2 v e
  ·simp only [List.mem_cons,not_or] at hv
   rw [h3 v hv.2];simp only [aD];rw [if_neg hv.1]
theorem bq.put {X Y:ak} (R:bq D w0 K0 M β F I (X++Y) w) {u:Nat} (hu:u<M.length) (hF:F u=[]) {blk:ai} (hb:bg (fun w=>K0 w∧Holds w I) β u blk X):
  bq D w0 K0 (M.set u blk) β (aD F u X) I Y w where
 len:=by rw [List.length_set];exact R.len
 blk:=by
  intro v bl hv
  rw [List.getElem?_set] at hv
  by_cases e:u=v
  ·subst e
   simp only [hu,if_pos,Option.some.injEq] at hv;subst hv
   simpa [aD] using hb
  ·rw [if_neg e] at hv
   have:aD F u X v=F v:=by simp only [aD];rw [if_neg (fun h=>e h.symm)]
   rw [this];exact R.blk v bl hv
 st:=by
  have hs:=R.st
  rw [List.length_set,range_split hu]
  rw [range_split hu,hF] at hs
  have c1:(List.range u).flatMap (aD F u X)=(List.range u).flatMap F:=eG fun a ha=>by have:=List.mem_range.1 ha;simp [aD];omega
  have c2:(List.range' (u+1) (M.length-(u+1))).flatMap (aD F u X)=(List.range' (u+1) (M.length-(u+1))).flatMap F:=eG fun a ha=>by have:=(List.mem_range'_1.1 ha).1;simp [aD];omega
  have fI:aD F u X u=X:=by simp [aD]
  rw [c1,c2,fI]
  exact hs.perm (by classical rw [List.perm_iff_count];intro z;simp only [List.count_append,List.count_nil];omega)
def kT (M:List ai):List Nat→List ai→List ai
 | u::r,b::bs=>kT (M.set u b) r bs
 | _,_=>M
theorem zo:∀ {l:List Nat} {bs:List ai} {M:List ai} {F:Nat→ak} {G:Nat→ak} {Y:ak},l.Nodup→bs.length=l.length→(∀ u ∈ l,u<M.length)→(∀ u ∈ l,F u=[])→
  bq D w0 K0 M β F I ((List.range l.length).flatMap G++Y) w→(∀ (i u:Nat) b,l[i]?=some u→bs[i]?=some b→bg (fun w=>K0 w∧Holds w I) β u b (G i))→
  ∃ F',bq D w0 K0 (kT M l bs) β F' I Y w∧∀ u,u ∉ l→F' u=F u
 | [],[],M,F,G,Y,_,_,_,_,R,_=>⟨F,by simpa [kT] using R,fun _ _=>rfl⟩
 | [],_::_,_,_,_,_,_,h,_,_,_,_=>by simp at h
 | _::_,[],_,_,_,_,_,h,_,_,_,_=>by simp at h
 | u::r,b::bs,M,F,G,Y,hn,hl,aF,hF,R,hb=>by
  simp only [List.nodup_cons] at hn
  rw [List.length_cons,q6,List.append_assoc] at R
  have R1:=R.put (aF u (by simp)) (hF u (by simp)) (hb 0 u b rfl rfl)
  obtain ⟨F',h1,h2⟩:=zo (l:=r) (bs:=bs) (G:=fun i=>G (i+1)) hn.2 (by simpa using hl) (fun v hv=>by rw [List.length_set];exact aF v (by simp [hv])) (fun v hv=>by
   simp only [aD];rw [if_neg (fun e=>hn.1 (by rw [← e];exact hv))];exact hF v (by simp [hv])) R1 (fun i v c h3 h4=>hb (i+1) v c (by simpa using h3) (by simpa using h4))
  refine ⟨F',h1,fun v hv=>?_⟩
  simp only [List.mem_cons,not_or] at hv
  rw [h2 v hv.2];simp only [aD];rw [if_neg hv.1]
theorem FC {bs:List ai} {γ:Beta} {G:Nat→ak} {Y:ak} (hl:γ.length=bs.length) (R:bq D w0 K0 M β F I ((List.range bs.length).flatMap G++Y) w) (hb:∀ (i:Nat) b,bs[i]?=some b→bg (fun w=>K0 w∧Holds w I) (β++γ) (M.length+i) b (G i)):
  ∃ F',bq D w0 K0 (M++bs) (β++γ) F' I Y w∧∀ u,u<M.length→F' u=F u:=by
 refine ⟨fun u=>if u<M.length then F u else G (u-M.length),⟨by simp [R.len,hl],fun u b hu=>?_,?_⟩,fun u hu=>by simp [hu]⟩
 ·rcases Nat.lt_or_ge u M.length with h | h
  ·rw [List.getElem?_append_left h] at hu
   simp only [h,if_true]
   exact (R.blk u b hu).mono (fun _ h=>h) (Ext.app _ _)
  ·rw [List.getElem?_append_right h] at hu
   have hn:¬ u<M.length:=by omega
   simp only [hn,if_false]
   have:=hb (u-M.length) b hu
   rwa [show M.length+(u-M.length)=u by omega] at this
 ·rw [List.length_append,List.range_add,List.flatMap_append,List.flatMap_map]
  have e1:(List.range M.length).flatMap (fun u=>if u<M.length then F u else G (u-M.length))=(List.range M.length).flatMap F:=eG fun u hu=>by have:=List.mem_range.1 hu;simp [this]
  have e2:(List.range bs.length).flatMap (fun i=>if M.length+i<M.length then F (M.length+i) else G (M.length+i-M.length))=(List.range bs.length).flatMap G:=eG fun i hi=>by
   rw [if_neg (by omega),Nat.add_sub_cancel_left]
  rw [e1,e2]
  exact R.st.perm (by classical rw [List.perm_iff_count];intro z;simp only [List.count_append];omega)
def ax (P:Program) (f:FuncId) (args:List AV) (M:List ai) (x:AV) (M':List ai):Prop:=
 gu P f=true∧∀ {D:List Nat} {w0:World} {K0:World→Prop} {β:Beta} {F:Nat→ak} {I:ak} {w:World} (ys:List Value),RM D w0 K0 M β F I w→(∀ w,Kp D w0 w→K0 w)→ys.length=args.length→(∀ (j:Nat) c y,args[j]?=some c→ys[j]?=some y→ao (fun w=>K0 w∧Holds w I) β c y)→
  Calls P f ys.toArray w fun e w'=>∃ v,e=.returned v∧∃ au F' I',RM D w0 K0 M' au F' I' w'∧Ext β au∧bE I I'∧ao (fun w=>K0 w∧Holds w I') au x v
def outer (l:List Nat) (n:Nat) (i:Nat):Nat:=match l[i]? with | some u=>u | none=>n+(i-l.length)
def v7 (P:Program) (E:List (Nat×AV)) (M:List ai) (oc:Option aO) (g:Operand) (args:Array Operand):Option Out:=
 match aA E g,kj E args.toList,oc with
 | some (.fn f b4),some vs,some (.mem l x M')=>(match jJ l (vs++b4),fu l M l with
  | some told,some Ms=>bif nodupB l&&Nat.ble l.length M'.length then some ⟨[ax P f told Ms x M'],mapA (outer l M.length) x,kT (iN M l++(M'.drop l.length).map (eu (outer l M.length))) l ((M'.take l.length).map (eu (outer l M.length))),l,[],none⟩ else none
  | _,_=>none)
 | _,_,_=>none
theorem Dt (R:RM D w0 K0 M β F I w) (hK:∀ w,Kp D w0 w→K0 w) {f:FuncId} {vs:List AV} {ys:List Value} {l:List Nat} {told:List AV} {Ms M':List ai} {x:AV} (fY:ys.length=vs.length)
  (e1:told.length=vs.length) (e2:∀ (j:Nat) c y,told[j]?=some c→ys[j]?=some y→ao (fun w=>K0 w∧Holds w I) (en β l) c y) (m1:Ms.length=l.length) (m2:∀ (i:Nat) b,Ms[i]?=some b→∃ u b0,l[i]?=some u∧M[u]?=some b0∧bg (fun w=>K0 w∧Holds w I) (en β l) i b (F u)) (fM:l.Nodup) (hle:l.length≤M'.length) (fE:ax P f told Ms x M'):
  Calls P f ys.toArray w fun e w'=>∃ v,e=.returned v∧∃ au F' I',RM D w0 K0 (kT (iN M l++(M'.drop l.length).map (eu (outer l M.length))) l ((M'.take l.length).map (eu (outer l M.length)))) au F' I' w'∧fD [] β au∧bE I I'∧(∀ u,u<M.length→u ∉ l→F' u=F u)∧ao (fun w=>K0 w∧Holds w I') au (mapA (outer l M.length) x) v:=by
 have aF:∀ u ∈ l,u<M.length:=by
  intro u hu
  obtain ⟨i,hi,rfl⟩:=List.getElem_of_mem hu
  obtain ⟨u',b0,g1,g2,-⟩:=m2 i Ms[i] (List.getElem?_eq_getElem (by omega))
  rw [List.getElem?_eq_getElem hi,Option.some.injEq] at g1
  rw [g1];exact eD g2
 obtain ⟨F0,R0,o5,qH⟩:=y6 fM aF R.x
 rw [List.nil_append] at R0
 have xT:=y5 l M
 have Ct:=rD F l
 have s4:St D w0 w (l.flatMap F++((List.range (iN M l).length).flatMap F0++I)):=R0.st.perm (by classical rw [List.perm_iff_count];intro z;simp only [List.count_append];omega)
 have qI:∀ w',Kp (keys (l.flatMap F)) w w'→K0 w'∧Holds w' I:=fun w' k=>by
  have t:St (keys (l.flatMap F)) w w' []:=⟨k,by simp [keys],by simp [keys],Holds.nil _⟩
  have s':=St.call s4 rfl t
  rw [List.nil_append] at s'
  exact ⟨hK _ s'.kp,(Holds.app.1 s'.holds).2⟩
 have LD:RM (keys (l.flatMap F)) w (fun w=>K0 w∧Holds w I) Ms (en β l) (lW F l) [] w:=by
  refine ⟨by rw [tj,m1],fun i b hb=>?_,?_⟩
  ·obtain ⟨u,b0,g1,g2,g3⟩:=m2 i b hb
   rw [tW g1]
   exact g3.mono (fun w hw=>hw.1) (Ext.refl _)
  ·rw [m1,Ct,List.append_nil]
   exact St.start s4.tK.nd s4.tK.holds
 refine (fE.2 _ LD qI (by omega) (fun j c y h1 h2=>(e2 j c y h1 h2).mono (fun w hw=>hw.1) (Ext.refl _))).mono ?_
 rintro e w' ⟨v,rfl,au,F',I',R',hE,-,hr⟩
 refine ⟨v,rfl,?_⟩
 have s2:=St.call s4 rfl R'.st
 have Nj:l.length≤au.length:=by rw [R'.len];exact hle
 have lz:∀ (i:Nat) q,au[i]?=some q→(β++au.drop l.length)[outer l M.length i]?=some q:=by
  intro i q hq
  unfold outer
  rcases Nat.lt_or_ge i l.length with hi | hi
  ·have Cu:l[i]?=some l[i]:=List.getElem?_eq_getElem hi
   rw [Cu]
   have hu:=aF l[i] (List.getElem_mem hi)
   have xS:l[i]<β.length:=by rw [R.len];exact hu
   obtain ⟨q',Cv⟩:∃ q',β[l[i]]?=some q':=⟨_,List.getElem?_eq_getElem xS⟩
   have:=hE i _ (eE Cu Cv)
   rw [hq,Option.some.injEq] at this
   rw [List.getElem?_append_left (by rw [R.len];exact hu),Cv,this]
  ·rw [List.getElem?_eq_none hi]
   dsimp only
   rw [List.getElem?_append_right (by rw [R.len];omega),R.len,Nat.add_sub_cancel_left,List.getElem?_drop,show l.length+(i-l.length)=i by omega];exact hq
 have bU:∀ w,K0 w∧Holds w (I'++I)→(K0 w∧Holds w I)∧Holds w I':=fun w hw=>⟨⟨hw.1,(Holds.app.1 hw.2).2⟩,(Holds.app.1 hw.2).1⟩
 have Iy:(List.range M'.length).flatMap F'=(List.range l.length).flatMap F'++(List.range ((M'.drop l.length).map (eu (outer l M.length))).length).flatMap fun i=>F' (l.length+i):=by
  rw [List.length_map,List.length_drop]
  conv=>lhs;rw [show M'.length=l.length+(M'.length-l.length) by omega,List.range_add,List.flatMap_append,List.flatMap_map]
 have R2:bq D w0 K0 (iN M l) β F0 (I'++I) ((List.range ((M'.drop l.length).map (eu (outer l M.length))).length).flatMap (fun i=>F' (l.length+i))++(List.range l.length).flatMap F') w':=by
  refine ⟨R0.len,fun u b hb=>(R0.blk u b hb).mono (fun w hw=>(bU w hw).1) (Ext.refl _),?_⟩
  rw [Iy] at s2
  exact s2.perm (by classical rw [List.perm_iff_count];intro z;simp only [List.count_append];omega)
 obtain ⟨F2,R3,ks⟩:=FC (γ:=au.drop l.length) (by rw [List.length_drop,R'.len,List.length_map,List.length_drop]) R2 (fun i b hb=>by
  rw [List.getElem?_map,Option.map_eq_some_iff] at hb
  obtain ⟨b0,hb,rfl⟩:=hb
  rw [List.getElem?_drop] at hb
  have:=(rM lz (R'.blk _ b0 hb)).mono bU (Ext.refl _)
  have ho:outer l M.length (l.length+i)=M.length+i:=by unfold outer;rw [List.getElem?_eq_none (by omega)];dsimp only;omega
  rw [ho] at this
  rw [xT];exact this)
 have LF:=R3.perm (Y:=(List.range l.length).flatMap F'++[]) (by rw [List.append_nil])
 obtain ⟨F3,R4,LG⟩:=zo (bs:=(M'.take l.length).map (eu (outer l M.length))) fM (by simp;omega) (fun u hu=>by have:=aF u hu;rw [List.length_append];omega) (fun u hu=>by rw [ks u (by rw [xT];exact aF u hu)];exact o5 u hu) LF (fun i u b h1 h2=>by
  rw [List.getElem?_map,Option.map_eq_some_iff] at h2
  obtain ⟨b0,h2,rfl⟩:=h2
  rw [List.getElem?_take] at h2
  split at h2
  ·have:=(rM lz (R'.blk i b0 h2)).mono bU (Ext.refl _)
   have ho:outer l M.length i=u:=by unfold outer;rw [h1]
   rw [ho] at this;exact this
  ·simp at h2)
 refine ⟨_,F3,I'++I,R4.nil rfl,(Ext.app _ _).b _,⟨I',rfl⟩,fun u hu Cw=>?_,(mR lz hr).mono bU (Ext.refl _)⟩
 rw [LG u Cw,ks u (by rw [xT];exact hu),qH u Cw]
theorem yC (R:RM D w0 K0 M β F I w) (hK:∀ w,Kp D w0 w→K0 w) {f:FuncId} {vs:List AV} {ys:List Value} {l:List Nat} {told:List AV} {Ms M':List ai} {x:AV} (fY:ys.length=vs.length) (kU:∀ (j:Nat) c y,vs[j]?=some c→ys[j]?=some y→ao (fun w=>K0 w∧Holds w I) β c y)
  (oG:jJ l vs=some told) (nE:fu l M l=some Ms) (fM:l.Nodup) (hle:l.length≤M'.length) (fE:ax P f told Ms x M'):
  Calls P f ys.toArray w fun e w'=>∃ v,e=.returned v∧∃ au F' I',RM D w0 K0 (kT (iN M l++(M'.drop l.length).map (eu (outer l M.length))) l ((M'.take l.length).map (eu (outer l M.length)))) au F' I' w'∧fD [] β au∧bE I I'∧(∀ u,u<M.length→u ∉ l→F' u=F u)∧ao (fun w=>K0 w∧Holds w I') au (mapA (outer l M.length) x) v:=by
 obtain ⟨e1,e2⟩:=n4 (β:=β) (K:=fun w=>K0 w∧Holds w I) oG
 obtain ⟨m1,m2⟩:=pR nE
 refine Dt R hK fY e1 (e2 kU) m1 (fun i b hb=>?_) fM hle fE
 obtain ⟨u,b0,g1,g2,g3⟩:=m2 i b hb
 exact ⟨u,b0,g1,g2,uz g1 g3 (R.blk u b0 g2)⟩
theorem FD {g:Operand} {args:Array Operand} {ey:Array TypeId} (h:v7 P E M oc g args=some out):aB P ⟨d,.call ⟨.value g,args,ey⟩,ty,pos,aft,gd⟩ E M out:=by
 unfold v7 at h
 split at h
 ·rename_i f b4 vs l x M' hg qJ
  split at h
  ·rename_i told Ms oG nE
   cases hc:(nodupB l&&Nat.ble l.length M'.length) with
   | false=>simp only [hc,cond_false,reduceCtorEq] at h
   | true=>
    simp only [hc,cond_true,Option.some.injEq] at h;subst h
    simp only [Bool.and_eq_true] at hc
    have fM:=nY hc.1
    have hle:=Nat.le_of_ble_eq_true hc.2
    intro D w0 K0 β F I ρ w C hv
    obtain ⟨fE,-⟩:=hv
    obtain ⟨y,hy,r⟩:=C.bC hg
    cases r with
    | fn cs cA fJ=>
     obtain ⟨dw,jQ⟩:=C.mq qJ
     have fY:(args.toList.map ρ++cs).length=(vs++b4).length:=by rw [List.length_append,List.length_append,dw,cA]
     have ni:∀ (j:Nat) c y,(vs++b4)[j]?=some c→(args.toList.map ρ++cs)[j]?=some y→ao (fun w=>K0 w∧Holds w I) β c y:=by
      intro j c y h1 h2
      rcases Nat.lt_or_ge j vs.length with hj | hj
      ·rw [List.getElem?_append_left hj] at h1
       rw [List.getElem?_append_left (by omega)] at h2
       exact jQ j c y h1 h2
      ·rw [List.getElem?_append_right hj] at h1
       rw [List.getElem?_append_right (by omega),dw] at h2
       exact fJ _ c y h1 h2
     have hm:args.map ρ=(args.toList.map ρ).toArray:=by rw [← Array.toList_map]
     refine px hy fE.1 hm ?_
     have kP:((args.toList.map ρ).toArray++cs.toArray:Array Value)=(args.toList.map ρ++cs).toArray:=by simp
     rw [kP]
     exact yC C.rm C.k fY ni oG nE fM hle fE
  ·simp at h
 ·simp at h
end Go.Proofs.YtcnpikbbmbombaaDoor
namespace Go.Proofs.YtcnpikbbmbombaaDoor
open Go.RowKit
section
variable {P:Program} {ρ:Operand→Value} {w:World} {Φ:Value→World→Prop} {d:Option Tmp} {ty t k e:TypeId} {pos:String} {aft:Array Edge} {gd:Option (Nat×Bool)} {x:Operand}
def rE:Obj→Bool
 | .cells _ _ _=>false
 | _=>true
theorem pL {r:Nat} {o:Obj} (h:w.heap[r]?=some o) (ho:rE o=true):(getObj r).run P w=.ok o w:=by
 cases o<;>simp [rE] at ho<;>simp [getObj,Sem.run,h]
theorem rF {r:Nat} {o:Obj} (h:w.heap[r]?=some o) (ho:rE o=true) (o':Obj):(setObj r o').run P w=.ok () (bZ w r o'):=by
 cases o<;>simp [rE] at ho<;>simp [setObj,Sem.run,h,bZ]
end
end Go.Proofs.YtcnpikbbmbombaaDoor
namespace Go.Proofs.YtcnpikbbmbombaaDoor
open Go.RowKit
variable {P:Program} {T:aE} {E:List (Nat×AV)} {M:List ai}
variable {d:Option Tmp} {ty:TypeId} {pos:String} {aft:Array Edge} {gd:Option (Nat×Bool)} {oc:Option aO} {out:Out}
def MX (T:aE) (E:List (Nat×AV)) (M:List ai) (oc:Option aO) (t:TypeId) (x:Operand) (lo hi mx:Option Operand):Option Out:=
 match cR T t,aA E x,oc with
 | some (.sl e),some (.sl u n),some o=>(match eW T e,M[u]? with
  | some k,some (.rw _ k' rows)=>(match lo,hi,mx,o with
   | none,some h,none,.n2 c _=>(match cy (aA E h) with
    | some (.i64,z)=>bif k.beq k' then some ⟨[z=(c:Int),0<c,c≤n,n=rows.length],.sb u k 0 c,M,[],[],some []⟩ else none
    | _=>none)
   | none,some h,none,.res (.ro k2 [])=>(match cy (aA E h) with
    | some (.i64,z)=>some ⟨[z=0,n=rows.length],.d (.ro k2 []),M,[],[],some []⟩
    | _=>none)
   | some l,none,none,.res (.ro k2 [])=>(match cy (aA E l) with
    | some (.i64,z)=>some ⟨[z=(n:Int),n=rows.length],.d (.ro k2 []),M,[],[],some []⟩
    | _=>none)
   | _,_,_,_=>none)
  | _,_=>none)
 | _,_,_=>none
theorem rN {K:World→Prop} {k n c o c':Nat} {a:Option Addr} {rows:List (List DV)} (h:bB K (.ro k rows) (.slice a n c) []) (ho:o≤c') (hc:c'≤rows.length):bB K (.ro k ((rows.take c').drop o)) (.slice (if c=o then a else a.map (·.add (o*k))) (c'-o) (c-o)) []:=by
 cases h with
 | ro X hl hy hs hr=>
  obtain ⟨a',LB,e,dm⟩:=hy
  simp only [Value.slice.injEq] at e;obtain ⟨rfl,rfl,rfl⟩:=e
  have hX:∀ i,i<rows.length→(X i).length=k:=fun i hi=>(hl i _ (List.getElem?_eq_getElem hi)).2
  have hlen:((rows.take c').drop o).length=c'-o:=by simp;omega
  have Cx:∀ (i:Nat) r,((rows.take c').drop o)[i]?=some r→rows[o+i]?=some r:=fun i r hi=>by
   rw [List.getElem?_drop,List.getElem?_take] at hi
   split at hi
   ·exact hi
   ·cases hi
  refine .ro (fun i=>X (o+i)) (fun i r hi=>hl (o+i) r (Cx i r hi)) ⟨_,_,by rw [hlen],by rw [hlen];omega⟩ (fun w hw=>?_) fun i r j x y h1 h2 h3=>hr (o+i) r j x y (Cx i r h1) h2 h3
  rw [hlen]
  refine ⟨dQ fun i hi=>hX (o+i) (by omega),?_⟩
  rcases Nat.eq_zero_or_pos (c'-o) with h0 | hm
  ·exact Or.inl ⟨h0,_,_,by rw [h0]⟩
  rcases (hs w hw).2 with ⟨h0,-⟩ | ⟨a0,c0,e,jG⟩
  ·omega
  simp only [Value.slice.injEq] at e;obtain ⟨rfl,-,rfl⟩:=e
  refine Or.inr ⟨a0.add (o*k),_,by rw [if_neg (by omega)];rfl,fun j hj=>?_⟩
  have gb:(lay (c'-o) fun i=>X (o+i)).length=(c'-o)*k:=dQ fun i hi=>hX (o+i) (by omega)
  have e1:lay (c'-o) (fun i=>X (o+i))=((lay rows.length X).drop (o*k)).take ((c'-o)*k):=by
   rw [← tU (n:=rows.length) (c:=o) hX (by omega)]
   exact n3 (n:=rows.length-o) (c:=c'-o) (X:=fun i=>X (o+i)) (fun i hi=>hX (o+i) (by omega)) (by omega)
  have ld:(o+(c'-o))*k≤rows.length*k:=Nat.mul_le_mul_right k (by omega)
  rw [Nat.add_mul] at ld
  have hN:(lay rows.length X).length=rows.length*k:=dQ hX
  have mA:o*k+j<(lay rows.length X).length:=by omega
  rw [Addr.mN,jG (o*k+j) mA,← List.getElem?_eq_getElem mA,← List.getElem?_eq_getElem hj,e1,List.getElem?_take,if_pos (by omega),List.getElem?_drop]
def w7 (T:aE) (E:List (Nat×AV)) (M:List ai) (oc:Option aO) (t:TypeId) (x:Operand) (lo hi mx:Option Operand):Option Out:=
 match cR T t,aA E x,oc with
 | some (.sl e),some (.d (.ro k' rows)),some (.n2 c o)=>(match eW T e with
  | some k=>(match lo,hi,mx with
   | none,some h,none=>(match cy (aA E h) with
    | some (.i64,z)=>bif k.beq k' then some ⟨[z=(c:Int),c≤rows.length],.d (.ro k (rows.take c)),M,[],[],some []⟩ else none
    | _=>none)
   | none,some h,some m=>(match cy (aA E h),cy (aA E m) with
    | some (.i64,z),some (.i64,z')=>bif k.beq k' then some ⟨[z=(c:Int),z'=(c:Int),c≤rows.length],.d (.ro k (rows.take c)),M,[],[],some []⟩ else none
    | _,_=>none)
   | some l,none,none=>(match cy (aA E l) with
    | some (.i64,z)=>bif k.beq k' then some ⟨[z=(o:Int),o≤rows.length],.d (.ro k (rows.drop o)),M,[],[],some []⟩ else none
    | _=>none)
   | some l,some h,none=>(match cy (aA E l),cy (aA E h) with
    | some (.i64,z),some (.i64,z')=>bif k.beq k' then some ⟨[z=(o:Int),z'=(c:Int),o≤c,c≤rows.length],.d (.ro k ((rows.take c).drop o)),M,[],[],some []⟩ else none
    | _,_=>none)
   | _,_,_=>none)
  | _=>none)
 | _,_,_=>none
theorem G5 (hT:aR P T=true) {t:TypeId} {x:Operand} {lo hi mx:Option Operand} (h:w7 T E M oc t x lo hi mx=some out):aB P ⟨d,.slice t x lo hi mx,ty,pos,aft,gd⟩ E M out:=by
 unfold w7 at h
 split at h
 rotate_left
 ·simp at h
 rename_i e k' rows c o ht hx
 split at h
 rotate_left
 ·simp at h
 rename_i k hk
 replace ht:=cD hT ht
 replace hk:=fS hT hk
 split at h
 ·rename_i hh
  split at h
  rotate_left
  ·simp at h
  rename_i z hz
  cases bU:k.beq k' with
  | false=>simp [bU] at h
  | true=>
   simp only [bU,cond_true,Option.some.injEq] at h;subst h
   obtain rfl:=Nat.eq_of_beq_eq_true bU
   refine aB.look ?_ (by simp)
   intro D w0 K0 β F I ρ w C hv
   obtain ⟨rfl,hc,-⟩:=hv
   obtain ⟨y,hy,r⟩:=C.bC hx
   cases r with | d r=>
   obtain ⟨a,n,cc,rfl,hle,dm⟩:∃ a n cc,y=.slice a n cc∧n=rows.length∧rows.length≤cc:=by
    cases r with | ro X hl nF hs hr=>obtain ⟨a,cc,rfl,h2⟩:=nF;exact ⟨_,_,_,rfl,rfl,h2⟩
   subst hle
   have p:=rN r (o:=0) (c':=c) (Nat.zero_le _) hc
   rw [List.drop_zero] at p
   refine ⟨_,.d p,fun w' _=>?_⟩
   have:=mQ (P:=P) (w:=w') (a:=a) ht hk (n:=rows.length) (c:=cc) (l:=0) (h:=c) (m:=cc) (vl:=none) (vh:=some (.int .i64 c)) (vm:=none) (by simp [Instr.sliceBounds,gU (show c≤cc by omega)])
   simp only [execOp,hy,C.int hz,Option.map_some,Option.map_none,Sem.run_bind,this,Result.andThen_ok,Sem.run_pure]
 ·rename_i hh mm
  split at h
  rotate_left
  ·simp at h
  rename_i z z' hz iZ
  cases bU:k.beq k' with
  | false=>simp [bU] at h
  | true=>
   simp only [bU,cond_true,Option.some.injEq] at h;subst h
   obtain rfl:=Nat.eq_of_beq_eq_true bU
   refine aB.look ?_ (by simp)
   intro D w0 K0 β F I ρ w C hv
   obtain ⟨rfl,rfl,hc,-⟩:=hv
   obtain ⟨y,hy,r⟩:=C.bC hx
   cases r with | d r=>
   obtain ⟨a,n,cc,rfl,hle,dm⟩:∃ a n cc,y=.slice a n cc∧n=rows.length∧rows.length≤cc:=by
    cases r with | ro X hl nF hs hr=>obtain ⟨a,cc,rfl,h2⟩:=nF;exact ⟨_,_,_,rfl,rfl,h2⟩
   subst hle
   have p:=rN r (o:=0) (c':=c) (Nat.zero_le _) hc
   rw [List.drop_zero] at p
   have hb:∀ q:Nat,(if q=0 then a else a.map (·.add (0*k)))=a:=by
    intro q
    rw [Nat.zero_mul]
    split
    ·rfl
    ·cases a with
     | none=>rfl
     | some a=>simp [add_zero']
   rw [hb cc] at p
   refine ⟨_,.d (p.cap (c':=c-0) (Nat.le_refl _)),fun w' _=>?_⟩
   have:=mQ (P:=P) (w:=w') (a:=a) ht hk (n:=rows.length) (c:=cc) (l:=0) (h:=c) (m:=c) (vl:=none) (vh:=some (.int .i64 c)) (vm:=some (.int .i64 c)) (by simp [Instr.sliceBounds,gU (show c≤cc by omega),gU (Nat.le_refl c)])
   rw [hb c] at this
   simp only [execOp,hy,C.int hz,C.int iZ,Option.map_some,Option.map_none,Sem.run_bind,this,Result.andThen_ok,Sem.run_pure]
 ·rename_i l
  split at h
  rotate_left
  ·simp at h
  rename_i z hz
  cases bU:k.beq k' with
  | false=>simp [bU] at h
  | true=>
   simp only [bU,cond_true,Option.some.injEq] at h;subst h
   obtain rfl:=Nat.eq_of_beq_eq_true bU
   refine aB.look ?_ (by simp)
   intro D w0 K0 β F I ρ w C hv
   obtain ⟨rfl,hc,-⟩:=hv
   obtain ⟨y,hy,r⟩:=C.bC hx
   cases r with | d r=>
   obtain ⟨a,n,cc,rfl,hle,dm⟩:∃ a n cc,y=.slice a n cc∧n=rows.length∧rows.length≤cc:=by
    cases r with | ro X hl nF hs hr=>obtain ⟨a,cc,rfl,h2⟩:=nF;exact ⟨_,_,_,rfl,rfl,h2⟩
   subst hle
   have p:=rN r (o:=o) (c':=rows.length) hc (Nat.le_refl _)
   rw [List.take_length] at p
   refine ⟨_,.d p,fun w' _=>?_⟩
   have:=mQ (P:=P) (w:=w') (a:=a) ht hk (n:=rows.length) (c:=cc) (l:=o) (h:=rows.length) (m:=cc) (vl:=some (.int .i64 o)) (vh:=none) (vm:=none) (by simp [Instr.sliceBounds,gU hc])
   simp only [execOp,hy,C.int hz,Option.map_some,Option.map_none,Sem.run_bind,this,Result.andThen_ok,Sem.run_pure]
 ·rename_i l hh
  split at h
  rotate_left
  ·simp at h
  rename_i z z' hz iZ
  cases bU:k.beq k' with
  | false=>simp [bU] at h
  | true=>
   simp only [bU,cond_true,Option.some.injEq] at h;subst h
   obtain rfl:=Nat.eq_of_beq_eq_true bU
   refine aB.look ?_ (by simp)
   intro D w0 K0 β F I ρ w C hv
   obtain ⟨rfl,rfl,ho,hc,-⟩:=hv
   obtain ⟨y,hy,r⟩:=C.bC hx
   cases r with | d r=>
   obtain ⟨a,n,cc,rfl,hle,dm⟩:∃ a n cc,y=.slice a n cc∧n=rows.length∧rows.length≤cc:=by
    cases r with | ro X hl nF hs hr=>obtain ⟨a,cc,rfl,h2⟩:=nF;exact ⟨_,_,_,rfl,rfl,h2⟩
   subst hle
   have p:=rN r (o:=o) (c':=c) ho hc
   refine ⟨_,.d p,fun w' _=>?_⟩
   have:=mQ (P:=P) (w:=w') (a:=a) ht hk (n:=rows.length) (c:=cc) (l:=o) (h:=c) (m:=cc) (vl:=some (.int .i64 o)) (vh:=some (.int .i64 c)) (vm:=none) (by simp [Instr.sliceBounds,gU (show c≤cc by omega),gU ho])
   simp only [execOp,hy,C.int hz,C.int iZ,Option.map_some,Option.map_none,Sem.run_bind,this,Result.andThen_ok,Sem.run_pure]
 ·simp at h
end Go.Proofs.YtcnpikbbmbombaaDoor
namespace Go.Proofs.YtcnpikbbmbombaaDoor
open Go.RowKit
variable {P:Program} {T:aE} {D:List Nat} {w0:World} {K0:World→Prop} {E:List (Nat×AV)} {M:List ai} {β:Beta} {F:Nat→ak} {I X:ak} {ρ:Operand→Value} {w:World}
variable {d:Option Tmp} {ty:TypeId} {pos:String} {aft:Array Edge} {gd:Option (Nat×Bool)} {oc:Option aO} {out:Out}
def uB (T:aE) (E:List (Nat×AV)) (M:List ai) (oc:Option aO) (t:TypeId) (x ix:Operand):Option Out:=
 match cR T t,aA E x,cy (aA E ix),oc with
 | some (.sl e),some (.d (.v (.slice a n _))),some (_,z),some (.n2 i v)=>(match eW T e,M[v]? with
  | some k,some (.tw a' _ _ k' rows)=>bif k.beq k' then some ⟨[z=(i:Int),a=a',i<n,n=rows.length],.ep v k i 0,M,[],[],some []⟩ else none
  | _,_=>none)
 | _,_,_,_=>none
theorem DO (hT:aR P T=true) {t:TypeId} {x ix:Operand} (h:uB T E M oc t x ix=some out):aB P ⟨d,.indexAddr t x ix,ty,pos,aft,gd⟩ E M out:=by
 unfold uB at h
 split at h
 rotate_left
 ·simp at h
 rename_i e a n ca kk z i v ht hv hz
 replace ht:=cD hT ht
 split at h
 rotate_left
 ·simp at h
 rename_i k a' c' T' k' rows hk hM
 replace hk:=fS hT hk
 cases bU:k.beq k' with
 | false=>simp [bU] at h
 | true=>
  simp only [bU,cond_true,Option.some.injEq] at h;subst h
  obtain rfl:=Nat.eq_of_beq_eq_true bU
  refine aB.look (fun C cY=>?_) (by simp)
  obtain ⟨rfl,rfl,hi,Cd,-⟩:=cY
  obtain ⟨y,hy,r⟩:=C.bC hv
  cases r with | d r=>
  cases r with | v=>
  obtain ⟨H,-,hB,-⟩:=C.rm.at hM
  cases hB with
  | tw hb X G hl hs hr=>
   obtain ⟨b',cap,cs,he,-⟩:=hs.block (by omega)
   cases he
   exact ⟨_,by rw [add_eq];simpa using ao.ep (k:=k) (i:=i) (o:=0) hb,fun _ _=>rq ht hk hy (C.int hz) (by omega) (by omega)⟩
def uC (T:aE) (E:List (Nat×AV)) (M:List ai) (oc:Option aO) (t:TypeId) (x y:Operand):Option Out:=
 match aA E x,aA E y,eW T t,oc with
 | some (.ep u k i o),some v,some n,some (.ix _ row)=>(match mV v with
  | some l=>(match jH M l with
   | some (vc,xs,M')=>(match M'[u]? with
    | some (.tw a c e k' rows)=>bif k.beq k'&&l.length.beq n&&(o+n).ble k then some ⟨(rows[i]?=some row)::vc,.d .jk,M'.set u (.tw a c e k (rows.set i (row.take o++(xs++row.drop (o+xs.length))))),u::oQ l,[],none⟩ else none
    | _=>none)
   | none=>none)
  | none=>none)
 | _,_,_,_=>none
theorem DP (hT:aR P T=true) {t:TypeId} {x y:Operand} (h:uC T E M oc t x y=some out):aB P ⟨d,.store t x y,ty,pos,aft,gd⟩ E M out:=by
 unfold uC at h
 split at h
 rotate_left
 ·simp at h
 rename_i u k i o v n i0 row hx hy hn
 split at h
 rotate_left
 ·simp at h
 rename_i l hl
 split at h
 rotate_left
 ·simp at h
 rename_i vc xs M' hp
 split at h
 rotate_left
 ·simp at h
 rename_i aa ca e k' rows hM
 cases hc:(k.beq k'&&l.length.beq n&&(o+n).ble k) with
 | false=>simp [hc] at h
 | true=>
  simp only [hc,cond_true,Option.some.injEq] at h;subst h
  simp only [Bool.and_eq_true] at hc
  obtain rfl:=Nat.eq_of_beq_eq_true hc.1.1
  have qz:=Nat.eq_of_beq_eq_true hc.1.2
  have hle:=Nat.le_of_ble_eq_true hc.2
  intro D w0 K0 β F I ρ w C hv
  obtain ⟨bP,hv⟩:=hv
  obtain ⟨yx,iw,rx⟩:=C.bC hx
  obtain ⟨yy,nB,ry⟩:=C.bC hy
  obtain ⟨zs,h1,h2,h3,h4⟩:=py hl ry
  obtain ⟨lM,F',Hp,R',dd,xN⟩:=rL C.rm.x hp hv (ys:=zs) h2 h3
  rw [List.nil_append] at R'
  cases rx with
  | @ep _ _ _ _ b0 c0 hb=>
   have aF:u<M'.length:=eD hM
   have hB:=R'.blk u _ hM
   have hH:=R'.hC hM
   have R1:=R'.eJ hM
   have dl:=dd.len
   obtain ⟨Gx,xO,qE⟩:=dd.to
   generalize ja:F' u=Fu at hB hH R1
   cases hB with
   | tw aI X G cH hs hr=>
    rw [hb] at aI;cases aI
    obtain ⟨hi,-⟩:=List.getElem?_eq_some_iff.1 bP
    obtain ⟨b',cap,cs,he,rfl,cv,dm,ht⟩:=hs.block (by omega)
    cases he
    have hw:=(Holds.app.1 hH).1.one
    have hX:∀ a,a<rows.length→(X a).length=k:=fun a ha=>(cH a _ (List.getElem?_eq_getElem ha)).2
    have xM:i*k+k≤rows.length*k:=by have:=Nat.mul_le_mul_right k (show i+1≤rows.length from hi);rw [Nat.succ_mul] at this;exact this
    have bj:rows.length*k≤cs.size:=by rw [cv];exact Nat.mul_le_mul_right _ dm
    refine ug n (fS hT hn) iw nB hw (by rw [h1];simp;omega) (by omega) (by rw [h1];simpa using h4) ?_
    rw [h1]
    have ra:de (fun w=>K0 w∧Holds w I) k rows X G:=⟨cH,hr⟩
    have gh:=ra.put (o:=o) (zs:=zs) (xs:=xs) (Gx:=Gx) bP (by omega) dl qE
    have a8:=R1.st
    have kQ:St D w0 w ((b0,.cells cs e (0,0))::(bk rows.length k G++(Hp++((List.range (M'.set u .dead).length).flatMap (aD F' u [])++I)))):=a8.perm (by classical rw [List.perm_iff_count];intro z;simp only [List.count_append,List.count_cons,List.cons_append,List.nil_append];omega)
    have kR:=kQ.set (.cells (bX cs (i*k+o) zs) e (0,0))
    have kS:=tT (n:=rows.length) (k:=k) (i:=i) (o:=o) (m:=zs.length) hi (by omega) G Gx
    rw [xO,← dl] at kR
    have R2:bq D w0 K0 (M'.set u .dead) β (aD F' u []) I (([(b0,.cells (bX cs (i*k+o) zs) e (0,0))]++bk rows.length k (du G i o zs.length Gx))++(List.range' o zs.length).flatMap (G i)) _:=R1.move (kR.perm (by
     classical
     have hc:=List.perm_iff_count.1 kS
     rw [List.perm_iff_count];intro z
     have:=hc z
     simp only [List.count_append,List.count_cons,List.cons_append,List.nil_append] at this ⊢
     omega))
    have fq:bg (fun w=>K0 w∧Holds w I) β u (.tw (some ⟨b0,0,none⟩) ca e k (rows.set i (row.take o++(xs++row.drop (o+xs.length))))) ([(b0,.cells (bX cs (i*k+o) zs) e (0,0))]++bk rows.length k (du G i o zs.length Gx)):=by
     have:=bg.tw (K:=fun w=>K0 w∧Holds w I) (u:=u) (T:=e) (k:=k) (rows:=rows.set i (row.take o++(xs++row.drop (o+xs.length)))) (H0:=[(b0,.cells (bX cs (i*k+o) zs) e (0,0))]) hb (ig X i o zs) (du G i o zs.length Gx) gh.hl (by
      rw [List.length_set]
      exact ⟨dQ fun a ha=>pJ (by omega) (hX a ha),Or.inr ⟨_,_,_,rfl,rfl,by rw [kz];exact cv,dm,zS hX hi (by omega) ht bj⟩⟩) gh.hr
     rw [List.length_set] at this;exact this
    have R3:=((R2.drop.perm (Y:=([(b0,.cells (bX cs (i*k+o) zs) e (0,0))]++bk rows.length k (du G i o zs.length Gx))++[]) (by rw [List.append_nil])).back (by rw [List.length_set];exact aF) (by simp [aD]) fq).nil rfl
    rw [List.set_set] at R3
    refine ⟨β,_,I,R3,(Ext.refl β).b _,bE.refl _,fun q hq fL=>?_,.d (.jk _)⟩
    simp only [List.mem_cons,not_or] at fL
    simp only [aD];rw [if_neg fL.1,if_neg fL.1]
    exact xN q fL.2
def ve (T:aE) (E:List (Nat×AV)) (M:List ai) (oc:Option aO) (t:TypeId) (x:Operand):Option Out:=
 match aA E x with
 | some (.ep u k i o)=>(match oc with
  | some (.ix _ row)=>(match M[u]? with | some (.tw _ _ _ k' rows)=>bif k.beq k'&&row.all DV.cp then (match kq T t (row.map .d) o with | some v=>some ⟨[rows[i]?=some row],v,M,[],[],some [u]⟩ | none=>none) else none | _=>none)
  | _=>none)
 | _=>none
theorem Eu (hT:aR P T=true) {t:TypeId} {x:Operand} (h:ve T E M oc t x=some out):aB P ⟨d,.load t x,ty,pos,aft,gd⟩ E M out:=by
 unfold ve at h
 split at h
 ·rename_i u k i o hv
  split at h
  ·rename_i i0 row
   split at h
   rotate_left
   ·simp at h
   rename_i aw cw Tt k' rows hM
   cases hk:(k.beq k'&&row.all DV.cp) with
   | false=>simp [hk] at h
   | true=>
    simp only [hk,cond_true] at h
    simp only [Bool.and_eq_true] at hk
    obtain ⟨hk,qy⟩:=hk
    obtain rfl:=Nat.eq_of_beq_eq_true hk
    split at h
    ·rename_i v iY
     simp only [Option.some.injEq] at h;subst h
     refine aB.look ?_ (by simpa using eD hM)
     intro D w0 K0 β F I ρ w C cY
     obtain ⟨bP,-⟩:=cY
     obtain ⟨y,hy,r⟩:=C.bC hv
     cases r with
     | ep hb=>
      obtain ⟨H,hF,hB,hH⟩:=C.rm.at hM
      cases hB with
      | tw aI X G hl hs hr=>
       rw [hb] at aI;cases aI
       obtain ⟨xu,xv⟩:=hl i row bP
       obtain ⟨hi,-⟩:=List.getElem?_eq_some_iff.1 bP
       obtain ⟨b',cap,cs,he,rfl,cv,hn,ht⟩:=hs.block (by omega)
       cases he
       have cH:(X i).length=(row.map AV.d).length:=by rw [List.length_map];omega
       obtain ⟨y',h1,h2⟩:=ov hT (a:=⟨_,i*k,none⟩) (R:=ao (fun w=>K0 w∧Holds w I) β) (fun l ys=>ao.ag ys) iY (hy.trans (by rw [add_eq])) cH (fun j c z h1 h2=>by
        simp only [List.getElem?_map,Option.map_eq_some_iff] at h1
        obtain ⟨c',h1,rfl⟩:=h1
        exact .d ((hr i row j c' z bP h1 h2).cp (List.all_eq_true.1 qy c' (List.mem_of_getElem? h1))))
       refine ⟨y',h1,fun w' xw=>h2 w' fun j z hj=>?_⟩
       have dv:Holds w' _:=xw.2 u (by simp)
       rw [hF] at dv
       have hw:=(Holds.app.1 dv).1.one
       obtain ⟨iu,-⟩:=List.getElem?_eq_some_iff.1 hj
       rw [add_eq,cell_of hw,← hj,← jz (fun i hi=>(hl i _ (List.getElem?_eq_getElem hi)).2) hi (by omega),← ht,List.getElem?_take,if_pos,Array.getElem?_toList]
       have:=Nat.mul_le_mul_right k (show i+1≤rows.length from hi);rw [Nat.succ_mul] at this;omega
    ·simp at h
  ·simp at h
 ·simp at h
end Go.Proofs.YtcnpikbbmbombaaDoor
namespace Go.Proofs.YtcnpikbbmbombaaDoor
open Go.RowKit
variable {P:Program} {T:aE} {E:List (Nat×AV)} {M:List ai} {d:Option Tmp} {ty:TypeId} {pos:String} {aft:Array Edge} {gd:Option (Nat×Bool)} {oc:Option aO} {out:Out}
def cV (P:Program) (t:TypeId):Prop:=P.underlying t=some (.pointer (P.pointee t))
theorem DQ {ρ:Operand→Value} {w:World} {Φ:Value→World→Prop} {x:Operand} {t t':TypeId} {o:Option Addr} {c:Bool} (ht:cV P t) (h:ρ x=.pointer o) (hn:ρ (.const (.pointer none))=.pointer none) (hc:(!o.isNone)=c) (az:Φ (.bool c) w):aQ P ⟨d,.binOp .neq t x (.const (.pointer none)) t',ty,pos,aft,gd⟩ ρ w Φ:=by
 subst hc
 exact .pure (v:=.bool !o.isNone) (by simp [execOp,h,hn,eqGuard,binOp,Op.equal,Op.maxDepth,run_equalIn_pointer_nil w 9999 t o ht]) az
def qp:Option AV→Option Bool
 | some (.pt _ _)=>some false
 | some (.ep _ _ _ _)=>some false
 | some (.rp _ _)=>some false
 | some (.d (.v (.pointer none)))=>some true
 | _=>none
def wa (P:Program) (E:List (Nat×AV)) (M:List ai) (op:BinOp) (t:TypeId) (x y:Operand):Option Out:=
 match op,y,qp (aA E x) with
 | .eql,.const (.pointer none),some c=>some (lk [cV P t] (.b c) M)
 | .neq,.const (.pointer none),some c=>some (lk [cV P t] (.b (!c)) M)
 | _,_,_=>none
theorem zW {K:World→Prop} {β:Beta} {v:Option AV} {a:AV} {c:Bool} {y:Value} (h:qp v=some c) (hv:v=some a) (r:ao K β a y):∃ o,y=.pointer o∧o.isNone=c:=by
 subst hv
 unfold qp at h
 split at h
 ·rename_i hx;cases hx;simp only [Option.some.injEq] at h;subst h
  cases r with | pt hb=>exact ⟨_,rfl,rfl⟩
 ·rename_i hx;cases hx;simp only [Option.some.injEq] at h;subst h
  cases r with | ep hb=>exact ⟨_,rfl,rfl⟩
 ·rename_i hx;cases hx;simp only [Option.some.injEq] at h;subst h
  cases r with | rp a X hl hc hr=>exact ⟨_,rfl,rfl⟩
 ·rename_i hx;cases hx;simp only [Option.some.injEq] at h;subst h
  cases r with | d r=>cases r;exact ⟨_,rfl,rfl⟩
 ·simp at h
theorem FE {op:BinOp} {t t':TypeId} {x y:Operand} (h:wa P E M op t x y=some out):aB P ⟨d,.binOp op t x y t',ty,pos,aft,gd⟩ E M out:=by
 unfold wa at h
 split at h
 ·rename_i c hx
  simp only [Option.some.injEq] at h;subst h
  refine jC (.of fun _=>⟨_,rfl⟩) ?_
  intro D w0 K0 β F I ρ w' C hv
  obtain ⟨hp,-⟩:=hv
  cases nG:aA E x with
  | none=>rw [nG] at hx;simp [qp] at hx
  | some a=>
   obtain ⟨o,ho,hc⟩:=zW hx nG (C.ev nG)
   exact ⟨_,.d (.v _),fun w Φ az=>E7 hp ho (C.const _) hc az⟩
 ·rename_i c hx
  simp only [Option.some.injEq] at h;subst h
  refine jC (.of fun _=>⟨_,rfl⟩) ?_
  intro D w0 K0 β F I ρ w' C hv
  obtain ⟨hp,-⟩:=hv
  cases nG:aA E x with
  | none=>rw [nG] at hx;simp [qp] at hx
  | some a=>
   obtain ⟨o,ho,hc⟩:=zW hx nG (C.ev nG)
   exact ⟨_,.d (.v _),fun w Φ az=>DQ hp ho (C.const _) (by rw [hc]) az⟩
 ·simp at h
def kV (g:Nat):List ai→Option (List DV)
 | []=>none
 | .gw g' row::r=>bif g'.beq g then some row else kV g r
 | _::r=>kV g r
theorem uD {g:Nat} {row:List DV}:∀ {M:List ai},kV g M=some row→∃ u:Nat,M[u]?=some (ai.gw g row)
 | [],h=>by simp [kV] at h
 | b::r,h=>by
  have next:kV g r=some row→∃ u:Nat,(b::r)[u]?=some (ai.gw g row):=fun h=>by
   obtain ⟨u,hu⟩:=uD h
   exact ⟨u+1,by simpa using hu⟩
  cases b with
  | gw g' MY=>
   simp only [kV] at h
   cases hc:g'.beq g with
   | true=>
    simp only [hc,cond_true,Option.some.injEq] at h;subst h
    obtain rfl:=Nat.eq_of_beq_eq_true hc
    exact ⟨0,rfl⟩
   | false=>
    simp only [hc,cond_false] at h
    exact next h
  | _=>simp only [kV] at h;exact next h
def uE (T:aE) (E:List (Nat×AV)) (M:List ai) (oc:Option aO) (t:TypeId) (x ix:Operand):Option Out:=
 match x,cy (aA E ix),cR T t,oc with
 | .global g,some (_,z),some (.ar n e),some (.ix i [c])=>(match eW T e,kV g M with
  | some k,some row=>bif k.beq 1 then some (lk [z=(i:Int),i<n,row[i]?=some c] (.rp [c] 0) M) else none
  | _,_=>none)
 | _,_,_,_=>none
theorem DR (hT:aR P T=true) {t:TypeId} {x ix:Operand} (h:uE T E M oc t x ix=some out):aB P ⟨d,.indexAddr t x ix,ty,pos,aft,gd⟩ E M out:=by
 unfold uE at h
 split at h
 rotate_left
 ·simp at h
 rename_i g kk z n e i c hz ht
 split at h
 rotate_left
 ·simp at h
 rename_i k row hk hg
 cases hc:k.beq 1 with
 | false=>simp [hc] at h
 | true=>
  simp only [hc,cond_true,Option.some.injEq] at h;subst h
  obtain rfl:=Nat.eq_of_beq_eq_true hc
  refine aB.same fun C cY=>?_
  obtain ⟨rfl,hi,bP,-⟩:=cY
  obtain ⟨u,hu⟩:=uD hg
  obtain ⟨H,-,hB,-⟩:=C.rm.at hu
  cases hB with
  | gw X hl js hr=>
   have aF:i<X.length:=by have:=(List.getElem?_eq_some_iff.1 bP).1;omega
   have hx:X[i]?=some X[i]:=List.getElem?_eq_getElem aF
   have e0:(⟨g,0,none⟩:Addr).add (((i:Nat):Int).toNat*1)=((⟨g,0,none⟩:Addr).add i).add 0:=by rw [add_zero'];simp
   refine ⟨_,fun _ _=>nW (cD hT ht) (fS hT hk) (C.BO g) (C.int hz) (by simp) (by simp;omega),?_⟩
   rw [e0]
   refine .rp _ [X[i]] rfl (fun w' dv j y hj=>?_) (fun j c' y h1 h2=>?_)
   ·cases j with
    | zero=>simp at hj;subst hj;rw [add_zero'];exact js w' dv i _ hx
    | succ j=>simp at hj
   ·cases j with
    | zero=>simp at h1 h2;subst h1;subst h2;exact hr i _ _ bP hx
    | succ j=>simp at h1
section
variable {ρ:Operand→Value} {w:World}
theorem Ev {w:World} {b:Nat} {c:Array Value} {e:TypeId} (hb:w.heap[b]?=some (.cells c e (0,0))):w.freeze ⟨b,c.size,none⟩ 1=bZ w b (.cells c e (c.size,c.size+1)):=by
 unfold World.freeze bZ
 rw [if_neg (by decide)]
 congr 1
 apply Array.ext_getElem?
 intro j
 have aF:=j6 hb
 rw [Array.getElem?_modify,Array.getElem?_setIfInBounds]
 by_cases e':b=j
 ·subst e'
  have hg:w.heap[b]=.cells c e (0,0):=by rw [Array.getElem?_eq_getElem aF] at hb;exact Option.some.inj hb
  simp [aF,hg]
 ·simp [e']
theorem Iz {t t' e:TypeId} {x:Operand} {bs:List UInt8} (ht:P.underlying t=some .string) (nH:P.underlying t'=some (.slice e)) (he:P.underlying e=some (.int .u8)) (hx:ρ x=.string ⟨bs.toArray⟩):
  ∃ (k:Nat) (c:Array Value),bs.length≤k∧c=(bs.map fun b:UInt8=>Value.int .u8 b.toNat).toArray++Array.replicate (k-bs.length) (Value.int .u8 0)∧
   (execOp ρ ⟨d,.convert t t' x,ty,pos,aft,gd⟩).run P w=.ok (.value (.slice (some ⟨w.heap.size,0,none⟩) bs.length k)) (bZ (w.drew.alloc (.cells c e (0,0))) w.heap.size (.cells c e (c.size,c.size+1))):=by
 refine ⟨(Question.appendCap bs.length 0 e).cut (w.tape w.drawn (.appendCap bs.length 0 e)),_,by simp [Question.cut],rfl,?_⟩
 generalize hk:(Question.appendCap bs.length 0 e).cut (w.tape w.drawn (.appendCap bs.length 0 e))=k
 generalize js:(bs.map fun b:UInt8=>Value.int .u8 b.toNat).toArray++Array.replicate (k-bs.length) (Value.int .u8 0)=c
 have xo:(choose (.appendCap bs.length 0 e)).run P w=.ok k w.drew:=by
  rw [← hk];simp [choose,Sem.run,Question.forced]
 have bP:∀ (cs:Array Value) (w:World),(newRow e cs).run P w=.ok ⟨w.heap.size,0,none⟩ (w.alloc (.cells cs e)):=by
  intro cs w;simp [newRow,newObj,Sem.run]
 have ld:(markStringish ⟨w.heap.size,0,none⟩).run P (w.drew.alloc (.cells c e (0,0)))=.ok () (bZ (w.drew.alloc (.cells c e (0,0))) w.heap.size (.cells c e (c.size,c.size+1))):=by
  have hb:(w.drew.alloc (.cells c e (0,0))).heap[w.heap.size]?=some (.cells c e (0,0)):=zd w.drew _
  have nw:(w.drew.alloc (.cells c e (0,0))).shape? w.heap.size=some (e,c.size):=by unfold World.shape?;rw [hb]
  have:=Ev hb
  unfold markStringish
  simp only [Sem.run_bind]
  have h1:(shape w.heap.size).run P (w.drew.alloc (.cells c e (0,0)))=.ok (some (e,c.size)) (w.drew.alloc (.cells c e (0,0))):=by
   simp [shape,Sem.run,nw]
  rw [h1]
  simp only [Result.andThen_ok]
  simp [freeze,Sem.run,this]
 have JJ:(Conv.stringToBytes e ⟨bs.toArray⟩).run P w=.ok (.slice (some ⟨w.heap.size,0,none⟩) bs.length k) (bZ (w.drew.alloc (.cells c e (0,0))) w.heap.size (.cells c e (c.size,c.size+1))):=by
  have bj:(⟨bs.toArray⟩:ByteArray).size=bs.length:=by simp [ByteArray.size]
  unfold Conv.stringToBytes
  simp only [bj,Sem.run_bind,xo,Result.andThen_ok,bP,Sem.run_pure]
  have cv:((Array.map (fun b:UInt8=>Value.int .u8 (b.toNat:Int)) bs.toArray)++Array.replicate (k-bs.length) (Value.int .u8 0))=c:=by rw [← js];simp
  rw [cv]
  have hd:w.drew.heap.size=w.heap.size:=rfl
  rw [hd,ld]
  rfl
 simp only [execOp,hx,convert,Sem.run_bind,run_underlying ht,run_underlying nH,run_underlying he,Result.andThen_ok,JJ,Sem.run_pure]
theorem Ao {n:Nat} (f:Nat→Value):lay n (fun i=>[f i])=(List.range n).map f:=by
 unfold lay
 induction n with
 | zero=>rfl
 | succ n ih=>rw [List.range_succ,List.flatMap_append,List.map_append,ih];rfl
end
theorem Ap (w:World) (o:Obj):Gr w (w.drew.alloc o)∧df w (w.drew.alloc o) [(w.heap.size,o)]:=⟨(Gr.drew w).trans (Gr.alloc w.drew o),(df.alloc w.drew o).ahead (Gr.drew w)⟩
def wb (T:aE) (E:List (Nat×AV)) (M:List ai) (t t':TypeId) (x:Operand):Option Out:=
 match cR T t,cR T t',jm (aA E x) with
 | some .st,some (.sl e),some bs=>(match cR T e with
  | some (.it .u8)=>some ⟨[],.d (.ro 1 (af bs)),M,[],[],none⟩
  | _=>none)
 | _,_,_=>none
theorem FF (hT:aR P T=true) {t t':TypeId} {x:Operand} (h:wb T E M t t' x=some out):aB P ⟨d,.convert t t' x,ty,pos,aft,gd⟩ E M out:=by
 unfold wb at h
 split at h
 rotate_left
 ·cases h
 rename_i e bs ht nH hs
 split at h
 rotate_left
 ·cases h
 rename_i he
 simp only [Option.some.injEq] at h;subst h
 intro D w0 K0 β F I ρ w C _
 have KF:=C.str (x:=x) (l:=bs) hs
 obtain ⟨k,c,hk,hc,ft⟩:=Iz (d:=d) (ty:=ty) (pos:=pos) (aft:=aft) (gd:=gd) (w:=w) (cD hT ht) (cD hT nH) (cD hT he) KF
 refine aQ.pure ft ?_
 have s1:St D w0 (w.drew.alloc (.cells c e (0,0))) ((w.heap.size,.cells c e (0,0))::((List.range M.length).flatMap F++I)):=C.rm.st.new (Ap w (.cells c e (0,0))).1 (Ap w (.cells c e (0,0))).2
 have s2:=s1.set (.cells c e (c.size,c.size+1))
 have R2:RM D w0 K0 M β F ([(w.heap.size,.cells c e (c.size,c.size+1))]++I) (bZ (w.drew.alloc (.cells c e (0,0))) w.heap.size (.cells c e (c.size,c.size+1))):=by
  refine ⟨C.rm.len,fun v bl hv=>(C.rm.blk v bl hv).mono (fun w hw=>⟨hw.1,(Holds.app.1 hw.2).2⟩) (Ext.refl _),?_⟩
  exact s2.perm (by classical rw [List.perm_iff_count];intro z;simp only [List.count_append,List.count_cons,List.count_nil];omega)
 refine ⟨β,F,_,R2,(Ext.refl β).b _,⟨_,rfl⟩,fun _ _ _=>rfl,?_⟩
 have hlen:(af bs).length=bs.length:=by simp [af]
 refine .d (.ro (fun i=>[Value.int .u8 (bs.getD i 0).toNat]) (fun i r hi=>?_) ⟨_,_,by rw [hlen],by rw [hlen];exact hk⟩ (fun w' dv=>?_) fun i r j cc z h1 h2 h3=>?_)
 ·simp only [af,List.getElem?_map,Option.map_eq_some_iff] at hi
  obtain ⟨b,-,rfl⟩:=hi;exact ⟨rfl,rfl⟩
 ·have aI:w'.heap[w.heap.size]?=some (.cells c e (c.size,c.size+1)):=(Holds.app.1 dv.2).1.one
  rw [hlen,Ao]
  refine ⟨by simp,Or.inr ⟨_,k,rfl,fun j hj=>?_⟩⟩
  rw [add_eq,Nat.zero_add,cell_of aI,hc]
  have iu:j<bs.length:=by simpa using hj
  rw [Array.getElem?_append_left (by simpa using iu)]
  simp [iu,List.getD_eq_getElem?_getD]
 ·simp only [af,List.getElem?_map,Option.map_eq_some_iff] at h1
  obtain ⟨b,hb,rfl⟩:=h1
  cases j with
  | succ j=>simp at h2
  | zero=>
   simp at h2 h3;subst h2;subst h3
   simp only [List.getD_eq_getElem?_getD,hb,Option.getD_some]
   exact .v _
end Go.Proofs.YtcnpikbbmbombaaDoor
namespace Go.Proofs.YtcnpikbbmbombaaDoor
open Go.RowKit
variable {P:Program} {T:aE} {D:List Nat} {w0:World} {K0:World→Prop} {E:List (Nat×AV)} {M:List ai} {β:Beta} {F:Nat→ak} {I X:ak} {ρ:Operand→Value} {w:World}
variable {d:Option Tmp} {ty:TypeId} {pos:String} {aft:Array Edge} {gd:Option (Nat×Bool)} {oc:Option aO} {out:Out}
def sI (l:List UInt8):AV:=.d (.v (.string ⟨l.toArray⟩))
theorem strSize (l:List UInt8):(⟨l.toArray⟩:ByteArray).size=l.length:=by simp [ByteArray.size]
theorem G6 {op:BinOp} {t t':TypeId} {x y:Operand} {a b:List UInt8} (LH:op=.add) (hx:ρ x=.string ⟨a.toArray⟩) (hy:ρ y=.string ⟨b.toArray⟩) (hle:a.length+b.length≤9223372036854775807):
  (execOp ρ ⟨d,.binOp op t x y t',ty,pos,aft,gd⟩).run P w=.ok (.value (.string ⟨(a++b).toArray⟩)) w:=by
 subst LH
 have hn:¬ (((a.length+b.length:Nat):Int)>IntKind.i64.max):=by simp [IntKind.max,IntKind.signed,IntKind.bits];omega
 have k7:(⟨a.toArray⟩:ByteArray)++⟨b.toArray⟩=⟨(a++b).toArray⟩:=by
  apply ByteArray.ext;simp
 simp only [execOp,hx,hy,eqGuard,binOp,Op.stringOp,Sem.run_bind,Sem.run_pure,Result.andThen_ok,strSize]
 rw [if_neg hn,k7]
 simp
def w9 (E:List (Nat×AV)) (M:List ai) (op:BinOp) (x y:Operand):Option Out:=
 match op,jm (aA E x),jm (aA E y) with
 | .add,some a,some b=>some (lk [a.length+b.length≤9223372036854775807] (sI (a++b)) M)
 | _,_,_=>none
theorem G7 {op:BinOp} {t t':TypeId} {x y:Operand} (h:w9 E M op x y=some out):aB P ⟨d,.binOp op t x y t',ty,pos,aft,gd⟩ E M out:=by
 unfold w9 at h
 split at h
 ·rename_i a b ha hb
  simp only [Option.some.injEq] at h;subst h
  exact aB.same fun C hv=>⟨_,fun w' _=>G6 rfl (C.str ha) (C.str hb) hv.1,.d (.v _)⟩
 ·cases h
theorem DS {t:TypeId} {x ix:Operand} {l:List UInt8} {k:IntKind} {i:Nat} {u:UInt8} (ht:P.underlying t=some .string) (hx:ρ x=.string ⟨l.toArray⟩) (hi:ρ ix=.int k (i:Int)) (hu:l[i]?=some u):
  (execOp ρ ⟨d,.index t x ix,ty,pos,aft,gd⟩).run P w=.ok (.value (.int .u8 (u.toNat:Int))) w:=by
 have h4:(⟨l.toArray⟩:ByteArray)[i]?=some u:=by
  obtain ⟨hi,rfl⟩:=List.getElem?_eq_some_iff.1 hu
  exact getElem?_pos (⟨l.toArray⟩:ByteArray) i (by show i<l.toArray.size;simpa using hi)
 simp [execOp,hx,hi,Instr.index,asIntOf,Sem.run_bind,run_underlying ht,h4]
def wc (T:aE) (E:List (Nat×AV)) (M:List ai) (oc:Option aO) (t:TypeId) (x ix:Operand):Option Out:=
 match cR T t,jm (aA E x),cy (aA E ix),oc with
 | some .st,some l,some (_,z),some (.ix i [c])=>some (lk [z=(i:Int),∃ u:UInt8,l[i]?=some u∧c=.v (.int .u8 (u.toNat:Int))] (.d c) M)
 | _,_,_,_=>none
theorem FG (hT:aR P T=true) {t:TypeId} {x ix:Operand} (h:wc T E M oc t x ix=some out):aB P ⟨d,.index t x ix,ty,pos,aft,gd⟩ E M out:=by
 unfold wc at h
 split at h
 ·rename_i l k z i c hu hx hz
  simp only [Option.some.injEq] at h;subst h
  refine aB.same fun C hv=>?_
  obtain ⟨rfl,⟨u,h1,rfl⟩,-⟩:=hv
  exact ⟨_,fun w' _=>DS (cD hT hu) (C.str hx) (C.int hz) h1,.d (.v _)⟩
 ·cases h
theorem KG (l:List UInt8) (o c:Nat):(⟨l.toArray⟩:ByteArray).extract o c=⟨((l.take c).drop o).toArray⟩:=by
 apply ByteArray.ext
 rw [ByteArray.data_extract]
 apply Array.toList_inj.1
 simp [Array.toList_extract,List.extract_eq_take_drop,List.drop_take]
theorem tX {t:TypeId} {x:Operand} {lo hi:Option Operand} {l:List UInt8} {o c:Nat} (ht:P.underlying t=some .string) (hx:ρ x=.string ⟨l.toArray⟩)
  (hb:(Instr.sliceBounds false l.length l.length (lo.map ρ) (hi.map ρ) none).run P w=.ok (o,c,l.length) w):
  (execOp ρ ⟨d,.slice t x lo hi none,ty,pos,aft,gd⟩).run P w=.ok (.value (.string ⟨((l.take c).drop o).toArray⟩)) w:=by
 simp only [execOp,hx,Option.map_none,Instr.sliceAt,Instr.slice,Sem.run_bind,run_underlying ht,Result.andThen_ok,Option.isSome_none,Bool.false_eq_true,if_false,strSize,hb,Sem.run_pure,KG]
def xa (T:aE) (E:List (Nat×AV)) (M:List ai) (oc:Option aO) (t:TypeId) (x:Operand) (lo hi mx:Option Operand):Option Out:=
 match cR T t,jm (aA E x),oc,mx with
 | some .st,some l,some (.n2 c o),none=>(match lo,hi with
  | none,some h=>(match cy (aA E h) with
   | some (.i64,z)=>some (lk [z=(c:Int),c≤l.length] (sI (l.take c)) M)
   | _=>none)
  | some lo,none=>(match cy (aA E lo) with
   | some (.i64,z)=>some (lk [z=(o:Int),o≤l.length] (sI (l.drop o)) M)
   | _=>none)
  | some lo,some h=>(match cy (aA E lo),cy (aA E h) with
   | some (.i64,z),some (.i64,z')=>some (lk [z=(o:Int),z'=(c:Int),o≤c,c≤l.length] (sI ((l.take c).drop o)) M)
   | _,_=>none)
  | _,_=>none)
 | _,_,_,_=>none
theorem G8 (hT:aR P T=true) {t:TypeId} {x:Operand} {lo hi mx:Option Operand} (h:xa T E M oc t x lo hi mx=some out):aB P ⟨d,.slice t x lo hi mx,ty,pos,aft,gd⟩ E M out:=by
 unfold xa at h
 split at h
 rotate_left
 ·cases h
 rename_i l c o hu hx
 replace hu:=cD hT hu
 split at h
 ·rename_i hh
  split at h
  rotate_left
  ·cases h
  rename_i z hz
  simp only [Option.some.injEq] at h;subst h
  refine aB.same ?_
  intro D w0 K0 β F I ρ w C hv
  obtain ⟨rfl,hc,-⟩:=hv
  refine ⟨.string ⟨(l.take c).toArray⟩,fun w' _=>?_,.d (.v _)⟩
  have:=tX (P:=P) (ρ:=ρ) (w:=w') (d:=d) (ty:=ty) (pos:=pos) (aft:=aft) (gd:=gd) (lo:=none) (hi:=some hh) (o:=0) (c:=c) hu (C.str hx) (by simp [Instr.sliceBounds,C.int hz,gU hc])
  simpa using this
 ·rename_i ll
  split at h
  rotate_left
  ·cases h
  rename_i z hz
  simp only [Option.some.injEq] at h;subst h
  refine aB.same ?_
  intro D w0 K0 β F I ρ w C hv
  obtain ⟨rfl,ho,-⟩:=hv
  refine ⟨.string ⟨(l.drop o).toArray⟩,fun w' _=>?_,.d (.v _)⟩
  have:=tX (P:=P) (ρ:=ρ) (w:=w') (d:=d) (ty:=ty) (pos:=pos) (aft:=aft) (gd:=gd) (lo:=some ll) (hi:=none) (o:=o) (c:=l.length) hu (C.str hx) (by simp [Instr.sliceBounds,C.int hz,gU ho])
  simpa using this
 ·rename_i ll hh
  split at h
  rotate_left
  ·cases h
  rename_i z z' hz iZ
  simp only [Option.some.injEq] at h;subst h
  refine aB.same fun C hv=>?_
  obtain ⟨rfl,rfl,ho,hc,-⟩:=hv
  refine ⟨.string ⟨((l.take c).drop o).toArray⟩,fun w' _=>?_,.d (.v _)⟩
  exact tX hu (C.str hx) (by simp [Instr.sliceBounds,C.int hz,C.int iZ,gU hc,gU ho])
 ·cases h
def we (T:aE) (E:List (Nat×AV)) (M:List ai) (oc:Option aO) (t:TypeId) (x ix:Operand):Option Out:=
 match x,cy (aA E ix),cR T t,oc with
 | .global g,some (_,z),some (.ar n e),some (.ix i row)=>(match eW T e,kV g M with
  | some k,some BR=>some (lk [z=(i:Int),i<n,(BR.drop (i*k)).take k=row] (.rp row 0) M)
  | _,_=>none)
 | _,_,_,_=>none
theorem FH (hT:aR P T=true) {t:TypeId} {x ix:Operand} (h:we T E M oc t x ix=some out):aB P ⟨d,.indexAddr t x ix,ty,pos,aft,gd⟩ E M out:=by
 unfold we at h
 split at h
 rotate_left
 ·cases h
 rename_i g kk z n e i row hz ht
 split at h
 rotate_left
 ·cases h
 rename_i k BR hk hg
 simp only [Option.some.injEq] at h;subst h
 refine aB.same fun C cY=>?_
 obtain ⟨rfl,hi,rfl,-⟩:=cY
 obtain ⟨u,hu⟩:=uD hg
 obtain ⟨H,-,hB,-⟩:=C.rm.at hu
 cases hB with
 | gw X hl js hr=>
  have e0:(⟨g,0,none⟩:Addr).add (((i:Nat):Int).toNat*k)=((⟨g,0,none⟩:Addr).add (i*k)).add 0:=by rw [add_zero'];simp
  refine ⟨_,fun _ _=>nW (cD hT ht) (fS hT hk) (C.BO g) (C.int hz) (by simp) (by simp;omega),?_⟩
  rw [e0]
  refine .rp _ ((X.drop (i*k)).take k) (by simp [hl]) (fun w' dv j y hj=>?_) (fun j c' y h1 h2=>?_)
  ·rw [List.getElem?_take] at hj
   split at hj
   ·rw [List.getElem?_drop] at hj
    rw [Addr.mN];exact js w' dv _ y hj
   ·cases hj
  ·rw [List.getElem?_take] at h1 h2
   split at h1
   ·rename_i hj
    rw [if_pos hj] at h2
    rw [List.getElem?_drop] at h1 h2
    exact hr _ _ _ h1 h2
   ·cases h1
theorem zX (K:World→Prop) (bs:List UInt8):de K 1 (af bs) (fun i=>[Value.int .u8 (bs.getD i 0).toNat]) (fun _ _=>[]):=by
 refine ⟨fun i r hi=>?_,fun i r j cc z h1 h2 h3=>?_⟩
 ·simp only [af,List.getElem?_map,Option.map_eq_some_iff] at hi
  obtain ⟨b,-,rfl⟩:=hi;exact ⟨rfl,rfl⟩
 ·simp only [af,List.getElem?_map,Option.map_eq_some_iff] at h1
  obtain ⟨b,hb,rfl⟩:=h1
  cases j with
  | succ j=>simp at h2
  | zero=>
   simp at h2 h3;subst h2;subst h3
   simp only [List.getD_eq_getElem?_getD,hb,Option.getD_some]
   exact .v _
theorem zp (bs:List UInt8):lay bs.length (fun i=>[Value.int .u8 (bs.getD i 0).toNat])=bs.map fun b:UInt8=>Value.int .u8 (b.toNat:Int):=by
 rw [Ao]
 apply List.ext_getElem
 ·simp
 ·intro i h1 h2
  simp only [List.length_map,List.length_range] at h1
  simp [List.getD_eq_getElem?_getD,List.getElem?_eq_getElem h1]
theorem zq (bs:List UInt8):bf (af bs):=by simp [bf,AV.one,bS,af]
def wg (T:aE) (E:List (Nat×AV)) (M:List ai) (st xt:TypeId) (x y:Operand):Option Out:=
 match iy T st,cR T xt,jm (aA E y),aA E x with
 | some (e,k,b,_),some .st,some bs,some vx=>bif k.beq 1 then (match oO M e k vx with
  | some (some u,n,rows)=>some ⟨[n=rows.length,(2*(n+bs.length)+192)*b≤281474976710656,n+bs.length<4611686018427387904],.sl u (n+bs.length),(M.map (fW [u])).set u (.rw e k (rows++af bs)),[u],[u],none⟩
  | some (none,_,_)=>some ⟨[(2*(0+bs.length)+192)*b≤281474976710656,0+bs.length<4611686018427387904],.sl M.length bs.length,M++[.rw e k (af bs)],[],[],none⟩
  | none=>none) else none
 | _,_,_,_=>none
theorem FI (hT:aR P T=true) {st xt:TypeId} {x y:Operand} (h:wg T E M st xt x y=some out):aB P ⟨d,.call ⟨.builtin .append,#[x,y],#[st,xt]⟩,ty,pos,aft,gd⟩ E M out:=by
 unfold wg at h
 split at h
 rotate_left
 ·cases h
 rename_i e k b z bs vx he hu hs hx
 cases jS:k.beq 1 with
 | false=>simp [jS] at h
 | true=>
  simp only [jS,cond_true] at h
  obtain rfl:=Nat.eq_of_beq_eq_true jS
  have Cy:(af bs).length=bs.length:=by simp [af]
  split at h
  ·rename_i u n rows hd
   simp only [Option.some.injEq] at h;subst h
   obtain ⟨rfl,hM⟩:=tE hd
   intro D w0 K0 β F I ρ w C hv
   obtain ⟨hn,h1,h2,-⟩:=hv
   obtain ⟨X1,G1,H0,hF,dE,a1,-⟩:=lH C.rm hM hn (C.ev hx)
   have R1:=C.rm.x.eJ hM
   rw [hF,List.nil_append] at R1
   have aF:u<(M.set u .dead).length:=by rw [List.length_set];exact eD hM
   have fF:j9 P xt w 1 (ρ y) bs.length (lay bs.length fun i=>[Value.int .u8 (bs.getD i 0).toNat]):=by
    rw [zp,C.str hs];exact j9.str (cD hT hu)
   refine (uq hT he rfl rfl (R1.perm (Y:=(H0++bk n 1 G1)++[]) (by rw [List.append_nil])) aF (by simp [aD]) dE hn Cy.symm a1 rfl (zX _ bs) (by rw [kC]) fF h1 h2 (zq bs)).mono ?_
   rintro v' w' ⟨au,F',R',hE,jt,hr⟩
   rw [ti] at R'
   exact ⟨au,F',I,R',hE,bE.refl _,fun q _ hq=>by have o4:q≠u:=(by simpa using hq);rw [jt q o4];simp only [aD];rw [if_neg o4],hr⟩
  ·rename_i n0 r0 hd
   simp only [Option.some.injEq] at h;subst h
   obtain rfl:=tF hd
   intro D w0 K0 β F I ρ w C hv
   obtain ⟨h1,h2,-⟩:=hv
   have k9:ρ x=.slice none 0 0:=by have:=C.ev hx;generalize ρ x=q at this;cases this with | d r=>cases r;rfl
   have fF:j9 P xt w 1 (ρ y) bs.length (lay bs.length fun i=>[Value.int .u8 (bs.getD i 0).toNat]):=by
    rw [zp,C.str hs];exact j9.str (cD hT hu)
   refine (ur hT he k9 rfl C.rm.x Cy.symm (zX _ bs) (by rw [kC]) fF h1 h2 (zq bs)).mono ?_
   rintro v' w' ⟨au,F',R',hE,jt,hr⟩
   exact ⟨au,F',I,R',hE.b _,bE.refl _,fun q hq _=>jt q hq,hr⟩
  ·cases h
def vf (E:List (Nat×AV)) (M:List ai) (r:Value) (c x y:Operand):Option Out:=
 match aA E c,aA E x,aA E y with
 | some (.d (.v vc)),some (.d (.v vx)),some (.d (.v vy))=>some (lk [∃ b:Bool,vc=.bool b∧(bif b then vx else vy)=r] (.d (.v r)) M)
 | _,_,_=>none
theorem Ctx.val (C:Ctx D w0 K0 E M β F I ρ w) {x:Operand} {v:Value} (h:aA E x=some (.d (.v v))):ρ x=v:=by
 obtain ⟨y,hy,r⟩:=C.bC h
 cases r with | d r=>cases r;exact hy
theorem Ew {r:Value} {c x y:Operand} (h:vf E M r c x y=some out):aB P ⟨d,.pick c x y,ty,pos,aft,gd⟩ E M out:=by
 unfold vf at h
 split at h
 ·rename_i vc vx vy hc hx hy
  simp only [Option.some.injEq] at h;subst h
  refine jC ru fun C cY=>?_
  obtain ⟨⟨b,rfl,rfl⟩,-⟩:=cY
  refine ⟨_,.d (.v _),fun w Φ az=>Il (C.val hc) (C.val hx) (C.val hy) ?_⟩
  cases b<;>exact az
 ·cases h
def l8 (P:Program) (t t':TypeId):Bool:=match P.underlying t,P.underlying t' with
 | some (.pointer s),some .unsafePointer=>(match P.info? s with | some j=>!(j.size==0) | none=>false)
 | _,_=>false
def l9 (P:Program) (t t' T n:Nat):Bool:=match P.underlying t,P.underlying t' with
 | some .unsafePointer,some (.pointer u)=>(P.info? u).isSome&&liesAt P P.depth T (n / P.cellsOf T) 0 u 1
 | _,_=>false
def vg (P:Program) (E:List (Nat×AV)) (M:List ai) (oc:Option aO) (t t':TypeId) (x:Operand):Option Out:=
 match aA E x,oc with
 | some (.pt u 0),some (.b c)=>(match M[u]? with
  | some (.bx Tb cells)=>some ⟨[(bif c then l8 P t t' else l9 P t t' Tb cells.length)=true,0<cells.length],.pt u 0,M,[],[],some [u]⟩
  | _=>none)
 | _,_=>none
theorem zr {w:World} {b:Nat} {c:Array Value} {t:TypeId} {fr:Nat×Nat} (h:w.heap[b]?=some (.cells c t fr)):w.shape? b=some (t,c.size):=by
 unfold World.shape?;rw [h]
theorem Ex {t t':TypeId} {x:Operand} (h:vg P E M oc t t' x=some out):aB P ⟨d,.convert t t' x,ty,pos,aft,gd⟩ E M out:=by
 unfold vg at h
 split at h
 rotate_left
 ·cases h
 rename_i u c hx
 split at h
 rotate_left
 ·cases h
 rename_i Tb cells hM
 simp only [Option.some.injEq] at h;subst h
 refine aB.look ?_ (by simpa using eD hM)
 intro D w0 K0 β F I ρ w C hv
 obtain ⟨hc,h0,-⟩:=hv
 obtain ⟨y,hy,r⟩:=C.bC hx
 cases r with
 | @pt _ _ b cc hb=>
  refine ⟨_,.pt hb,fun w' hs=>?_⟩
  obtain ⟨H,hF,hB,-⟩:=C.rm.at hM
  have hH:Holds w' (F u):=hs.2 u (by simp)
  rw [hF] at hH
  cases hB with
  | bx aI ys hl hr=>
   rw [hb] at aI;cases aI
   have nw:=zr hH.one
   have bj:ys.toArray.size=cells.length:=by simp [hl]
   rw [bj] at nw
   have key:(convert t t' (.pointer (some ⟨b,0,none⟩))).run P w'=.ok (.pointer (some ⟨b,0,none⟩)) w':=by
    cases c with
    | true=>
     simp only [cond_true] at hc
     unfold l8 at hc
     split at hc
     ·rename_i s h1 h2
      split at hc
      ·rename_i j hj
       exact Go.Lib.run_to_unsafe w' ⟨b,0,none⟩ h1 h2 hj (by simpa using hc) nw h0
      ·cases hc
     ·cases hc
    | false=>
     simp only [cond_false] at hc
     unfold l9 at hc
     split at hc
     ·rename_i s h1 h2
      rw [Bool.and_eq_true] at hc
      obtain ⟨j,hj⟩:=Option.isSome_iff_exists.1 hc.1
      exact Go.Lib.run_from_unsafe w' ⟨b,0,none⟩ h1 h2 hj nw hc.2
     ·cases hc
   simp only [execOp,hy,Sem.run_bind,key,Result.andThen_ok,Sem.run_pure]
def iU (P:Program) (t:TypeId):Bool:=match P.underlying t with | some (.pointer te)=>(P.info? te).isSome | _=>false
def xb (P:Program) (E:List (Nat×AV)) (M:List ai) (op:BinOp) (t:TypeId) (x y:Operand):Option Out:=
 match op,aA E x,aA E y with
 | .eql,some (.pt u o),some (.pt v q)=>bif Nat.beq u v&&Nat.beq o q then some (lk [iU P t=true] (.b true) M) else none
 | .neq,some (.pt u o),some (.pt v q)=>bif Nat.beq u v&&Nat.beq o q then some (lk [iU P t=true] (.b false) M) else none
 | _,_,_=>none
theorem zY {t:TypeId} (h:iU P t=true):∃ te j,P.underlying t=some (.pointer te)∧P.info? te=some j:=by
 unfold iU at h
 split at h
 ·rename_i te h1
  obtain ⟨j,hj⟩:=Option.isSome_iff_exists.1 h
  exact ⟨te,j,h1,hj⟩
 ·cases h
theorem G9 {op:BinOp} {t t':TypeId} {x y:Operand} (h:xb P E M op t x y=some out):aB P ⟨d,.binOp op t x y t',ty,pos,aft,gd⟩ E M out:=by
 unfold xb at h
 split at h
 ·rename_i u o v q hx hy
  cases hc:(Nat.beq u v&&Nat.beq o q) with
  | false=>simp [hc] at h
  | true=>
   simp only [hc,cond_true,Option.some.injEq] at h;subst h
   rw [Bool.and_eq_true] at hc
   obtain rfl:=Nat.eq_of_beq_eq_true hc.1
   obtain rfl:=Nat.eq_of_beq_eq_true hc.2
   refine aB.same fun C hv=>?_
   obtain ⟨te,j,h1,h2⟩:=zY hv.1
   obtain ⟨y1,e1,r1⟩:=C.bC hx
   obtain ⟨y2,e2,r2⟩:=C.bC hy
   cases r1 with
   | pt hb=>
    cases r2 with
    | pt iz=>
     rw [hb] at iz;cases iz
     refine ⟨_,fun w' _=>?_,.d (.v _)⟩
     simp only [execOp,e1,e2,eqGuard,Sem.run_bind,Sem.run_pure,Result.andThen_ok,run_eql_ptr_same w' _ h1 h2,Bool.not_true,Bool.false_eq_true,if_false]
 ·rename_i u o v q hx hy
  cases hc:(Nat.beq u v&&Nat.beq o q) with
  | false=>simp [hc] at h
  | true=>
   simp only [hc,cond_true,Option.some.injEq] at h;subst h
   rw [Bool.and_eq_true] at hc
   obtain rfl:=Nat.eq_of_beq_eq_true hc.1
   obtain rfl:=Nat.eq_of_beq_eq_true hc.2
   refine aB.same fun C hv=>?_
   obtain ⟨te,j,h1,h2⟩:=zY hv.1
   obtain ⟨y1,e1,r1⟩:=C.bC hx
   obtain ⟨y2,e2,r2⟩:=C.bC hy
   cases r1 with
   | pt hb=>
    cases r2 with
    | pt iz=>
     rw [hb] at iz;cases iz
     refine ⟨_,fun w' _=>?_,.d (.v _)⟩
     simp only [execOp,e1,e2,eqGuard,Sem.run_bind,Sem.run_pure,Result.andThen_ok,Go.Lib.run_neq_ptr_same w' _ h1 h2,Bool.not_true,Bool.false_eq_true,if_false]
 ·cases h
def qb (P:Program) (f:FuncId):Prop:=∃ fn,P.funcs[f]?=some fn∧(fn.name == "runtime.NumGoroutine")=false∧fn.body.isNone=true∧Extern.findNext fn=none∧Extern.find fn=some Extern.AbiNoEscape.same
def vi (P:Program) (E:List (Nat×AV)) (M:List ai) (g:Operand) (args:Array Operand):Option Out:=
 match aA E g,args with
 | some (.fn f []),⟨[x]⟩=>(match aA E x with | some (.pt u o)=>some (lk [qb P f] (.pt u o) M) | _=>none)
 | _,_=>none
theorem Ey {g:Operand} {args:Array Operand} {ey:Array TypeId} (h:vi P E M g args=some out):aB P ⟨d,.call ⟨.value g,args,ey⟩,ty,pos,aft,gd⟩ E M out:=by
 unfold vi at h
 split at h
 ·rename_i f x hg
  split at h
  ·rename_i u o hx
   simp only [Option.some.injEq] at h;subst h
   refine aB.same fun C hv=>?_
   obtain ⟨⟨fn,h1,h2,h3,h4,h5⟩,-⟩:=hv
   obtain ⟨yg,eg,rg⟩:=C.bC hg
   obtain ⟨yx,ex,rx⟩:=C.bC hx
   refine ⟨yx,fun w' _=>?_,rx⟩
   cases rg with
   | fn cs hl hr=>
    have cv:cs=[]:=List.eq_nil_of_length_eq_zero (by simpa using hl)
    subst cv
    have:=run_callFunc_extern h1 h2 h3 h4 h5 #[yx] w'
    simp only [Go.Lib.run_noEscape,Result.andThen_ok] at this
    simp [execOp,resolve,eg,ex,Deferred.ofValue,invoke,this]
  ·cases h
 ·cases h
def vj (E:List (Nat×AV)) (M:List ai) (x:Operand):Option Out:=
 match aA E x with
 | some (.sl u n)=>(match M[u]? with | some (.rw _ k rows)=>bif k.beq 1 then some ⟨[n=rows.length,0<n],.ep u 1 0 0,M,[],[],some [u]⟩ else none | _=>none)
 | _=>none
theorem Ez {t:TypeId} {x:Operand} (h:vj E M x=some out):aB P ⟨d,.call ⟨.builtin .unsafeSliceData,#[x],#[t]⟩,ty,pos,aft,gd⟩ E M out:=by
 unfold vj at h
 split at h
 rotate_left
 ·cases h
 rename_i u n hx
 split at h
 rotate_left
 ·cases h
 rename_i Tr k rows hM
 cases jS:k.beq 1 with
 | false=>simp [jS] at h
 | true=>
  simp only [jS,cond_true,Option.some.injEq] at h;subst h
  obtain rfl:=Nat.eq_of_beq_eq_true jS
  refine aB.look ?_ (by simpa using eD hM)
  intro D w0 K0 β F I ρ w C hv
  obtain ⟨hn,h0,-⟩:=hv
  obtain ⟨y,hy,r⟩:=C.bC hx
  cases r with
  | @sl _ _ cc a hb=>
   obtain ⟨H,hF,hB,-⟩:=C.rm.at hM
   cases hB with
   | rw aI X G hl hs hr=>
    rw [hb] at aI;cases aI
    obtain ⟨b',cap,cs,he,rfl,cv,dm,lb⟩:=hs.block (by omega)
    simp only [Value.slice.injEq] at he;obtain ⟨rfl,-,rfl⟩:=he
    refine ⟨.pointer (some ⟨b',0,none⟩),by simpa using ao.ep (k:=1) (i:=0) (o:=0) hb,fun w' _=>?_⟩
    have:=Go.Lib.run_unsafeSliceData_row (P:=P) w' #[t] ty ⟨b',0,none⟩ n cc (by omega)
    simp only [execOp,resolve,List.map_toArray,List.map,hy,Sem.run_bind,Sem.run_pure,Result.andThen_ok,invoke,builtin,this]
theorem Ha {w:World} {b n:Nat} {c:Array Value} {e:TypeId} (hb:w.heap[b]?=some (.cells c e (0,0))) (hn:n≠0):w.freeze ⟨b,0,none⟩ n=bZ w b (.cells c e (0,n)):=by
 unfold World.freeze bZ
 rw [if_neg hn]
 congr 1
 apply Array.ext_getElem?
 intro j
 have aF:=j6 hb
 rw [Array.getElem?_modify,Array.getElem?_setIfInBounds]
 by_cases e':b=j
 ·subst e'
  have hg:w.heap[b]=.cells c e (0,0):=by rw [Array.getElem?_eq_getElem aF] at hb;exact Option.some.inj hb
  simp [aF,hg]
 ·simp [e']
def qq (P:Program) (t T:TypeId):Bool:=match P.underlying t with | some (.pointer e)=>Nat.beq e T&&Nat.beq (P.cellsOf e) 1 | _=>false
def wh (P:Program) (E:List (Nat×AV)) (M:List ai) (oc:Option aO) (t:TypeId) (x y:Operand):Option Out:=
 match aA E x,cy (aA E y),oc with
 | some (.ep u 1 0 0),some (.i64,z),some (.res (.v (.string s)))=>(match M[u]? with
  | some (.rw Tr k rows)=>bif k.beq 1 then some ⟨[z=(rows.length:Int),0<rows.length,rows=af s.data.toList,qq P t Tr=true,rows.length≤9223372036854775807],.d (.v (.string s)),M.set u .dead,[u],[],none⟩ else none
  | _=>none)
 | _,_,_=>none
theorem FJ {t t2:TypeId} {x y:Operand} (h:wh P E M oc t x y=some out):aB P ⟨d,.call ⟨.builtin .unsafeString,#[x,y],#[t,t2]⟩,ty,pos,aft,gd⟩ E M out:=by
 unfold wh at h
 split at h
 rotate_left
 ·cases h
 rename_i u z s hx hz
 split at h
 rotate_left
 ·cases h
 rename_i Tr k rows hM
 cases jS:k.beq 1 with
 | false=>simp [jS] at h
 | true=>
  simp only [jS,cond_true,Option.some.injEq] at h;subst h
  obtain rfl:=Nat.eq_of_beq_eq_true jS
  intro D w0 K0 β F I ρ w C hv
  obtain ⟨rfl,h0,xU,mB,Nk,-⟩:=hv
  generalize hl:s.data.toList=bs at xU
  have hs:s=⟨bs.toArray⟩:=by rw [← hl]
  subst hs
  have hlen:rows.length=bs.length:=by rw [xU];simp [af]
  obtain ⟨yx,ex,rx⟩:=C.bC hx
  have Cz:=C.int hz
  cases rx with
  | @ep _ _ _ _ b cc hb=>
   have R1:=C.rm.x.eJ hM
   have hB:=C.rm.blk u _ hM
   have hH:=C.rm.hC hM
   generalize ja:F u=Fu at hB R1 hH
   cases hB with
   | @rw _ _ _ _ _ H0 aI X G cH LI hr=>
    rw [hb] at aI;cases aI
    obtain ⟨b',cap,cs,he,rfl,cv,dm,lb⟩:=LI.block (by omega)
    simp only [Value.slice.injEq,Option.some.injEq,Addr.mk.injEq] at he;obtain ⟨⟨rfl,-⟩,-,rfl⟩:=he
    have hw:w.heap[b]?=some (.cells cs Tr (0,0)):=(Holds.app.1 hH).1.one
    have ft:(Builtin.unsafeString_ #[t,t2] ty #[.pointer (some ⟨b,0,none⟩),.int .i64 bs.length]).run P w=.ok (.string ⟨bs.toArray⟩) (w.freeze ⟨b,0,none⟩ bs.length):=by
     unfold qq at mB
     split at mB
     ·rename_i e he
      rw [Bool.and_eq_true] at mB
      obtain rfl:=Nat.eq_of_beq_eq_true mB.1
      refine Go.Lib.run_unsafeString_row w t t2 ty e he (Nat.eq_of_beq_eq_true mB.2) b cs.size (zr hw) bs (by intro hn;rw [hn,List.length_nil] at hlen;omega) (by rw [cv,← hlen];omega) (by omega) fun j q hj=>?_
      rw [add_eq,Nat.zero_add,cell_of hw]
      have s5:=(List.getElem?_eq_some_iff.1 hj).1
      have e1:(cs.toList.take (rows.length*1))[j]?=cs[j]?:=by rw [List.getElem?_take,if_pos (by omega),Array.getElem?_toList]
      rw [← e1,lb]
      have bP:(af bs)[j]?=some [.v (.int .u8 (q.toNat:Int))]:=by simp [af,hj]
      rw [← xU] at bP
      obtain ⟨xu,xv⟩:=cH j _ bP
      have hg:=jz (n:=rows.length) (k:=1) (X:=X) (fun i hi=>(cH i _ (List.getElem?_eq_getElem hi)).2) (i:=j) (j:=0) (by omega) (by omega)
      rw [Nat.mul_one,Nat.add_zero] at hg
      obtain ⟨v0,aq⟩:∃ v0,(X j)[0]?=some v0:=⟨(X j)[0]'(by omega),List.getElem?_eq_getElem _⟩
      have hd:=hr j _ 0 _ _ bP rfl aq
      generalize G j 0=GG at hd
      cases hd
      rw [hg,aq]
     ·cases mB
    rw [Ha hw (by omega)] at ft
    have hex:(execOp ρ ⟨d,.call ⟨.builtin .unsafeString,#[x,y],#[t,t2]⟩,ty,pos,aft,gd⟩).run P w=.ok (.value (.string ⟨bs.toArray⟩)) (bZ w b (.cells cs Tr (0,bs.length))):=by
     rw [hlen] at Cz
     simp only [execOp,resolve,List.map_toArray,List.map,ex,Cz,Nat.zero_mul,Nat.zero_add,Sem.run_bind,Sem.run_pure,Result.andThen_ok,invoke,builtin,ft]
    refine aQ.pure hex ?_
    have R2:=(R1.perm (Y:=[(b,.cells cs Tr (0,0))]++bk rows.length 1 G) (by rw [List.nil_append])).drop
    have a8:=(R2.st.perm (K:=(b,.cells cs Tr (0,0))::((List.range (M.set u .dead).length).flatMap (aD F u [])++I)) (by classical rw [List.perm_iff_count];intro z;simp only [List.count_append,List.count_cons,List.count_nil];omega)).set (.cells cs Tr (0,bs.length))
    refine ⟨β,aD F u [],[(b,.cells cs Tr (0,bs.length))]++I,⟨R2.len,fun v bl hv=>(R2.blk v bl hv).mono (fun w hw=>⟨hw.1,(Holds.app.1 hw.2).2⟩) (Ext.refl _),?_⟩,(Ext.refl β).b _,⟨_,rfl⟩,fun v hv hn=>by simp only [aD];rw [if_neg (by simpa using hn)],.d (.v _)⟩
    exact a8.perm (by classical rw [List.perm_iff_count];intro z;simp only [List.count_append,List.count_cons,List.count_nil];omega)
end Go.Proofs.YtcnpikbbmbombaaDoor
namespace Go.Proofs.YtcnpikbbmbombaaDoor
open Go.RowKit
variable {P:Program} {T:aE} {D:List Nat} {w0:World} {K0:World→Prop} {E:List (Nat×AV)} {M:List ai} {β:Beta} {F:Nat→ak} {I X:ak} {ρ:Operand→Value} {w:World}
variable {d:Option Tmp} {ty:TypeId} {pos:String} {aft:Array Edge} {gd:Option (Nat×Bool)} {oc:Option aO} {out:Out}
def wj (T:aE) (E:List (Nat×AV)) (M:List ai) (t:TypeId) (x:Operand):Option Out:=
 match cR T t,aA E x with
 | some (.sl _),some (.d (.v (.slice none 0 0)))=>some (lk [] (.n 0) M)
 | _,_=>none
theorem FK {x:Operand} {t e n c:Nat} {a:Option Addr} (ht:P.underlying t=some (.slice e)) (hx:ρ x=.slice a n c) (w:World):(execOp ρ ⟨d,.call ⟨.builtin .cap,#[x],#[t]⟩,ty,pos,aft,gd⟩).run P w=.ok (.value (.int .i64 (c:Int))) w:=by
 have:(Builtin.cap_ #[t] ty #[.slice a n c]).run P w=.ok (.int .i64 (c:Int)) w:=by
  unfold Builtin.cap_
  simp only [List.getElem?_toArray,List.getElem?_cons_zero,Sem.run_bind,run_underlying ht,Result.andThen_ok,Sem.run_pure];rfl
 simp only [execOp,resolve,List.map_toArray,List.map,hx,Sem.run_bind,Sem.run_pure,Result.andThen_ok,invoke,builtin,this]
theorem FL (hT:aR P T=true) {t:TypeId} {x:Operand} (h:wj T E M t x=some out):aB P ⟨d,.call ⟨.builtin .cap,#[x],#[t]⟩,ty,pos,aft,gd⟩ E M out:=by
 unfold wj at h
 split at h
 ·rename_i e ht hx
  simp only [Option.some.injEq] at h;subst h
  have nH:=cD hT ht
  refine aB.same fun C cY=>?_
  obtain ⟨y,hy,r⟩:=C.bC hx
  cases r with
  | d hd=>cases hd;exact ⟨_,fun w' _=>FK nH hy w',.d (.v _)⟩
 ·cases h
def sJ (P:Program) (f e:Nat):Prop:=∃ fn t,P.funcs[f]?=some fn∧(fn.name == "runtime.NumGoroutine")=false∧fn.body.isNone=true∧Extern.findNext fn=none∧Extern.find fn=some (Extern.BytealgMakeNoZero.makeNoZero fn.params fn.resultTypes)∧fn.resultTypes=#[t]∧P.underlying t=some (.slice e)
def wk (P:Program) (E:List (Nat×AV)) (M:List ai) (oc:Option aO) (g:Operand) (args:Array Operand):Option Out:=
 match aA E g,args,oc with
 | some (.fn f []),⟨[x]⟩,some (.n2 m e)=>(match cy (aA E x) with
  | some (.i64,z)=>some ⟨[sJ P f e,z=(m:Int),m≤281474976710656],.sl M.length m,M++[.rw e 1 (List.replicate m [.jk])],[],[],none⟩
  | _=>none)
 | _,_,_=>none
theorem FM {f e m:Nat} (h:sJ P f e) (hm:m≤281474976710656) (w:World):∃ (c:Nat) (cs:Array Value),m≤c∧cs.size=c∧(callFunc f #[.int .i64 (m:Int)]).run P w=.ok (.value (.slice (some ⟨w.heap.size,0,none⟩) m c)) (w.drew.drew.alloc (.cells cs e (0,0))):=by
 obtain ⟨fn,t,h1,h2,h3,h4,h5,h6,h7⟩:=h
 obtain ⟨cs,hr,hc,-⟩:=Go.Lib.run_makeNoZero (P:=P) (w:=w) fn.params t e h7 m hm
 refine ⟨cs.size,cs,hc,rfl,?_⟩
 rw [run_callFunc_extern h1 h2 h3 h4 h5,h6,hr];rfl
theorem FN {g:Operand} {args:Array Operand} {ey:Array TypeId} (h:wk P E M oc g args=some out):aB P ⟨d,.call ⟨.value g,args,ey⟩,ty,pos,aft,gd⟩ E M out:=by
 unfold wk at h
 split at h
 ·rename_i f x m e hg
  split at h
  ·rename_i z hx
   simp only [Option.some.injEq] at h;subst h
   intro D w0 K0 β F I ρ w C hv
   obtain ⟨hN,rfl,hm,-⟩:=hv
   obtain ⟨yg,eg,rg⟩:=C.bC hg
   have ex:=C.int hx
   cases rg with
   | fn cs hl hr=>
    have cv:cs=[]:=List.eq_nil_of_length_eq_zero (by simpa using hl)
    subst cv
    obtain ⟨c,cs,h1,h2,h3⟩:=FM hN hm w
    refine aQ.pure (v:=.slice (some ⟨w.heap.size,0,none⟩) m c) (w':=w.drew.drew.alloc (.cells cs e (0,0))) (by simp [execOp,resolve,eg,ex,Deferred.ofValue,invoke,h3]) ?_
    have gr:Gr w (w.drew.drew.alloc (.cells cs e (0,0))):=((Gr.drew w).trans (Gr.drew w.drew)).trans (Gr.alloc w.drew.drew _)
    have nf:df w (w.drew.drew.alloc (.cells cs e (0,0))) [(w.heap.size,.cells cs e (0,0))]:=(df.alloc w.drew.drew (.cells cs e (0,0))).ahead ((Gr.drew w).trans (Gr.drew w.drew))
    refine ⟨_,_,I,C.rm.new (q:=(some ⟨w.heap.size,0,none⟩,c)) gr nf ?_,(Ext.app _ _).b _,bE.refl _,lL _ _,.sl (hU C.rm _)⟩
    have hX:∀ i,i<m→([cs[i]!]:List Value).length=1:=fun _ _=>rfl
    have l6:lay m (fun i=>[cs[i]!])=cs.toList.take m:=by
     have key:∀ k,k≤cs.size→lay k (fun i=>[cs[i]!])=cs.toList.take k:=by
      intro k
      induction k with
      | zero=>intro _;simp [lay]
      | succ k ih=>
       intro hk
       have:=ih (by omega)
       simp only [lay] at this ⊢
       rw [List.range_succ,List.flatMap_append,this,List.take_add_one,Array.getElem?_toList,Array.getElem?_eq_getElem (by omega)]
       simp [getElem!_pos cs k (by omega)]
     exact key m (by omega)
    have:=bg.rw (K:=fun w=>K0 w∧Holds w I) (β:=β++[(some ⟨w.heap.size,0,none⟩,c)]) (u:=M.length) (T:=e) (k:=1) (rows:=List.replicate m [.jk]) (H0:=[(w.heap.size,.cells cs e (0,0))]) (hU C.rm _) (fun i=>[cs[i]!]) (fun _ _=>[]) (fun i r hi=>by
     rw [List.getElem?_replicate] at hi
     split at hi
     ·simp only [Option.some.injEq] at hi;subst hi;exact ⟨rfl,rfl⟩
     ·simp at hi) (by
     rw [List.length_replicate]
     exact ⟨by rw [l6];simp;omega,Or.inr ⟨w.heap.size,c,_,rfl,rfl,by rw [h2];omega,h1,by rw [l6];simp⟩⟩) (fun i r j q x hi h1 h2=>by
     rw [List.getElem?_replicate] at hi
     split at hi
     ·simp only [Option.some.injEq] at hi;subst hi
      cases j with
      | succ j=>simp at h1
      | zero=>simp at h1;subst h1;exact .jk _
     ·simp at hi)
    rw [kC,List.append_nil] at this
    exact this
  ·cases h
 ·cases h
end Go.Proofs.YtcnpikbbmbombaaDoor
namespace Go.Proofs.YtcnpikbbmbombaaDoor
open Go.RowKit
variable {P:Program} {T:aE} {D:List Nat} {w0:World} {K0:World→Prop} {E:List (Nat×AV)} {M:List ai} {β:Beta} {F:Nat→ak} {I:ak} {ρ:Operand→Value} {w:World}
variable {d:Option Tmp} {ty:TypeId} {pos:String} {aft:Array Edge} {gd:Option (Nat×Bool)} {oc:Option aO} {out:Out}
theorem IA {K:World→Prop} {u b c e k m m2 o:Nat} {cells l:List AV} {ys zs:List Value} (hb:β[u]?=some (some ⟨b,0,none⟩,c)) (hl:ys.length=c*k) (hm:cells.length=m*k) (hr:∀ (j:Nat) c y,cells[j]?=some c→ys[j]?=some y→ao K β c y)
  (ec:zs.length=l.length) (hz:∀ (j:Nat) c y,l[j]?=some c→zs[j]?=some y→ao K β c y) (ho:o≤cells.length) (CA:m2≤c) (hlen:(cells.take o++(l++cells.drop (o+l.length))).length=m2*k):
  bg K β u (.fl e k m2 (cells.take o++(l++cells.drop (o+l.length)))) [(b,.cells (bX ys.toArray o zs) e (0,0))]:=by
 have Lz:m2*k≤c*k:=Nat.mul_le_mul_right _ CA
 have vR:=hlen
 simp only [List.length_append,List.length_take,List.length_drop] at vR
 have hle:o+zs.length≤ys.toArray.size:=by simp;omega
 have he:(bX ys.toArray o zs)=(bX ys.toArray o zs).toList.toArray:=by simp
 rw [he]
 refine .fl hb _ (by rw [Array.length_toList,kz];simpa using hl) hlen CA ?_
 intro j c z e1 e2
 rw [Array.getElem?_toList,nX _ _ _ _ hle] at e2
 by_cases hj:o≤j∧j<o+zs.length
 ·rw [if_pos hj] at e2
  rw [List.getElem?_append_right (by simp;omega),List.getElem?_append_left (by simp;omega)] at e1
  refine hz (j-o) c z ?_ e2
  rw [← e1];congr 1;simp;omega
 ·rw [if_neg hj] at e2
  rw [List.getElem?_toArray] at e2
  refine hr j c z ?_ e2
  rcases Nat.lt_or_ge j o with mn | mn
  ·rw [List.getElem?_append_left (by simp;omega),List.getElem?_take,if_pos mn] at e1;exact e1
  ·rw [List.getElem?_append_right (by simp;omega),List.getElem?_append_right (by simp;omega),List.getElem?_drop] at e1
   rw [← e1];congr 1;simp;omega
theorem zZ {α:Type} {k:Nat}:∀ {rows:List (List α)},(∀ r ∈ rows,r.length=k)→rows.flatten.length=rows.length*k∧∀ (i j:Nat) r,rows[i]?=some r→j<k→rows.flatten[i*k+j]?=r[j]?
 | [],_=>⟨by simp,by simp⟩
 | r::rs,h=>by
  have hr:=h r (by simp)
  obtain ⟨h1,h2⟩:=zZ (rows:=rs) (fun x hx=>h x (by simp [hx]))
  refine ⟨by simp [h1,hr,Nat.succ_mul,Nat.add_comm],fun i j q hq hj=>?_⟩
  cases i with
  | zero=>simp at hq;subst hq;rw [Nat.zero_mul,Nat.zero_add,List.flatten_cons,List.getElem?_append_left (by omega)]
  | succ i=>
   simp at hq
   rw [List.flatten_cons,List.getElem?_append_right (by rw [Nat.succ_mul];omega),← h2 i j q hq hj]
   congr 1;rw [Nat.succ_mul];omega
theorem Hb {K:World→Prop} {l:List AV} {X:List Value} (h:l.all AV.one=true) (hl:X.length=l.length) (hr:∀ (j:Nat) c z,l[j]?=some c→X[j]?=some z→ao K β c z):∀ q ∈ X,bS q=true:=by
 intro q hq
 obtain ⟨j,hj,rfl⟩:=List.getElem_of_mem hq
 have iu:j<l.length:=by omega
 exact AV.uY (hr j _ _ (List.getElem?_eq_getElem iu) (List.getElem?_eq_getElem hj)) (List.all_eq_true.1 h _ (List.getElem_mem iu))
def vk (T:aE) (E:List (Nat×AV)) (M:List ai) (oc:Option aO) (st:TypeId) (x y:Operand):Option Out:=
 match iy T st,aA E x,aA E y,oc with
 | some (_,k,_,_),some (.sf u k' 0 n _),some (.d (.ro k3 rows)),some (.res (.ag ds))=>(match M[u]? with
  | some (.fl e2 k2 m cells)=>bif k.beq k'&&(k.beq k2&&(k.beq k3&&n.ble m)) then some ⟨[bf rows,(rows.flatten.map AV.d).take (min rows.length n*k)++cells.drop ((rows.flatten.map AV.d).take (min rows.length n*k)).length=ds.map AV.d],.d (.v (.int .i64 ((min rows.length n:Nat):Int))),M.set u (.fl e2 k2 m (ds.map .d)),[u],[],none⟩ else none
  | _=>none)
 | _,_,_,_=>none
theorem EA (hT:aR P T=true) {st xt:TypeId} {x y:Operand} (h:vk T E M oc st x y=some out):aB P ⟨d,.call ⟨.builtin .copy,#[x,y],#[st,xt]⟩,ty,pos,aft,gd⟩ E M out:=by
 unfold vk at h
 split at h
 rotate_left
 ·simp at h
 rename_i e k b z u k' n q k3 rows ds he hx hy
 obtain ⟨zv,ok,-,-⟩:=ka hT he
 split at h
 rotate_left
 ·simp at h
 rename_i e2 k2 m cells hM
 cases hc:(k.beq k'&&(k.beq k2&&(k.beq k3&&n.ble m))) with
 | false=>simp [hc] at h
 | true=>
 simp only [hc,cond_true,Option.some.injEq] at h;subst h
 simp only [Bool.and_eq_true] at hc
 obtain ⟨c1,c2,c4,c3⟩:=hc
 obtain rfl:=Nat.eq_of_beq_eq_true c1
 obtain rfl:=Nat.eq_of_beq_eq_true c2
 obtain rfl:=Nat.eq_of_beq_eq_true c4
 have sZ:=Nat.le_of_ble_eq_true c3
 intro D w0 K0 β F I ρ w C hv
 obtain ⟨dt,LJ,-⟩:=hv
 obtain ⟨yx,iw,rx⟩:=C.bC hx
 obtain ⟨yy,nB,ry⟩:=C.bC hy
 obtain ⟨X,ra,hs⟩:=zR C.now ry
 have hX:∀ i,i<rows.length→(X i).length=k:=fun i hi=>(ra.hl i _ (List.getElem?_eq_getElem hi)).2
 have fY:∀ r ∈ rows,r.length=k:=fun r hr=>by
  obtain ⟨i,hi,rfl⟩:=List.getElem_of_mem hr
  exact (ra.hl i _ (List.getElem?_eq_getElem hi)).1
 obtain ⟨f1,f2⟩:=zZ fY
 have gb:=dQ hX
 have s2:(lay rows.length X).length=(rows.flatten.map AV.d).length:=by rw [gb,List.length_map,f1]
 have s3:∀ (j:Nat) c z,(rows.flatten.map AV.d)[j]?=some c→(lay rows.length X)[j]?=some z→ao (fun w=>K0 w∧Holds w I) β c z:=fun j c z e1 e2=>by
  have s5:j<rows.length*k:=by rw [← gb];exact (List.getElem?_eq_some_iff.1 e2).1
  have hk:0<k:=by
   rcases Nat.eq_zero_or_pos k with h0 | h0
   ·subst h0;simp at s5
   ·exact h0
  have hd:j / k<rows.length:=Nat.div_lt_of_lt_mul (by rw [Nat.mul_comm];exact s5)
  have hm:j%k<k:=Nat.mod_lt _ hk
  have e:j / k*k+j%k=j:=by rw [Nat.mul_comm,Nat.div_add_mod]
  have bP:rows[j / k]?=some rows[j / k]:=List.getElem?_eq_getElem hd
  have g1:=jz hX hd hm
  have g2:=f2 _ _ _ bP hm
  rw [e] at g1 g2
  rw [g1] at e2
  rw [List.getElem?_map,g2,Option.map_eq_some_iff] at e1
  obtain ⟨c',e1,rfl⟩:=e1
  exact .d (ra.hr _ _ _ c' z bP e1 e2)
 have JK:(rows.flatten.map AV.d).all AV.one=true:=by
  unfold bf at dt
  rw [List.all_eq_true] at dt ⊢
  intro c hc
  obtain ⟨c',h1,rfl⟩:=List.mem_map.1 hc
  obtain ⟨r,h2,h3⟩:=List.mem_flatten.1 h1
  exact List.all_eq_true.1 (dt r h2) c' h3
 have vX:=Hb JK s2 s3
 have l7:min rows.length n≤rows.length:=Nat.min_le_left _ _
 obtain ⟨hlen,om⟩:=hs.pre (P:=P) l7
 have bj:∀ w:World,(sizeOf e).run P w=.ok k w:=fun w=>by obtain ⟨i,hi,h1,-⟩:=ok.info;simp [sizeOf,typeInfo,Sem.run_bind,hi,h1]
 cases rx with
 | @sf _ _ _ _ bb cc cap _ hb dm hn hq=>
 obtain ⟨H,hF,hB,hH⟩:=C.rm.at hM
 cases hB with
 | fl aI ys hl hm mz hr=>
 rw [hb] at aI;cases aI
 have hw:=hH.one
 have a1:n*k≤m*k:=Nat.mul_le_mul_right _ sZ
 have a2:m*k≤ys.length:=by rw [hl];exact Nat.mul_le_mul_right _ mz
 have a4:min rows.length n*k≤n*k:=Nat.mul_le_mul_right _ (Nat.min_le_right _ _)
 have a5:min rows.length n*k≤rows.length*k:=Nat.mul_le_mul_right _ l7
 have kS:=nT (P:=P) ((lay rows.length X).take (min rows.length n*k)) w ys.toArray (0*k) 0 hw (by simp;omega) (fun q hq=>vX q (List.mem_of_mem_take hq))
 simp only [Nat.add_zero] at kS
 refine aQ.pure (v:=.int .i64 ((min rows.length n:Nat):Int)) (w':=bZ w bb (.cells (bX ys.toArray (0*k) ((lay rows.length X).take (min rows.length n*k))) e2 (0,0))) ?_ ?_
 ·have vY:Nat.min rows.length n=min rows.length n:=rfl
  simp only [execOp,resolve,List.map_toArray,List.map,iw,nB,Sem.run_bind,Sem.run_pure,Result.andThen_ok,invoke,builtin,Builtin.copy_,List.getElem?_toArray,List.getElem?_cons_zero,List.getElem?_cons_succ,run_underlying ok.a8,hlen,vY,bj,om,kS]
  rfl
 ·have xV:=IA (K:=fun w=>K0 w∧Holds w I) (e:=e2) (m2:=m) (o:=0*k) (l:=(rows.flatten.map AV.d).take (min rows.length n*k)) (zs:=(lay rows.length X).take (min rows.length n*k)) hb hl hm hr (by rw [List.length_take,List.length_take,s2]) (fun j c z e1 e2=>by
    rw [List.getElem?_take] at e1 e2
    split at e1
    ·rename_i hj;rw [if_pos hj] at e2;exact s3 j c z e1 e2
    ·simp at e1) (by omega) mz (by
    simp only [List.length_append,List.length_take,List.length_drop]
    omega)
  rw [Nat.zero_mul,List.take_zero,List.nil_append,Nat.zero_add,LJ] at xV
  rw [Nat.zero_mul]
  exact ⟨β,_,I,C.rm.set hM hF xV,(Ext.refl β).b _,bE.refl _,fun v hv hn=>by simp only [aD];rw [if_neg (by simpa using hn)],.d (.v _)⟩
def wm (T:aE) (E:List (Nat×AV)) (M:List ai) (oc:Option aO) (t:TypeId) (x ix:Operand):Option Out:=
 match cR T t,aA E x,cy (aA E ix),oc with
 | some (.ar n e),some (.ag l),some (_,z),some (.ix i [c])=>(match eW T e with
  | some k=>some (lk [z=(i:Int),i<n,nC T e l (i*k)=some (.d c)] (.d c) M)
  | none=>none)
 | _,_,_,_=>none
theorem FO (hT:aR P T=true) {t:TypeId} {x ix:Operand} (h:wm T E M oc t x ix=some out):aB P ⟨d,.index t x ix,ty,pos,aft,gd⟩ E M out:=by
 unfold wm at h
 split at h
 ·rename_i n e l _ z i c hu hx hz
  split at h
  ·rename_i k hk
   simp only [Option.some.injEq] at h;subst h
   have bj:∀ w:World,(sizeOf e).run P w=.ok k w:=fun w=>by
    have:=fS hT hk
    cases hi:P.info? e with
    | none=>simp [hi] at this
    | some inf=>simp only [hi,Option.map_some,Option.some.injEq] at this;simp [sizeOf,typeInfo,Sem.run_bind,hi,this]
   refine aB.same ?_
   intro D w0 K0 β F I ρ w C hv
   obtain ⟨rfl,aF,hp,-⟩:=hv
   have r:=C.ev hx
   have hi:=C.int hz
   generalize hy:ρ x=y at r
   cases r with
   | ag ys hl hr=>
    obtain ⟨y,h1,h2⟩:=u9 hT hp hl hr
    refine ⟨y,fun w' _=>?_,h1⟩
    have fI:=cD hT hu
    have hc:(0:Int)≤(i:Int)∧(i:Int)<(n:Int):=by omega
    simp only [execOp,hy,hi,Instr.index,asIntOf,Sem.run_bind,Sem.run_pure,run_underlying fI,Result.andThen_ok]
    rw [if_pos hc]
    simp only [Sem.run_bind,bj,Result.andThen_ok,Int.toNat_natCast,h2,Sem.run_pure]
  ·simp at h
 ·simp at h
def vn (T:aE) (E:List (Nat×AV)) (M:List ai) (t:TypeId) (x:Operand):Option Out:=
 match aA E x with
 | some (.pt u o)=>(match M[u]? with
  | some (.fl _ _ _ cells)=>(match kq T t cells o with | some v=>some ⟨[],v,M,[],[],some [u]⟩ | none=>none)
  | _=>none)
 | _=>none
theorem EB (hT:aR P T=true) {t:TypeId} {x:Operand} (h:vn T E M t x=some out):aB P ⟨d,.load t x,ty,pos,aft,gd⟩ E M out:=by
 unfold vn at h
 split at h
 ·rename_i u o hv
  split at h
  ·rename_i Tt k m cells hM
   split at h
   ·rename_i v iY
    simp only [Option.some.injEq] at h;subst h
    refine aB.look (fun C _=>?_) (by simpa using eD hM)
    obtain ⟨y,hy,r⟩:=C.bC hv
    cases r with
    | pt hb=>
     obtain ⟨H,hF,hB,hH⟩:=C.rm.at hM
     cases hB with
     | fl aI ys hl hm hc hr=>
      rw [hb] at aI;cases aI
      have hlen:cells.length≤ys.length:=by rw [hl,hm];exact Nat.mul_le_mul_right _ hc
      obtain ⟨y',h1,h2⟩:=ov hT (a:=⟨_,0,none⟩) (ys:=ys.take cells.length) (fun l ys=>ao.ag ys) iY (hy.trans (by rw [add_eq,Nat.zero_add])) (by simp;omega) (fun j c z e1 e2=>hr j c z e1 (by
       rw [List.getElem?_take] at e2
       split at e2
       ·exact e2
       ·simp at e2))
      refine ⟨y',h1,fun w' hs=>h2 w' fun j z hj=>?_⟩
      have hw:Holds w' _:=hs.2 u (by simp)
      rw [hF] at hw
      rw [List.getElem?_take] at hj
      split at hj
      ·rw [add_eq,cell_of hw.one,Nat.zero_add];simpa using hj
      ·simp at hj
   ·simp at h
  ·simp at h
 ·simp at h
def BS:List Value→Bool
 | .nilFunc::_=>true
 | _=>false
def uF (T:aE) (M:List ai) (t:TypeId):Option Out:=
 match cR T t,oC T t with
 | some (.ar n e),some l=>(match eW T e with
  | some k=>bif l.length.beq (n*k)&&!BS l then some ⟨[],.pt M.length 0,M++[.fl t k n (kH l)],[],[],none⟩ else none
  | none=>none)
 | _,_=>none
theorem DT (hT:aR P T=true) {t:TypeId} (h:uF T M t=some out):aB P ⟨d,.alloc t,ty,pos,aft,gd⟩ E M out:=by
 unfold uF at h
 split at h
 rotate_left
 ·simp at h
 rename_i n e l ht hz
 split at h
 rotate_left
 ·simp at h
 rename_i k hk
 cases hc:(l.length.beq (n*k)&&!BS l) with
 | false=>simp [hc] at h
 | true=>
  simp only [hc,cond_true,Option.some.injEq] at h;subst h
  have gb:=Nat.eq_of_beq_eq_true (Bool.and_eq_true_iff.1 hc).1
  obtain ⟨z,nz,nA⟩:=rn hT hz
  intro D w0 K0 β F I ρ w C _
  refine ze (nA w) fun b w' g n'=>?_
  rw [nz] at n'
  obtain ⟨h1,h2⟩:=pz (K:=fun w=>K0 w∧Holds w I) (β:=β++[(some ⟨b,0,none⟩,n)]) l
  exact ⟨_,_,I,C.rm.new (q:=(some ⟨b,0,none⟩,n)) g n' (.fl (hU C.rm _) l gb (by rw [← h1,gb]) (Nat.le_refl _) h2),(Ext.app _ _).b _,bE.refl _,lL _ _,.pt (hU C.rm _)⟩
def xc (T:aE) (E:List (Nat×AV)) (M:List ai) (t:TypeId) (x:Operand) (lo hi mx:Option Operand):Option Out:=
 match cR T t,aA E x,lo,hi,mx with
 | some (.ar n e),some (.pt u 0),none,none,none=>(match eW T e,M[u]? with
  | some k,some (.fl _ k2 m _)=>bif k.beq k2&&(n.ble m&&Nat.blt 0 n) then some (lk [] (.sf u k 0 n (some n)) M) else none
  | _,_=>none)
 | _,_,_,_,_=>none
theorem Hc (hT:aR P T=true) {t:TypeId} {x:Operand} {lo hi mx:Option Operand} (h:xc T E M t x lo hi mx=some out):aB P ⟨d,.slice t x lo hi mx,ty,pos,aft,gd⟩ E M out:=by
 unfold xc at h
 split at h
 rotate_left
 ·simp at h
 rename_i n e u ht hx
 split at h
 rotate_left
 ·simp at h
 rename_i k T2 k2 m cells hk hM
 cases hc:(k.beq k2&&(n.ble m&&Nat.blt 0 n)) with
 | false=>simp [hc] at h
 | true=>
  simp only [hc,cond_true,Option.some.injEq] at h;subst h
  simp only [Bool.and_eq_true] at hc
  obtain ⟨c1,c2,c3⟩:=hc
  obtain rfl:=Nat.eq_of_beq_eq_true c1
  have CB:=Nat.le_of_ble_eq_true c2
  have nj:0<n:=by simpa [Nat.blt_eq] using c3
  have nH:=cD hT ht
  refine aB.same fun {D w0 K0 β F I ρ w} C _=>?_
  obtain ⟨y,hy,r⟩:=C.bC hx
  cases r with
  | @pt _ _ b c hb=>
   obtain ⟨H,hF,hB,hH⟩:=C.rm.at hM
   cases hB with
   | fl aI ys hl hm mz hr=>
    rw [hb] at aI;cases aI
    have hs:=ao.sf (K:=fun w=>K0 w∧Holds w I) (u:=u) (k:=k) (o:=0) (n:=n) (cap:=n) (q:=some n) hb (by omega) (Nat.le_refl _) rfl
    rw [Nat.zero_mul] at hs
    refine ⟨_,fun w' _=>?_,hs⟩
    have bj:(sizeOf e).run P w'=.ok k w':=by
     have:=fS hT hk
     cases eM:P.info? e with
     | none=>simp [eM] at this
     | some inf=>simp only [eM,Option.map_some,Option.some.injEq] at this;simp [sizeOf,typeInfo,Sem.run_bind,eM,this]
    have s6:¬ n=0:=by omega
    simp [execOp,hy,Instr.sliceAt,Instr.sureAddr,Instr.sliceBounds,Sem.run_bind,run_underlying nH,bj,s6,add_eq]
end Go.Proofs.YtcnpikbbmbombaaDoor
namespace Go.Proofs.YtcnpikbbmbombaaDoor
open Go.RowKit
variable {P:Program} {T:aE} {E:List (Nat×AV)} {M:List ai}
variable {d:Option Tmp} {ty:TypeId} {pos:String} {aft:Array Edge} {gd:Option (Nat×Bool)} {oc:Option aO} {out:Out}
inductive LK where
 | fn (f:FuncId)
 | yl (u:Nat)
abbrev e9:=LK→List AV→List ai→aO→Option Out
def Aq (P:Program) (f:FuncId) (args:List AV) (M:List ai) (out:Out):Prop:=
 gu P f=true∧∀ {D:List Nat} {w0:World} {K0:World→Prop} {β:Beta} {F:Nat→ak} {I:ak} {w:World} (ys:List Value),RM D w0 K0 M β F I w→(∀ w,Kp D w0 w→K0 w)→aU out.vc→ys.length=args.length→(∀ (j:Nat) c y,args[j]?=some c→ys[j]?=some y→ao (fun w=>K0 w∧Holds w I) β c y)→
  Calls P f ys.toArray w fun e w'=>∃ v,e=.returned v∧∃ au F' I',RM D w0 K0 out.M au F' I' w'∧fD out.mv β au∧bE I I'∧(∀ u,u<M.length→u ∉ out.tc→F' u=F u)∧ao (fun w=>K0 w∧Holds w I') au out.av v
def z6 (P:Program) (u:Nat) (args:List AV) (M:List ai) (out:Out):Prop:=
 ∀ {D:List Nat} {w0:World} {K0:World→Prop} {β:Beta} {F:Nat→ak} {I:ak} {w:World} (ys:List Value) (l c:Nat),RM D w0 K0 M β F I w→(∀ w,Kp D w0 w→K0 w)→aU out.vc→ys.length=args.length→(∀ (j:Nat) c y,args[j]?=some c→ys[j]?=some y→ao (fun w=>K0 w∧Holds w I) β c y)→β[u]?=some (some ⟨l,0,none⟩,c)→
  ∃ fn tmps cM body,(Instr.yield l ys.toArray).run P w=.ok (.round l fn tmps cM body) w∧RoundIn Fence.wide 0 P l fn tmps cM body w fun e w'=>∃ v,e=.returned v∧∃ au F' I',RM D w0 K0 out.M au F' I' w'∧fD out.mv β au∧bE I I'∧(∀ u,u<M.length→u ∉ out.tc→F' u=F u)∧ao (fun w=>K0 w∧Holds w I') au out.av v
def iV (P:Program) (cl:e9):Prop:=∀ c args M o out,cl c args M o=some out→out.rd=none∧match c with | .fn f=>Aq P f args M out | .yl u=>z6 P u args M out
def wo (cl:e9) (E:List (Nat×AV)) (M:List ai) (o:aO) (g:Operand) (args:Array Operand):Option Out:=
 match aA E g,kj E args.toList with
 | some (.fn f b4),some l=>cl (.fn f) (l++b4) M o
 | some (.yl u),some l=>cl (.yl u) l M o
 | _,_=>none
theorem FP {cl:e9} (cA:iV P cl) {o:aO} {g:Operand} {args:Array Operand} {ey:Array TypeId} (h:wo cl E M o g args=some out):aB P ⟨d,.call ⟨.value g,args,ey⟩,ty,pos,aft,gd⟩ E M out:=by
 unfold wo at h
 split at h
 ·rename_i f b4 l hg hl
  obtain ⟨dF,jK,hc⟩:=cA _ _ _ _ _ h
  unfold aB
  rw [dF]
  intro D w0 K0 β F I ρ w C hv
  obtain ⟨y,hy,r⟩:=C.bC hg
  cases r with
  | fn cs KH fJ=>
   obtain ⟨dw,jQ⟩:=C.mq hl
   have hm:args.map ρ=(args.toList.map ρ).toArray:=by rw [← Array.toList_map]
   refine px hy jK hm ?_
   have kP:((args.toList.map ρ).toArray++cs.toArray:Array Value)=(args.toList.map ρ++cs).toArray:=by simp
   rw [kP]
   refine hc _ C.rm C.k hv (by rw [List.length_append,List.length_append,dw,KH]) ?_
   intro j c y h1 h2
   rcases Nat.lt_or_ge j l.length with hj | hj
   ·rw [List.getElem?_append_left hj] at h1
    rw [List.getElem?_append_left (by omega)] at h2
    exact jQ j c y h1 h2
   ·rw [List.getElem?_append_right hj] at h1
    rw [List.getElem?_append_right (by omega),dw] at h2
    exact fJ _ c y h1 h2
 ·rename_i u l hg hl
  obtain ⟨dF,hc⟩:=cA _ _ _ _ _ h
  unfold aB
  rw [dF]
  intro D w0 K0 β F I ρ w C hv
  obtain ⟨y,hy,r⟩:=C.bC hg
  cases r with
  | @yl _ bb cc hb=>
   obtain ⟨dw,jQ⟩:=C.mq hl
   obtain ⟨fn,tmps,cM,body,h1,h2⟩:=hc _ _ _ C.rm C.k hv dw jQ hb
   have hm:args.map ρ=(args.toList.map ρ).toArray:=by rw [← Array.toList_map]
   unfold aQ
   have hr:(execOp ρ ⟨d,.call ⟨.value g,args,ey⟩,ty,pos,aft,gd⟩).run P w=.ok (.round bb fn tmps cM body) w:=by
    simp [execOp,resolve,hy,hm,Deferred.ofValue,invoke,h1]
   rw [hr]
   exact h2
 ·simp at h
def xd (P:Program) (T:aE) (E:List (Nat×AV)) (M:List ai) (oc:Option aO) (op:BinOp) (t:TypeId) (x y:Operand):Option Out:=
 match vH E M oc op x y with
 | some o=>some o
 | none=>(match vJ E M oc op x y with
  | some o=>some o
  | none=>(match wU P E M oc op t x y with
   | some o=>some o
   | none=>(match vS P E M oc op t x y with
    | some o=>some o
    | none=>vT T E M oc op t x y)))
theorem Hd (hT:aR P T=true) {op:BinOp} {t t':TypeId} {x y:Operand} (h:xd P T E M oc op t x y=some out):aB P ⟨d,.binOp op t x y t',ty,pos,aft,gd⟩ E M out:=by
 unfold xd at h
 split at h
 ·rename_i hh;simp only [Option.some.injEq] at h;subst h;exact Fh hh
 ·split at h
  ·rename_i hh;simp only [Option.some.injEq] at h;subst h;exact Fj hh
  ·split at h
   ·rename_i hh;simp only [Option.some.injEq] at h;subst h;exact GV hh
   ·split at h
    ·rename_i hh;simp only [Option.some.injEq] at h;subst h;exact Ft hh
    ·exact Fw hT h
def wq (T:aE) (E:List (Nat×AV)) (M:List ai) (oc:Option aO) (t t':TypeId) (x:Operand):Option Out:=
 match u1 T E M oc t t' x with
 | some o=>some o
 | none=>(match wZ T E M oc t t' x with
  | some o=>some o
  | none=>u7 T E M t t' x)
theorem FQ (hT:aR P T=true) {t t':TypeId} {x:Operand} (h:wq T E M oc t t' x=some out):aB P ⟨d,.convert t t' x,ty,pos,aft,gd⟩ E M out:=by
 unfold wq at h
 split at h
 ·rename_i hh;simp only [Option.some.injEq] at h;subst h;exact Eh hT hh
 ·split at h
  ·rename_i hh;simp only [Option.some.injEq] at h;subst h;exact GZ hT hh
  ·exact Em hT h
def step (P:Program) (T:aE) (cl:e9) (E:List (Nat×AV)) (M:List ai) (oc:Option aO):Op→Option Out
 | .move x=>sh E M x
 | .assign x=>sh E M x
 | .nilCheck x=>wL E M x
 | .extract x i=>tO E M x i
 | .fieldAddr s x f=>uW T E M s x f
 | .indexAddr t x i=>(match uX T E M oc t x i with | some o=>some o | none=>(match uw T E M oc t x i with | some o=>some o | none=>(match uB T E M oc t x i with | some o=>some o | none=>(match ux T E M oc t x i with | some o=>some o | none=>(match uE T E M oc t x i with | some o=>some o | none=>we T E M oc t x i)))))
 | .load t x=>(match vG T E M oc t x with | some o=>some o | none=>(match vV T E M oc t x with | some o=>some o | none=>(match ve T E M oc t x with | some o=>some o | none=>vn T E M t x)))
 | .store t x y=>(match uj T E M t x y with | some o=>some o | none=>(match uv T E M oc t x y with | some o=>some o | none=>uC T E M oc t x y))
 | .box t x=>wP E M t x
 | .alloc t=>(match oc with | some (.b _)=>uF T M t | _=>uZ T M t)
 | .pick c x y=>(match oc with | some (.res (.v r))=>vf E M r c x y | _=>vI E M oc c x y)
 | .unOp .not _ x=>wQ E M oc x
 | .unOp .xor _ x=>wR E M oc x
 | .binOp op t x y _=>(match xd P T E M oc op t x y with | some o=>some o | none=>(match wa P E M op t x y with | some o=>some o | none=>(match w9 E M op x y with | some o=>some o | none=>xb P E M op t x y)))
 | .convert t t' x=>(match wq T E M oc t t' x with | some o=>some o | none=>(match wb T E M t t' x with | some o=>some o | none=>vg P E M oc t t' x))
 | .build t parts=>(match u5 T E M t parts with | some o=>some o | none=>uu T E M t parts)
 | .field t x f=>w5 T E M t x f
 | .index t x i=>(match w6 T E M oc t x i with | some o=>some o | none=>(match vZ T E M oc t x i with | some o=>some o | none=>(match wc T E M oc t x i with | some o=>some o | none=>wm T E M oc t x i)))
 | .slice t x lo hi mx=>(match xQ T E M oc t x lo hi mx with | some o=>some o | none=>(match w7 T E M oc t x lo hi mx with | some o=>some o | none=>(match xa T E M oc t x lo hi mx with | some o=>some o | none=>xc T E M t x lo hi mx)))
 | .buildSlice t len parts=>wY T E M t len parts
 | .makeSlice t x y=>(match vQ T E M oc t x y with | some o=>some o | none=>va T E M oc t x y)
 | .makeFunc fn first b4=>vK E M fn first b4
 | .call ⟨.builtin bi,⟨[x]⟩,⟨[t]⟩⟩=>(match bi with | .len=>wT T E M oc t x | .clear=>vb T E M t x | .unsafeSliceData=>vj E M x | .cap=>wj T E M t x | _=>none)
 | .call ⟨.builtin bi,⟨[x,y]⟩,⟨[st,xt]⟩⟩=>(match bi with | .append=>(match wV T E M st xt x y with | some o=>some o | none=>wg T E M st xt x y) | .copy=>(match vW T E M oc st x y with | some o=>some o | none=>vk T E M oc st x y) | .unsafeString=>wh P E M oc st x y | _=>xy E M oc bi x y)
 | .call ⟨.value g,args,_⟩=>(match oc with | some (.bG n tb)=>wo cl E M (.bG n tb) g args | some (.aP x)=>oN P E M (some (.aP x)) g args | some (.mem l x M')=>v7 P E M (some (.mem l x M')) g args | some (.stay l x)=>vd P E M (some (.stay l x)) g args | some (.b _)=>vi P E M g args | some (.n2 m e)=>wk P E M (some (.n2 m e)) g args | _=>vM P E M oc g args)
 | _=>none
theorem ob (hT:aR P T=true) {cl:e9} (cA:iV P cl) {op:Op} (h:step P T cl E M oc op=some out):aB P ⟨d,op,ty,pos,aft,gd⟩ E M out:=by
 unfold step at h
 split at h
 ·exact (zh h).1
 ·exact (zh h).2
 ·exact GO h
 ·exact Dr h
 ·exact Ed hT h
 ·split at h
  ·rename_i hh;simp only [Option.some.injEq] at h;subst h;exact Ee hT hh
  ·split at h
   ·rename_i hh;simp only [Option.some.injEq] at h;subst h;exact DM hT hh
   ·split at h
    ·rename_i hh;simp only [Option.some.injEq] at h;subst h;exact DO hT hh
    ·split at h
     ·rename_i hh;simp only [Option.some.injEq] at h;subst h;exact DN hT hh
     ·split at h
      ·rename_i hh;simp only [Option.some.injEq] at h;subst h;exact DR hT hh
      ·exact FH hT h
 ·split at h
  ·rename_i hh;simp only [Option.some.injEq] at h;subst h;exact Fg hT hh
  ·split at h
   ·rename_i hh;simp only [Option.some.injEq] at h;subst h;exact Fx hT hh
   ·split at h
    ·rename_i hh;simp only [Option.some.injEq] at h;subst h;exact Eu hT hh
    ·exact EB hT h
 ·split at h
  ·rename_i hh;simp only [Option.some.injEq] at h;subst h;exact DJ hT hh
  ·split at h
   ·rename_i hh;simp only [Option.some.injEq] at h;subst h;exact DL hT hh
   ·exact DP hT h
 ·exact GP h
 ·split at h
  ·exact DT hT h
  ·exact Eg hT h
 ·split at h
  ·exact Ew h
  ·exact Fi h
 ·exact GQ h
 ·exact GR h
 ·split at h
  ·rename_i hh;simp only [Option.some.injEq] at h;subst h;exact Hd hT hh
  ·split at h
   ·rename_i hh;simp only [Option.some.injEq] at h;subst h;exact FE hh
   ·split at h
    ·rename_i hh;simp only [Option.some.injEq] at h;subst h;exact G7 hh
    ·exact G9 h
 ·split at h
  ·rename_i hh;simp only [Option.some.injEq] at h;subst h;exact FQ hT hh
  ·split at h
   ·rename_i hh;simp only [Option.some.injEq] at h;subst h;exact FF hT hh
   ·exact Ex h
 ·split at h
  ·rename_i hh;simp only [Option.some.injEq] at h;subst h;exact Ej hT hh
  ·exact DK hT h
 ·exact G3 hT h
 ·split at h
  ·rename_i hh;simp only [Option.some.injEq] at h;subst h;exact G4 hT hh
  ·split at h
   ·rename_i hh;simp only [Option.some.injEq] at h;subst h;exact FB hT hh
   ·split at h
    ·rename_i hh;simp only [Option.some.injEq] at h;subst h;exact FG hT hh
    ·exact FO hT h
 ·split at h
  ·rename_i hh;simp only [Option.some.injEq] at h;subst h;exact Ix hT hh
  ·split at h
   ·rename_i hh;simp only [Option.some.injEq] at h;subst h;exact G5 hT hh
   ·split at h
    ·rename_i hh;simp only [Option.some.injEq] at h;subst h;exact G8 hT hh
    ·exact Hc hT h
 ·exact GY hT h
 ·split at h
  ·rename_i hh;simp only [Option.some.injEq] at h;subst h;exact Fs hT hh
  ·exact Ep hT h
 ·exact Fk h
 ·split at h
  ·exact GS hT h
  ·exact Es hT h
  ·exact Ez h
  ·exact FL hT h
  ·simp at h
 ·split at h
  ·split at h
   ·rename_i hh;simp only [Option.some.injEq] at h;subst h;exact GW hT hh
   ·exact FI hT h
  ·split at h
   ·rename_i hh;simp only [Option.some.injEq] at h;subst h;exact Fy hT hh
   ·exact EA hT h
  ·exact FJ h
  ·exact Is h
 ·split at h
  ·exact FP cA h
  ·exact zQ h
  ·exact FD h
  ·exact Et h
  ·exact Ey h
  ·exact FN h
  ·exact Fp h
 ·simp at h
end Go.Proofs.YtcnpikbbmbombaaDoor
namespace Go.Proofs.YtcnpikbbmbombaaDoor
open Go.RowKit
def ma:List (Nat×aO)→Nat→Option aO
 | [],_=>none
 | (k,v)::r,s=>bif k.beq s then some v else ma r s
def gD (E:List (Nat×AV)) (dst:Option Nat) (v:AV):List (Nat×AV):=match dst with | some d=>(d,v)::E | none=>E
def oH (mv:List Nat):List (Nat×AV)→List (Nat×AV)
 | []=>[]
 | (k,v)::r=>(k,bif ia mv v then v else .d .jk)::oH mv r
def oI (mv:List Nat) (E:List (Nat×AV)):List (Nat×AV):=match mv with | []=>E | _=>oH mv E
theorem yD {mv:List Nat}:∀ {E:List (Nat×AV)} {t:Nat} {v:AV},bM (oH mv E) t=some v→∃ u,bM E t=some u∧v=bif ia mv u then u else .d .jk
 | [],t,v,h=>by simp [oH,bM] at h
 | (k,u)::r,t,v,h=>by
  unfold oH bM at h
  unfold bM
  cases hk:k.beq t with
  | true=>simp only [hk,cond_true,Option.some.injEq] at h ⊢;exact ⟨u,rfl,h.symm⟩
  | false=>simp only [hk,cond_false] at h ⊢;exact yD h
theorem FR {K:World→Prop} {β au:Beta} {mv:List Nat} (e:fD mv β au) {ρ:Operand→Value} {E:List (Nat×AV)} (h:∀ t v,bM E t=some v→ao K β v (ρ (.tmp t))):∀ t v,bM (oH mv E) t=some v→ao K au v (ρ (.tmp t)):=by
 intro t v hv
 obtain ⟨u,h1,h2⟩:=yD hv
 cases hc:ia mv u with
 | true=>simp only [hc,cond_true] at h2;subst h2;exact pA e hc (h t _ h1)
 | false=>simp only [hc,cond_false] at h2;subst h2;exact .d (.jk _)
theorem tY {K:World→Prop} {β au:Beta} {mv:List Nat} (e:fD mv β au) {E:List (Nat×AV)} {ρ:Operand→Value} (h:∀ t v,bM E t=some v→ao K β v (ρ (.tmp t))):∀ t v,bM (oI mv E) t=some v→ao K au v (ρ (.tmp t)):=by
 intro t v hx
 unfold oI at hx
 split at hx
 ·exact (h t v hx).mono (fun _ h=>h) fun u z hz=>e u z (by simp) hz
 ·exact FR e h t v hx
def pU:Option AV→Option (Option Bool)
 | some (.d (.v (.bool c)))=>some (some c)
 | some (.d (.v (.tuple _)))=>some none
 | _=>none
def lX (sz:Nat) (ops:Array Oper) (E:List (Nat×AV)):Option (Nat×Bool)→Option Bool
 | none=>some true
 | some (j,want)=>(match p5 ops j with
  | some s=>(bif s.blt sz then (match pU (bM E s) with
   | some (some true)=>some want
   | some (some false)=>some (!want)
   | some none=>some false
   | none=>none) else none)
  | none=>none)
def fG (sz:Nat):Option Nat→Bool
 | some d=>d.blt sz
 | none=>true
structure RS where
 vc:List Prop
 E:List (Nat×AV)
 M:List ai
 tc:List Nat
 mv:List Nat
def xe (P:Program) (T:aE) (cl:e9) (E:List (Nat×AV)) (M:List ai) (op:Op) (oc:aO):Option (List Prop×List Nat×Value):=
 match oc,op with
 | .aP (.v x),.call ⟨.value g,args,_⟩=>(match oN P E M (some (.aP (.v x))) g args with | some out=>some (out.vc,out.tc,x) | none=>none)
 | oc,op=>(match step P T cl E M (some oc) op with | some ⟨vc,.d (.v x),_,tc,_,some _⟩=>some (vc,tc,x) | _=>none)
def Ar (sz:Nat) (ops:Array Oper) (E:List (Nat×AV)):Option (Nat×Bool)→Option (Value×Bool)
 | some (j,want)=>(match p5 ops j with
  | some s=>bif s.blt sz then (match bM E s with | some (.d (.v y))=>some (y,want) | _=>none) else none
  | none=>none)
 | none=>none
def jD (y:Value):Option Bool:=match y with | .bool b=>some b | _=>none
def iK (P:Program) (T:aE) (cl:e9) (sz:Nat) (ops:Array Oper):List Oper→Nat→List (Nat×aO)→RS→Option RS
 | [],_,_,s=>some s
 | o::r,i,oc,⟨vc,E,M,tc,mv⟩=>
  bif fG sz o.dst then (match ma oc i with
  | some (.may c oo)=>(match xe P T cl E M o.op oo,Ar sz ops E o.guard with
   | some (mC,qK,x),some (y,want)=>iK P T cl sz ops r (i+1) oc ⟨vc++[(jD y==some want)=c,c=true→aU mC],gD E o.dst (.d (.v (bif c then x else undef))),M,qK++tc,mv⟩
   | _,_=>none)
  | _=>(match lX sz ops E o.guard with
   | some true=>(match step P T cl E M (ma oc i) o.op with
    | some out=>(bif Nat.ble M.length out.M.length then iK P T cl sz ops r (i+1) oc ⟨vc++out.vc,gD (oI out.mv E) o.dst out.av,out.M,out.tc++tc,out.mv++mv⟩ else none)
    | none=>none)
   | some false=>iK P T cl sz ops r (i+1) oc ⟨vc,gD E o.dst (.d (.v undef)),M,tc,mv⟩
   | none=>none))
  else none
structure eb where
 β:Beta
 F:Nat→ak
 I:ak
 m:Nat
def Since (b:eb) (mv tc:List Nat) (β:Beta) (F:Nat→ak) (I:ak):Prop:=fD mv b.β β∧bE b.I I∧∀ u,u<b.m→u ∉ tc→F u=b.F u
theorem Since.step {b:eb} {mv tc mv' qK:List Nat} {β au:Beta} {F F':Nat→ak} {I I':ak} {n:Nat} (h:Since b mv tc β F I) (hn:b.m≤n) (e:fD mv' β au) (hI:bE I I') (hF:∀ u,u<n→u ∉ qK→F' u=F u):Since b (mv'++mv) (qK++tc) au F' I':=
 ⟨fun u x hu hx=>e u x (fun h'=>hu (List.mem_append_left _ h')) (h.1 u x (fun h'=>hu (List.mem_append_right _ h')) hx),h.2.1.trans hI,fun u hu ht=>(hF u (by omega) fun h'=>ht (List.mem_append_left _ h')).trans (h.2.2 u hu fun h'=>ht (List.mem_append_right _ h'))⟩
variable {mk:Bool} {ro:Option Nat} {P:Program} {T:aE} {cl:e9} {D:List Nat} {w0:World} {K0:World→Prop} {E:List (Nat×AV)} {M:List ai} {β:Beta} {F:Nat→ak} {I:ak} {ρ:Operand→Value} {w:World} {a:Act} {sz:Nat} {ops:Array Oper} {Q:Exit→Act→World→Prop}
def Mk (mk:Bool) (ds:List Deferred) (I:ak):Prop:=match mk with
 | false=>ds=[]
 | true=>ds.Nodup∧∀ d ∈ ds,∃ b,d={ target:=.collected b,args:=#[] }∧(b,Obj.deferred (some [])) ∈ I
theorem Mk.grow {ds:List Deferred} {I I':ak} (h:Mk mk ds I) (g:bE I I'):Mk mk ds I':=by
 cases mk with
 | false=>exact h
 | true=>obtain ⟨J,rfl⟩:=g;exact ⟨h.1,fun d hd=>let ⟨b,h1,h2⟩:=h.2 d hd;⟨b,h1,List.mem_append_right _ h2⟩⟩
theorem Mk.nil (I:ak):Mk mk [] I:=by cases mk with | false=>rfl | true=>exact ⟨List.nodup_nil,fun d hd=>by cases hd⟩
theorem RE.put (size:a.tmps.size=sz) {au:Beta} {I':ak} (defers:Mk mk a.defers I') (hs:∀ t v,bM E t=some v→ao (fun w=>K0 w∧Holds w I') au v (a.eval (.tmp t))) {dst:Option Nat} (hd:fG sz dst=true) {v:Value} {av:AV} (hv:ao (fun w=>K0 w∧Holds w I') au av v):
  (a.put dst v).tmps.size=sz∧Mk mk (a.put dst v).defers I'∧∀ t u,bM (gD E dst av) t=some u→ao (fun w=>K0 w∧Holds w I') au u ((a.put dst v).eval (.tmp t)):=by
 refine ⟨by rw [E5,size],by rw [put_defers];exact defers,?_⟩
 cases dst with
 | none=>exact hs
 | some d=>
  have aF:d<sz:=by simpa [fG,Nat.blt_eq] using hd
  intro t u hx
  unfold gD bM at hx
  cases hk:d.beq t with
  | true=>
   simp only [hk,cond_true,Option.some.injEq] at hx
   subst hx
   rw [← Nat.eq_of_beq_eq_true hk,Dd a d v (by omega)];exact hv
  | false=>
   simp only [hk,cond_false] at hx
   rw [C9 a d t v (fun e=>by subst e;simp at hk)];exact hs t u hx
theorem EC {K:World→Prop} {β:Beta} {av:Option AV} {y:Value} {g:Option Bool} (h:pU av=some g) {v:AV} (hv:av=some v) (r:ao K β v y):jD y=g:=by
 subst hv
 unfold pU at h
 split at h
 ·rename_i hx;cases hx;simp only [Option.some.injEq] at h;subst h
  cases r with | d r=>cases r;rfl
 ·rename_i hx;cases hx;simp only [Option.some.injEq] at h;subst h
  cases r with | d r=>cases r;rfl
 ·simp at h
theorem j4 {o:Oper} {b:Bool} (size:a.tmps.size=sz) {K:World→Prop} (hs:∀ t v,bM E t=some v→ao K β v (a.eval (.tmp t))) (h:lX sz ops E o.guard=some b):Region.wanted o (yielded ops a.tmps)=b:=by
 unfold Region.wanted
 cases hg:o.guard with
 | none=>rw [hg] at h;simp only [lX,Option.some.injEq] at h;exact h
 | some g=>
  obtain ⟨j,want⟩:=g
  rw [hg] at h
  unfold lX at h
  cases hj:p5 ops j with
  | none=>simp [hj] at h
  | some s=>
   simp only [hj] at h
   cases bj:s.blt sz with
   | false=>simp [bj] at h
   | true=>
    simp only [bj,cond_true] at h
    have aF:s<a.tmps.size:=by rw [size];simpa [Nat.blt_eq] using bj
    have hy:∀ g,pU (bM E s)=some g→yielded ops a.tmps j=g:=by
     intro g jv
     rw [yw hj aF]
     show jD _=g
     cases hl:bM E s with
     | none=>rw [hl] at jv;simp [pU] at jv
     | some v=>exact EC jv hl (hs _ _ hl)
    split at h
    ·rename_i jv;simp only [Option.some.injEq] at h;subst h;dsimp only;rw [hy _ jv];cases want<;>rfl
    ·rename_i jv;simp only [Option.some.injEq] at h;subst h;dsimp only;rw [hy _ jv];cases want<;>rfl
    ·rename_i jv;simp only [Option.some.injEq] at h;subst h;dsimp only;rw [hy _ jv];cases want<;>rfl
    ·simp at h
theorem vo (l:List Oper):∀ (i:Nat) (oc:List (Nat×aO)) (s:RS) {s':RS},iK P T cl sz ops l i oc s=some s'→aU s'.vc→aU s.vc:=by
 induction l with
 | nil=>
  intro i oc s s' h
  simp only [iK,Option.some.injEq] at h
  subst h;exact id
 | cons o r ih=>
  intro i oc s s' h hv
  obtain ⟨vc,E,M,tc,mv⟩:=s
  unfold iK at h
  cases hd:fG sz o.dst with
  | false=>simp [hd] at h
  | true=>
   simp only [hd,cond_true] at h
   split at h
   ·split at h
    ·exact (aU.app.1 (ih _ _ _ h hv)).1
    ·simp at h
   split at h
   ·split at h
    ·rename_i out _
     cases hb:Nat.ble M.length out.M.length with
     | false=>simp [hb] at h
     | true=>simp only [hb,cond_true] at h;exact (aU.app.1 (ih _ _ _ h hv)).1
    ·simp at h
   ·have:=ih _ _ _ h hv;exact this
   ·simp at h
def ch (mk:Bool) (D:List Nat) (w0:World) (K0:World→Prop) (sz:Nat) (E:List (Nat×AV)) (M:List ai) (a:Act) (w:World):Prop:=
 a.tmps.size=sz∧∃ I,Mk mk a.defers I∧∃ β F,RM D w0 K0 M β F I w∧∀ t v,bM E t=some v→ao (fun w=>K0 w∧Holds w I) β v (a.eval (.tmp t))
abbrev dA (D:List Nat) (w0:World) (K0:World→Prop) (sz:Nat) (E:List (Nat×AV)) (M:List ai) (a:Act) (w:World):Prop:=ch false D w0 K0 sz E M a w
def cZ (mk:Bool) (D:List Nat) (w0:World) (K0:World→Prop) (sz:Nat) (b:eb) (s:RS) (a:Act) (w:World):Prop:=
 a.tmps.size=sz∧∃ I,Mk mk a.defers I∧b.m≤s.M.length∧∃ β F,RM D w0 K0 s.M β F I w∧Since b s.mv s.tc β F I∧∀ t v,bM s.E t=some v→ao (fun w=>K0 w∧Holds w I) β v (a.eval (.tmp t))
theorem ch.nc (r:ch false D w0 K0 sz E M a w):a.defers=[]:=let ⟨_,_,h,_⟩:=r;h
theorem cZ.nc {b:eb} {s:RS} (r:cZ false D w0 K0 sz b s a w):a.defers=[]:=let ⟨_,_,h,_⟩:=r;h
theorem cZ.re {b:eb} {s:RS} (r:cZ mk D w0 K0 sz b s a w):ch mk D w0 K0 sz s.E s.M a w:=let ⟨h1,I,h2,_,β,F,h3,_,h4⟩:=r;⟨h1,I,h2,β,F,h3,h4⟩
theorem ch.b (r:ch mk D w0 K0 sz E M a w) (vc:List Prop):∃ b,cZ mk D w0 K0 sz b ⟨vc,E,M,[],[]⟩ a w:=
 let ⟨h1,I,h2,β,F,h3,h4⟩:=r
 ⟨⟨β,F,I,M.length⟩,h1,I,h2,Nat.le_refl _,β,F,h3,⟨fun _ _ _ h=>h,bE.refl _,fun _ _ _=>rfl⟩,h4⟩
theorem IB {g:Operand} {args:Array Operand} {x:Value} {out:Out} (h:oN P E M (some (.aP (.v x))) g args=some out):out.av=.d (.v x)∧out.M=M∧out.mv=[]∧out.rd=none:=by
 unfold oN at h
 split at h
 ·rename_i f b4 l y _ _ xW
  simp only [Option.some.injEq,aO.aP.injEq] at xW;subst xW
  cases dL:(kN (DV.v x)&&(l++b4).all qA) with
  | false=>rw [dL] at h;cases h
  | true=>
   rw [dL] at h
   simp only [cond_true,Option.some.injEq] at h;subst h
   exact ⟨rfl,rfl,rfl,rfl⟩
 ·cases h
theorem He (hT:aR P T=true) (cA:iV P cl) {d:Option Tmp} {op:Op} {ty:TypeId} {pos:String} {aft:Array Edge} {gd:Option (Nat×Bool)} {oc:aO} {vc:List Prop} {tc:List Nat} {x:Value} (h:xe P T cl E M op oc=some (vc,tc,x)):
  sW P ⟨d,op,ty,pos,aft,gd⟩ E M ⟨vc,.d (.v x),M,tc,[],none⟩:=by
 unfold xe at h
 split at h
 ·split at h
  ·rename_i out hs
   simp only [Option.some.injEq,Prod.mk.injEq] at h
   obtain ⟨rfl,rfl,rfl⟩:=h
   obtain ⟨h1,h2,h3,h4⟩:=IB hs
   obtain ⟨vc,av,M2,tc,mv,rd⟩:=out
   dsimp only at h1 h2 h3 h4
   subst h1 h2 h3 h4
   intro D w0 K0 β F I ρ w C hv
   exact zQ hs C hv
  ·cases h
 ·split at h
  ·rename_i hs
   simp only [Option.some.injEq,Prod.mk.injEq] at h
   obtain ⟨rfl,rfl,rfl⟩:=h
   have hd:=ob (P:=P) hT cA (d:=d) (ty:=ty) (pos:=pos) (aft:=aft) (gd:=gd) hs
   have s7:=hd
   obtain ⟨-,h2,h3,-⟩:=s7
   dsimp only at h2 h3
   subst h2 h3
   intro D w0 K0 β F I ρ w C hv
   exact hd.o1 C hv
  ·cases h
theorem IC (hT:aR P T=true) (cA:iV P cl) (hK:∀ w,Kp D w0 w→K0 w) {b:eb}:∀ (l:List Oper) (i:Nat) (oc:List (Nat×aO)) (s:RS) {s':RS} (a:Act) (w:World),iK P T cl sz ops l i oc s=some s'→cZ mk D w0 K0 sz b s a w→aU s'.vc→(∀ a' w',cZ mk D w0 K0 sz b s' a' w'→Q .normal a' w')→ir P ops Q (l.map (·,false)) a w:=by
 intro l
 induction l with
 | nil=>
  intro i oc s s' a w h R _ k
  simp only [iK,Option.some.injEq] at h
  subst h
  exact k a w R
 | cons o r ih=>
  intro i oc s s' a w h R hv k
  obtain ⟨vc,E,M,tc,mv⟩:=s
  unfold iK at h
  cases hd:fG sz o.dst with
  | false=>simp [hd] at h
  | true=>
   simp only [hd,cond_true] at h
   obtain ⟨size,I,defers,hm,β,F,Rm,bV,hs⟩:=R
   dsimp only at Rm hs hm bV
   simp only [List.map_cons]
   unfold ir
   simp only [cond_false]
   have JL:iK P T cl sz ops r (i+1) oc ⟨vc,gD E o.dst (.d (.v undef)),M,tc,mv⟩=some s'→ir P ops Q (r.map (·,false)) (a.put o.dst undef) w:=by
    intro hr
    obtain ⟨e1,e2,e3⟩:=RE.put (E:=E) size defers hs hd (.d (.v undef))
    exact ih _ _ _ _ _ hr ⟨e1,I,e2,hm,β,F,Rm,bV,e3⟩ hv k
   have ft:∀ out:Out,step P T cl E M (ma oc i) o.op=some out→(bif Nat.ble M.length out.M.length then iK P T cl sz ops r (i+1) oc ⟨vc++out.vc,gD (oI out.mv E) o.dst out.av,out.M,out.tc++tc,out.mv++mv⟩ else none)=some s'→aQ P o a.eval w fun v w'=>ir P ops Q (r.map (·,false)) (a.put o.dst v) w':=by
    intro out a8 hr
    cases hb:Nat.ble M.length out.M.length with
    | false=>simp [hb] at hr
    | true=>
    simp only [hb,cond_true] at hr
    have hlen:=Nat.le_of_ble_eq_true hb
    have C:Ctx D w0 K0 E M β F I a.eval w:=⟨Rm,hs,fun _=>rfl,fun _=>rfl,fun _=>rfl,hK⟩
    have kW:=(aU.app.1 (vo _ _ _ _ hr hv)).2
    have:=(ob (P:=P) hT cA (d:=o.dst) (ty:=o.type) (pos:=o.pos) (aft:=o.after) (gd:=o.guard) a8).o1 C kW
    refine aQ.mono this fun v w' ⟨au,F',I',R',e,hI,hF,mD⟩=>?_
    have hk:=tY (ρ:=a.eval) e hs
    obtain ⟨e1,e2,e3⟩:=RE.put size (defers.grow hI) (fun t v hx=>(hk t v hx).mono (fun w hw=>⟨hw.1,hI.holds w hw.2⟩) (Ext.refl _)) hd mD
    exact ih _ _ _ _ _ hr ⟨e1,I',e2,Nat.le_trans hm hlen,au,F',R',bV.step hm e hI hF,e3⟩ hv k
   split at h
   ·rename_i c oo xW
    split at h
    rotate_left
    ·simp at h
    rename_i mC qK x y want KI jT
    have gi:=(aU.app.1 (vo _ _ _ _ h hv)).2
    obtain ⟨hc,cY,-⟩:=gi
    have C:Ctx D w0 K0 E M β F I a.eval w:=⟨Rm,hs,fun _=>rfl,fun _=>rfl,fun _=>rfl,hK⟩
    unfold Ar at jT
    split at jT
    rotate_left
    ·cases jT
    rename_i j MT hg
    split at jT
    rotate_left
    ·cases jT
    rename_i s0 hj
    cases bj:s0.blt sz with
    | false=>simp [bj] at jT
    | true=>
    simp only [bj,cond_true] at jT
    split at jT
    rotate_left
    ·cases jT
    rename_i y' JM
    simp only [Option.some.injEq,Prod.mk.injEq] at jT
    obtain ⟨rfl,rfl⟩:=jT
    have aF:s0<a.tmps.size:=by rw [size];simpa [Nat.blt_eq] using bj
    have xx:yielded ops a.tmps j=jD y':=by
     rw [yw hj aF]
     have hr:=hs _ _ JM
     generalize a.eval (.tmp s0)=z at hr
     cases hr with | d hr=>cases hr;rfl
    split
    ·rename_i qL;rw [hg] at qL;cases qL
    ·rename_i j2 MU qL
     rw [hg] at qL;cases qL
     refine ⟨fun hn=>?_,fun hn=>?_⟩
     ·have CC:c=true:=by rw [← hc,beq_iff_eq,← xx];exact hn
      subst CC
      have:=He hT cA (d:=o.dst) (ty:=o.type) (pos:=o.pos) (aft:=o.after) (gd:=o.guard) KI C (cY rfl)
      refine aQ.mono this fun v w' ⟨au,F',I',R',e,hI,hF,mD⟩=>?_
      obtain ⟨e1,e2,e3⟩:=RE.put (E:=E) size (defers.grow hI) (fun t v hx=>(hs t v hx).mono (fun w hw=>⟨hw.1,hI.holds w hw.2⟩) (fun u x hx=>e u x (by simp) hx)) hd mD
      exact ih _ _ _ _ _ h ⟨e1,I',e2,hm,au,F',R',bV.step (mv':=[]) hm e hI hF,e3⟩ hv k
     ·have LL:c=false:=by rw [← hc,beq_eq_false_iff_ne,← xx];exact hn
      subst LL
      obtain ⟨e1,e2,e3⟩:=RE.put (E:=E) size defers hs hd (.d (.v undef))
      exact ih _ _ _ _ _ h ⟨e1,I,e2,hm,β,F,Rm,⟨bV.1,bV.2.1,fun u hu ht=>bV.2.2 u hu fun h'=>ht (List.mem_append_right _ h')⟩,e3⟩ hv k
   split at h
   ·rename_i hw
    have er:=j4 (ops:=ops) size hs hw
    split at h
    ·rename_i out a8
     have CD:=ft out a8 h
     split
     ·exact CD
     ·rename_i j want hg
      refine ⟨fun _=>CD,fun hn=>?_⟩
      simp only [Region.wanted,hg,beq_iff_eq] at er
      exact absurd er hn
    ·simp at h
   ·rename_i hw
    have er:=j4 (ops:=ops) size hs hw
    split
    ·rename_i hg;simp [Region.wanted,hg] at er
    ·rename_i j want hg
     refine ⟨fun hn=>?_,fun _=>JL h⟩
     simp only [Region.wanted,hg,beq_eq_false_iff_ne] at er
     exact absurd hn er
   ·simp at h
theorem KJ (hT:aR P T=true) (cA:iV P cl) (hK:∀ w,Kp D w0 w→K0 w) {b:eb} {s:RS} (R:cZ mk D w0 K0 sz b s a w) (oc:List (Nat×aO)) {id:Nat} {s':RS} (h:iK P T cl sz ops ops.toList 0 oc s=some s') (hv:aU s'.vc) (k:∀ a' w',cZ mk D w0 K0 sz b s' a' w'→Q .normal a' w'):(Code.region id ops false).wpIn (Fl ro) 0 P Q a w:=
 Dn (IC hT cA hK _ _ _ _ a w h R hv k)
def lN (P:Program) (ops:Array Oper) (Rk:World→Prop) (o:Oper) (v:Value) (a:Act):Prop:=
 (Region.wanted o (yielded ops a.tmps)=true∧∀ w,Rk w→(execOp a.eval o).run P w=.ok (.value v) w)∨(Region.wanted o (yielded ops a.tmps)=false∧v=undef)
theorem lN.wpOp {Rk:World→Prop} {i:Nat} {o:Oper} {v:Value} (hi:ops[i]?=some o) (hy:lN P ops Rk o v a) {K:Act→World→Prop} (hR:Rk w) (h:K (a.put o.dst v) w):Go.wpOpIn (Fl ro) 0 P ops Q i K a w:=by
 unfold Go.wpOpIn
 simp only [hi]
 rcases hy with hy | ⟨hy,rfl⟩
 ·simp only [hy.1,if_true]
  refine ⟨fun _ _=>trivial,?_⟩
  rw [show (Fl ro).round=ro from rfl,GJ (hy.2 w hR)];exact h
 ·simp only [hy,Bool.false_eq_true,if_false];exact ⟨fun _ _=>trivial,h⟩
theorem yf {Rk:World→Prop} {i:Nat} {oi:Oper} {v:Value} (hi:ops[i]?=some oi) (gF:∀ (j:Nat) (o:Oper) cs b,ops[j]?=some o→o.op≠.select cs b)
  (hQ:∀ c a w,Q (.panic c) (a.put oi.dst v) w→Q (.panic c) a w):
  ∀ (fuel:Nat) (L:Array Bool) (a:Act) (w:World),
   (∀ j oj,ops[j]?=some oj→j≠i→L.getD j true=false→(∀ e ∈ oj.after,Region.binds .any e=true→e.on≠i)→oi.apart ops oj=true)→
   i ∈ Region.ready .any ops L→lN P ops Rk oi v a→
   jB ro P ops Q Rk fuel (L.setIfInBounds i true) (a.put oi.dst v) w→jB ro P ops Q Rk (fuel+1) L a w:=by
 intro fuel
 induction fuel with
 | zero=>
  intro L a w _ hr hy H
  refine ⟨H.rk,fun h=>(by rw [h] at hr;cases hr),fun j hj=>?_⟩
  by_cases fN:j=i
  ·subst fN;exact hy.wpOp hi H.rk H
  ·have:=ready_mono hj fN
   rw [H.2.1] at this
   cases this
 | succ fuel ih=>
  intro L a w kO hr hy H
  refine ⟨H.rk,fun h=>(by rw [h] at hr;cases hr),fun j hj=>?_⟩
  by_cases fN:j=i
  ·subst fN;exact hy.wpOp hi H.rk H
  ·have h1:=H.2.2 j (ready_mono hj fN)
   obtain ⟨qs,oj,mE,fY⟩:=mem_ready.1 hj
   have sK:∀ e ∈ oj.after,Region.binds .any e=true→e.on≠i:=fun e he hb heq=>by
    have h1:=fY e he hb
    have h0:=(mem_ready.1 hr).1
    rw [heq] at h1
    rcases Nat.lt_or_ge i L.size with h' | h'
    ·simp [h'] at h0 h1;rw [h0] at h1;cases h1
    ·simp [Array.getElem?_eq_none h'] at h1
   have k7:=kO j oj mE fN qs sK
   obtain ⟨_,_,h3⟩:=Oper.apart_spec k7
   have h2:=yi (Y:=lN P ops Rk oi v) mE k7 (fun cs b=>gF j oj cs b mE)
    (fun a hy u=>by unfold lN at *;rw [execOp_put oi (fun cs b=>gF i oi cs b hi) a oj.dst u h3,wanted_put oi a oj.dst u h3];exact hy) (fun a d hy=>hy) hQ hy h1
   have vp:∀ k ok,ops[k]?=some ok→k≠i→(L.setIfInBounds j true).getD k true=false→
     (∀ e ∈ ok.after,Region.binds .any e=true→e.on≠i)→oi.apart ops ok=true:=fun k ok hk xX lf jb=>by
    refine kO k ok hk xX ?_ jb
    by_cases mA:j=k
    ·subst mA;exact qs
    ·rw [getD_set_ne true mA] at lf;exact lf
   refine wpOpIn_mono (fun a' w' h3=>ih (L.setIfInBounds j true) a' w' vp (ready_mono hr (Ne.symm fN)) h3.1 ?_) h2
   rw [Array.setIfInBounds_comm _ _ fN]
   exact h3.2
def kJ:Op→Bool
 | .move _=>true
 | .assign _=>true
 | .pick _ _ _=>true
 | .load _ _=>true
 | .nilCheck _=>true
 | .binOp _ _ _ _ _=>true
 | .unOp _ _ _=>true
 | .fieldAddr _ _ _=>true
 | .indexAddr _ _ _=>true
 | .extract _ _=>true
 | .makeFunc _ _ _=>true
 | .build _ _=>true
 | .slice _ _ _ _ _=>true
 | .index _ _ _=>true
 | .field _ _ _=>true
 | .convert _ _ _=>true
 | .call ⟨.builtin .len,_,_⟩=>true
 | _=>false
def lD (ops:Array Oper) (L:Array Bool):List Nat→Option Nat
 | []=>none
 | i::r=>(match ops[i]? with | some o=>bif kJ o.op&&Region.free .any ops L i then some i else lD ops L r | none=>lD ops L r)
inductive qM where
 | fin
 | look (i:Nat)
 | one (i:Nat)
 | bad
def qt (ops:Array Oper) (L:Array Bool):List Nat→qM
 | []=>.fin
 | [i]=>.one i
 | i::k::r=>(match lD ops L (i::k::r) with
  | some j=>.look j
  | none=>.bad)
def qN (ops:Array Oper) (L:Array Bool):qM:=qt ops L (Region.ready .any ops L)
def xf (rd tc:List Nat):Bool:=rd.all fun u=>!(tc.elem u)
def mb (ops:Array Oper) (k i:Nat):Bool:=match ops[k]? with
 | some o=>!(kJ o.op)&&o.after.any fun e=>Region.binds .any e&&Nat.beq e.on i
 | none=>false
def ib (ops:Array Oper) (i:Nat) (L:Array Bool):Bool:=(List.range ops.size).all fun k=>!(mb ops k i&&L.getD k true)
theorem yE {i:Nat} {L:Array Bool}:ib ops i L=true↔∀ k,k<ops.size→mb ops k i=true→L.getD k true=false:=by
 unfold ib
 rw [List.all_eq_true]
 constructor
 ·intro h k hk hd
  have:=h k (List.mem_range.2 hk)
  rw [hd] at this;simpa using this
 ·intro h k hk
  cases hd:mb ops k i with
  | false=>rfl
  | true=>rw [h k (List.mem_range.1 hk) hd];rfl
theorem pC {i j:Nat} {L:Array Bool} (hd:mb ops j i=false) (h:ib ops i L=true):ib ops i (L.setIfInBounds j true)=true:=by
 rw [yE] at *
 intro k hk ez
 rw [getD_set_ne true (fun e=>by subst e;rw [hd] at ez;cases ez)]
 exact h k hk ez
theorem rG {i j:Nat} {o:Oper} (ho:ops[j]?=some o) (hp:kJ o.op=true):mb ops j i=false:=by unfold mb;rw [ho];simp [hp]
theorem ID {i j:Nat} {o:Oper} (ho:ops[j]?=some o) (jb:∀ e ∈ o.after,Region.binds .any e=true→e.on≠i):mb ops j i=false:=by
 unfold mb;rw [ho]
 simp only [Bool.and_eq_false_iff]
 refine .inr ?_
 rw [Array.any_eq_false]
 intro q hq h
 simp only [Bool.and_eq_true] at h
 exact jb _ (Array.getElem_mem hq) h.1 (Nat.eq_of_beq_eq_true h.2)
def Sub (L L':Array Bool):Prop:=∀ k,L.getD k true=true→L'.getD k true=true
theorem Sub.refl (L:Array Bool):Sub L L:=fun _ h=>h
theorem Sub.rZ {L L':Array Bool} {j:Nat} (h:Sub (L.setIfInBounds j true) L'):Sub L L':=fun k hk=>h k (by
 by_cases e:j=k
 ·subst e
  rcases Nat.lt_or_ge j L.size with h' | h'
  ·simp [h']
  ·simp [h']
 ·rw [getD_set_ne true e];exact hk)
theorem DU {i:Nat} {L L':Array Bool} (h:Sub L L') (ha:ib ops i L'=true):ib ops i L=true:=by
 rw [yE] at *
 intro k hk hd
 cases e:L.getD k true with
 | false=>rfl
 | true=>have h1:=ha k hk hd;rw [h k e] at h1;cases h1
def wv (ops:Array Oper) (L:Array Bool) (rd:List (Nat×Nat)) (tc:List Nat):Bool:=rd.all fun q=>!(tc.elem q.2)||!(ib ops q.1 L)
def jE (ro:Option Nat) (P:Program) (ops:Array Oper) (Q:Exit→Act→World→Prop) (Rk:Array Bool→World→Prop):Nat→Array Bool→Act→World→Prop
 | 0,L,a,w=>Rk L w∧Region.ready .any ops L=[]∧Q .normal a w
 | fuel+1,L,a,w=>Rk L w∧(Region.ready .any ops L=[]→Q .normal a w)∧∀ i ∈ Region.ready .any ops L,wpOpIn (Fl ro) 0 P ops Q i (jE ro P ops Q Rk fuel (L.setIfInBounds i true)) a w
theorem jE.rk {Rk:Array Bool→World→Prop} {fuel:Nat} {L:Array Bool} {a:Act} {w:World} (h:jE ro P ops Q Rk fuel L a w):Rk L w:=by cases fuel<;>exact h.1
theorem jE.to {Rk:Array Bool→World→Prop}:∀ {fuel:Nat} {L:Array Bool} {a:Act} {w:World},jE ro P ops Q Rk fuel L a w→wpAnyIn (Fl ro) 0 P .any ops Q fuel L a w
 | 0,_,_,_,h=>h.2
 | _+1,_,_,_,h=>⟨h.2.1,fun i hi=>wpOpIn_mono (fun _ _ h=>jE.to h) (h.2.2 i hi)⟩
theorem yn {Rk qw:Array Bool→World→Prop} (h:∀ L w,qw L w→Rk L w):∀ {fuel:Nat} {L:Array Bool} {a:Act} {w:World},jE ro P ops Q qw fuel L a w→jE ro P ops Q Rk fuel L a w
 | 0,_,_,_,k=>⟨h _ _ k.1,k.2⟩
 | _+1,_,_,_,k=>⟨h _ _ k.1,k.2.1,fun i hi=>wpOpIn_mono (fun _ _ k=>yn h k) (k.2.2 i hi)⟩
theorem yh {Rk:Array Bool→World→Prop} {S:World→Prop} {i:Nat} {oi:Oper} {v:Value} (hi:ops[i]?=some oi) (hp:kJ oi.op=true) (gF:∀ (j:Nat) (o:Oper) cs b,ops[j]?=some o→o.op≠.select cs b)
  (hQ:∀ c a w,Q (.panic c) (a.put oi.dst v) w→Q (.panic c) a w) (CE:∀ L w,ib ops i L=true→Rk L w→S w) (A4:∀ L w,Rk (L.setIfInBounds i true) w→Rk L w):
  ∀ (fuel:Nat) (L:Array Bool) (a:Act) (w:World),
   (∀ j oj,ops[j]?=some oj→j≠i→L.getD j true=false→(∀ e ∈ oj.after,Region.binds .any e=true→e.on≠i)→oi.apart ops oj=true)→
   i ∈ Region.ready .any ops L→ib ops i L=true→lN P ops S oi v a→
   jE ro P ops Q Rk fuel (L.setIfInBounds i true) (a.put oi.dst v) w→jE ro P ops Q Rk (fuel+1) L a w:=by
 intro fuel
 induction fuel with
 | zero=>
  intro L a w _ hr dw hy H
  refine ⟨A4 _ _ H.rk,fun h=>(by rw [h] at hr;cases hr),fun j hj=>?_⟩
  by_cases fN:j=i
  ·subst fN;exact hy.wpOp hi (CE _ _ (pC (rG hi hp) dw) H.rk) H
  ·have:=ready_mono hj fN
   rw [H.2.1] at this
   cases this
 | succ fuel ih=>
  intro L a w kO hr dw hy H
  refine ⟨A4 _ _ H.rk,fun h=>(by rw [h] at hr;cases hr),fun j hj=>?_⟩
  by_cases fN:j=i
  ·subst fN;exact hy.wpOp hi (CE _ _ (pC (rG hi hp) dw) H.rk) H
  ·have h1:=H.2.2 j (ready_mono hj fN)
   obtain ⟨qs,oj,mE,fY⟩:=mem_ready.1 hj
   have sK:∀ e ∈ oj.after,Region.binds .any e=true→e.on≠i:=fun e he hb heq=>by
    have h1:=fY e he hb
    have h0:=(mem_ready.1 hr).1
    rw [heq] at h1
    rcases Nat.lt_or_ge i L.size with h' | h'
    ·simp [h'] at h0 h1;rw [h0] at h1;cases h1
    ·simp [Array.getElem?_eq_none h'] at h1
   have k7:=kO j oj mE fN qs sK
   obtain ⟨_,_,h3⟩:=Oper.apart_spec k7
   have h2:=yi (Y:=lN P ops S oi v) mE k7 (fun cs b=>gF j oj cs b mE)
    (fun a hy u=>by unfold lN at *;rw [execOp_put oi (fun cs b=>gF i oi cs b hi) a oj.dst u h3,wanted_put oi a oj.dst u h3];exact hy) (fun a d hy=>hy) hQ hy h1
   have vp:∀ k ok,ops[k]?=some ok→k≠i→(L.setIfInBounds j true).getD k true=false→
     (∀ e ∈ ok.after,Region.binds .any e=true→e.on≠i)→oi.apart ops ok=true:=fun k ok hk xX lf jb=>by
    refine kO k ok hk xX ?_ jb
    by_cases mA:j=k
    ·subst mA;exact qs
    ·rw [getD_set_ne true mA] at lf;exact lf
   refine wpOpIn_mono (fun a' w' h3=>ih (L.setIfInBounds j true) a' w' vp (ready_mono hr (Ne.symm fN)) (pC (ID mE sK) dw) h3.1 ?_) h2
   rw [Array.setIfInBounds_comm _ _ fN]
   exact h3.2
def JN (ops:Array Oper) (K0:World→Prop) (I:ak) (F:Nat→ak) (rd:List (Nat×Nat)) (L:Array Bool) (w:World):Prop:=(K0 w∧Holds w I)∧∀ q ∈ rd,ib ops q.1 L=true→Holds w (F q.2)
def jn (P:Program) (T:aE) (cl:e9) (sz:Nat) (ops:Array Oper) (oc:List (Nat×aO)):Nat→Array Bool→List (Nat×Nat)→RS→Option RS
 | 0,L,_,s=>(match qN ops L with | .fin=>some s | _=>none)
 | fuel+1,L,rd,⟨vc,E,M,tc,mv⟩=>
  match qN ops L with
  | .fin=>some ⟨vc,E,M,tc,mv⟩
  | .bad=>none
  | .look i=>(match ops[i]? with
   | some o=>(bif fG sz o.dst&&(kJ o.op&&ib ops i L) then (match lX sz ops E o.guard with
    | some true=>(match step P T cl E M (ma oc i) o.op with
     | some ⟨mC,av,_,_,_,some jU⟩=>jn P T cl sz ops oc fuel (L.setIfInBounds i true) (jU.map (fun u=>(i,u))++rd) ⟨vc++mC,gD E o.dst av,M,tc,mv⟩
     | _=>none)
    | some false=>jn P T cl sz ops oc fuel (L.setIfInBounds i true) rd ⟨vc,gD E o.dst (.d (.v undef)),M,tc,mv⟩
    | none=>none) else none)
   | none=>none)
  | .one i=>(match ops[i]? with
   | some o=>(bif fG sz o.dst then (match lX sz ops E o.guard with
    | some true=>(match step P T cl E M (ma oc i) o.op with
     | some out=>(bif wv ops (L.setIfInBounds i true) rd out.tc&&Nat.ble M.length out.M.length then jn P T cl sz ops oc fuel (L.setIfInBounds i true) rd ⟨vc++out.vc,gD (oI out.mv E) o.dst out.av,out.M,out.tc++tc,out.mv++mv⟩ else none)
     | none=>none)
    | some false=>jn P T cl sz ops oc fuel (L.setIfInBounds i true) rd ⟨vc,gD E o.dst (.d (.v undef)),M,tc,mv⟩
    | none=>none) else none)
   | none=>none)
theorem nU {L:Array Bool}:∀ {r:List Nat} {i:Nat},lD ops L r=some i→i ∈ r∧∃ o,ops[i]?=some o∧Region.free .any ops L i=true
 | [],_,h=>by simp [lD] at h
 | j::r,i,h=>by
  unfold lD at h
  split at h
  ·rename_i o ho
   cases hc:(kJ o.op&&Region.free .any ops L j) with
   | true=>simp only [hc,cond_true,Option.some.injEq] at h;subst h;simp only [Bool.and_eq_true] at hc;exact ⟨List.mem_cons_self,o,ho,hc.2⟩
   | false=>simp only [hc,cond_false] at h;exact ⟨List.mem_cons_of_mem _ (nU h).1,(nU h).2⟩
  ·exact ⟨List.mem_cons_of_mem _ (nU h).1,(nU h).2⟩
theorem uG {L:Array Bool} {r:List Nat} {n:qM}:qt ops L r=n→match n with | .fin=>r=[] | .look i=>i ∈ r∧∃ o,ops[i]?=some o∧Region.free .any ops L i=true | .one i=>r=[i] | .bad=>True:=by
 intro h
 match r,h with
 | [],h=>simp only [qt] at h;subst h;rfl
 | [i],h=>simp only [qt] at h;subst h;rfl
 | i::k::r,h=>
  rw [qt] at h
  cases hf:lD ops L (i::k::r) with
  | some j=>rw [hf] at h;subst h;exact nU hf
  | none=>rw [hf] at h;subst h;trivial
theorem z7 {L:Array Bool} (h:qN ops L=.fin):Region.ready .any ops L=[]:=uG h
theorem FT {L:Array Bool} {i:Nat} (h:qN ops L=.look i):i ∈ Region.ready .any ops L∧∃ o,ops[i]?=some o∧Region.free .any ops L i=true:=uG h
theorem Hf {L:Array Bool} {i:Nat} (h:qN ops L=.one i):Region.ready .any ops L=[i]:=uG h
theorem uH {oc:List (Nat×aO)}:∀ (fuel:Nat) (L:Array Bool) (rd:List (Nat×Nat)) (s:RS) {s':RS},jn P T cl sz ops oc fuel L rd s=some s'→aU s'.vc→aU s.vc:=by
 intro fuel
 induction fuel with
 | zero=>
  intro L rd s s' h hv
  unfold jn at h
  split at h
  ·simp only [Option.some.injEq] at h;subst h;exact hv
  ·simp at h
 | succ fuel ih=>
  intro L rd s s' h hv
  obtain ⟨vc,E,M,tc,mv⟩:=s
  unfold jn at h
  split at h
  ·simp only [Option.some.injEq] at h;subst h;exact hv
  ·simp at h
  ·rename_i i _
   split at h
   ·rename_i o ho
    cases hd:(fG sz o.dst&&(kJ o.op&&ib ops i L)) with
    | false=>simp [hd] at h
    | true=>
     simp only [hd,cond_true] at h
     split at h
     ·split at h
      ·exact (aU.app.1 (ih _ _ _ h hv)).1
      ·simp at h
     ·have:=ih _ _ _ h hv;exact this
     ·simp at h
   ·simp at h
  ·rename_i i _
   split at h
   ·rename_i o ho
    cases hd:fG sz o.dst with
    | false=>simp [hd] at h
    | true=>
     simp only [hd,cond_true] at h
     split at h
     ·split at h
      ·rename_i out _
       cases hc:(wv ops (L.setIfInBounds i true) rd out.tc&&Nat.ble M.length out.M.length) with
       | false=>simp [hc] at h
       | true=>simp only [hc,cond_true] at h;exact (aU.app.1 (ih _ _ _ h hv)).1
      ·simp at h
     ·have:=ih _ _ _ h hv;exact this
     ·simp at h
   ·simp at h
theorem Hg (hT:aR P T=true) (cA:iV P cl) {b:eb} (hK:∀ w,Kp D w0 w→K0 w) (gF:Region.noSelect ops=true) (hQ:∀ d v c a w,Q (.panic c) (Act.put a d v) w→Q (.panic c) a w) {oc:List (Nat×aO)}:
  ∀ (fuel:Nat) (L:Array Bool) (rd:List (Nat×Nat)) (s:RS) {s':RS} (Rk:Array Bool→World→Prop) (β:Beta) (F:Nat→ak) (I:ak) (a:Act) (w:World),jn P T cl sz ops oc fuel L rd s=some s'→a.tmps.size=sz→Mk mk a.defers I→b.m≤s.M.length→RM D w0 K0 s.M β F I w→Since b s.mv s.tc β F I→
   (∀ t v,bM s.E t=some v→ao (fun w=>K0 w∧Holds w I) β v (a.eval (.tmp t)))→(∀ q ∈ rd,q.2<s.M.length)→(∀ L' w,Sub L L'→JN ops K0 I F rd L' w→Rk L' w)→(∀ (j:Nat) oj,ops[j]?=some oj→kJ oj.op=true→∀ L' w,Rk (L'.setIfInBounds j true) w→Rk L' w)→aU s'.vc→(∀ a' w',cZ mk D w0 K0 sz b s' a' w'→Q .normal a' w')→jE ro P ops Q Rk fuel L a w:=by
 intro fuel
 induction fuel with
 | zero=>
  intro L rd s s' Rk β F I a w h size defers hm Rm bV hs dF fv nI hv k
  obtain ⟨vc,E,M,tc,mv⟩:=s
  have C:Ctx D w0 K0 E M β F I a.eval w:=⟨Rm,hs,fun _=>rfl,fun _=>rfl,fun _=>rfl,hK⟩
  have hR:=fv L w (Sub.refl L) ⟨C.now,fun q hq _=>C.rm.hC (List.getElem?_eq_getElem (dF q hq))⟩
  unfold jn at h
  split at h
  ·rename_i hn
   simp only [Option.some.injEq] at h;subst h
   exact ⟨hR,z7 hn,k a w ⟨size,I,defers,hm,β,F,Rm,bV,hs⟩⟩
  ·simp at h
 | succ fuel ih=>
  intro L rd s s' Rk β F I a w h size defers hm Rm bV hs dF fv nI hv k
  obtain ⟨vc,E,M,tc,mv⟩:=s
  dsimp only at hm Rm bV hs dF fv
  have C:Ctx D w0 K0 E M β F I a.eval w:=⟨Rm,hs,fun _=>rfl,fun _=>rfl,fun _=>rfl,hK⟩
  have hR:=fv L w (Sub.refl L) ⟨C.now,fun q hq _=>C.rm.hC (List.getElem?_eq_getElem (dF q hq))⟩
  unfold jn at h
  split at h
  ·rename_i hn
   simp only [Option.some.injEq] at h;subst h
   have hn:=z7 hn
   exact ⟨hR,fun _=>k a w ⟨size,I,defers,hm,β,F,Rm,bV,hs⟩,fun i hi=>by rw [hn] at hi;cases hi⟩
  ·simp at h
  ·rename_i i hn
   obtain ⟨qO,o',LM,kO⟩:=FT hn
   split at h
   ·rename_i o ho
    cases s8:(fG sz o.dst&&(kJ o.op&&ib ops i L)) with
    | false=>simp [s8] at h
    | true=>
     simp only [s8,cond_true] at h
     simp only [Bool.and_eq_true] at s8
     obtain ⟨hd,qP,dw⟩:=s8
     have nx:=fun j oj hj jr lf jb=>Region.free_spec ho kO j oj hj jr lf jb
     split at h
     ·rename_i hw
      have er:=j4 (ops:=ops) size hs hw
      split at h
      ·rename_i mC av _ _ _ jU a8
       have nJ:=ob (P:=P) hT cA (d:=o.dst) (ty:=o.type) (pos:=o.pos) (aft:=o.after) (gd:=o.guard) a8
       obtain ⟨xg,rfl,-,aF⟩:=nJ
       have kW:=(aU.app.1 (uH _ _ _ _ h hv)).2
       obtain ⟨v,kU,l5⟩:=xg C kW
       obtain ⟨e1,e2,e3⟩:=RE.put (E:=E) size defers hs hd kU
       have kd:=ih (L.setIfInBounds i true) _ _ (fun L w=>Rk L w∧(ib ops i L=true→ie K0 I F jU w)) β F I (a.put o.dst v) w h e1 e2 hm Rm bV e3 (fun q hq=>by
         rcases List.mem_append.1 hq with e | e
         ·obtain ⟨u,hu,rfl⟩:=List.mem_map.1 e;exact aF u hu
         ·exact dF q e)
        (fun L' w hL hw=>⟨fv L' w hL.rZ ⟨hw.1,fun q hq=>hw.2 q (List.mem_append_right _ hq)⟩,fun ha=>⟨hw.1,fun u hu=>hw.2 (i,u) (List.mem_append_left _ (List.mem_map.2 ⟨u,hu,rfl⟩)) ha⟩⟩)
        (fun j oj hj CF L' w hw=>⟨nI j oj hj CF L' w hw.1,fun ha=>hw.2 (pC (rG hj CF) ha)⟩) hv k
       exact yn (fun L w hw=>hw.1) (yh ho qP (Region.noSelect_spec gF) (hQ o.dst v) (fun L w ha hw=>hw.2 ha) (fun L w hw=>⟨nI i o ho qP L w hw.1,fun ha=>hw.2 (pC (rG ho qP) ha)⟩) _ L a w nx qO dw (Or.inl ⟨er,fun w' dv=>l5 w' dv⟩) kd)
      ·simp at h
     ·rename_i hw
      have er:=j4 (ops:=ops) size hs hw
      obtain ⟨e1,e2,e3⟩:=RE.put (E:=E) size defers hs hd (.d (.v undef))
      have kd:=ih (L.setIfInBounds i true) _ _ Rk β F I (a.put o.dst undef) w h e1 e2 hm Rm bV e3 dF (fun L' w hL=>fv L' w hL.rZ) nI hv k
      exact yh (S:=fun _=>True) ho qP (Region.noSelect_spec gF) (hQ o.dst undef) (fun _ _ _ _=>trivial) (nI i o ho qP) _ L a w nx qO dw (Or.inr ⟨er,rfl⟩) kd
     ·simp at h
   ·simp at h
  ·rename_i i hn
   have dt:=Hf hn
   split at h
   ·rename_i o ho
    cases hd:fG sz o.dst with
    | false=>simp [hd] at h
    | true=>
     simp only [hd,cond_true] at h
     refine ⟨hR,fun h0=>(by rw [dt] at h0;simp at h0),fun j hj=>?_⟩
     rw [dt] at hj
     obtain rfl:=List.mem_singleton.1 hj
     unfold wpOpIn
     simp only [ho]
     split at h
     ·rename_i hw
      have er:=j4 (ops:=ops) size hs hw
      simp only [er,if_true]
      split at h
      ·rename_i out a8
       cases hc:(wv ops (L.setIfInBounds j true) rd out.tc&&Nat.ble M.length out.M.length) with
       | false=>simp [hc] at h
       | true=>
        simp only [hc,cond_true] at h
        simp only [Bool.and_eq_true] at hc
        have hlen:=Nat.le_of_ble_eq_true hc.2
        have kW:=(aU.app.1 (uH _ _ _ _ h hv)).2
        have nJ:=(ob (P:=P) hT cA (d:=o.dst) (ty:=o.type) (pos:=o.pos) (aft:=o.after) (gd:=o.guard) a8).o1 C kW
        refine aQ.wp nJ ?_
        rintro v w' ⟨au,F',I',R',e,hI,hF,mD⟩
        have hk:=tY (ρ:=a.eval) e hs
        obtain ⟨e1,e2,e3⟩:=RE.put size (defers.grow hI) (fun t v hx=>(hk t v hx).mono (fun w hw=>⟨hw.1,hI.holds w hw.2⟩) (Ext.refl _)) hd mD
        refine ih (L.setIfInBounds j true) _ _ Rk au F' I' (a.put o.dst v) w' h e1 e2 (Nat.le_trans hm hlen) R' (bV.step hm e hI hF) e3 (fun q hq=>Nat.lt_of_lt_of_le (dF q hq) hlen) (fun L' w hL hw=>fv L' w hL.rZ ⟨⟨hw.1.1,hI.holds w hw.1.2⟩,fun q hq ha=>?_⟩) nI hv k
        have xY:q.2 ∉ out.tc:=by
         have h1:=List.all_eq_true.1 hc.1 q hq
         rw [DU hL ha] at h1
         simpa using h1
        rw [← hF q.2 (dF q hq) xY];exact hw.2 q hq ha
      ·simp at h
     ·rename_i hw
      have er:=j4 (ops:=ops) size hs hw
      simp only [er,Bool.false_eq_true,if_false]
      obtain ⟨e1,e2,e3⟩:=RE.put (E:=E) size defers hs hd (.d (.v undef))
      exact ⟨fun _ _=>trivial,ih (L.setIfInBounds j true) _ _ Rk β F I (a.put o.dst undef) w h e1 e2 hm Rm bV e3 dF (fun L' w hL=>fv L' w hL.rZ) nI hv k⟩
     ·simp at h
   ·simp at h
theorem KK (hT:aR P T=true) (cA:iV P cl) (hm:P.follows .mixedOrders=true) (hK:∀ w,Kp D w0 w→K0 w) (hQ:∀ d v c a w,Q (.panic c) (Act.put a d v) w→Q (.panic c) a w) {b:eb} {s:RS} (R:cZ mk D w0 K0 sz b s a w) (oc:List (Nat×aO)) {id:Nat} {s':RS} (gF:Region.noSelect ops=true)
  (h:jn P T cl sz ops oc ops.size (Array.replicate ops.size false) [] s=some s') (hv:aU s'.vc) (k:∀ a' w',cZ mk D w0 K0 sz b s' a' w'→Q .normal a' w'):(Code.region id ops true).wpIn (Fl ro) 0 P Q a w:=by
 refine wpIn_region_any hm ?_
 obtain ⟨size,I,defers,hb,β,F,Rm,bV,hs⟩:=R
 have hg:=Gr.drew w
 exact (Hg hT cA hK gF hQ ops.size _ [] s (fun _ _=>True) β F I a w.drew h size defers hb (Rm.gr hg) bV hs (by simp) (fun _ _ _ _=>trivial) (fun _ _ _ _ _ _ _=>trivial) hv k).to
end Go.Proofs.YtcnpikbbmbombaaDoor
namespace Go.Proofs.YtcnpikbbmbombaaDoor
open Go.RowKit
inductive eO where
 | ends (R:Ending→World→Prop)
 | arr (l:Nat) (k:List Item) (Q:Act→World→Prop)
def eO.ro:eO→Option Nat
 | .ends _=>none
 | .arr l _ _=>some l
def eO.met (P:Program) (f:FuncId) (b:Frame) (cs:List Frame):eO→Machine→Prop
 | .ends R,s=>∃ e w' fr,R e w'∧Comes P s (lone fr cs w') e∧fr.fn=f∧fr.leaving P w' e
 | .arr _ k Q,s=>∃ a' w',Q a' w'∧Steps P s (lone (b.atR a' k) cs w')
theorem eO.met.of {P:Program} {f:FuncId} {b:Frame} {cs:List Frame} {G:eO} {s s':Machine} (h:Steps P s s') (g:G.met P f b cs s'):G.met P f b cs s:=by
 cases G with
 | ends R=>obtain ⟨e,w',fr,h1,h2,h3⟩:=g;exact ⟨e,w',fr,h1,.of_steps h h2,h3⟩
 | arr l k Q=>obtain ⟨a',w',h1,h2⟩:=g;exact ⟨a',w',h1,h.trans h2⟩
def aC (P:Program) (f:FuncId) (todo:List Item) (R:eO) (a:Act) (w:World):Prop:=
 ∀ (b:Frame) (cs:List Frame),b.fn=f→b.kind=.normal→b.roundOf=R.ro→R.met P f b cs (lone (b.atR a todo) cs w)
section
variable {mk:Bool} {P:Program} {f:FuncId} {R:eO} {Re:Ending→World→Prop} {a a':Act} {w w':World} {todo todo':List Item}
theorem aC.step (h:∀ (b:Frame) cs,Go.step P (lone (b.atR a todo) cs w)=.next (lone (b.atR a' todo') cs w')) (g:aC P f todo' R a' w'):aC P f todo R a w:=
 fun b cs hb hk hr=>(g b cs hb hk hr).of (.one (h b cs))
theorem aC.code {c:Code} {k:List Item} (h:c.wpIn (Fl R.ro) 0 P (fun e a w=>e=.normal∧aC P f k R a w) a w):aC P f (.code c::k) R a w:=by
 intro b cs hb hk hr
 obtain ⟨e,a1,w1,⟨rfl,hg⟩,KL⟩:=h b k cs hr trivial (fun d hd=>by cases hd)
 exact (hg b cs hb hk hr).of (stepsIn_wide.1 KL)
theorem aC.ret {fn:Func} {k:List Item} (hf:P.funcs[f]?=some fn) (hd:a.defers=[]) {v:Value} (hr:(results fn a.tmps).run P w=.ok v w) (h:Re (.returned v) w):aC P f (.code .ret::k) (.ends Re) a w:=by
 intro b cs hb hk lg
 rw [Frame.atR_of_none lg]
 exact ⟨.returned v,w,{ b.at a (.code .ret::k) with mode:=.returning },h,.of_steps (.one step_ret) (Steps.refl P _),hb,rfl,hd,hk,fn,by rw [← hb] at hf;exact hf,hr⟩
theorem aC.fin {fn:Func} (hf:P.funcs[f]?=some fn) (hd:a.defers=[]) {v:Value} (hr:(results fn a.tmps).run P w=.ok v w) (h:Re (.returned v) w):aC P f [] (.ends Re) a w:=by
 intro b cs hb hk lg
 rw [Frame.atR_of_none lg]
 exact ⟨.returned v,w,{ b.at a [] with mode:=.returning },h,.of_steps (.one step_end) (Steps.refl P _),hb,rfl,hd,hk,fn,by rw [← hb] at hf;exact hf,hr⟩
theorem aC.As {l:Nat} {k:List Item} {Q:Act→World→Prop} (h:Q a w):aC P f k (.arr l k Q) a w:=fun _ _ _ _ _=>⟨a,w,h,Steps.refl P _⟩
theorem pv {fn:Func} {c:Code} {args:Array Value} (hf:P.funcs[f]?=some fn) (hb:fn.body=some c) (h:aC P f [.code c] (.ends Re) { tmps:=args++Array.replicate (fn.ntmps-args.size) undef,defers:=[] } w):Calls P f args w Re:=by
 intro cs
 let b:Frame:={ (default:Frame) with fn:=f,kind:=.normal,roundOf:=none }
 have IE:Frame.enter P f args .normal=b.atR { tmps:=args++Array.replicate (fn.ntmps-args.size) undef,defers:=[] } [.code c]:=by
  simp [Frame.enter,Frame.atR,hf,hb,b]
 rw [IE]
 exact h b cs rfl rfl rfl
theorem aC.loop {c:Code} {k:List Item} (h:aC P f (.code c::.inLoop c::k) R a w):aC P f (.code (.loop c)::k) R a w:=aC.step (fun _ _=>stepR_loop) h
theorem aC.again {c:Code} {k:List Item} (h:aC P f (.code c::.inLoop c::k) R a w):aC P f (.inLoop c::k) R a w:=aC.step (fun _ _=>stepR_inLoop) h
theorem aC.rounds {Φ:Nat→Act→World→Prop} (n:Nat) (h:∀ i,i≤n→(i<n→∀ a w,Φ (i+1) a w→aC P f todo R a w)→∀ a w,Φ i a w→aC P f todo R a w) {i:Nat} (hi:i≤n) (h0:Φ i a w):aC P f todo R a w:=by
 have key:∀ m i,i≤n→n-i=m→∀ a w,Φ i a w→aC P f todo R a w:=by
  intro m
  induction m with
  | zero=>intro i hi hm;exact h i hi fun aF=>by omega
  | succ m ih=>intro i hi hm;exact h i hi fun aF=>ih (i+1) aF (by omega)
 exact key _ i hi rfl a w h0
end
abbrev dh:=List (Nat×List (Nat×aO))
def xh:dh→Nat→List (Nat×aO)
 | [],_=>[]
 | (k,v)::r,s=>bif k.beq s then v else xh r s
def r3 (P:Program) (T:aE) (cl:e9) (sz:Nat) (ops:Array Oper) (draw:Bool) (oc:List (Nat×aO)) (s:RS):Option RS:=
 bif draw then (bif Region.noSelect ops then jn P T cl sz ops oc ops.size (Array.replicate ops.size false) [] s else none)
 else iK P T cl sz ops ops.toList 0 oc s
def dn (P:Program) (T:aE) (cl:e9) (sz:Nat) (tb:dh):Nat→List Item→RS→Option (List Item×RS)
 | 0,todo,s=>some (todo,s)
 | n+1,todo,s=>
  match todo with
  | .code .skip::k=>dn P T cl sz tb n k s
  | .code (.label _)::k=>dn P T cl sz tb n k s
  | .inBlock _::k=>dn P T cl sz tb n k s
  | .code (.seq x y)::k=>dn P T cl sz tb n (.code x::.code y::k) s
  | .code (.cond c x y)::k=>(match kK (aA s.E c) with
   | some true=>dn P T cl sz tb n (.code x::k) s
   | some false=>dn P T cl sz tb n (.code y::k) s
   | none=>some (todo,s))
  | .code (.block id c)::k=>dn P T cl sz tb n (.code c::.inBlock id::k) s
  | .code (.exit id)::k=>(match exitTo id k with
   | some k'=>dn P T cl sz tb n k' s
   | none=>none)
  | .code (.region id ops draw)::k=>(match r3 P T cl sz ops draw (xh tb id) s with
   | some s'=>dn P T cl sz tb n k s'
   | none=>none)
  | _=>some (todo,s)
variable {mk:Bool} {P:Program} {T:aE} {cl:e9} {f:FuncId} {R:eO} {a:Act} {w:World} {D:List Nat} {w0:World} {K0:World→Prop} {E:List (Nat×AV)} {M:List ai} {sz:Nat} {tb:dh} {todo todo':List Item}
theorem ED {ops:Array Oper} {draw:Bool} {oc:List (Nat×aO)} {s s':RS} (h:r3 P T cl sz ops draw oc s=some s') (hv:aU s'.vc):aU s.vc:=by
 unfold r3 at h
 cases draw with
 | false=>simp only [cond_false] at h;exact vo _ _ _ _ h hv
 | true=>
  simp only [cond_true] at h
  cases hs:Region.noSelect ops with
  | false=>simp [hs] at h
  | true=>simp only [hs,cond_true] at h;exact uH _ _ _ _ h hv
theorem z8:∀ (n:Nat) (todo:List Item) (s:RS) {todo':List Item} {s':RS},dn P T cl sz tb n todo s=some (todo',s')→aU s'.vc→aU s.vc:=by
 intro n
 induction n with
 | zero=>intro todo s todo' s' h hv;simp only [dn,Option.some.injEq,Prod.mk.injEq] at h;obtain ⟨-,rfl⟩:=h;exact hv
 | succ n ih=>
  intro todo s todo' s' h hv
  unfold dn at h
  split at h
  ·exact ih _ _ h hv
  ·exact ih _ _ h hv
  ·exact ih _ _ h hv
  ·exact ih _ _ h hv
  ·split at h
   ·exact ih _ _ h hv
   ·exact ih _ _ h hv
   ·simp only [Option.some.injEq,Prod.mk.injEq] at h;obtain ⟨-,rfl⟩:=h;exact hv
  ·exact ih _ _ h hv
  ·split at h
   ·exact ih _ _ h hv
   ·simp at h
  ·split at h
   ·rename_i hr;exact ED hr (ih _ _ h hv)
   ·simp at h
  ·simp only [Option.some.injEq,Prod.mk.injEq] at h;obtain ⟨-,rfl⟩:=h;exact hv
theorem ch.bool (R:ch mk D w0 K0 sz E M a w) {c:Operand} {b:Bool} (h:kK (aA E c)=some b):a.eval c=.bool b:=by
 obtain ⟨-,I,-,β,F,Rm,hs⟩:=R
 unfold kK at h
 split at h
 ·rename_i c' hv
  simp only [Option.some.injEq] at h;subst h
  cases c with
  | tmp t=>
   have:=hs _ _ hv
   generalize a.eval (.tmp t)=y at *
   cases this with | d r=>cases r;rfl
  | const v=>simp only [aA,Option.some.injEq,AV.d.injEq,DV.v.injEq] at hv;rw [← hv];rfl
  | global g=>simp [aA] at hv
  | func f=>simp [aA] at hv
 ·simp at h
theorem km (hT:aR P T=true) (cA:iV P cl) (hm:P.follows .mixedOrders=true) (hK:∀ w,Kp D w0 w→K0 w) {b:eb}:∀ (n:Nat) {todo:List Item} {s:RS} {a:Act} {w:World} {todo':List Item} {s':RS},dn P T cl sz tb n todo s=some (todo',s')→cZ mk D w0 K0 sz b s a w→aU s'.vc→(∀ a' w',cZ mk D w0 K0 sz b s' a' w'→aC P f todo' R a' w')→aC P f todo R a w:=by
 intro n
 induction n with
 | zero=>intro todo s a w todo' s' h r hv k;simp only [dn,Option.some.injEq,Prod.mk.injEq] at h;obtain ⟨rfl,rfl⟩:=h;exact k a w r
 | succ n ih=>
  intro todo s a w todo' s' h r hv k
  unfold dn at h
  split at h
  ·exact aC.step (fun _ _=>stepR_skip) (ih h r hv k)
  ·exact aC.step (fun _ _=>stepR_label) (ih h r hv k)
  ·exact aC.step (fun _ _=>stepR_inBlock) (ih h r hv k)
  ·exact aC.step (fun _ _=>stepR_seq) (ih h r hv k)
  ·split at h
   ·rename_i hb;exact aC.step (fun _ _=>stepR_cond (r.re.bool hb)) (ih h r hv k)
   ·rename_i hb;exact aC.step (fun _ _=>stepR_cond (r.re.bool hb)) (ih h r hv k)
   ·simp only [Option.some.injEq,Prod.mk.injEq] at h;obtain ⟨rfl,rfl⟩:=h;exact k a w r
  ·exact aC.step (fun _ _=>stepR_block) (ih h r hv k)
  ·split at h
   ·rename_i hx;exact aC.step (fun _ _=>stepR_exit hx) (ih h r hv k)
   ·simp at h
  ·split at h
   ·rename_i id ops draw k0 _ s1 hr
    refine aC.code ?_
    have dV:=z8 _ _ _ h hv
    unfold r3 at hr
    cases draw with
    | false=>
     simp only [cond_false] at hr
     exact KJ hT cA hK r _ hr dV fun a' w' r'=>⟨rfl,ih h r' hv k⟩
    | true=>
     simp only [cond_true] at hr
     cases hs:Region.noSelect ops with
     | false=>simp [hs] at hr
     | true=>
      simp only [hs,cond_true] at hr
      exact KK hT cA hm hK (by rintro d v c a w ⟨h,-⟩;cases h) r _ hs hr dV fun a' w' r'=>⟨rfl,ih h r' hv k⟩
   ·simp at h
  ·simp only [Option.some.injEq,Prod.mk.injEq] at h;obtain ⟨rfl,rfl⟩:=h;exact k a w r
theorem nK (hT:aR P T=true) (cA:iV P cl) (hm:P.follows .mixedOrders=true) (hK:∀ w,Kp D w0 w→K0 w) (n:Nat) {vc:List Prop} {s':RS} (h:dn P T cl sz tb n todo ⟨vc,E,M,[],[]⟩=some (todo',s')) (r:ch mk D w0 K0 sz E M a w) (hv:aU s'.vc) (k:∀ a' w',ch mk D w0 K0 sz s'.E s'.M a' w'→aC P f todo' R a' w'):aC P f todo R a w:=
 let ⟨_,rb⟩:=r.b vc
 km hT cA hm hK n h rb hv fun a' w' r'=>k a' w' r'.re
end Go.Proofs.YtcnpikbbmbombaaDoor
