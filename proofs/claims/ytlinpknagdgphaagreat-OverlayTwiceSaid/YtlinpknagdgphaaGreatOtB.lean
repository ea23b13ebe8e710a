/-
  overlayTwice_holds, part 2 of 7: merged by program from the texts that it needs.
-/
import Derived.Test.YtlinpknagdgphaaGreatOtA
set_option linter.unusedSimpArgs false
set_option linter.unusedVariables false
set_option linter.unnecessarySimpa false
namespace Go.Proofs.YtlinpknagdgphaaGreat
open Go.RowKit
variable {P:Program} {T:aW} {D:List Nat} {w0:World} {K0:World→Prop} {E:List (Nat×AV)} {M:List au} {β:Beta} {F:Nat→aA} {I X:aA} {ρ:Operand→Value} {w:World}
variable {d:Option Tmp} {ty:TypeId} {pos:String} {aft:Array Edge} {gd:Option (Nat×Bool)} {oc:Option bj} {out:Out}
def bc (l:List UInt8):List (List DV):=l.map fun b=>[.v (.int .u8 (b.toNat:Int))]
theorem DX {K:World→Prop} {l:List UInt8} {X:Nat→List Value} {G:Nat→Nat→aA} (h:dW K 1 (bc l) X G):lay (bc l).length X=l.map fun b:UInt8=>.int .u8 b.toNat:=by
 have hl:(bc l).length=l.length:=by simp [bc]
 have hX:∀ i,i<(bc l).length→(X i).length=1:=fun i hi=>(h.hl i _ (List.getElem?_eq_getElem hi)).2
 apply List.ext_getElem?
 intro p
 have gO:=e8 hX
 rcases Nat.lt_or_ge p l.length with hp | hp
 ·have Ig:p<(bc l).length:=by omega
  have hg:=lE hX Ig (show 0<1 by omega)
  rw [Nat.mul_one,Nat.add_zero] at hg
  have cu:(bc l)[p]?=some [.v (.int .u8 (l[p].toNat:Int))]:=by simp [bc,List.getElem?_eq_getElem hp]
  obtain ⟨x,h1⟩:∃ x,(X p)[0]?=some x:=⟨(X p)[0]'(by rw [hX p Ig];omega),List.getElem?_eq_getElem _⟩
  have hd:=h.hr p _ 0 _ _ cu rfl h1
  generalize G p 0=GG at hd
  cases hd
  rw [hg,h1,List.getElem?_map,List.getElem?_eq_getElem hp];rfl
 ·rw [List.getElem?_eq_none (by omega),List.getElem?_eq_none (by simp;omega)]
def Bz (T:aW) (E:List (Nat×AV)) (M:List au) (oc:Option bj) (t t':TypeId) (x:Operand):Option Out:=
 match ju T t,cV T t',oc with
 | some (e,_,_,_),some .st,some (.res (.v (.string s)))=>(match cV T e,aO E x with
  | some (.it .u8),some (.d (.ro k rows))=>bif Nat.beq k 1 then some (lk [rows=bc s.data.toList] (.d (.v (.string s))) M) else none
  | some (.it .u8),some (.sl u n)=>(match M[u]? with | some (.rw _ k rows)=>bif Nat.beq k 1 then some ⟨[n=rows.length,rows=bc s.data.toList],.d (.v (.string s)),M,[],[],some [u]⟩ else none | _=>none)
  | _,_=>none)
 | _,_,_=>none
theorem NV (hT:bp P T=true) {t t':TypeId} {x:Operand} (h:Bz T E M oc t t' x=some out):aP P ⟨d,.convert t t' x,ty,pos,aft,gd⟩ E M out:=by
 unfold Bz at h
 split at h
 ·rename_i e _ _ _ s he bM
  obtain ⟨zv,ok,-,-⟩:=lI hT he
  split at h
  ·rename_i k rows tD hx
   cases hk:Nat.beq k 1 with
   | false=>simp [hk] at h
   | true=>
    simp only [hk,cond_true,Option.some.injEq] at h;subst h
    obtain rfl:=Nat.eq_of_beq_eq_true hk
    refine aP.same ?_
    intro D w0 K0 β F I ρ w C hv
    obtain ⟨rfl,-⟩:=hv
    have r:=C.ev hx
    generalize hy:ρ x=y at r
    cases r with | d r=>
    cases r with
    | ro X hl iF hs hr=>
     refine ⟨_,fun w' eb=>uY (.of fun _=>⟨_,rfl⟩) (Dl (l:=s.data.toList) ok.bM (cE hT tD) (cE hT bM) hy ?_ ⟨rfl,rfl⟩),.d (.v _)⟩
     have:=hs w' eb
     rw [DX (G:=fun _ _=>[]) ⟨hl,hr⟩] at this
     simpa [bc] using this
  ·rename_i u n tD hx
   split at h
   ·rename_i T2 k rows hM
    cases hk:Nat.beq k 1 with
    | false=>simp [hk] at h
    | true=>
     simp only [hk,cond_true,Option.some.injEq] at h;subst h
     obtain rfl:=Nat.eq_of_beq_eq_true hk
     refine aP.look ?_ (by simpa using eB hM)
     intro D w0 K0 β F I ρ w C hv
     obtain ⟨rfl,rfl,-⟩:=hv
     obtain ⟨X,G,H0,hF,dL,ra,hH⟩:=nc C.rm hM rfl (C.ev hx)
     refine ⟨_,.d (.v _),fun w' eb=>uY (.of fun _=>⟨_,rfl⟩) (Dl (l:=s.data.toList) ok.bM (cE hT tD) (cE hT bM) rfl ?_ ⟨rfl,rfl⟩)⟩
     have Ih:az w' (F u):=eb.2 u (by simp)
     rw [hF] at Ih
     have:=dL.src (az.app.1 Ih).1
     rw [DX ra] at this
     simpa [bc] using this
   ·simp at h
  ·simp at h
 ·simp at h
def qM (P:Program) (t:TypeId):Bool:=match P.underlying t with | some .bool=>true | _=>false
theorem Dn {t:TypeId} (h:qM P t=true) (a b:Bool) (w:World):(Op.equal t (.bool a) (.bool b)).run P w=.ok (a==b) w:=by
 unfold qM at h
 split at h
 ·rename_i hu
  have:∀ m,(Op.equalIn (m+1) t (.bool a) (.bool b)).run P w=.ok (a==b) w:=by intro m;simp [Op.equalIn,Sem.run_bind,run_underlying hu]
  exact this 9999
 ·simp at h
def AI (P:Program) (E:List (Nat×AV)) (M:List au) (oc:Option bj) (op:BinOp) (t:TypeId) (x y:Operand):Option Out:=
 match mq (aO E x),mq (aO E y),op with
 | some a,some b,.eql=>bif qM P t then some (mr oc (a==b) M) else none
 | some a,some b,.neq=>bif qM P t then some (mr oc (!(a==b)) M) else none
 | _,_,_=>none
theorem Mb {op:BinOp} {t t':TypeId} {x y:Operand} (h:AI P E M oc op t x y=some out):aP P ⟨d,.binOp op t x y t',ty,pos,aft,gd⟩ E M out:=by
 unfold AI at h
 split at h
 ·rename_i a b ha Ci
  cases hb:qM P t with
  | false=>simp [hb] at h
  | true=>
   simp only [hb,cond_true,Option.some.injEq] at h;subst h
   exact oC (.of fun _=>⟨_,rfl⟩) fun C w Φ aR=>.pure (v:=.bool (a==b)) (by simp [execOp,C.bool ha,C.bool Ci,eqGuard,binOp,Dn hb]) aR
 ·rename_i a b ha Ci
  cases hb:qM P t with
  | false=>simp [hb] at h
  | true=>
   simp only [hb,cond_true,Option.some.injEq] at h;subst h
   exact oC (.of fun _=>⟨_,rfl⟩) fun C w Φ aR=>.pure (v:=.bool (!(a==b))) (by simp [execOp,C.bool ha,C.bool Ci,eqGuard,binOp,Dn hb]) aR
 ·simp at h
def AJ (T:aW) (E:List (Nat×AV)) (M:List au) (oc:Option bj) (op:BinOp) (t:TypeId) (x y:Operand):Option Out:=
 match op,cV T t,y,aO E x with
 | .eql,some (.sl _),.const (.slice none 0 0),some (.d (.v (.slice a _ _)))=>some (mr oc a.isNone M)
 | .eql,some (.sl _),.const (.slice none 0 0),some (.d (.ro _ rows))=>some (lk [0<rows.length] (.b false) M)
 | .eql,some (.sl _),.const (.slice none 0 0),some (.sl u n)=>(match M[u]? with | some (.rw _ _ rows)=>some ⟨[n=rows.length,0<n],.b false,M,[],[],some [u]⟩ | _=>none)
 | _,_,_,_=>none
theorem Mc (hT:bp P T=true) {op:BinOp} {t t':TypeId} {x y:Operand} (h:AJ T E M oc op t x y=some out):aP P ⟨d,.binOp op t x y t',ty,pos,aft,gd⟩ E M out:=by
 unfold AJ at h
 split at h
 ·rename_i e a n c hu hx
  simp only [Option.some.injEq] at h;subst h
  refine oC (.of fun _=>⟨_,rfl⟩) ?_
  intro D w0 K0 β F I ρ w' C w Φ aR
  have r:=C.ev hx
  generalize hy:ρ x=y at r
  cases r with | d r=>cases r;exact xB (cE hT hu) hy (C.const _) rfl aR
 ·rename_i e k rows hu hx
  simp only [Option.some.injEq] at h;subst h
  refine kM (.of fun _=>⟨_,rfl⟩) ?_
  intro D w0 K0 β F I ρ w' C hv
  obtain ⟨mD,-⟩:=hv
  have r:=C.ev hx
  generalize hy:ρ x=y at r
  cases r with | d r=>
  cases r with
  | ro X hl iF hs hr=>
   obtain ⟨a,c,w6,-⟩:=(hs _ C.now).row mD
   exact ⟨_,.d (.v _),fun w Φ aR=>xB (cE hT hu) (hy.trans w6) (C.const _) rfl aR⟩
 ·rename_i e u n hu hx
  split at h
  ·rename_i T2 k rows hM
   simp only [Option.some.injEq] at h;subst h
   refine aP.look ?_ (by simpa using eB hM)
   intro D w0 K0 β F I ρ w C hv
   obtain ⟨hn,mD,-⟩:=hv
   obtain ⟨X,G,H0,hF,dL,ra,hH⟩:=nc C.rm hM hn (C.ev hx)
   obtain ⟨b,cap,cs,fz,Cj,-⟩:=dL.block mD
   exact ⟨_,.d (.v _),fun w' _=>uY (.of fun _=>⟨_,rfl⟩) (xB (cE hT hu) Cj (C.const _) rfl ⟨rfl,rfl⟩)⟩
  ·simp at h
 ·simp at h
def zO (T:aW) (E:List (Nat×AV)) (M:List au) (t t':TypeId) (x:Operand):Option Out:=
 bif Nat.beq t t' then (match ju T t with
 | some (e,k,_,_)=>(match cV T e,aO E x with
  | some (.it .u8),some (.sl u n)=>(match M[u]? with
   | some (.rw e' k' rows)=>bif Nat.beq e e'&&Nat.beq k k'&&rows.all (fun r=>r.all DV.cp) then some ⟨[n=rows.length,0<n],.d (.ro k rows),M.set u .dead,[u],[],none⟩ else none
   | _=>none)
  | _,_=>none)
 | none=>none) else none
theorem KB (hT:bp P T=true) {t t':TypeId} {x:Operand} (h:zO T E M t t' x=some out):aP P ⟨d,.convert t t' x,ty,pos,aft,gd⟩ E M out:=by
 unfold zO at h
 cases Ck:Nat.beq t t' with
 | false=>simp [Ck] at h
 | true=>
  simp only [Ck,cond_true] at h
  obtain rfl:=Nat.eq_of_beq_eq_true Ck
  split at h
  ·rename_i e k _ _ he
   obtain ⟨zv,ok,-,-⟩:=lI hT he
   split at h
   ·rename_i u n tD hx
    split at h
    ·rename_i e' k' rows hM
     cases hc:(Nat.beq e e'&&Nat.beq k k'&&rows.all fun r=>r.all DV.cp) with
     | false=>simp [hc] at h
     | true=>
      simp only [hc,cond_true,Option.some.injEq] at h;subst h
      simp only [Bool.and_eq_true] at hc
      obtain rfl:=Nat.eq_of_beq_eq_true hc.1.1
      obtain rfl:=Nat.eq_of_beq_eq_true hc.1.2
      intro D w0 K0 β F I ρ w C hv
      obtain ⟨hn,mD,-⟩:=hv
      obtain ⟨X,G,H0,hF,dL,ra,hH⟩:=nc C.rm hM hn (C.ev hx)
      obtain ⟨b,cap,cs,fz,Cj,rfl,fL,cX,hle,wg⟩:=dL.block mD
      have R1:=C.rm.x.ea hM
      rw [hF,List.nil_append] at R1
      have hb:=hH.one
      refine Jn ok.bM (cE hT tD) Cj hb fun jV=>?_
      have o0:St D w0 w ((b,.cells cs e fz)::(bW n k G++((List.range (M.set u .dead).length).flatMap (aS F u [])++I))):=R1.st.perm (by classical rw [List.perm_iff_count];intro z;simp only [List.count_append,List.count_cons,List.count_nil];omega)
      have qV:=o0.set (.cells cs e jV)
      have R2:RM D w0 K0 (M.set u .dead) β (aS F u []) ([(b,.cells cs e jV)]++I) (ct w b (.cells cs e jV)):=by
       refine ⟨R1.len,fun v bl hv=>(R1.blk v bl hv).mono (fun w hw=>⟨hw.1,(az.app.1 hw.2).2⟩) (Ext.refl _),?_⟩
       have:=(qV.perm (K:=bW n k G++((List.range (M.set u .dead).length).flatMap (aS F u [])++([(b,.cells cs e jV)]++I))) (by classical rw [List.perm_iff_count];intro z;simp only [List.count_append,List.count_cons,List.count_nil];omega)).l3
       exact this
      refine ⟨β,_,_,R2,(Ext.refl β).b _,⟨_,rfl⟩,fun q _ hq=>by simp only [aS];rw [if_neg (by simpa using hq)],?_⟩
      refine .d (.ro X ra.hl ⟨_,_,by rw [← hn],by rw [← hn];exact hle⟩ (fun w' eb=>?_) fun i r j c x h1 h2 h3=>?_)
      ·have aV:w'.heap[b]?=some (.cells cs e jV):=(az.app.1 eb.2).1.one
       refine ⟨by rw [← hn];exact dL.1,Or.inr ⟨_,cap,by rw [← hn],fun j hj=>?_⟩⟩
       rw [add_eq,Nat.zero_add,cell_of aV]
       have nI:lay rows.length X=cs.toList.take (n*k):=by rw [← hn];exact wg.symm
       have key:∀ q,q=cs.toList.take (n*k)→∀ (hj:j<q.length),cs[j]?=some q[j]:=by
        intro q hq hj
        subst hq
        have jt:=hj
        simp only [List.length_take] at jt
        rw [List.getElem_take,← Array.getElem?_toList]
        exact List.getElem?_eq_getElem _
       exact key _ nI hj
      ·have:=(ra.hr i r j c x h1 h2 h3).cp (List.all_eq_true.1 (List.all_eq_true.1 hc.2 r (List.mem_of_getElem? h1)) c (List.mem_of_getElem? h2))
       exact this.mono fun w hw=>⟨hw.1,(az.app.1 hw.2).2⟩
    ·simp at h
   ·simp at h
  ·simp at h
theorem rV {t:TypeId} {xs:Array Value} {o:Nat} {v:Value} (w:World) (ht:scalar P t=true) (h:xs[o]?=some v):(part t xs o).run P w=.ok v w:=by
 simp [part,Sem.run_bind,CX ht,h]
theorem KC {t:TypeId} {xs:Array Value} {o n:Nat} (w:World) (ht:nv P t n=true):(part t xs o).run P w=.ok (.agg (xs.extract o (o+n))) w:=by
 unfold nv at ht
 simp only [Bool.and_eq_true] at ht
 obtain ⟨h1,h2⟩:=ht
 cases hu:P.underlying t with
 | none=>simp [hu] at h1
 | some u=>
  cases hi:P.info? t with
  | none=>simp [hi] at h2
  | some i=>
   simp only [hi,beq_iff_eq] at h2
   have ha:(isAgg t).run P w=.ok true w:=by cases u<;>simp [hu] at h1<;>simp [isAgg,Sem.run_bind,run_underlying hu]
   simp [part,Sem.run_bind,ha,sizeOf,typeInfo,hi,h2]
def pw (T:aW) (e:TypeId) (l:List AV) (o:Nat):Option AV:=lT T e l o
theorem vN (hT:bp P T=true) {K:World→Prop} {e:TypeId} {l:List AV} {o:Nat} {v:AV} (h:pw T e l o=some v) {ys:List Value} (hl:ys.length=l.length) (hr:∀ (j:Nat) c y,l[j]?=some c→ys[j]?=some y→aE K β c y):
  ∃ y,aE K β v y∧∀ w:World,(part e ys.toArray o).run P w=.ok y w:=by
 unfold pw lT at h
 split at h
 ·rename_i ht
  obtain ⟨y,h1,h2⟩:=zD hl hr h
  exact ⟨y,h2,fun w=>rV w (yQ hT ht) (by simpa using h1)⟩
 ·rename_i n ht
  simp only [wD] at h
  cases hb:(o+n).ble l.length with
  | false=>simp [hb] at h
  | true=>
   simp only [hb,cond_true,Option.some.injEq] at h
   have hle:o+n≤l.length:=Nat.le_of_ble_eq_true hb
   subst h
   have he:(ys.toArray.extract o (o+n))=((ys.drop o).take n).toArray:=by
    simp [List.extract_eq_take_drop]
   refine ⟨.agg ((ys.drop o).take n).toArray,.ag _ (by simp;omega) ?_,fun w=>by rw [KC w (ye hT ht),he]⟩
   intro j c y h1 h2
   rw [List.getElem?_take,List.getElem?_drop] at h1 h2
   split at h1
   ·rename_i hj;rw [if_pos hj] at h2;exact hr _ _ _ h1 h2
   ·simp at h1
 ·simp at h
def BA (T:aW) (E:List (Nat×AV)) (M:List au) (t:TypeId) (x:Operand) (f:Nat):Option Out:=
 match B3 T t f,aO E x with
 | some (o,ty),some (.ag l)=>(match pw T ty l o with | some v=>some (lk [] v M) | none=>none)
 | _,_=>none
theorem NW (hT:bp P T=true) {t:TypeId} {x:Operand} {f:Nat} (h:BA T E M t x f=some out):aP P ⟨d,.field t x f,ty,pos,aft,gd⟩ E M out:=by
 unfold BA at h
 split at h
 ·rename_i o e l hf hx
  split at h
  ·rename_i v hp
   simp only [Option.some.injEq] at h;subst h
   obtain ⟨fs,q,hu,hq,rfl,rfl⟩:=Pb hT hf
   refine aP.same ?_
   intro D w0 K0 β F I ρ w C _
   have r:=C.ev hx
   generalize hy:ρ x=y at r
   cases r with
   | ag ys hl hr=>
    obtain ⟨y,h1,h2⟩:=vN hT hp hl hr
    exact ⟨y,fun w' _=>by simp only [execOp,hy,Instr.field,Sem.run_bind,run_underlying hu,Result.andThen_ok,hq,asAgg,Sem.run_pure,h2],h1⟩
  ·simp at h
 ·simp at h
def BB (T:aW) (E:List (Nat×AV)) (M:List au) (oc:Option bj) (t:TypeId) (x ix:Operand):Option Out:=
 match cV T t,aO E x,cS (aO E ix),oc with
 | some (.ar n e),some (.ag l),some (_,z),some (.n i)=>(match fY T e with
  | some k=>(match pw T e l (i*k) with | some v=>some (lk [z=(i:Int),i<n] v M) | none=>none)
  | none=>none)
 | _,_,_,_=>none
theorem NX (hT:bp P T=true) {t:TypeId} {x ix:Operand} (h:BB T E M oc t x ix=some out):aP P ⟨d,.index t x ix,ty,pos,aft,gd⟩ E M out:=by
 unfold BB at h
 split at h
 ·rename_i n e l _ z i hu hx hz
  split at h
  ·rename_i k hk
   split at h
   ·rename_i v hp
    simp only [Option.some.injEq] at h;subst h
    have bI:∀ w:World,(sizeOf e).run P w=.ok k w:=fun w=>by
     have:=ie hT hk
     cases hi:P.info? e with
     | none=>simp [hi] at this
     | some inf=>simp only [hi,Option.map_some,Option.some.injEq] at this;simp [sizeOf,typeInfo,Sem.run_bind,hi,this]
    refine aP.same ?_
    intro D w0 K0 β F I ρ w C hv
    obtain ⟨rfl,aK,-⟩:=hv
    have r:=C.ev hx
    have hi:=C.int hz
    generalize hy:ρ x=y at r
    cases r with
    | ag ys hl hr=>
     obtain ⟨y,h1,h2⟩:=vN hT hp hl hr
     refine ⟨y,fun w' _=>?_,h1⟩
     have fM:=cE hT hu
     have hc:(0:Int)≤(i:Int)∧(i:Int)<(n:Int):=by omega
     simp only [execOp,hy,hi,Instr.index,asIntOf,Sem.run_bind,Sem.run_pure,run_underlying fM,Result.andThen_ok]
     rw [if_pos hc]
     simp only [Sem.run_bind,bI,Result.andThen_ok,Int.toNat_natCast,h2,Sem.run_pure]
   ·simp at h
  ·simp at h
 ·simp at h
def yW (T:aW) (E:List (Nat×AV)) (M:List au) (t:TypeId) (parts:Array (Nat×Operand)):Option Out:=
 match cV T t,oU T t with
 | some (.ar _ e),some z=>(match fY T e with
  | some k=>(match lO E (fun i=>some (i*k,k)) (ki z) parts.toList with
   | some l=>some (lk [] (.ag l) M)
   | none=>none)
  | none=>none)
 | _,_=>none
theorem JL (hT:bp P T=true) {t:TypeId} {parts:Array (Nat×Operand)} (h:yW T E M t parts=some out):aP P ⟨d,.build t parts,ty,pos,aft,gd⟩ E M out:=by
 unfold yW at h
 split at h
 ·rename_i n e z hu hz
  split at h
  ·rename_i k hk
   split at h
   ·rename_i l hl
    simp only [Option.some.injEq] at h;subst h
    obtain ⟨zv,pv,mP⟩:=uX hT hz
    have bI:∀ w:World,(sizeOf e).run P w=.ok k w:=fun w=>by
     have:=ie hT hk
     cases hi:P.info? e with
     | none=>simp [hi] at this
     | some inf=>simp only [hi,Option.map_some,Option.some.injEq] at this;simp [sizeOf,typeInfo,Sem.run_bind,hi,this]
    refine aP.same ?_
    intro D w0 K0 β F I ρ w C _
    obtain ⟨p1,p2⟩:=pT (K:=fun w=>K0 w∧az w I) (β:=β) z
    obtain ⟨cf,g1,g2,g3⟩:=vd C (cs:=z.toArray) hl (by simpa using p1) (by intro j c y e1 e2;exact p2 j c y e1 (by simpa using e2))
    refine ⟨.agg cf,fun w' _=>?_,?_⟩
    ·have rv:(parts.map fun (p:Nat×Operand)=>(p.1,ρ p.2)).toList=parts.toList.map fun p=>(p.1,ρ p.2):=by simp
     have hb:(Instr.build t (parts.map fun (p:Nat×Operand)=>(p.1,ρ p.2))).run P w'=.ok (.agg cf) w':=by
      simp only [Instr.build,Sem.run_bind,mP,Result.andThen_ok,run_underlying (cE hT hu),bI,pv,rv,g1,Sem.run_pure]
     simp only [execOp,Sem.run_bind]
     have:(parts.map fun (i,x)=>(i,ρ x))=parts.map fun (p:Nat×Operand)=>(p.1,ρ p.2):=rfl
     rw [this,hb];rfl
    ·have:(aE (fun w=>K0 w∧az w I) β (.ag l) (.agg cf.toList.toArray)):=.ag cf.toList (by simpa using g2) (by intro j c y e1 e2;exact g3 j c y e1 (by simpa using e2))
     simpa using this
   ·simp at h
  ·simp at h
 ·simp at h
end Go.Proofs.YtlinpknagdgphaaGreat
namespace Go.Proofs.YtlinpknagdgphaaGreat
open Go.RowKit
variable {P:Program} {T:aW} {D:List Nat} {w0:World} {K0:World→Prop} {E:List (Nat×AV)} {M:List au} {β:Beta} {F:Nat→aA} {I X:aA} {ρ:Operand→Value} {w:World}
variable {d:Option Tmp} {ty:TypeId} {pos:String} {aft:Array Edge} {gd:Option (Nat×Bool)} {oc:Option bj} {out:Out}
theorem bR.jE (R:bR D w0 K0 M β F I X w) {u:Nat} {blk:au} (h:M[u]?=some blk):az w (F u):=by
 intro x hx
 obtain ⟨hu,-⟩:=List.getElem?_eq_some_iff.1 h
 exact R.st.holds x (List.mem_append_left _ (List.mem_flatMap.2 ⟨u,List.mem_range.2 hu,hx⟩))
theorem bR.back {X Y:aA} (R:bR D w0 K0 M β F I (X++Y) w) {u:Nat} (hu:u<M.length) (hF:F u=[]) {blk:au} (hb:bK (fun w=>K0 w∧az w I) β u blk X):
  bR D w0 K0 (M.set u blk) β (aS F u X) I Y w where
 len:=by rw [List.length_set];exact R.len
 blk:=by
  intro v bl hv
  rw [List.getElem?_set] at hv
  by_cases e:u=v
  ·subst e
   simp only [hu,if_pos,Option.some.injEq] at hv;subst hv
   simpa [aS] using hb
  ·rw [if_neg e] at hv
   have:aS F u X v=F v:=by simp only [aS];rw [if_neg (fun h=>e h.symm)]
   rw [this];exact R.blk v bl hv
 st:=by
  have hs:=R.st
  rw [List.length_set,range_split hu]
  rw [range_split hu,hF] at hs
  have c1:(List.range u).flatMap (aS F u X)=(List.range u).flatMap F:=eL fun a ha=>by have:=List.mem_range.1 ha;simp [aS];omega
  have c2:(List.range' (u+1) (M.length-(u+1))).flatMap (aS F u X)=(List.range' (u+1) (M.length-(u+1))).flatMap F:=eL fun a ha=>by have:=(List.mem_range'_1.1 ha).1;simp [aS];omega
  have fM:aS F u X u=X:=by simp [aS]
  rw [c1,c2,fM]
  exact hs.perm (by classical rw [List.perm_iff_count];intro z;simp only [List.count_append,List.count_nil];omega)
theorem Dc {k o m:Nat} (h:o+m≤k) (f:Nat→aA):(List.range k).flatMap f=(List.range o).flatMap f++((List.range' o m).flatMap f++(List.range' (o+m) (k-(o+m))).flatMap f):=by
 have:List.range k=List.range o++(List.range' o m++List.range' (o+m) (k-(o+m))):=by
  rw [List.range_eq_range',List.range_eq_range']
  have h1:k=o+(m+(k-(o+m))):=by omega
  conv=>lhs;rw [h1]
  rw [← List.range'_append_1,← List.range'_append_1]
  simp
 rw [this,List.flatMap_append,List.flatMap_append]
def fe (G:Nat→Nat→aA) (i o m:Nat) (Gx:Nat→aA):Nat→Nat→aA:=fun a j=>if a=i∧o≤j∧j<o+m then Gx (j-o) else G a j
theorem Es {n k i o m:Nat} (hi:i<n) (ho:o+m≤k) (G:Nat→Nat→aA) (Gx:Nat→aA):(bW n k G++(List.range m).flatMap Gx).Perm (bW n k (fe G i o m Gx)++(List.range' o m).flatMap (G i)):=by
 unfold bW
 have c1:(List.range i).flatMap (fun a=>(List.range k).flatMap (fe G i o m Gx a))=(List.range i).flatMap (fun a=>(List.range k).flatMap (G a)):=eL fun a ha=>eL fun j _=>by have:=List.mem_range.1 ha;simp only [fe];rw [if_neg (by omega)]
 have c2:(List.range' (i+1) (n-(i+1))).flatMap (fun a=>(List.range k).flatMap (fe G i o m Gx a))=(List.range' (i+1) (n-(i+1))).flatMap (fun a=>(List.range k).flatMap (G a)):=eL fun a ha=>eL fun j _=>by have:=(List.mem_range'_1.1 ha).1;simp only [fe];rw [if_neg (by omega)]
 have c3:(List.range o).flatMap (fe G i o m Gx i)=(List.range o).flatMap (G i):=eL fun j hj=>by have:=List.mem_range.1 hj;simp only [fe];rw [if_neg (by omega)]
 have c4:(List.range' o m).flatMap (fe G i o m Gx i)=(List.range m).flatMap Gx:=by
  rw [List.range'_eq_map_range,List.flatMap_map]
  exact eL fun j hj=>by
   have:=List.mem_range.1 hj
   show fe G i o m Gx i (o+j)=Gx j
   unfold fe;rw [if_pos ⟨rfl,by omega,by omega⟩,Nat.add_sub_cancel_left]
 have c5:(List.range' (o+m) (k-(o+m))).flatMap (fe G i o m Gx i)=(List.range' (o+m) (k-(o+m))).flatMap (G i):=eL fun j hj=>by have:=(List.mem_range'_1.1 hj).1;simp only [fe];rw [if_neg (by omega)]
 rw [range_split hi (fun a=>(List.range k).flatMap (G a)),range_split hi (fun a=>(List.range k).flatMap (fe G i o m Gx a)),c1,c2]
 rw [Dc ho (G i),Dc ho (fe G i o m Gx i),c3,c4,c5]
 classical rw [List.perm_iff_count];intro z;simp only [List.count_append];omega
def jQ (X:Nat→List Value) (i o:Nat) (zs:List Value):Nat→List Value:=fun a=>if a=i then (X i).take o++(zs++(X i).drop (o+zs.length)) else X a
theorem oI {α:Type} {l zs:List α} {o j:Nat} (h:o+zs.length≤l.length):(l.take o++(zs++l.drop (o+zs.length)))[j]?=if o≤j∧j<o+zs.length then zs[j-o]? else l[j]?:=by
 by_cases h1:o≤j∧j<o+zs.length
 ·rw [if_pos h1,List.getElem?_append_right (by simp;omega),List.getElem?_append_left (by simp;omega)]
  congr 1;simp;omega
 ·rw [if_neg h1]
  rcases Nat.lt_or_ge j o with hj | hj
  ·rw [List.getElem?_append_left (by simp;omega),List.getElem?_take,if_pos hj]
  ·rw [List.getElem?_append_right (by simp;omega),List.getElem?_append_right (by simp;omega),List.getElem?_drop]
   congr 1;simp;omega
theorem vf {X:Nat→List Value} {i o k:Nat} {zs:List Value} (ho:o+zs.length≤k) {a:Nat} (h:(X a).length=k):(jQ X i o zs a).length=k:=by
 unfold jQ;split
 ·rename_i e;subst e;simp;omega
 ·exact h
theorem NY {n k i o:Nat} {X:Nat→List Value} {zs:List Value} {cs:Array Value} (hX:∀ a,a<n→(X a).length=k) (hi:i<n) (ho:o+zs.length≤k) (ht:cs.toList.take (n*k)=lay n X) (bI:n*k≤cs.size):
  (cL cs (i*k+o) zs).toList.take (n*k)=lay n (jQ X i o zs):=by
 have Ii:∀ a,a<n→(jQ X i o zs a).length=k:=fun a ha=>vf ho (hX a ha)
 have gO:=e8 Ii
 have Ij:i*k+k≤n*k:=by have:=Nat.mul_le_mul_right k (show i+1≤n from hi);rw [Nat.succ_mul] at this;exact this
 apply List.ext_getElem?
 intro p
 rcases Nat.lt_or_ge p (n*k) with hp | hp
 ·have hk:0<k:=by
   rcases Nat.eq_zero_or_pos k with h0 | h0
   ·subst h0;simp at hp
   ·exact h0
  have hd:p / k<n:=Nat.div_lt_of_lt_mul (by rw [Nat.mul_comm];exact hp)
  have hm:p%k<k:=Nat.mod_lt _ hk
  have hg:=lE Ii hd hm
  have Ik:=lE hX hd hm
  have e:p / k*k+p%k=p:=by rw [Nat.mul_comm,Nat.div_add_mod]
  rw [e] at hg Ik
  rw [hg,List.getElem?_take,if_pos hp,Array.getElem?_toList,pS _ _ _ _ (by omega)]
  have hc:cs[p]?=(X (p / k))[p%k]?:=by rw [← Ik,← ht,List.getElem?_take,if_pos hp,Array.getElem?_toList]
  generalize hA:p / k=a at *
  generalize hJ:p%k=j at *
  by_cases ha:a=i
  ·subst ha
   unfold jQ
   rw [if_pos rfl,oI (by rw [hX a hd];exact ho)]
   by_cases h1:o≤j∧j<o+zs.length
   ·rw [if_pos h1,if_pos (by omega)];congr 1;omega
   ·rw [if_neg h1,if_neg (by omega)];exact hc
  ·unfold jQ
   rw [if_neg ha,if_neg ?_]
   ·exact hc
   ·intro h1
    rcases Nat.lt_or_gt_of_ne ha with h2 | h2
    ·have:=Nat.mul_le_mul_right k (show a+1≤i from h2);rw [Nat.succ_mul] at this;omega
    ·have:=Nat.mul_le_mul_right k (show i+1≤a from h2);rw [Nat.succ_mul] at this;omega
 ·rw [List.getElem?_eq_none (by simp [j7];omega),List.getElem?_eq_none (by omega)]
theorem dW.put {K:World→Prop} {k i o:Nat} {rows:List (List DV)} {X:Nat→List Value} {G:Nat→Nat→aA} {row xs:List DV} {zs:List Value} {Gx:Nat→aA} (h:dW K k rows X G) (cu:rows[i]?=some row) (ho:o+zs.length≤k) (hx:zs.length=xs.length) (hd:∀ (j:Nat) c y,xs[j]?=some c→zs[j]?=some y→bQ K c y (Gx j)):
  dW K k (rows.set i (row.take o++(xs++row.drop (o+xs.length)))) (jQ X i o zs) (fe G i o zs.length Gx):=by
 have jY:=h.hl i row cu
 constructor
 ·intro a r ha
  rw [List.getElem?_set] at ha
  by_cases e:i=a
  ·subst e
   rw [if_pos rfl] at ha
   split at ha
   ·simp only [Option.some.injEq] at ha;subst ha
    exact ⟨by simp;omega,vf ho jY.2⟩
   ·simp at ha
  ·rw [if_neg e] at ha
   have:=h.hl a r ha
   exact ⟨this.1,vf ho this.2⟩
 ·intro a r j c x ha hj mS
  rw [List.getElem?_set] at ha
  by_cases e:i=a
  ·subst e
   rw [if_pos rfl] at ha
   split at ha
   ·simp only [Option.some.injEq] at ha;subst ha
    rw [oI (by omega)] at hj
    unfold jQ at mS
    rw [if_pos rfl,oI (by omega)] at mS
    unfold fe
    by_cases h1:o≤j∧j<o+zs.length
    ·rw [if_pos (by omega)] at hj
     rw [if_pos h1] at mS
     rw [if_pos ⟨rfl,h1⟩]
     exact hd _ c x hj mS
    ·rw [if_neg (by omega)] at hj
     rw [if_neg h1] at mS
     rw [if_neg (fun q=>h1 q.2)]
     exact h.hr i row j c x cu hj mS
   ·simp at ha
  ·rw [if_neg e] at ha
   unfold jQ at mS
   rw [if_neg (fun q=>e q.symm)] at mS
   unfold fe
   rw [if_neg (fun q=>e q.1.symm)]
   exact h.hr a r j c x ha hj mS
def yX (T:aW) (E:List (Nat×AV)) (M:List au) (oc:Option bj) (t:TypeId) (x y:Operand):Option Out:=
 match aO E x,aO E y,fY T t,oc with
 | some (.ep u k i o),some v,some n,some (.ix _ row)=>(match qz v with
  | some l=>(match lN M l with
   | some (vc,xs,M')=>(match M'[u]? with
    | some (.rw e k' rows)=>bif k.beq k'&&l.length.beq n&&(o+n).ble k then some ⟨(rows[i]?=some row)::vc,.d .jk,M'.set u (.rw e k (rows.set i (row.take o++(xs++row.drop (o+xs.length))))),u::sT l,[],none⟩ else none
    | _=>none)
   | none=>none)
  | none=>none)
 | _,_,_,_=>none
theorem JM (hT:bp P T=true) {t:TypeId} {x y:Operand} (h:yX T E M oc t x y=some out):aP P ⟨d,.store t x y,ty,pos,aft,gd⟩ E M out:=by
 unfold yX at h
 split at h
 rotate_left
 ·simp at h
 rename_i u k i o v n i0 row hx hy hn
 split at h
 rotate_left
 ·simp at h
 rename_i l hl
 split at h
 rotate_left
 ·simp at h
 rename_i vc xs M' hp
 split at h
 rotate_left
 ·simp at h
 rename_i e k' rows hM
 cases hc:(k.beq k'&&l.length.beq n&&(o+n).ble k) with
 | false=>simp [hc] at h
 | true=>
  simp only [hc,cond_true,Option.some.injEq] at h;subst h
  simp only [Bool.and_eq_true] at hc
  obtain rfl:=Nat.eq_of_beq_eq_true hc.1.1
  have w8:=Nat.eq_of_beq_eq_true hc.1.2
  have hle:=Nat.le_of_ble_eq_true hc.2
  intro D w0 K0 β F I ρ w C hv
  obtain ⟨cu,hv⟩:=hv
  obtain ⟨yx,fN,rx⟩:=C.bS hx
  obtain ⟨yy,tA,ry⟩:=C.bS hy
  obtain ⟨zs,h1,h2,h3,h4⟩:=uO hl ry
  obtain ⟨lM,F',Hp,R',dd,Sp⟩:=yV C.rm.x hp hv (ys:=zs) h2 h3
  rw [List.nil_append] at R'
  cases rx with
  | @ep _ _ _ _ b0 c0 hb=>
   have aK:u<M'.length:=eB hM
   have hB:=R'.blk u _ hM
   have hH:=R'.jE hM
   have R1:=R'.ea hM
   have dl:=dd.len
   obtain ⟨Gx,Sq,Ch⟩:=dd.to
   generalize hC:F' u=Fu at hB hH R1
   cases hB with
   | rw aV X G dI hs hr=>
    rw [hb] at aV;cases aV
    obtain ⟨hi,-⟩:=List.getElem?_eq_some_iff.1 cu
    obtain ⟨b',cap,cs,fz,he,rfl,fL,cX,ew,ht⟩:=hs.block (by omega)
    cases he
    have hw:=(az.app.1 hH).1.one
    have hX:∀ a,a<rows.length→(X a).length=k:=fun a ha=>(dI a _ (List.getElem?_eq_getElem ha)).2
    have Ij:i*k+k≤rows.length*k:=by have:=Nat.mul_le_mul_right k (show i+1≤rows.length from hi);rw [Nat.succ_mul] at this;exact this
    have bI:rows.length*k≤cs.size:=by rw [cX];exact Nat.mul_le_mul_right _ ew
    refine E6 n (ie hT hn) fN tA hw (by rw [h1];simp;omega) (by omega) (by rw [h1];simpa using h4) ?_
    rw [h1]
    have ra:dW (fun w=>K0 w∧az w I) k rows X G:=⟨dI,hr⟩
    have jZ:=ra.put (o:=o) (zs:=zs) (xs:=xs) (Gx:=Gx) cu (by omega) dl Ch
    have bM:=R1.st
    have o0:St D w0 w ((b0,.cells cs e fz)::(bW rows.length k G++(Hp++((List.range (M'.set u .dead).length).flatMap (aS F' u [])++I)))):=bM.perm (by classical rw [List.perm_iff_count];intro z;simp only [List.count_append,List.count_cons,List.cons_append,List.nil_append];omega)
    have qV:=o0.set (.cells (cL cs (i*k+o) zs) e fz)
    have mE:=Es (n:=rows.length) (k:=k) (i:=i) (o:=o) (m:=zs.length) hi (by omega) G Gx
    rw [Sq,← dl] at qV
    have R2:bR D w0 K0 (M'.set u .dead) β (aS F' u []) I (([(b0,.cells (cL cs (i*k+o) zs) e fz)]++bW rows.length k (fe G i o zs.length Gx))++(List.range' o zs.length).flatMap (G i)) _:=R1.move (qV.perm (by
     classical
     have hc:=List.perm_iff_count.1 mE
     rw [List.perm_iff_count];intro z
     have:=hc z
     simp only [List.count_append,List.count_cons,List.cons_append,List.nil_append] at this ⊢
     omega))
    have dY:bK (fun w=>K0 w∧az w I) β u (.rw e k (rows.set i (row.take o++(xs++row.drop (o+xs.length))))) ([(b0,.cells (cL cs (i*k+o) zs) e fz)]++bW rows.length k (fe G i o zs.length Gx)):=by
     have:=bK.rw (K:=fun w=>K0 w∧az w I) (u:=u) (T:=e) (k:=k) (rows:=rows.set i (row.take o++(xs++row.drop (o+xs.length)))) (H0:=[(b0,.cells (cL cs (i*k+o) zs) e fz)]) hb (jQ X i o zs) (fe G i o zs.length Gx) jZ.hl (by
      rw [List.length_set]
      exact ⟨e8 fun a ha=>vf (by omega) (hX a ha),Or.inr ⟨_,_,_,fz,rfl,rfl,by rw [j7];exact fL,by rw [j7];exact cX,ew,NY hX hi (by omega) ht bI⟩⟩) jZ.hr
     rw [List.length_set] at this;exact this
    have R3:=((R2.drop.perm (Y:=([(b0,.cells (cL cs (i*k+o) zs) e fz)]++bW rows.length k (fe G i o zs.length Gx))++[]) (by rw [List.append_nil])).back (by rw [List.length_set];exact aK) (by simp [aS]) dY).nil rfl
    rw [List.set_set] at R3
    refine ⟨β,_,I,R3,(Ext.refl β).b _,bL.refl _,fun q hq kA=>?_,.d (.jk _)⟩
    simp only [List.mem_cons,not_or] at kA
    simp only [aS];rw [if_neg kA.1,if_neg kA.1]
    exact Sp q kA.2
def AK (T:aW) (E:List (Nat×AV)) (M:List au) (oc:Option bj) (t:TypeId) (x:Operand):Option Out:=
 match aO E x,oc,mO T t with
 | some (.ep u k i o),some (.ix _ row),some .one=>(match M[u]?,row[o]? with
  | some (.rw e k' rows),some (.em T2 k2 cr)=>bif k.beq k' then some ⟨[rows[i]?=some row],.sl M.length cr.length,M.set u (.rw e k (rows.set i (row.take o++([.jk]++row.drop (o+1)))))++[.rw T2 k2 cr],[u],[],none⟩ else none
  | _,_=>none)
 | _,_,_=>none
theorem Md (hT:bp P T=true) {t:TypeId} {x:Operand} (h:AK T E M oc t x=some out):aP P ⟨d,.load t x,ty,pos,aft,gd⟩ E M out:=by
 unfold AK at h
 split at h
 rotate_left
 ·simp at h
 rename_i u k i o i0 row hx jW
 split at h
 rotate_left
 ·simp at h
 rename_i e k' rows T2 k2 cr hM qJ
 cases hk:k.beq k' with
 | false=>simp [hk] at h
 | true=>
  simp only [hk,cond_true,Option.some.injEq] at h;subst h
  obtain rfl:=Nat.eq_of_beq_eq_true hk
  intro D w0 K0 β F I ρ w C hv
  obtain ⟨cu,-⟩:=hv
  obtain ⟨yx,fN,rx⟩:=C.bS hx
  have R:=C.rm.x
  have hB:=R.blk u _ hM
  have hH:=R.jE hM
  have R1:=R.ea hM
  have aK:=eB hM
  cases rx with
  | @ep _ _ _ _ b0 c0 hb=>
   generalize hC:F u=Fu at hB hH R1
   cases hB with
   | rw aV X G dI hs hr=>
    rw [hb] at aV;cases aV
    obtain ⟨hi,-⟩:=List.getElem?_eq_some_iff.1 cu
    obtain ⟨ho,-⟩:=List.getElem?_eq_some_iff.1 qJ
    obtain ⟨H7,H8⟩:=dI i row cu
    obtain ⟨b',cap,cs,fz,he,rfl,fL,cX,ew,ht⟩:=hs.block (by omega)
    cases he
    have hw:=(az.app.1 hH).1.one
    have hX:∀ a,a<rows.length→(X a).length=k:=fun a ha=>(dI a _ (List.getElem?_eq_getElem ha)).2
    have Ij:i*k+k≤rows.length*k:=by have:=Nat.mul_le_mul_right k (show i+1≤rows.length from hi);rw [Nat.succ_mul] at this;exact this
    have bI:rows.length*k≤cs.size:=by rw [cX];exact Nat.mul_le_mul_right _ ew
    obtain ⟨y,hy⟩:∃ y,(X i)[o]?=some y:=⟨_,List.getElem?_eq_getElem (by omega)⟩
    have hd:=hr i row o _ y cu qJ hy
    have Pf:w.cell? ⟨b0,i*k+o,none⟩=some y:=by
     rw [cell_of hw,← hy,← lE hX hi (by omega),← ht,List.getElem?_take,if_pos (by omega),Array.getElem?_toList]
    refine bq.pure (F9 (yQ hT jW) fN Pf) ?_
    have ra:dW (fun w=>K0 w∧az w I) k rows X G:=⟨dI,hr⟩
    have jZ:=ra.put (o:=o) (zs:=[y]) (xs:=[.jk]) (Gx:=fun _=>[]) cu (by simp;omega) rfl (fun j c z h1 h2=>by
     cases j with
     | zero=>simp at h1;subst h1;exact .jk _
     | succ j=>simp at h1)
    have mE:=Es (n:=rows.length) (k:=k) (i:=i) (o:=o) (m:=1) hi (by omega) G (fun _=>[])
    have er:(List.range 1).flatMap (fun _=>([]:aA))=[]:=by simp
    have Qs:(List.range' o 1).flatMap (G i)=G i o:=by simp
    rw [er,Qs,List.append_nil] at mE
    have R2:=R1.perm (Y:=([(b0,.cells cs e fz)]++bW rows.length k (fe G i o 1 fun _=>[]))++G i o) (by
     classical
     have hc:=List.perm_iff_count.1 mE
     rw [List.perm_iff_count];intro z
     have:=hc z
     simp only [List.count_append,List.count_nil] at this ⊢
     omega)
    have Pg:lay rows.length (jQ X i o [y])=lay rows.length X:=by
     refine yS fun a ha=>?_
     unfold jQ;split
     ·rename_i e;subst e
      apply List.ext_getElem?;intro j
      rw [oI (by simp;omega)]
      split
      ·rename_i h1;simp at h1
       obtain rfl:j=o:=by omega
       rw [hy];simp
      ·rfl
     ·rfl
    have dY:bK (fun w=>K0 w∧az w I) β u (.rw e k (rows.set i (row.take o++([.jk]++row.drop (o+1))))) ([(b0,.cells cs e fz)]++bW rows.length k (fe G i o 1 fun _=>[])):=by
     have:=bK.rw (K:=fun w=>K0 w∧az w I) (u:=u) (T:=e) (k:=k) (rows:=rows.set i (row.take o++([.jk]++row.drop (o+1)))) (H0:=[(b0,.cells cs e fz)]) hb (jQ X i o [y]) (fe G i o 1 fun _=>[]) jZ.hl (by
      rw [List.length_set,Pg]
      exact ⟨e8 hX,Or.inr ⟨_,_,_,fz,rfl,rfl,fL,cX,ew,ht⟩⟩) jZ.hr
     rw [List.length_set] at this;exact this
    have R3:=R2.back (by rw [List.length_set];exact aK) (by simp [aS]) dY
    rw [List.set_set] at R3
    have Il:(M.set u (au.rw e k (rows.set i (row.take o++([.jk]++row.drop (o+1)))))).length=M.length:=by rw [List.length_set]
    generalize G i o=Ub at hd R3
    cases hd with
    | em X2 F2 Sr gN iH=>
     obtain ⟨a2,c2,rfl⟩:=gN.len
     have hq:(β++[(a2,c2)])[M.length]?=some (a2,c2):=by rw [← R.len];simp
     have cH:=bK.rw (K:=fun w=>K0 w∧az w I) (T:=T2) (k:=k2) (rows:=cr) hq X2 F2 Sr gN iH
     rw [← Il] at cH
     have R4:=((R3.perm (Y:=_++[]) (by rw [List.append_nil])).take cH).nil rfl
     rw [Il] at R4
     refine ⟨_,_,I,R4,(Ext.app _ _).b _,bL.refl _,fun q rA kA=>?_,.sl hq⟩
     have k8:q≠u:=by simpa using kA
     simp only [aS]
     rw [if_neg (by omega),if_neg k8,if_neg k8]
def AL (T:aW) (E:List (Nat×AV)) (M:List au) (oc:Option bj) (st:TypeId) (x y:Operand):Option Out:=
 match ju T st,aO E x,aO E y,oc with
 | some (_,k,_,_),some (.sl u n),some vy,some (.n c)=>(match M[u]?,qU M k vy with
  | some (.rw e' k' rows),some (none,_,cr)=>bif k.beq k' then some ⟨[n=rows.length,min cr.length n=c,bA cr],.d (.v (.int .i64 (c:Int))),M.set u (.rw e' k (cr.take c++rows.drop c)),[u],[],none⟩ else none
  | _,_=>none)
 | _,_,_,_=>none
theorem dW.take {K:World→Prop} {k c:Nat} {rows:List (List DV)} {X:Nat→List Value} {G:Nat→Nat→aA} (h:dW K k rows X G):dW K k (rows.take c) X G:=by
 constructor
 ·intro i r hi
  rw [List.getElem?_take] at hi
  split at hi
  ·exact h.hl i r hi
  ·simp at hi
 ·intro i r j c' x hi
  rw [List.getElem?_take] at hi
  split at hi
  ·exact h.hr i r j c' x hi
  ·simp at hi
theorem dW.drop {K:World→Prop} {k c:Nat} {rows:List (List DV)} {X:Nat→List Value} {G:Nat→Nat→aA} (h:dW K k rows X G):dW K k (rows.drop c) (fun i=>X (c+i)) (fun i=>G (c+i)):=by
 constructor
 ·intro i r hi;rw [List.getElem?_drop] at hi;exact h.hl _ r hi
 ·intro i r j c' x hi;rw [List.getElem?_drop] at hi;exact h.hr _ r j c' x hi
theorem pY {n c k:Nat} {X:Nat→List Value} (hX:∀ a,a<n→(X a).length=k) (hc:c≤n):lay c X=(lay n X).take (c*k):=by
 have h1:=qe c (n-c) X (fun i=>X (c+i))
 rw [show c+(n-c)=n by omega] at h1
 have h2:lay n (fun i=>if i<c then X i else X (c+(i-c)))=lay n X:=yS fun i hi=>by
  split
  ·rfl
  ·congr 1;omega
 rw [h2] at h1
 rw [h1,List.take_append_of_le_length (by rw [e8 fun a ha=>hX a (by omega)];exact Nat.le_refl _),List.take_of_length_le (by rw [e8 fun a ha=>hX a (by omega)];exact Nat.le_refl _)]
theorem yq {n c k:Nat} {X:Nat→List Value} (hX:∀ a,a<n→(X a).length=k) (hc:c≤n):lay (n-c) (fun i=>X (c+i))=(lay n X).drop (c*k):=by
 have h1:=qe c (n-c) X (fun i=>X (c+i))
 rw [show c+(n-c)=n by omega] at h1
 have h2:lay n (fun i=>if i<c then X i else X (c+(i-c)))=lay n X:=yS fun i hi=>by
  split
  ·rfl
  ·congr 1;omega
 rw [h2] at h1
 have hl:=e8 (n:=c) (k:=k) (X:=X) (fun a ha=>hX a (by omega))
 rw [h1,List.drop_append_of_le_length (by omega),List.drop_of_length_le (by omega),List.nil_append]
theorem uJ {n c k:Nat} (G:Nat→Nat→aA) (hc:c≤n):bW n k G=bW c k G++bW (n-c) k (fun i=>G (c+i)):=by
 have h1:=r7 c (n-c) k G (fun i=>G (c+i))
 rw [show c+(n-c)=n by omega] at h1
 rw [← h1]
 simp only [bW]
 refine eL fun i hi=>eL fun j _=>?_
 show G i j=(if i<c then G i else G (c+(i-c))) j
 split
 ·rfl
 ·congr 2;omega
theorem Jv (cs:Array Value) (zs:List Value) (h:zs.length≤cs.size):(cL cs 0 zs).toList=zs++cs.toList.drop zs.length:=by
 apply List.ext_getElem?
 intro p
 rw [Array.getElem?_toList,pS _ _ _ _ (by omega)]
 by_cases hp:p<zs.length
 ·rw [if_pos (by omega),List.getElem?_append_left hp,Nat.sub_zero]
 ·rw [if_neg (by omega),List.getElem?_append_right (by omega),List.getElem?_drop,Array.getElem?_toList]
  congr 1;omega
theorem Src.pre {size:Nat} {x:Value} {m c:Nat} {X:List Value} (h:Src w size x m X) (hc:c≤m):(Builtin.lenOf x).run P w=.ok m w∧(Builtin.firstCells size c x).run P w=.ok (X.take (c*size)).toArray w:=by
 obtain ⟨hl,hh⟩:=h
 refine ⟨(Src.first (P:=P) ⟨hl,hh⟩).1,?_⟩
 rcases hh with ⟨rfl,a,c',rfl⟩ | ⟨a,c',rfl,h⟩
 ·obtain rfl:c=0:=by omega
  have:X=[]:=List.eq_nil_of_length_eq_zero (by simpa using hl)
  subst this
  cases a with
  | none=>simp [Builtin.firstCells]
  | some a=>simp [Builtin.firstCells,loadCells,loadCellsFrom]
 ·have hlen:(X.take (c*size)).length=c*size:=by rw [List.length_take,hl];exact Nat.min_eq_left (Nat.mul_le_mul_right _ hc)
  simp only [Builtin.firstCells]
  have:=run_loadCells (P:=P) (w:=w) (a:=a) (X:=X.take (c*size)) (fun j hj=>by
   rw [h j (by simp at hj;omega),List.getElem_take])
  rw [hlen] at this;exact this
theorem Me (hT:bp P T=true) {st xt:TypeId} {x y:Operand} (h:AL T E M oc st x y=some out):aP P ⟨d,.call ⟨.builtin .copy,#[x,y],#[st,xt]⟩,ty,pos,aft,gd⟩ E M out:=by
 unfold AL at h
 split at h
 rotate_left
 ·simp at h
 rename_i e k b z u n vy c he hx hy
 obtain ⟨zv,ok,-,-⟩:=lI hT he
 split at h
 rotate_left
 ·simp at h
 rename_i e' k' rows m cr hM hs
 cases hk:k.beq k' with
 | false=>simp [hk] at h
 | true=>
  simp only [hk,cond_true,Option.some.injEq] at h;subst h
  obtain rfl:=Nat.eq_of_beq_eq_true hk
  obtain ⟨k6,hm⟩:=xU hs
  intro D w0 K0 β F I ρ w C hv
  obtain ⟨hn,wH,er,-⟩:=hv
  subst hn
  obtain ⟨X2,a2,g6⟩:=yo C.now k6 (C.ev hy)
  have mT:c≤cr.length:=by omega
  have tE:c≤rows.length:=by omega
  have bI:∀ w:World,(sizeOf e).run P w=.ok k w:=fun w=>by obtain ⟨i,hi,h1,-⟩:=ok.info;simp [sizeOf,typeInfo,Sem.run_bind,hi,h1]
  obtain ⟨hlen,qw⟩:=g6.pre (P:=P) mT
  have Cl:∀ a,a<cr.length→(X2 a).length=k:=fun a ha=>(a2.hl a _ (List.getElem?_eq_getElem ha)).2
  rw [← pY Cl mT] at qw
  have Im:(lay c X2).length=c*k:=e8 fun a ha=>Cl a (by omega)
  have AM:∀ q ∈ lay c X2,cd q=true:=fun q hq=>a2.one er q (by rw [pY Cl mT] at hq;exact List.mem_of_mem_take hq)
  obtain ⟨yx,fN,rx⟩:=C.bS hx
  cases rx with
  | @sl _ _ c0 q0 hb=>
   have R:=C.rm.x
   have hB:=R.blk u _ hM
   have hH:=R.jE hM
   have R1:=R.ea hM
   have aK:=eB hM
   generalize hC:F u=Fu at hB hH R1
   cases hB with
   | rw aV X G dI hs hr=>
    rw [hb] at aV;cases aV
    have hX:∀ a,a<rows.length→(X a).length=k:=fun a ha=>(dI a _ (List.getElem?_eq_getElem ha)).2
    have jY:(cr.take c++rows.drop c).length=rows.length:=by simp;omega
    have ra:dW (fun w=>K0 w∧az w I) k rows X G:=⟨dI,hr⟩
    have Ss:min c cr.length=c:=by omega
    have jZ:=(a2.take (c:=c)).app (ra.drop (c:=c))
    rw [List.length_take,Ss] at jZ
    have oT:∀ (a0:Option Addr) (c0:Nat) w',ρ x=.slice a0 rows.length c0→(∀ a:Addr,a0=some a→(storeCells a (lay c X2)).run P w=.ok () w')→(a0=none→w'=w)→(execOp ρ ⟨d,.call ⟨.builtin .copy,#[x,y],#[st,xt]⟩,ty,pos,aft,gd⟩).run P w=.ok (.value (.int .i64 (c:Int))) w':=by
     intro a0 c0 w' fN bM cY
     have AN:Nat.min cr.length rows.length=c:=wH
     simp only [execOp,resolve,List.map_toArray,List.map,fN,Sem.run_bind,Sem.run_pure,Result.andThen_ok,invoke,builtin,Builtin.copy_,List.getElem?_toArray,List.getElem?_cons_zero,List.getElem?_cons_succ,run_underlying ok.bM,hlen,AN,bI,qw]
     cases a0 with
     | some a=>simp only [Sem.run_bind,bM _ rfl,Result.andThen_ok,Sem.run_pure];rfl
     | none=>rw [cY rfl];simp only [Sem.run_pure,Result.andThen_ok];rfl
    have fD:∀ {w':World} {H0':aA},St D w0 w' (H0'++(bW rows.length k G++((List.range (M.set u .dead).length).flatMap (aS F u [])++I)))→(∀ a0 c0,β[u]?=some (a0,c0)→eD e' k (.slice a0 rows.length c0) rows.length (lay c X2++(lay rows.length X).drop (c*k)) H0')→∃ aF F' I',RM D w0 K0 (M.set u (.rw e' k (cr.take c++rows.drop c))) aF F' I' w'∧fq [] β aF∧bL I I'∧(∀ v,v<M.length→v ∉ [u]→F' v=F v)∧aE (fun w=>K0 w∧az w I') aF (.d (.v (.int .i64 (c:Int)))) (.int .i64 (c:Int)):=by
     intro w' H0' bM dL
     rw [uJ G tE] at bM
     have R2:bR D w0 K0 (M.set u .dead) β (aS F u []) I ((H0'++bW (rows.length-c) k (fun i=>G (c+i)))++bW c k G) w':=R1.move (bM.perm (by classical rw [List.perm_iff_count];intro z;simp only [List.count_append];omega))
     have dY:bK (fun w=>K0 w∧az w I) β u (.rw e' k (cr.take c++rows.drop c)) (H0'++bW (rows.length-c) k (fun i=>G (c+i))):=by
      have nI:lay rows.length (fun i=>if i<c then X2 i else X (c+(i-c)))=lay c X2++(lay rows.length X).drop (c*k):=by
       have:=qe c (rows.length-c) X2 (fun i=>X (c+i))
       rw [show c+(rows.length-c)=rows.length by omega,yq hX tE] at this
       exact this
      have Qt:bW rows.length k (fun i=>if i<c then (fun _=>[]) else G (c+(i-c)))=bW (rows.length-c) k (fun i=>G (c+i)):=by
       have:=r7 c (rows.length-c) k (fun _ _=>[]) (fun i=>G (c+i))
       rw [show c+(rows.length-c)=rows.length by omega,l8,List.nil_append] at this
       exact this
      have:=bK.rw (K:=fun w=>K0 w∧az w I) (u:=u) (T:=e') (k:=k) (rows:=cr.take c++rows.drop c) (H0:=H0') hb _ _ jZ.hl (by
       rw [jY,nI];exact dL _ _ hb) jZ.hr
      rw [jY,Qt] at this;exact this
     have R3:=((R2.drop.perm (Y:=(H0'++bW (rows.length-c) k (fun i=>G (c+i)))++[]) (by rw [List.append_nil])).back (by rw [List.length_set];exact aK) (by simp [aS]) dY).nil rfl
     rw [List.set_set] at R3
     refine ⟨β,_,I,R3,(Ext.refl β).b _,bL.refl _,fun q hq kA=>?_,.d (.v _)⟩
     have k8:q≠u:=by simpa using kA
     simp only [aS];rw [if_neg k8,if_neg k8]
    have Hq:=R1.st
    rcases hs.2 with ⟨h0,rfl,a,Io⟩ | ⟨b',cap,cs,fz,rB,rfl,fL,cX,ew,ht⟩
    ·have gi:c=0:=by omega
     simp only [Value.slice.injEq] at Io
     obtain ⟨-,-,rfl⟩:=Io
     have w8:lay c X2=[]:=by subst gi;simp [lay]
     refine bq.pure (oT _ _ w fN (fun a _=>by rw [w8];simp [storeCells]) (fun _=>rfl)) (fD (H0':=[]) (Hq.perm (by classical rw [List.perm_iff_count];intro z;simp only [List.count_append,List.count_nil];omega)) fun a0 c0 lU=>?_)
     rw [hb] at lU;cases lU
     have:lay rows.length X=[]:=by rw [h0];simp [lay]
     rw [w8,this,List.drop_nil,List.append_nil]
     rw [h0];exact eD.nil _ _ _
    ·simp only [Value.slice.injEq] at rB
     obtain ⟨rfl,-,rfl⟩:=rB
     have hw:=(az.app.1 hH).1.one
     have Su:c*k≤rows.length*k:=Nat.mul_le_mul_right _ tE
     have wz:rows.length*k≤cs.size:=by rw [cX];exact Nat.mul_le_mul_right _ ew
     have Gc:=rS (P:=P) (lay c X2) w cs 0 0 hw (by omega) AM
     rw [Nat.add_zero] at Gc
     refine bq.pure (oT _ _ _ fN (fun a ha=>by simp only [Option.some.injEq] at ha;subst ha;exact Gc) (fun cY=>by simp at cY)) (fD (H0':=[(b',.cells (cL cs 0 (lay c X2)) e' fz)]) ?_ fun a0 c0 lU=>?_)
     ·have o0:St D w0 w ((b',.cells cs e' fz)::(bW rows.length k G++((List.range (M.set u .dead).length).flatMap (aS F u [])++I))):=Hq.perm (by classical rw [List.perm_iff_count];intro z;simp only [List.count_append,List.count_cons,List.cons_append,List.nil_append];omega)
      exact o0.set _
     ·rw [hb] at lU;cases lU
      refine ⟨by rw [List.length_append,List.length_drop,Im,e8 hX];omega,Or.inr ⟨b',_,_,fz,rfl,rfl,by rw [j7];exact fL,by rw [j7];exact cX,ew,?_⟩⟩
      rw [Jv cs _ (by omega),List.take_append,Im,List.take_of_length_le (by omega),← ht,List.drop_take]
def zP (T:aW) (E:List (Nat×AV)) (M:List au) (oc:Option bj) (t:TypeId) (x y:Operand):Option Out:=
 match ju T t,cS (aO E x),cS (aO E y),oc with
 | some (e,k,b,z),some (.i64,n),some (.i64,n'),some (.n2 m c)=>some ⟨[n=(m:Int),n'=(c:Int),m≤c,b*c≤281474976710656,c<4611686018427387904],.sl M.length m,M++[.rw e k (List.replicate m (z.map .v))],[],[],none⟩
 | _,_,_,_=>none
set_option maxRecDepth 20000 in
theorem Jg {t e k b:Nat} {z:List Value} {zv:Value} (ok:qI P t e k b zv) (hz:zv.cells=z.toArray) (fw:z.length=k) {m c:Nat} (nZ:m≤c) (hb:b*c≤281474976710656) (hm:c<4611686018427387904):
  (Instr.makeSlice t (.int .i64 m) (.int .i64 c)).run P w=.ok (.slice (some ⟨w.heap.size,0,none⟩) m c) (w.alloc (.cells (lay c fun _=>z).toArray e)):=by
 obtain ⟨i,hi,h1,h2,h3⟩:=ok.info
 have hw:∀ m:Nat,m<4611686018427387904→IntKind.i64.wrap (m:Int)=m:=by
  intro m hm;simp [IntKind.wrap,IntKind.signed,IntKind.bits];omega
 have bI:∀ w:World,(sizeOf e).run P w=.ok k w:=fun w=>by simp [sizeOf,typeInfo,Sem.run_bind,hi,h1]
 have lK:∀ w:World,(typeInfo e).run P w=.ok i w:=fun w=>by simp [typeInfo,Sem.run_bind,hi]
 have hzero:∀ w:World,(zeroValue e).run P w=.ok zv w:=fun w=>by simp [zeroValue,Sem.run_bind,lK,h3]
 have sR:∀ (k:Nat) (w:World),(askRoom k).run P w=.ok () w:=by
  intro k w;unfold askRoom;split<;>simp [mark,Sem.run]
 have B9:∀ n:Int,asInt (.int .i64 n)=pure n:=fun n=>rfl
 have cu:∀ (cs:Array Value) (w:World),(newRow e cs).run P w=.ok ⟨w.heap.size,0,none⟩ (w.alloc (.cells cs e)):=by
  intro cs w;simp [newRow,newObj,Sem.run]
 have Ca:∀ m:Nat,b*m≤281474976710656→¬ ((i.bytes:Int)*(m:Int)>2 ^ 48):=by
  intro m hb
  rw [h2]
  have e:((b*m:Nat):Int)=(b:Int)*(m:Int):=Int.natCast_mul b m
  rw [← e]
  generalize b*m=q at hb
  omega
 have zN:∀ n,n=c*k→(if n=0 then ((Array.range n).map fun i=>(#[]:Array Value)[i%(#[]:Array Value).size]!) else ((Array.range n).map fun i=>z.toArray[i%z.toArray.size]!))=(lay c fun _=>z).toArray:=by
  intro n hn
  subst hn
  rw [← ve z c k fw]
  by_cases h0:c*k=0
  ·rw [if_pos h0,h0];simp
  ·rw [if_neg h0]
 unfold Instr.makeSlice
 simp only [Sem.run_bind,run_underlying ok.bM,Result.andThen_ok,B9,Sem.run_pure,lK,hw c hm,hw m (by omega)]
 have n2:=Ca c hb
 have AF:¬ ((((m:Int)<0:Bool)||decide ((i.bytes:Int)*(c:Int)>2 ^ 48))=true∨(m:Int)<0∨(m:Int)>c):=by
  simp only [Bool.or_eq_true,decide_eq_true_eq]
  omega
 rw [if_neg (by simpa using AF)]
 simp only [Sem.run_bind,Result.andThen_ok,sR,bI,Int.toNat_natCast]
 have:=zN (c*k) rfl
 by_cases h0:c*k=0
 ·rw [if_pos h0] at this ⊢
  simp only [Sem.run_pure,Result.andThen_ok,Sem.run_bind,cu,this]
 ·rw [if_neg h0] at this ⊢
  simp only [Sem.run_pure,Result.andThen_ok,Sem.run_bind,hzero,hz,cu,this]
theorem KD (hT:bp P T=true) {t:TypeId} {x y:Operand} (h:zP T E M oc t x y=some out):aP P ⟨d,.makeSlice t x y,ty,pos,aft,gd⟩ E M out:=by
 unfold zP at h
 split at h
 ·rename_i e k b z n n' m c he hx hy
  simp only [Option.some.injEq] at h;subst h
  obtain ⟨zv,ok,hz,fw⟩:=lI hT he
  intro D w0 K0 β F I ρ w C hv
  obtain ⟨rfl,rfl,nZ,hb,hm,-⟩:=hv
  refine bq.pure (v:=.slice (some ⟨w.heap.size,0,none⟩) m c) (w':=w.alloc (.cells (lay c fun _=>z).toArray e)) (by simp only [execOp,C.int hx,C.int hy,Sem.run_bind,Jg ok hz fw nZ hb hm,Result.andThen_ok,Sem.run_pure]) ?_
  have gO:=e8 (n:=c) (k:=k) (X:=fun _=>z) (fun _ _=>fw)
  have Sv:=e8 (n:=m) (k:=k) (X:=fun _=>z) (fun _ _=>fw)
  refine ⟨_,_,I,C.rm.new (q:=(some ⟨w.heap.size,0,none⟩,c)) (Gr.alloc w _) (dG.alloc w _) ?_,(Ext.app _ _).b _,bL.refl _,kJ _ _,.sl (fA C.rm _)⟩
  have:=bK.rw (K:=fun w=>K0 w∧az w I) (β:=β++[(some ⟨w.heap.size,0,none⟩,c)]) (u:=M.length) (T:=e) (k:=k) (rows:=List.replicate m (z.map .v)) (H0:=[(w.heap.size,.cells (lay c fun _=>z).toArray e (0,0))]) (fA C.rm _) (fun _=>z) (fun _ _=>[]) (fun i r hi=>by
   rw [List.getElem?_replicate] at hi
   split at hi
   ·simp only [Option.some.injEq] at hi;subst hi;rw [List.length_map];exact ⟨fw,fw⟩
   ·simp at hi) (by
    rw [List.length_replicate]
    exact ⟨Sv,Or.inr ⟨w.heap.size,c,_,(0,0),rfl,rfl,kZ _,by simpa using gO,nZ,(pY (n:=c) (k:=k) (X:=fun _=>z) (fun _ _=>fw) nZ).symm⟩⟩) (fun i r j c x hi h1 h2=>by
    rw [List.getElem?_replicate] at hi
    split at hi
    ·simp only [Option.some.injEq] at hi;subst hi;exact xD h1 h2
    ·simp at hi)
  rw [l8,List.append_nil] at this
  exact this
 ·simp at h
end Go.Proofs.YtlinpknagdgphaaGreat
namespace Go.Proofs.YtlinpknagdgphaaGreat
open Go.RowKit
variable {P:Program} {T:aW} {D:List Nat} {w0:World} {K0:World→Prop} {E:List (Nat×AV)} {M:List au} {β:Beta} {F:Nat→aA} {I X:aA} {ρ:Operand→Value} {w:World}
variable {d:Option Tmp} {ty:TypeId} {pos:String} {aft:Array Edge} {gd:Option (Nat×Bool)} {oc:Option bj} {out:Out}
theorem oJ {t e size n c l h m:Nat} {a:Option Addr} (ht:P.underlying t=some (.slice e)) (hs:(P.info? e).map (·.size)=some size) {vl vh vm:Option Value} (hb:(Instr.sliceBounds true n c vl vh vm).run P w=.ok (l,h,m) w):
  (Instr.sliceAt t (.slice a n c) vl vh vm).run P w=.ok (.slice (if m=l then a else a.map (·.add (l*size))) (h-l) (m-l)) w:=by
 cases hi:P.info? e with
 | none=>simp [hi] at hs
 | some inf=>
  simp only [hi,Option.map_some,Option.some.injEq] at hs
  have bI:(sizeOf e).run P w=.ok size w:=by simp [sizeOf,typeInfo,Sem.run_bind,hi,hs]
  simp only [Instr.sliceAt,Instr.slice,Sem.run_bind,run_underlying ht,Result.andThen_ok,hb,bI,Sem.run_pure]
def Cm (T:aW) (E:List (Nat×AV)) (M:List au) (oc:Option bj) (t:TypeId) (x:Operand) (lo hi mx:Option Operand):Option Out:=
 match cV T t,aO E x,oc with
 | some (.sl e),some (.sl u n),some o=>(match fY T e,M[u]? with
  | some k,some (.rw Te k' rows)=>(match lo,hi,mx,o with
   | some l,none,none,.n c=>(match cS (aO E l) with
    | some (.i64,z)=>bif k.beq k' then some ⟨[z=(c:Int),c<n,n=rows.length],.sb u k c (n-c),M,[],[],some [u]⟩ else none
    | _=>none)
   | none,some h,none,.n c=>(match cS (aO E h) with
    | some (.i64,z)=>some ⟨[z=(c:Int),c≤n,n=rows.length],.sl u c,M.set u (.rw Te k' (rows.take c)),[u],[],none⟩
    | _=>none)
   | none,some h,some m,.res (.ro k2 cr)=>(match cS (aO E h),cS (aO E m) with
    | some (.i64,z),some (.i64,z')=>some ⟨[z=(n:Int),z'=(n:Int),n=rows.length,k'=k2,cg rows=cr],.d (.ro k2 cr),M.set u .dead,[u],[],none⟩
    | _,_=>none)
   | _,_,_,_=>none)
  | _,_=>none)
 | _,_,_=>none
theorem Src.cap {size n c c':Nat} {a:Option Addr} {xs:List Value} (h:Src w size (.slice a n c) n xs):Src w size (.slice a n c') n xs:=by
 refine ⟨h.1,?_⟩
 rcases h.2 with ⟨rfl,_,_,_⟩ | ⟨a',_,e,h2⟩
 ·exact Or.inl ⟨rfl,_,_,rfl⟩
 ·simp only [Value.slice.injEq] at e;obtain ⟨rfl,-,rfl⟩:=e
  exact Or.inr ⟨a',c',rfl,h2⟩
theorem bQ.cap {K:World→Prop} {k n c c':Nat} {a:Option Addr} {rows:List (List DV)} {H:aA} (h:bQ K (.ro k rows) (.slice a n c) H) (hc:n≤c'):bQ K (.ro k rows) (.slice a n c') H:=by
 cases h with
 | ro X hl hy hs hr=>
  obtain ⟨a',Sw,e,-⟩:=hy
  simp only [Value.slice.injEq] at e;obtain ⟨rfl,rfl,rfl⟩:=e
  exact .ro X hl ⟨_,_,rfl,hc⟩ (fun w hw=>(hs w hw).cap) hr
theorem Ph (hT:bp P T=true) {t:TypeId} {x:Operand} {lo hi mx:Option Operand} (h:Cm T E M oc t x lo hi mx=some out):aP P ⟨d,.slice t x lo hi mx,ty,pos,aft,gd⟩ E M out:=by
 unfold Cm at h
 split at h
 rotate_left
 ·simp at h
 rename_i e u n o ht hx
 split at h
 rotate_left
 ·simp at h
 rename_i k Te k' rows hk hM
 replace ht:=cE hT ht
 replace hk:=ie hT hk
 split at h
 ·rename_i l c
  split at h
  rotate_left
  ·simp at h
  rename_i z hz
  cases b9:k.beq k' with
  | false=>simp [b9] at h
  | true=>
   simp only [b9,cond_true,Option.some.injEq] at h;subst h
   obtain rfl:=Nat.eq_of_beq_eq_true b9
   refine aP.look ?_ (by simpa using eB hM)
   intro D w0 K0 β F I ρ w C hv
   obtain ⟨rfl,hc,hn,-⟩:=hv
   obtain ⟨y,hy,r⟩:=C.bS hx
   cases r with
   | @sl _ _ cc a hb=>
    obtain ⟨H,hF,hB,hH⟩:=C.rm.at hM
    cases hB with
    | rw aV X G hl hs hr=>
     rw [hb] at aV;cases aV
     obtain ⟨b',cap,cs,fz,he,rfl,fL,cX,ew,iI⟩:=hs.block (by omega)
     simp only [Value.slice.injEq] at he;obtain ⟨rfl,-,rfl⟩:=he
     refine ⟨_,aE.sb (k:=k) (o:=c) (n:=n-c) (c':=cc-c) hb,fun w' _=>?_⟩
     have:=oJ (P:=P) (w:=w') (a:=some ⟨b',0,none⟩) ht hk (n:=n) (c:=cc) (l:=c) (h:=n) (m:=cc) (vl:=some (.int .i64 c)) (vh:=none) (vm:=none) (by simp [Instr.sliceBounds,jd (show c≤n by omega)])
     rw [if_neg (by omega)] at this
     simp only [execOp,hy,C.int hz,Option.map_some,Option.map_none,Sem.run_bind,this,Result.andThen_ok,Sem.run_pure,add_eq,Nat.zero_add]
 ·rename_i hh c
  split at h
  rotate_left
  ·simp at h
  rename_i z hz
  simp only [Option.some.injEq] at h;subst h
  intro D w0 K0 β F I ρ w C hv
  obtain ⟨rfl,hc,hn,-⟩:=hv
  obtain ⟨y,hy,r⟩:=C.bS hx
  cases r with
  | @sl _ _ cc a hb=>
   have R:=C.rm.x
   have hB:=R.blk u _ hM
   have R1:=R.ea hM
   have aK:=eB hM
   generalize hC:F u=Fu at hB R1
   cases hB with
   | @rw _ _ _ _ _ H0 aV X G hl hs hr=>
    rw [hb] at aV;cases aV
    have kx:n≤cc:=by
     rcases hs.2 with ⟨h0,-,a,hq⟩ | ⟨b',cap,cs,fz,hq,-,-,-,ew,-⟩
     ·omega
     ·simp only [Value.slice.injEq] at hq;omega
    have fc:=oJ (P:=P) (w:=w) (a:=a) ht hk (n:=n) (c:=cc) (l:=0) (h:=c) (m:=cc) (vl:=none) (vh:=some (.int .i64 c)) (vm:=none) (by simp [Instr.sliceBounds,jd (show c≤cc by omega)])
    have jX:(if cc=0 then a else a.map (·.add (0*k)))=a:=by
     split
     ·rfl
     ·cases a with
      | none=>rfl
      | some a=>simp [add_zero']
    rw [jX] at fc
    refine bq.pure (v:=.slice a c cc) (w':=w) (by simp only [execOp,hy,C.int hz,Option.map_some,Option.map_none,Sem.run_bind,fc,Result.andThen_ok,Sem.run_pure,Nat.sub_zero]) ?_
    have hX:∀ a,a<rows.length→(X a).length=k':=fun a ha=>(hl a _ (List.getElem?_eq_getElem ha)).2
    have fO:c≤rows.length:=by omega
    have hlen:(rows.take c).length=c:=by simp;omega
    have ra:dW (fun w=>K0 w∧az w I) k' rows X G:=⟨hl,hr⟩
    have dL:eD Te k' (.slice a c cc) c (lay c X) H0:=by
     refine ⟨e8 fun i hi=>hX i (by omega),?_⟩
     rcases hs.2 with ⟨h0,e0,a',hq⟩ | ⟨b',cap,cs,fz,hq,e0,fL,h1,ew,iI⟩
     ·simp only [Value.slice.injEq] at hq
      obtain ⟨rfl,-,rfl⟩:=hq
      obtain rfl:c=0:=by omega
      exact Or.inl ⟨rfl,e0,_,rfl⟩
     ·simp only [Value.slice.injEq] at hq
      obtain ⟨rfl,-,rfl⟩:=hq
      refine Or.inr ⟨b',cc,cs,fz,rfl,e0,fL,h1,by omega,?_⟩
      rw [pY hX fO,← iI,List.take_take,Nat.min_eq_left (Nat.mul_le_mul_right _ fO)]
    have dY:bK (fun w=>K0 w∧az w I) β u (.rw Te k' (rows.take c)) (H0++bW c k' G):=by
     have:=bK.rw (K:=fun w=>K0 w∧az w I) (u:=u) (T:=Te) (k:=k') (rows:=rows.take c) hb X G (ra.take (c:=c)).hl (by rw [hlen];exact dL) (ra.take (c:=c)).hr
     rw [hlen] at this;exact this
    rw [List.nil_append,uJ G fO,← List.append_assoc] at R1
    have R3:=((R1.drop.perm (Y:=(H0++bW c k' G)++[]) (by rw [List.append_nil])).back (by rw [List.length_set];exact aK) (by simp [aS]) dY).nil rfl
    rw [List.set_set] at R3
    refine ⟨β,_,I,R3,(Ext.refl β).b _,bL.refl _,fun q hq kA=>?_,.sl hb⟩
    have k8:q≠u:=by simpa using kA
    simp only [aS];rw [if_neg k8,if_neg k8]
 ·rename_i hh m k2 cr
  split at h
  rotate_left
  ·simp at h
  rename_i z z' hz jX
  simp only [Option.some.injEq] at h;subst h
  intro D w0 K0 β F I ρ w C hv
  obtain ⟨rfl,rfl,hn,rfl,rfl,-⟩:=hv
  obtain ⟨y,hy,r⟩:=C.bS hx
  cases r with
  | @sl _ _ cc a hb=>
   have R:=C.rm.x
   have hB:=R.blk u _ hM
   have R1:=R.ea hM
   generalize hC:F u=Fu at hB R1
   have hd:bQ (fun w=>K0 w∧az w I) (.em Te k' rows) (.slice a n cc) Fu∧n≤cc:=by
    cases hB with
    | rw aV X G hl hs hr=>
     rw [hb] at aV;cases aV
     refine ⟨by rw [hn];exact .em X G hl hs hr,?_⟩
     rcases hs.2 with ⟨h0,-,a,hq⟩ | ⟨b',cap,cs,fz,hq,-,-,-,ew,-⟩
     ·omega
     ·simp only [Value.slice.injEq] at hq;omega
   obtain ⟨hd,kx⟩:=hd
   have fc:=oJ (P:=P) (w:=w) (a:=a) ht hk (n:=n) (c:=cc) (l:=0) (h:=n) (m:=n) (vl:=none) (vh:=some (.int .i64 n)) (vm:=some (.int .i64 n)) (by simp [Instr.sliceBounds,jd kx,jd (Nat.le_refl n)])
   have Sx:(if n=0 then a else a.map (·.add (0*k)))=a:=by
    split
    ·rfl
    ·cases a with
     | none=>rfl
     | some a=>simp [add_zero']
   rw [Sx] at fc
   refine bq.pure (v:=.slice a n n) (w':=w) (by simp only [execOp,hy,C.int hz,C.int jX,Option.map_some,Option.map_none,Sem.run_bind,fc,Result.andThen_ok,Sem.run_pure,Nat.sub_zero]) ?_
   rw [List.nil_append] at R1
   have R2:RM D w0 K0 (M.set u .dead) β (aS F u []) (Fu++I) w:=by
    refine ⟨R1.len,fun v bl hv=>(R1.blk v bl hv).mono (fun w hw=>⟨hw.1,(az.app.1 hw.2).2⟩) (Ext.refl _),?_⟩
    exact R1.st.perm (List.Perm.append_left _ List.perm_append_comm)
   refine ⟨β,_,_,R2,(Ext.refl β).b _,⟨_,rfl⟩,fun q _ hq=>by simp only [aS];rw [if_neg (by simpa using hq)],?_⟩
   have:=oH (K':=fun w=>K0 w∧az w (Fu++I)) hd fun w hw=>⟨⟨hw.1,(az.app.1 hw.2).2⟩,(az.app.1 hw.2).1⟩
   rw [cT] at this
   exact .d (this.cap (Nat.le_refl _))
 ·simp at h
def yY (T:aW) (E:List (Nat×AV)) (M:List au) (oc:Option bj) (t:TypeId) (x ix:Operand):Option Out:=
 match cS (aO E ix),cV T t,aO E x,oc with
 | some (_,z),some (.sl e),some (.sb u k o n),some (.n i)=>(match fY T e,M[u]? with
  | some k',some (.rw _ _ rows)=>bif k.beq k' then some ⟨[z=(i:Int),i<n,o+n≤rows.length],.ep u k (o+i) 0,M,[],[],some []⟩ else none
  | _,_=>none)
 | _,_,_,_=>none
theorem JN (hT:bp P T=true) {t:TypeId} {x ix:Operand} (h:yY T E M oc t x ix=some out):aP P ⟨d,.indexAddr t x ix,ty,pos,aft,gd⟩ E M out:=by
 unfold yY at h
 split at h
 rotate_left
 ·simp at h
 rename_i kk z e u k o n i hz ht hx
 split at h
 rotate_left
 ·simp at h
 rename_i k' Tt k2 rows hk hM
 cases b9:k.beq k' with
 | false=>simp [b9] at h
 | true=>
  simp only [b9,cond_true,Option.some.injEq] at h;subst h
  obtain rfl:=Nat.eq_of_beq_eq_true b9
  replace ht:=cE hT ht
  replace hk:=ie hT hk
  refine aP.look ?_ (by simp)
  intro D w0 K0 β F I ρ w C dj
  obtain ⟨rfl,hi,w7,-⟩:=dj
  obtain ⟨y,hy,r⟩:=C.bS hx
  cases r with
  | sb hb=>
   refine ⟨_,?_,fun _ _=>yj ht hk hy (C.int hz) (by omega) (by omega)⟩
   rw [add_eq]
   have:=aE.ep (K:=fun w=>K0 w∧az w I) (k:=k) (i:=o+i) (o:=0) hb
   rw [Nat.add_mul,Nat.add_zero] at this
   simpa using this
def zQ (T:aW) (E:List (Nat×AV)) (M:List au) (t:TypeId) (x:Operand):Option Out:=
 match ju T t,aO E x with
 | some (_,k,_,z),some (.sb u k' o n)=>(match M[u]? with
  | some (.rw Te k2 rows)=>bif k.beq k'&&k.beq k2&&z.all cd then some ⟨[0<n,o+n≤rows.length],.d (.v (.tuple #[])),M.set u (.rw Te k2 (rows.take o++(List.replicate n (z.map .v)++rows.drop (o+n)))),[u],[],none⟩ else none
  | _=>none)
 | _,_=>none
theorem KE (cs:Array Value) (i:Nat) (zs:List Value) (h:i+zs.length≤cs.size):(cL cs i zs).toList=cs.toList.take i++(zs++cs.toList.drop (i+zs.length)):=by
 apply List.ext_getElem?;intro p
 rw [Array.getElem?_toList,pS _ _ _ _ h,oI (by simpa using h)]
 split
 ·rfl
 ·simp
theorem Mf {l z:List Value} {i n N:Nat} (hz:z.length=n) (h1:i+n≤N) (h2:N≤l.length):(l.take i++(z++l.drop (i+n))).take N=(l.take N).take i++(z++(l.take N).drop (i+n)):=by
 subst hz
 apply List.ext_getElem?;intro p
 rw [List.getElem?_take,oI (by omega),oI (by simp;omega),List.getElem?_take]
 by_cases hp:p<N
 ·rw [if_pos hp,if_pos hp]
 ·rw [if_neg hp,if_neg hp,if_neg (by omega)]
theorem Mg {z:List Value} {zv:Value} (hz:zv.cells=z.toArray) (n:Nat):(Builtin.zeroCells zv.cells n).toList=lay n fun _=>z:=by
 rw [hz];unfold Builtin.zeroCells
 have:=ve z n z.length rfl
 simpa using this
theorem KF (hT:bp P T=true) {t:TypeId} {x:Operand} (h:zQ T E M t x=some out):aP P ⟨d,.call ⟨.builtin .clear,#[x],#[t]⟩,ty,pos,aft,gd⟩ E M out:=by
 unfold zQ at h
 split at h
 rotate_left
 ·simp at h
 rename_i e k b z u k' o n he hx
 split at h
 rotate_left
 ·simp at h
 rename_i Te k2 rows hM
 cases hc:(k.beq k'&&k.beq k2&&z.all cd) with
 | false=>simp [hc] at h
 | true=>
  simp only [hc,cond_true,Option.some.injEq] at h;subst h
  simp only [Bool.and_eq_true] at hc
  obtain rfl:=Nat.eq_of_beq_eq_true hc.1.1
  obtain rfl:=Nat.eq_of_beq_eq_true hc.1.2
  obtain ⟨zv,ok,hz,fw⟩:=lI hT he
  intro D w0 K0 β F I ρ w C hv
  obtain ⟨mD,xa,-⟩:=hv
  obtain ⟨y,hy,r⟩:=C.bS hx
  have hzero:∀ w:World,(zeroValue e).run P w=.ok zv w:=fun w=>by obtain ⟨i,hi,-,-,h3⟩:=ok.info;simp [zeroValue,typeInfo,Sem.run_bind,hi,h3]
  cases r with
  | @sb _ _ _ _ b0 c0 c1 hb=>
   have R:=C.rm.x
   have hB:=R.blk u _ hM
   have hH:=R.jE hM
   have R1:=R.ea hM
   have aK:=eB hM
   generalize hC:F u=Fu at hB hH R1
   cases hB with
   | rw aV X G hl hs hr=>
    rw [hb] at aV;cases aV
    obtain ⟨b',cap,cs,fz,hq,rfl,fL,cX,ew,iI⟩:=hs.block (by omega)
    simp only [Value.slice.injEq,Option.some.injEq,Addr.mk.injEq] at hq
    obtain ⟨⟨rfl,-⟩,-,rfl⟩:=hq
    have hw:=(az.app.1 hH).1.one
    have hX:∀ a,a<rows.length→(X a).length=k:=fun a ha=>(hl a _ (List.getElem?_eq_getElem ha)).2
    have Cn:(lay n fun _=>z).length=n*k:=e8 fun _ _=>fw
    have hmul:o*k+n*k≤rows.length*k:=by rw [← Nat.add_mul];exact Nat.mul_le_mul_right _ xa
    have bI:rows.length*k≤cs.size:=by rw [cX];exact Nat.mul_le_mul_right _ ew
    obtain ⟨n',rfl⟩:∃ n',n=n'+1:=⟨n-1,by omega⟩
    refine LR (Z:=lay (n'+1) fun _=>z) ok.bM (hzero w) hy hw (Mg hz _) (by omega) (fun q hq=>?_) ?_
    ·simp only [lay,List.mem_flatMap] at hq
     obtain ⟨_,-,hq⟩:=hq
     exact List.all_eq_true.1 hc.2 q hq
    have ra:dW (fun w=>K0 w∧az w I) k rows X G:=⟨hl,hr⟩
    have rz:dW (fun w=>K0 w∧az w I) k (List.replicate (n'+1) (z.map DV.v)) (fun _=>z) (fun _ _=>[]):=⟨fun i r hi=>by
     rw [List.getElem?_replicate] at hi
     split at hi
     ·simp only [Option.some.injEq] at hi;subst hi;rw [List.length_map];exact ⟨fw,fw⟩
     ·simp at hi,fun i r j c x hi h1 h2=>by
     rw [List.getElem?_replicate] at hi
     split at hi
     ·simp only [Option.some.injEq] at hi;subst hi;exact xD h1 h2
     ·simp at hi⟩
    have jZ:=(ra.take (c:=o)).app (rz.app (ra.drop (c:=o+(n'+1))))
    have ho:(rows.take o).length=o:=by simp;omega
    have jY:(rows.take o++(List.replicate (n'+1) (z.map DV.v)++rows.drop (o+(n'+1)))).length=rows.length:=by simp;omega
    rw [ho,List.length_replicate] at jZ
    have e1:=qe o ((n'+1)+(rows.length-(o+(n'+1)))) X (fun i=>if i<n'+1 then z else X (o+(n'+1)+(i-(n'+1))))
    rw [qe (n'+1) (rows.length-(o+(n'+1))) (fun _=>z) (fun i=>X (o+(n'+1)+i)),yq hX xa,show o+((n'+1)+(rows.length-(o+(n'+1))))=rows.length by omega] at e1
    have e2:=r7 o ((n'+1)+(rows.length-(o+(n'+1)))) k G (fun i=>if i<n'+1 then (fun _=>[]) else G (o+(n'+1)+(i-(n'+1))))
    rw [r7 (n'+1) (rows.length-(o+(n'+1))) k (fun _ _=>[]) (fun i=>G (o+(n'+1)+i)),l8,List.nil_append,show o+((n'+1)+(rows.length-(o+(n'+1))))=rows.length by omega] at e2
    have e3:=uJ (k:=k) G (show o+(n'+1)≤rows.length by omega)
    have e4:=uJ (n:=o+(n'+1)) (k:=k) G (show o≤o+(n'+1) by omega)
    have bM:=R1.st
    rw [e3,e4] at bM
    have o0:St D w0 w ((b0,.cells cs Te fz)::((bW o k G++bW (rows.length-(o+(n'+1))) k fun i=>G (o+(n'+1)+i))++(((bW (o+(n'+1)-o) k fun i=>G (o+i)))++((List.range (M.set u .dead).length).flatMap (aS F u [])++I)))):=bM.perm (by classical rw [List.perm_iff_count];intro z;simp only [List.count_append,List.count_cons,List.cons_append,List.nil_append];omega)
    have qV:=o0.set (.cells (cL cs (o*k) (lay (n'+1) fun _=>z)) Te fz)
    have R2:bR D w0 K0 (M.set u .dead) β (aS F u []) I (([(b0,.cells (cL cs (o*k) (lay (n'+1) fun _=>z)) Te fz)]++(bW o k G++bW (rows.length-(o+(n'+1))) k fun i=>G (o+(n'+1)+i)))++(bW (o+(n'+1)-o) k fun i=>G (o+i))) _:=R1.move (qV.perm (by classical rw [List.perm_iff_count];intro z;simp only [List.count_append,List.count_cons,List.cons_append,List.nil_append];omega))
    have dY:bK (fun w=>K0 w∧az w I) β u (.rw Te k (rows.take o++(List.replicate (n'+1) (z.map DV.v)++rows.drop (o+(n'+1))))) ([(b0,.cells (cL cs (o*k) (lay (n'+1) fun _=>z)) Te fz)]++(bW o k G++bW (rows.length-(o+(n'+1))) k fun i=>G (o+(n'+1)+i))):=by
     have:=bK.rw (K:=fun w=>K0 w∧az w I) (u:=u) (T:=Te) (k:=k) (rows:=rows.take o++(List.replicate (n'+1) (z.map DV.v)++rows.drop (o+(n'+1)))) (H0:=[(b0,.cells (cL cs (o*k) (lay (n'+1) fun _=>z)) Te fz)]) hb _ _ jZ.hl (by
      rw [jY,e1]
      refine ⟨by rw [List.length_append,List.length_append,Cn,List.length_drop,e8 hX,e8 (n:=o) fun a ha=>hX a (by omega),Nat.add_mul o];omega,Or.inr ⟨_,_,_,fz,rfl,rfl,by rw [j7];exact fL,by rw [j7];exact cX,ew,?_⟩⟩
      rw [KE _ _ _ (by omega),Cn,Mf Cn (by omega) (by simpa using bI),iI,pY (c:=o) hX (by omega),Nat.add_mul o]) jZ.hr
     rw [jY,e2] at this;exact this
    have R3:=((R2.drop.perm (Y:=([(b0,.cells (cL cs (o*k) (lay (n'+1) fun _=>z)) Te fz)]++(bW o k G++bW (rows.length-(o+(n'+1))) k fun i=>G (o+(n'+1)+i)))++[]) (by rw [List.append_nil])).back (by rw [List.length_set];exact aK) (by simp [aS]) dY).nil rfl
    rw [List.set_set] at R3
    refine ⟨β,_,I,R3,(Ext.refl β).b _,bL.refl _,fun q hq kA=>?_,.d (.v _)⟩
    have k8:q≠u:=by simpa using kA
    simp only [aS];rw [if_neg k8,if_neg k8]
def AO (T:aW) (E:List (Nat×AV)) (M:List au) (oc:Option bj) (t:TypeId) (x ix:Operand):Option Out:=
 match cV T t,kt (aO E x),cS (aO E ix),oc with
 | some .st,some l,some (_,z),some (.n i)=>(match l[i]? with | some b=>some (lk [z=(i:Int)] (.d (.v (.int .u8 (b.toNat:Int)))) M) | none=>none)
 | _,_,_,_=>none
theorem Mh (hT:bp P T=true) {t:TypeId} {x ix:Operand} (h:AO T E M oc t x ix=some out):aP P ⟨d,.index t x ix,ty,pos,aft,gd⟩ E M out:=by
 unfold AO at h
 split at h
 ·rename_i l k z i hu hx hz
  split at h
  ·rename_i b hb
   simp only [Option.some.injEq] at h;subst h
   refine aP.same ?_
   intro D w0 K0 β F I ρ w C hv
   obtain ⟨rfl,-⟩:=hv
   refine ⟨_,fun w' _=>?_,.d (.v _)⟩
   have h1:=C.str hx
   have h2:=C.int hz
   have h3:=cE hT hu
   have h4:(⟨l.toArray⟩:ByteArray)[i]?=some b:=by
    obtain ⟨hi,rfl⟩:=List.getElem?_eq_some_iff.1 hb
    exact getElem?_pos (⟨l.toArray⟩:ByteArray) i (by show i<l.toArray.size;simpa using hi)
   simp [execOp,h1,h2,Instr.index,asIntOf,Sem.run_bind,run_underlying h3,h4]
  ·simp at h
 ·simp at h
def yZ (T:aW) (E:List (Nat×AV)) (M:List au) (oc:Option bj) (t:TypeId) (x ix:Operand):Option Out:=
 match cS (aO E ix),cV T t,aO E x,oc with
 | some (_,z),some (.ar n e),some (.ep u k j o),some (.n2 i _)=>(match fY T e with
  | some sz=>bif Nat.beq k 1&&Nat.beq o 0 then some (lk [z=(i:Int),i<n] (.ep u 1 (j+i*sz) 0) M) else none
  | none=>none)
 | _,_,_,_=>none
theorem JO (hT:bp P T=true) {t:TypeId} {x ix:Operand} (h:yZ T E M oc t x ix=some out):aP P ⟨d,.indexAddr t x ix,ty,pos,aft,gd⟩ E M out:=by
 unfold yZ at h
 split at h
 rotate_left
 ·simp at h
 rename_i kk z n e u k j o i _ hz ht hx
 split at h
 rotate_left
 ·simp at h
 rename_i sz hk
 cases b9:(Nat.beq k 1&&Nat.beq o 0) with
 | false=>simp [b9] at h
 | true=>
  simp only [b9,cond_true,Option.some.injEq] at h;subst h
  simp only [Bool.and_eq_true] at b9
  obtain rfl:=Nat.eq_of_beq_eq_true b9.1
  obtain rfl:=Nat.eq_of_beq_eq_true b9.2
  replace ht:=cE hT ht
  replace hk:=ie hT hk
  refine aP.same fun C dj=>?_
  obtain ⟨rfl,hi,-⟩:=dj
  obtain ⟨y,hy,r⟩:=C.bS hx
  cases r with
  | ep hb=>
   refine ⟨_,fun _ _=>oy ht hk hy (C.int hz) (by omega) (by omega),?_⟩
   rw [add_eq,Int.toNat_natCast,show j*1+0+i*sz=(j+i*sz)*1+0 by omega]
   exact .ep hb
def nJ:List au→List Nat→List au
 | M,[]=>M
 | M,u::r=>nJ (M.set u .dead) r
theorem Et:∀ (b:List Nat) (M:List au),(nJ M b).length=M.length
 | [],_=>rfl
 | u::r,M=>by rw [nJ,Et r,List.length_set]
theorem RM.die:∀ {b:List Nat} {M:List au} {F:Nat→aA} {I:aA},RM D w0 K0 M β F I w→(∀ u ∈ b,u<M.length)→∃ F' I',RM D w0 K0 (nJ M b) β F' I' w∧bL I I'∧(∀ w,az w I'→∀ u ∈ b,az w (F u))∧∀ u,u ∉ b→F' u=F u
 | [],M,F,I,R,_=>⟨F,I,R,bL.refl I,fun _ _ u hu=>by simp at hu,fun _ _=>rfl⟩
 | u::r,M,F,I,R,hb=>by
  have hu:=hb u (by simp)
  have R1:=R.x.ea (List.getElem?_eq_getElem hu)
  rw [List.nil_append] at R1
  have R2:RM D w0 K0 (M.set u .dead) β (aS F u []) (F u++I) w:=
   ⟨R1.len,fun v bl hv=>(R1.blk v bl hv).mono (fun w hw=>⟨hw.1,(az.app.1 hw.2).2⟩) (Ext.refl _),R1.st.perm (List.Perm.append_left _ List.perm_append_comm)⟩
  obtain ⟨F',I',R3,g,h1,h2⟩:=R2.die (b:=r) (fun v hv=>by rw [List.length_set];exact hb v (by simp [hv]))
  refine ⟨F',I',R3,(show bL I (F u++I) from ⟨F u,rfl⟩).trans g,fun w hw v hv=>?_,fun v hv=>?_⟩
  ·by_cases e:v=u
   ·subst e;exact (az.app.1 (g.holds w hw)).1
   ·have:=h1 w hw v ((List.mem_cons.1 hv).resolve_left e)
    simpa [aS,e] using this
  ·simp only [List.mem_cons,not_or] at hv
   rw [h2 v hv.2];simp only [aS];rw [if_neg hv.1]
def zR (P:Program) (E:List (Nat×AV)) (M:List au) (oc:Option bj) (g:Operand) (args:Array Operand):Option Out:=
 match aO E g,jN E args.toList,oc with
 | some (.fn f bZ),some l,some (.stay told x)=>(match oQ M (l++bZ) told with
  | some (vc,b)=>bif my x&&mz M b then some ⟨aD P f told x::vc,(nX (nJ M b) x).1,(nX (nJ M b) x).2,b,[],none⟩ else none
  | none=>none)
 | _,_,_=>none
theorem KG {g:Operand} {args:Array Operand} {ey:Array TypeId} (h:zR P E M oc g args=some out):aP P ⟨d,.call ⟨.value g,args,ey⟩,ty,pos,aft,gd⟩ E M out:=by
 unfold zR at h
 split at h
 ·rename_i f bZ l told x hg hl
  split at h
  ·rename_i vc b AD
   cases fG:(my x&&mz M b) with
   | false=>simp [fG] at h
   | true=>
    simp only [fG,cond_true,Option.some.injEq] at h;subst h
    simp only [Bool.and_eq_true] at fG
    have hb:=vb fG.2
    intro D w0 K0 β F I ρ w C hv
    obtain ⟨dZ,hv⟩:=hv
    obtain ⟨y,hy,r⟩:=C.bS hg
    cases r with
    | fn cs cG fO=>
     obtain ⟨dT,iU⟩:=C.k5 hl
     have du:(args.toList.map ρ++cs).length=(l++bZ).length:=by rw [List.length_append,List.length_append,dT,cG]
     have kS:∀ (j:Nat) c y,(l++bZ)[j]?=some c→(args.toList.map ρ++cs)[j]?=some y→aE (fun w=>K0 w∧az w I) β c y:=by
      intro j c y h1 h2
      rcases Nat.lt_or_ge j l.length with hj | hj
      ·rw [List.getElem?_append_left hj] at h1
       rw [List.getElem?_append_left (by omega)] at h2
       exact iU j c y h1 h2
      ·rw [List.getElem?_append_right hj] at h1
       rw [List.getElem?_append_right (by omega),dT] at h2
       exact fO _ c y h1 h2
     obtain ⟨F1,I1,R1,g1,bM,iV⟩:=C.rm.die hb
     obtain ⟨e1,e2⟩:=xR C.rm (K':=gZ K0 I1 F1 []) AD hv (fun w hw=>⟨⟨hw.1.1,g1.holds w hw.1.2⟩,bM w hw.1.2⟩) du kS
     have hm:args.map ρ=(args.toList.map ρ).toArray:=by rw [← Array.toList_map]
     refine pR hy dZ.1 hm ?_
     have jP:((args.toList.map ρ).toArray++cs.toArray:Array Value)=(args.toList.map ρ++cs).toArray:=by simp
     rw [jP]
     refine (dZ.now R1 C.k (b:=[]) (by simp) e1 e2 (fun h=>absurd rfl h)).mono ?_
     rintro e w' ⟨v,rfl,I',X,R,hI,hd⟩
     refine ⟨v,rfl,?_⟩
     have R':bR D w0 K0 (nJ M b) β F1 I' (X++[]) w':=by rw [List.append_nil];exact R
     obtain ⟨aF,F',R2,e,f2,-,a2⟩:=zK fG.1 R' hd
     exact ⟨aF,F',I',R2.nil rfl,e.b _,g1.trans hI,fun u hu tF=>(f2 u (by rw [Et];exact hu)).trans (iV u tF),a2⟩
  ·simp at h
 ·simp at h
end Go.Proofs.YtlinpknagdgphaaGreat
namespace Go.Proofs.YtlinpknagdgphaaGreat
open Go.RowKit
variable {mk:Bool} {P:Program} {T:aW} {f:FuncId} {w:World} {D:List Nat} {w0:World} {K0:World→Prop} {E:List (Nat×AV)} {M:List au} {β:Beta} {F:Nat→aA} {I X:aA} {ρ:Operand→Value}
variable {d:Option Tmp} {ty:TypeId} {pos:String} {aft:Array Edge} {gd:Option (Nat×Bool)} {oc:Option bj} {out:Out}
def jR:List Nat→Nat→Option Nat
 | [],_=>none
 | k::r,u=>bif k.beq u then some 0 else (match jR r u with | some i=>some (i+1) | none=>none)
theorem lF:∀ {l:List Nat} {u i:Nat},jR l u=some i→l[i]?=some u
 | [],u,i,h=>by simp [jR] at h
 | k::r,u,i,h=>by
  unfold jR at h
  cases hk:k.beq u with
  | true=>simp only [hk,cond_true,Option.some.injEq] at h;subst h;simp [Nat.eq_of_beq_eq_true hk]
  | false=>
   simp only [hk,cond_false] at h
   split at h
   ·rename_i j hj;simp only [Option.some.injEq] at h;subst h;simpa using lF hj
   ·simp at h
def wI (l:List Nat):AV→Option AV
 | .d x=>some (.d x)
 | .sl u n=>(match jR l u with | some v=>some (.sl v n) | none=>none)
 | .pt u o=>(match jR l u with | some v=>some (.pt v o) | none=>none)
 | .mv u=>(match jR l u with | some v=>some (.mv v) | none=>none)
 | .yl u=>(match jR l u with | some v=>some (.yl v) | none=>none)
 | .sb u k o n=>(match jR l u with | some v=>some (.sb v k o n) | none=>none)
 | .ep u k i o=>(match jR l u with | some v=>some (.ep v k i o) | none=>none)
 | .sf u k o n q=>(match jR l u with | some v=>some (.sf v k o n q) | none=>none)
 | .rp r o=>some (.rp r o)
 | .bt bs=>some (.bt bs)
 | .uk=>some .uk
 | _=>none
def nB (l:List Nat):List AV→Option (List AV)
 | []=>some []
 | c::r=>(match wI l c,nB l r with | some c',some r'=>some (c'::r') | _,_=>none)
def sU (l:List Nat):AV→Option AV
 | .fn f cs=>(match nB l cs with | some cf=>some (.fn f cf) | none=>none)
 | .fm f cs=>(match nB l cs with | some cf=>some (.fm f cf) | none=>none)
 | .ag cs=>(match nB l cs with | some cf=>some (.ag cf) | none=>none)
 | .tu cs=>(match nB l cs with | some cf=>some (.tu cf) | none=>none)
 | c=>wI l c
def iP (l:List Nat):List AV→Option (List AV)
 | []=>some []
 | c::r=>(match sU l c,iP l r with | some c',some r'=>some (c'::r') | _,_=>none)
def sV (l:List Nat):List (Nat×AV)→Option (List (Nat×AV))
 | []=>some []
 | (t,c)::r=>(match sU l c,sV l r with | some c',some r'=>some ((t,c')::r') | _,_=>none)
def wJ (l:List Nat):au→Option au
 | .bx T cs=>(match iP l cs with | some cf=>some (.bx T cf) | none=>none)
 | .rw T k rows=>some (.rw T k rows)
 | .tw a c T k rows=>some (.tw a c T k rows)
 | .nm v b=>(match jR l v with | some i=>some (.nm i b) | none=>none)
 | .gw g row=>some (.gw g row)
 | .fl T k m cs=>(match iP l cs with | some cf=>some (.fl T k m cf) | none=>none)
 | .mf _ _ _=>none
 | .il _ _ _ _=>none
 | .mp T c es=>some (.mp T c es)
 | .mu T c es=>some (.mu T c es)
 | .it (some v) a s c=>(match jR l v with | some i=>some (.it (some i) a s c) | none=>none)
 | .it none a s c=>some (.it none a s c)
 | .lp b f sz E rf=>(match sV l E with | some E'=>some (.lp b f sz E' rf) | none=>none)
 | .dead=>some .dead
def eP (l:List Nat) (M:List au):List Nat→Option (List au)
 | []=>some []
 | u::r=>(match M[u]? with
  | some b=>(match wJ l b,eP l M r with | some b',some r'=>some (b'::r') | _,_=>none)
  | none=>none)
def wK (l:List Nat):AV→Option AV
 | .ag cs=>(match iP l cs with | some cf=>some (.ag cf) | none=>none)
 | .tu cs=>(match iP l cs with | some cf=>some (.tu cf) | none=>none)
 | c=>sU l c
def iy (l:List Nat) (E:List (Nat×AV)):List Nat→Option (List (Nat×AV))
 | []=>some []
 | t::r=>(match bO E t with
  | some v=>(match wK l v,iy l E r with | some v',some r'=>some ((t,v')::r') | _,_=>none)
  | none=>none)
def eM (β:Beta):List Nat→Beta
 | []=>[]
 | u::r=>(match β[u]? with | some x=>x | none=>(none,0))::eM β r
theorem fy:∀ {l:List Nat} {i u:Nat} {x:Option Addr×Nat},l[i]?=some u→β[u]?=some x→(eM β l)[i]?=some x
 | [],i,u,x,h,_=>by simp at h
 | v::r,i,u,x,h,hx=>by
  cases i with
  | zero=>simp at h;subst h;simp [eM,hx]
  | succ i=>simp at h;simpa [eM] using fy h hx
theorem uC (β:Beta) (l:List Nat):(eM β l).length=l.length:=by induction l with | nil=>rfl | cons u r ih=>simp [eM,ih]
theorem Fe {K:World→Prop} {l:List Nat} {c c':AV} (h:wI l c=some c') {y:Value} (r:aE K β c y):aE K (eM β l) c' y:=by
 unfold wI at h
 split at h
 ·simp only [Option.some.injEq] at h;subst h;cases r with | d r=>exact .d r
 ·split at h
  ·rename_i hv;simp only [Option.some.injEq] at h;subst h;cases r with | sl hb=>exact .sl (fy (lF hv) hb)
  ·simp at h
 ·split at h
  ·rename_i hv;simp only [Option.some.injEq] at h;subst h;cases r with | pt hb=>exact .pt (fy (lF hv) hb)
  ·simp at h
 ·split at h
  ·rename_i hv;simp only [Option.some.injEq] at h;subst h;cases r with | mv hb=>exact .mv (fy (lF hv) hb)
  ·simp at h
 ·split at h
  ·rename_i hv;simp only [Option.some.injEq] at h;subst h;cases r with | yl hb=>exact .yl (fy (lF hv) hb)
  ·simp at h
 ·split at h
  ·rename_i hv;simp only [Option.some.injEq] at h;subst h;cases r with | sb hb=>exact .sb (fy (lF hv) hb)
  ·simp at h
 ·split at h
  ·rename_i hv;simp only [Option.some.injEq] at h;subst h;cases r with | ep hb=>exact .ep (fy (lF hv) hb)
  ·simp at h
 ·split at h
  ·rename_i hv;simp only [Option.some.injEq] at h;subst h;cases r with | sf hb h1 h2 h3=>exact .sf (fy (lF hv) hb) h1 h2 h3
  ·simp at h
 ·simp only [Option.some.injEq] at h;subst h;cases r with | rp a X hl hc hr=>exact .rp a X hl hc hr
 ·simp only [Option.some.injEq] at h;subst h;cases r with | bt hd hn=>exact .bt hd hn
 ·simp only [Option.some.injEq] at h;subst h;cases r with | uk hu=>exact .uk hu
 ·simp at h
theorem r8 {K:World→Prop} {l:List Nat}:∀ {cs cf:List AV},nB l cs=some cf→cf.length=cs.length∧∀ {ys:List Value},(∀ (j:Nat) c y,cs[j]?=some c→ys[j]?=some y→aE K β c y)→∀ (j:Nat) c y,cf[j]?=some c→ys[j]?=some y→aE K (eM β l) c y
 | [],cf,h=>by simp only [nB,Option.some.injEq] at h;subst h;simp
 | c::r,cf,h=>by
  unfold nB at h
  split at h
  ·rename_i c1 r1 h1 h2
   simp only [Option.some.injEq] at h;subst h
   obtain ⟨e1,e2⟩:=r8 (K:=K) h2
   refine ⟨by simp [e1],fun {ys} hr j d y h3 h4=>?_⟩
   cases ys with
   | nil=>simp at h4
   | cons z zs=>
    cases j with
    | zero=>simp at h3 h4;subst h3 h4;exact Fe h1 (hr 0 _ _ rfl rfl)
    | succ j=>simp at h3 h4;exact e2 (ys:=zs) (fun j c y h5 h6=>hr (j+1) c y (by simpa using h5) (by simpa using h6)) j d y h3 h4
  ·simp at h
theorem y4 {K:World→Prop} {l:List Nat} {c c':AV} (h:sU l c=some c') {y:Value} (r:aE K β c y):aE K (eM β l) c' y:=by
 unfold sU at h
 split at h
 ·split at h
  ·rename_i hl;simp only [Option.some.injEq] at h;subst h
   cases r with | fn ys dI hr=>obtain ⟨e1,e2⟩:=r8 (β:=β) (K:=K) hl;exact .fn ys (by omega) (e2 hr)
  ·simp at h
 ·split at h
  ·rename_i hl;simp only [Option.some.injEq] at h;subst h
   cases r with | fm ys dI hr=>obtain ⟨e1,e2⟩:=r8 (β:=β) (K:=K) hl;exact .fm ys (by omega) (e2 hr)
  ·simp at h
 ·split at h
  ·rename_i hl;simp only [Option.some.injEq] at h;subst h
   cases r with | ag ys dI hr=>obtain ⟨e1,e2⟩:=r8 (β:=β) (K:=K) hl;exact .ag ys (by omega) (e2 hr)
  ·simp at h
 ·split at h
  ·rename_i hl;simp only [Option.some.injEq] at h;subst h
   cases r with | tu ys dI hr=>obtain ⟨e1,e2⟩:=r8 (β:=β) (K:=K) hl;exact .tu ys (by omega) (e2 hr)
  ·simp at h
 ·exact Fe h r
theorem oD {K:World→Prop} {l:List Nat}:∀ {cs cf:List AV},iP l cs=some cf→cf.length=cs.length∧∀ {ys:List Value},(∀ (j:Nat) c y,cs[j]?=some c→ys[j]?=some y→aE K β c y)→∀ (j:Nat) c y,cf[j]?=some c→ys[j]?=some y→aE K (eM β l) c y
 | [],cf,h=>by simp only [iP,Option.some.injEq] at h;subst h;simp
 | c::r,cf,h=>by
  unfold iP at h
  split at h
  ·rename_i c1 r1 h1 h2
   simp only [Option.some.injEq] at h;subst h
   obtain ⟨e1,e2⟩:=oD (K:=K) h2
   refine ⟨by simp [e1],fun {ys} hr j d y h3 h4=>?_⟩
   cases ys with
   | nil=>simp at h4
   | cons z zs=>
    cases j with
    | zero=>simp at h3 h4;subst h3 h4;exact y4 h1 (hr 0 _ _ rfl rfl)
    | succ j=>simp at h3 h4;exact e2 (ys:=zs) (fun j c y h5 h6=>hr (j+1) c y (by simpa using h5) (by simpa using h6)) j d y h3 h4
  ·simp at h
theorem Ff {K:World→Prop} {l:List Nat} {c c':AV} (h:wK l c=some c') {y:Value} (r:aE K β c y):aE K (eM β l) c' y:=by
 unfold wK at h
 split at h
 ·split at h
  ·rename_i hl;simp only [Option.some.injEq] at h;subst h
   cases r with | ag ys dI hr=>obtain ⟨e1,e2⟩:=oD (β:=β) (K:=K) hl;exact .ag ys (by omega) (e2 hr)
  ·simp at h
 ·split at h
  ·rename_i hl;simp only [Option.some.injEq] at h;subst h
   cases r with | tu ys dI hr=>obtain ⟨e1,e2⟩:=oD (β:=β) (K:=K) hl;exact .tu ys (by omega) (e2 hr)
  ·simp at h
 ·exact y4 h r
theorem Fg {K:World→Prop} {l:List Nat} {g:Nat→Value}:∀ {E E':List (Nat×AV)},sV l E=some E'→(∀ x ∈ E,aE K β x.2 (g x.1))→∀ x ∈ E',aE K (eM β l) x.2 (g x.1)
 | [],E',h,_,x,hx=>by simp only [sV,Option.some.injEq] at h;subst h;cases hx
 | (t,c)::r,E',h,hr,x,hx=>by
  unfold sV at h
  split at h
  ·rename_i c1 r1 h1 h2
   simp only [Option.some.injEq] at h;subst h
   rcases List.mem_cons.1 hx with rfl | hx
   ·exact y4 h1 (hr (t,c) List.mem_cons_self)
   ·exact Fg h2 (fun y hy=>hr y (List.mem_cons_of_mem _ hy)) x hx
  ·simp at h
theorem vt {K:World→Prop} {l:List Nat} {u i:Nat} {b b':au} {H:aA} (hi:l[i]?=some u) (h:wJ l b=some b') (r:bK K β u b H):bK K (eM β l) i b' H:=by
 unfold wJ at h
 split at h
 ·split at h
  ·rename_i hl;simp only [Option.some.injEq] at h;subst h
   cases r with
   | bx hb ys dI hr=>obtain ⟨e1,e2⟩:=oD (β:=β) (K:=K) hl;exact .bx (fy hi hb) ys (by omega) (e2 hr)
  ·simp at h
 ·simp only [Option.some.injEq] at h;subst h
  cases r with | rw hb X G hl hs hr=>exact .rw (fy hi hb) X G hl hs hr
 ·simp only [Option.some.injEq] at h;subst h
  cases r with | tw hb X G hl hs hr=>exact .tw (fy hi hb) X G hl hs hr
 ·split at h
  ·rename_i hv;simp only [Option.some.injEq] at h;subst h
   cases r with | nm hb=>exact .nm (fy (lF hv) hb)
  ·simp at h
 ·simp only [Option.some.injEq] at h;subst h
  cases r with | gw X hl hc hr=>exact .gw X hl hc hr
 ·split at h
  ·rename_i hl;simp only [Option.some.injEq] at h;subst h
   cases r with
   | fl hb ys dI hm hc hr=>obtain ⟨e1,e2⟩:=oD (β:=β) (K:=K) hl;exact .fl (fy hi hb) ys dI (by omega) hc (e2 hr)
  ·simp at h
 ·simp at h
 ·simp at h
 ·simp only [Option.some.injEq] at h;subst h
  cases r with | mp hb vs G hl hr=>exact .mp (fy hi hb) vs G hl hr
 ·simp only [Option.some.injEq] at h;subst h
  cases r with | mu es' hp hn aK hb vs G hl hr=>exact .mu es' hp hn aK (fy hi hb) vs G hl hr
 ·split at h
  ·rename_i hv;simp only [Option.some.injEq] at h;subst h
   cases r with
   | @it b bm c since ck um seen hb hm=>
    obtain ⟨c',h'⟩:=hm _ rfl
    exact .it (bm:=bm) (fy hi hb) (fun v' iG=>by cases iG;exact ⟨c',fy (lF hv) h'⟩)
  ·simp at h
 ·simp only [Option.some.injEq] at h;subst h
  cases r with
  | @it b bm c since ck um seen hb hm=>exact .it (bm:=bm) (fy hi hb) (fun v' iG=>by cases iG)
 ·split at h
  ·rename_i hp;simp only [Option.some.injEq] at h;subst h
   cases r with | @lp b c f sz k4 bz E rf tmps hb bI hr=>exact .lp (fy hi hb) bI (Fg (g:=fun t=>tmps.getD t undef) hp hr)
  ·simp at h
 ·simp only [Option.some.injEq] at h;subst h
  cases r with | dead=>exact .dead i
theorem qf {l:List Nat}:∀ {k:List Nat} {M':List au},eP l M k=some M'→M'.length=k.length∧∀ (i:Nat) b,M'[i]?=some b→∃ u b0,k[i]?=some u∧M[u]?=some b0∧wJ l b0=some b
 | [],M',h=>by simp only [eP,Option.some.injEq] at h;subst h;simp
 | u::r,M',h=>by
  unfold eP at h
  split at h
  ·rename_i b hb
   split at h
   ·rename_i b' r' h1 h2
    simp only [Option.some.injEq] at h;subst h
    obtain ⟨e1,e2⟩:=qf h2
    refine ⟨by simp [e1],fun i c hc=>?_⟩
    cases i with
    | zero=>simp at hc;subst hc;exact ⟨u,b,rfl,hb,h1⟩
    | succ i=>simp at hc;simpa using e2 i c hc
   ·simp at h
  ·simp at h
theorem y5 {K:World→Prop} {l:List Nat} {ρ:Operand→Value} (hs:∀ t v,bO E t=some v→aE K β v (ρ (.tmp t))):∀ {ts:List Nat} {E':List (Nat×AV)},iy l E ts=some E'→∀ t v,bO E' t=some v→aE K (eM β l) v (ρ (.tmp t))
 | [],E',h,t,v,hv=>by simp only [iy,Option.some.injEq] at h;subst h;simp [bO] at hv
 | s::r,E',h,t,v,hv=>by
  unfold iy at h
  split at h
  ·rename_i u hu
   split at h
   ·rename_i u' r' h1 h2
    simp only [Option.some.injEq] at h;subst h
    unfold bO at hv
    cases hk:s.beq t with
    | true=>
     simp only [hk,cond_true,Option.some.injEq] at hv;subst hv
     rw [← Nat.eq_of_beq_eq_true hk];exact Ff h1 (hs s u hu)
    | false=>simp only [hk,cond_false] at hv;exact y5 hs h2 t v hv
   ·simp at h
  ·simp at h
theorem yr:∀ {l:List Nat} {M:List au} {F:Nat→aA} {X:aA},l.Nodup→(∀ u ∈ l,u<M.length)→bR D w0 K0 M β F I X w→∃ rest,St D w0 w (rest++(I++(X++l.flatMap F)))
 | [],M,F,X,_,_,R=>⟨_,by simpa using R.st⟩
 | u::r,M,F,X,hn,hl,R=>by
  have hu:=hl u (by simp)
  have R':=R.ea (List.getElem?_eq_getElem hu)
  simp only [List.nodup_cons] at hn
  obtain ⟨rest,h⟩:=yr hn.2 (fun v hv=>by rw [List.length_set];exact hl v (by simp [hv])) R'
  refine ⟨rest,?_⟩
  have:r.flatMap (aS F u [])=r.flatMap F:=eL fun v hv=>by
   simp only [aS];rw [if_neg (fun e=>hn.1 (by rw [← e];exact hv))]
  rw [this] at h
  rw [List.flatMap_cons]
  simpa [List.append_assoc] using h
def mA (F:Nat→aA) (l:List Nat) (i:Nat):aA:=match l[i]? with | some u=>F u | none=>[]
theorem vg {F:Nat→aA} {l:List Nat} {i u:Nat} (h:l[i]?=some u):mA F l i=F u:=by simp [mA,h]
theorem r9 (F:Nat→aA):∀ (l:List Nat),(List.range l.length).flatMap (mA F l)=l.flatMap F
 | []=>by simp
 | u::r=>by
  rw [List.length_cons,uI,List.flatMap_cons]
  congr 1
  have:=r9 F r
  exact this
def cC:List Nat→Bool
 | []=>true
 | u::r=>!(r.elem u)&&cC r
theorem l4:∀ {l:List Nat},cC l=true→l.Nodup
 | [],_=>by simp
 | u::r,h=>by
  simp only [cC,Bool.and_eq_true,Bool.not_eq_true'] at h
  rw [List.nodup_cons]
  refine ⟨?_,l4 h.2⟩
  intro hu;have:=h.1;simp [hu] at this
mutual
def mapA (σ:Nat→Nat):AV→AV
 | .d x=>.d x
 | .sl u n=>.sl (σ u) n
 | .pt u o=>.pt (σ u) o
 | .mv u=>.mv (σ u)
 | .yl u=>.yl (σ u)
 | .sb u k o n=>.sb (σ u) k o n
 | .sf u k o n q=>.sf (σ u) k o n q
 | .ep u k i o=>.ep (σ u) k i o
 | .rp r o=>.rp r o
 | .bt bs=>.bt bs
 | .uk=>.uk
 | .fn f l=>.fn f (lP σ l)
 | .fm f l=>.fm f (lP σ l)
 | .ag l=>.ag (lP σ l)
 | .tu l=>.tu (lP σ l)
def lP (σ:Nat→Nat):List AV→List AV
 | []=>[]
 | c::r=>mapA σ c::lP σ r
end
theorem l9 (σ:Nat→Nat) (l:List AV):lP σ l=l.map (mapA σ):=by induction l with | nil=>rfl | cons c r ih=>rw [lP,ih];rfl
theorem qg {K:World→Prop} {β aF:Beta} {σ:Nat→Nat} (h:∀ (u:Nat) x,β[u]?=some x→aF[σ u]?=some x) {v:AV} {y:Value} (r:aE K β v y):aE K aF (mapA σ v) y:=by
 have key:∀ {l:List AV} {ys:List Value},(∀ (j:Nat) c y,l[j]?=some c→ys[j]?=some y→aE K aF (mapA σ c) y)→∀ (j:Nat) c y,(lP σ l)[j]?=some c→ys[j]?=some y→aE K aF c y:=by
  intro l ys hh j c y h1 h2
  rw [l9,List.getElem?_map,Option.map_eq_some_iff] at h1
  obtain ⟨c',h1,rfl⟩:=h1
  exact hh j c' y h1 h2
 induction r with
 | d h=>exact .d h
 | sl hb=>exact .sl (h _ _ hb)
 | pt hb=>exact .pt (h _ _ hb)
 | mv hb=>exact .mv (h _ _ hb)
 | yl hb=>exact .yl (h _ _ hb)
 | sb hb=>exact .sb (h _ _ hb)
 | sf hb h1 h2 h3=>exact .sf (h _ _ hb) h1 h2 h3
 | ep hb=>exact .ep (h _ _ hb)
 | rp a X hl hc hr=>exact .rp a X hl hc hr
 | bt hd hn=>exact .bt hd hn
 | uk hu=>exact .uk hu
 | fn ys hl hr ih=>exact .fn ys (by rw [l9,List.length_map];exact hl) (key ih)
 | fm ys hl hr ih=>exact .fm ys (by rw [l9,List.length_map];exact hl) (key ih)
 | ag ys hl hr ih=>exact .ag ys (by rw [l9,List.length_map];exact hl) (key ih)
 | tu ys hl hr ih=>exact .tu ys (by rw [l9,List.length_map];exact hl) (key ih)
def cM (σ:Nat→Nat):au→au
 | .bx T cs=>.bx T (lP σ cs)
 | .rw T k rows=>.rw T k rows
 | .tw a c T k rows=>.tw a c T k rows
 | .nm v b=>.nm (σ v) b
 | .gw g row=>.gw g row
 | .fl T k m cs=>.fl T k m (lP σ cs)
 | .mf T c es=>.mf T c (es.map fun e=>(e.1,e.2.1,mapA σ e.2.2))
 | .il um s l c=>.il (um.map σ) s l c
 | .mp T c es=>.mp T c es
 | .mu T c es=>.mu T c es
 | .it um a s c=>.it (um.map σ) a s c
 | .lp b f sz E rf=>.lp b f sz (E.map fun x=>(x.1,mapA σ x.2)) rf
 | .dead=>.dead
theorem vu {K:World→Prop} {β aF:Beta} {σ:Nat→Nat} (h:∀ (u:Nat) x,β[u]?=some x→aF[σ u]?=some x) {u:Nat} {b:au} {H:aA} (r:bK K β u b H):bK K aF (σ u) (cM σ b) H:=by
 cases r with
 | dead=>exact .dead _
 | bx hb ys hl hr=>
  refine .bx (h _ _ hb) ys (by rw [l9,List.length_map];exact hl) fun j c y h1 h2=>?_
  rw [l9,List.getElem?_map,Option.map_eq_some_iff] at h1
  obtain ⟨c',h1,rfl⟩:=h1
  exact qg h (hr j c' y h1 h2)
 | rw hb X G hl hs hr=>exact .rw (h _ _ hb) X G hl hs hr
 | tw hb X G hl hs hr=>exact .tw (h _ _ hb) X G hl hs hr
 | nm hb=>exact .nm (h _ _ hb)
 | gw X hl hc hr=>exact .gw X hl hc hr
 | fl hb ys hl hm hc hr=>
  refine .fl (h _ _ hb) ys hl (by rw [l9,List.length_map];exact hm) hc fun j c y h1 h2=>?_
  rw [l9,List.getElem?_map,Option.map_eq_some_iff] at h1
  obtain ⟨c',h1,rfl⟩:=h1
  exact qg h (hr j c' y h1 h2)
 | @mf _ _ Tm Cb Cc hb vs hl hr=>
  have hh:=bK.mf (K:=K) (T:=Tm) (ck:=Cb) (u:=σ u) (h _ _ hb) vs (by rw [List.length_map];exact hl) (es:=List.map (fun (e:Nat×MK×AV)=>(e.1,e.2.1,mapA σ e.2.2)) Cc) (fun j c y h1 h2=>by
   rw [List.getElem?_map,Option.map_eq_some_iff] at h1
   obtain ⟨c',h1,rfl⟩:=h1
   exact qg h (hr j c' y h1 h2))
  rw [yf (fun (e:Nat×MK×AV)=>(e.1,e.2.1,mapA σ e.2.2)) (fun _=>⟨rfl,rfl⟩)] at hh
  exact hh
 | mp hb vs G hl hr=>exact .mp (h _ _ hb) vs G hl hr
 | mu es' hp hn aK hb vs G hl hr=>exact .mu es' hp hn aK (h _ _ hb) vs G hl hr
 | lp hb bI hr=>
  refine .lp (h _ _ hb) bI fun x hx=>?_
  obtain ⟨x0,Cd,rfl⟩:=List.mem_map.1 hx
  exact qg h (hr x0 Cd)
 | @il b bm c since last ck um seen hb hm=>
  refine .il (bm:=bm) (seen:=seen) (h _ _ hb) (fun v hv=>?_)
  cases um with
  | none=>cases hv
  | some v0=>cases hv;obtain ⟨c',h'⟩:=hm v0 rfl;exact ⟨c',h _ _ h'⟩
 | @it b bm c since ck um seen hb hm=>
  refine .it (bm:=bm) (h _ _ hb) (fun v hv=>?_)
  cases um with
  | none=>cases hv
  | some v0=>cases hv;obtain ⟨c',h'⟩:=hm v0 rfl;exact ⟨c',h _ _ h'⟩
def ei (M:List au):List Nat→List au
 | []=>M
 | u::r=>ei (M.set u .dead) r
theorem uQ:∀ (l:List Nat) (M:List au),(ei M l).length=M.length
 | [],_=>rfl
 | u::r,M=>by rw [ei,uQ r,List.length_set]
theorem xV:∀ {l:List Nat} {M:List au} {F:Nat→aA} {X:aA},l.Nodup→(∀ u ∈ l,u<M.length)→bR D w0 K0 M β F I X w→
  ∃ F0,bR D w0 K0 (ei M l) β F0 I (X++l.flatMap F) w∧(∀ u ∈ l,F0 u=[])∧∀ u,u ∉ l→F0 u=F u
 | [],M,F,X,_,_,R=>⟨F,by simpa [ei] using R,by simp,fun _ _=>rfl⟩
 | u::r,M,F,X,hn,hl,R=>by
  have hu:=hl u (by simp)
  have R':=R.ea (List.getElem?_eq_getElem hu)
  simp only [List.nodup_cons] at hn
  obtain ⟨F0,h1,h2,h3⟩:=xV hn.2 (fun v hv=>by rw [List.length_set];exact hl v (by simp [hv])) R'
  have:r.flatMap (aS F u [])=r.flatMap F:=eL fun v hv=>by
   simp only [aS];rw [if_neg (fun e=>hn.1 (by rw [← e];exact hv))]
  rw [this] at h1
  refine ⟨F0,by rw [List.flatMap_cons,← List.append_assoc];exact h1,fun v hv=>?_,fun v hv=>?_⟩
  ·rcases List.mem_cons.1 hv with e | e
   ·subst e;rw [h3 v hn.1];simp [aS]
   ·exact h2 v e
  ·simp only [List.mem_cons,not_or] at hv
   rw [h3 v hv.2];simp only [aS];rw [if_neg hv.1]
theorem bR.put {X Y:aA} (R:bR D w0 K0 M β F I (X++Y) w) {u:Nat} (hu:u<M.length) (hF:F u=[]) {blk:au} (hb:bK (fun w=>K0 w∧az w I) β u blk X):
  bR D w0 K0 (M.set u blk) β (aS F u X) I Y w where
 len:=by rw [List.length_set];exact R.len
 blk:=by
  intro v bl hv
  rw [List.getElem?_set] at hv
  by_cases e:u=v
  ·subst e
   simp only [hu,if_pos,Option.some.injEq] at hv;subst hv
   simpa [aS] using hb
  ·rw [if_neg e] at hv
   have:aS F u X v=F v:=by simp only [aS];rw [if_neg (fun h=>e h.symm)]
   rw [this];exact R.blk v bl hv
 st:=by
  have hs:=R.st
  rw [List.length_set,range_split hu]
  rw [range_split hu,hF] at hs
  have c1:(List.range u).flatMap (aS F u X)=(List.range u).flatMap F:=eL fun a ha=>by have:=List.mem_range.1 ha;simp [aS];omega
  have c2:(List.range' (u+1) (M.length-(u+1))).flatMap (aS F u X)=(List.range' (u+1) (M.length-(u+1))).flatMap F:=eL fun a ha=>by have:=(List.mem_range'_1.1 ha).1;simp [aS];omega
  have fM:aS F u X u=X:=by simp [aS]
  rw [c1,c2,fM]
  exact hs.perm (by classical rw [List.perm_iff_count];intro z;simp only [List.count_append,List.count_nil];omega)
def eE (M:List au):List Nat→List au→List au
 | u::r,b::bs=>eE (M.set u b) r bs
 | _,_=>M
theorem Eu:∀ (l:List Nat) (bs:List au) (M:List au),(eE M l bs).length=M.length
 | [],_,_=>by simp [eE]
 | _::_,[],_=>by simp [eE]
 | u::r,b::bs,M=>by rw [eE,Eu r bs,List.length_set]
theorem yt:∀ {l:List Nat} {bs:List au} {M:List au} {F:Nat→aA} {G:Nat→aA} {Y:aA},l.Nodup→bs.length=l.length→(∀ u ∈ l,u<M.length)→(∀ u ∈ l,F u=[])→
  bR D w0 K0 M β F I ((List.range l.length).flatMap G++Y) w→(∀ (i u:Nat) b,l[i]?=some u→bs[i]?=some b→bK (fun w=>K0 w∧az w I) β u b (G i))→
  ∃ F',bR D w0 K0 (eE M l bs) β F' I Y w∧∀ u,u ∉ l→F' u=F u
 | [],[],M,F,G,Y,_,_,_,_,R,_=>⟨F,by simpa [eE] using R,fun _ _=>rfl⟩
 | [],_::_,_,_,_,_,_,h,_,_,_,_=>by simp at h
 | _::_,[],_,_,_,_,_,h,_,_,_,_=>by simp at h
 | u::r,b::bs,M,F,G,Y,hn,hl,aK,hF,R,hb=>by
  simp only [List.nodup_cons] at hn
  rw [List.length_cons,uI,List.append_assoc] at R
  have R1:=R.put (aK u (by simp)) (hF u (by simp)) (hb 0 u b rfl rfl)
  obtain ⟨F',h1,h2⟩:=yt (l:=r) (bs:=bs) (G:=fun i=>G (i+1)) hn.2 (by simpa using hl) (fun v hv=>by rw [List.length_set];exact aK v (by simp [hv])) (fun v hv=>by
   simp only [aS];rw [if_neg (fun e=>hn.1 (by rw [← e];exact hv))];exact hF v (by simp [hv])) R1 (fun i v c h3 h4=>hb (i+1) v c (by simpa using h3) (by simpa using h4))
  refine ⟨F',h1,fun v hv=>?_⟩
  simp only [List.mem_cons,not_or] at hv
  rw [h2 v hv.2];simp only [aS];rw [if_neg hv.1]
theorem yu {bs:List au} {γ:Beta} {G:Nat→aA} {Y:aA} (hl:γ.length=bs.length) (R:bR D w0 K0 M β F I ((List.range bs.length).flatMap G++Y) w) (hb:∀ (i:Nat) b,bs[i]?=some b→bK (fun w=>K0 w∧az w I) (β++γ) (M.length+i) b (G i)):
  ∃ F',bR D w0 K0 (M++bs) (β++γ) F' I Y w∧∀ u,u<M.length→F' u=F u:=by
 refine ⟨fun u=>if u<M.length then F u else G (u-M.length),⟨by simp [R.len,hl],fun u b hu=>?_,?_⟩,fun u hu=>by simp [hu]⟩
 ·rcases Nat.lt_or_ge u M.length with h | h
  ·rw [List.getElem?_append_left h] at hu
   simp only [h,if_true]
   exact (R.blk u b hu).mono (fun _ h=>h) (Ext.app _ _)
  ·rw [List.getElem?_append_right h] at hu
   have hn:¬ u<M.length:=by omega
   simp only [hn,if_false]
   have:=hb (u-M.length) b hu
   rwa [show M.length+(u-M.length)=u by omega] at this
 ·rw [List.length_append,List.range_add,List.flatMap_append,List.flatMap_map]
  have e1:(List.range M.length).flatMap (fun u=>if u<M.length then F u else G (u-M.length))=(List.range M.length).flatMap F:=eL fun u hu=>by have:=List.mem_range.1 hu;simp [this]
  have e2:(List.range bs.length).flatMap (fun i=>if M.length+i<M.length then F (M.length+i) else G (M.length+i-M.length))=(List.range bs.length).flatMap G:=eL fun i hi=>by
   rw [if_neg (by omega),Nat.add_sub_cancel_left]
  rw [e1,e2]
  exact R.st.perm (by classical rw [List.perm_iff_count];intro z;simp only [List.count_append];omega)
def aL (P:Program) (f:FuncId) (args:List AV) (M:List au) (x:AV) (M':List au):Prop:=
 fR P f=true∧∀ {D:List Nat} {w0:World} {K0:World→Prop} {β:Beta} {F:Nat→aA} {I:aA} {w:World} (ys:List Value),RM D w0 K0 M β F I w→(∀ w,Kp D w0 w→K0 w)→ys.length=args.length→(∀ (j:Nat) c y,args[j]?=some c→ys[j]?=some y→aE (fun w=>K0 w∧az w I) β c y)→
  Calls P f ys.toArray w fun e w'=>∃ v,e=.returned v∧∃ aF F' I',RM D w0 K0 M' aF F' I' w'∧Ext β aF∧bL I I'∧aE (fun w=>K0 w∧az w I') aF x v
def outer (l:List Nat) (n:Nat) (i:Nat):Nat:=match l[i]? with | some u=>u | none=>n+(i-l.length)
def AP (P:Program) (E:List (Nat×AV)) (M:List au) (oc:Option bj) (g:Operand) (args:Array Operand):Option Out:=
 match aO E g,jN E args.toList,oc with
 | some (.fn f bZ),some vs,some (.mem l x M')=>(match iP l (vs++bZ),eP l M l with
  | some told,some Ms=>bif cC l&&Nat.ble l.length M'.length then some ⟨[aL P f told Ms x M'],mapA (outer l M.length) x,eE (ei M l++(M'.drop l.length).map (cM (outer l M.length))) l ((M'.take l.length).map (cM (outer l M.length))),l,[],none⟩ else none
  | _,_=>none)
 | _,_,_=>none
theorem Jw (R:RM D w0 K0 M β F I w) (hK:∀ w,Kp D w0 w→K0 w) {f:FuncId} {vs:List AV} {ys:List Value} {l:List Nat} {told:List AV} {Ms M':List au} {x:AV} (du:ys.length=vs.length)
  (e1:told.length=vs.length) (e2:∀ (j:Nat) c y,told[j]?=some c→ys[j]?=some y→aE (fun w=>K0 w∧az w I) (eM β l) c y) (m1:Ms.length=l.length) (m2:∀ (i:Nat) b,Ms[i]?=some b→∃ u b0,l[i]?=some u∧M[u]?=some b0∧bK (fun w=>K0 w∧az w I) (eM β l) i b (F u)) (de:l.Nodup) (hle:l.length≤M'.length) (dZ:aL P f told Ms x M'):
  Calls P f ys.toArray w fun e w'=>∃ v,e=.returned v∧∃ aF F' I',RM D w0 K0 (eE (ei M l++(M'.drop l.length).map (cM (outer l M.length))) l ((M'.take l.length).map (cM (outer l M.length)))) aF F' I' w'∧fq [] β aF∧bL I I'∧(∀ u,u<M.length→u ∉ l→F' u=F u)∧aE (fun w=>K0 w∧az w I') aF (mapA (outer l M.length) x) v:=by
 have aK:∀ u ∈ l,u<M.length:=by
  intro u hu
  obtain ⟨i,hi,rfl⟩:=List.getElem_of_mem hu
  obtain ⟨u',b0,g1,g2,-⟩:=m2 i Ms[i] (List.getElem?_eq_getElem (by omega))
  rw [List.getElem?_eq_getElem hi,Option.some.injEq] at g1
  rw [g1];exact eB g2
 obtain ⟨F0,R0,Co,iV⟩:=xV de aK R.x
 rw [List.nil_append] at R0
 have px:=uQ l M
 have Cp:=r9 F l
 have jv:St D w0 w (l.flatMap F++((List.range (ei M l).length).flatMap F0++I)):=R0.st.perm (by classical rw [List.perm_iff_count];intro z;simp only [List.count_append];omega)
 have py:∀ w',Kp (keys (l.flatMap F)) w w'→K0 w'∧az w' I:=fun w' k=>by
  have t:St (keys (l.flatMap F)) w w' []:=⟨k,by simp [keys],by simp [keys],az.nil _⟩
  have s':=St.call jv rfl t
  rw [List.nil_append] at s'
  exact ⟨hK _ s'.kp,(az.app.1 s'.holds).2⟩
 have tG:RM (keys (l.flatMap F)) w (fun w=>K0 w∧az w I) Ms (eM β l) (mA F l) [] w:=by
  refine ⟨by rw [uC,m1],fun i b hb=>?_,?_⟩
  ·obtain ⟨u,b0,g1,g2,g3⟩:=m2 i b hb
   rw [vg g1]
   exact g3.mono (fun w hw=>hw.1) (Ext.refl _)
  ·rw [m1,Cp,List.append_nil]
   exact St.start jv.oA.nd jv.oA.holds
 refine (dZ.2 _ tG py (by omega) (fun j c y h1 h2=>(e2 j c y h1 h2).mono (fun w hw=>hw.1) (Ext.refl _))).mono ?_
 rintro e w' ⟨v,rfl,aF,F',I',R',hE,-,hr⟩
 refine ⟨v,rfl,?_⟩
 have s2:=St.call jv rfl R'.st
 have Sy:l.length≤aF.length:=by rw [R'.len];exact hle
 have pK:∀ (i:Nat) q,aF[i]?=some q→(β++aF.drop l.length)[outer l M.length i]?=some q:=by
  intro i q hq
  unfold outer
  rcases Nat.lt_or_ge i l.length with hi | hi
  ·have tH:l[i]?=some l[i]:=List.getElem?_eq_getElem hi
   rw [tH]
   have hu:=aK l[i] (List.getElem_mem hi)
   have tF:l[i]<β.length:=by rw [R.len];exact hu
   obtain ⟨q',tI⟩:∃ q',β[l[i]]?=some q':=⟨_,List.getElem?_eq_getElem tF⟩
   have:=hE i _ (fy tH tI)
   rw [hq,Option.some.injEq] at this
   rw [List.getElem?_append_left (by rw [R.len];exact hu),tI,this]
  ·rw [List.getElem?_eq_none hi]
   dsimp only
   rw [List.getElem?_append_right (by rw [R.len];omega),R.len,Nat.add_sub_cancel_left,List.getElem?_drop,show l.length+(i-l.length)=i by omega];exact hq
 have b9:∀ w,K0 w∧az w (I'++I)→(K0 w∧az w I)∧az w I':=fun w hw=>⟨⟨hw.1,(az.app.1 hw.2).2⟩,(az.app.1 hw.2).1⟩
 have zS:(List.range M'.length).flatMap F'=(List.range l.length).flatMap F'++(List.range ((M'.drop l.length).map (cM (outer l M.length))).length).flatMap fun i=>F' (l.length+i):=by
  rw [List.length_map,List.length_drop]
  conv=>lhs;rw [show M'.length=l.length+(M'.length-l.length) by omega,List.range_add,List.flatMap_append,List.flatMap_map]
 have R2:bR D w0 K0 (ei M l) β F0 (I'++I) ((List.range ((M'.drop l.length).map (cM (outer l M.length))).length).flatMap (fun i=>F' (l.length+i))++(List.range l.length).flatMap F') w':=by
  refine ⟨R0.len,fun u b hb=>(R0.blk u b hb).mono (fun w hw=>(b9 w hw).1) (Ext.refl _),?_⟩
  rw [zS] at s2
  exact s2.perm (by classical rw [List.perm_iff_count];intro z;simp only [List.count_append];omega)
 obtain ⟨F2,R3,fP⟩:=yu (γ:=aF.drop l.length) (by rw [List.length_drop,R'.len,List.length_map,List.length_drop]) R2 (fun i b hb=>by
  rw [List.getElem?_map,Option.map_eq_some_iff] at hb
  obtain ⟨b0,hb,rfl⟩:=hb
  rw [List.getElem?_drop] at hb
  have:=(vu pK (R'.blk _ b0 hb)).mono b9 (Ext.refl _)
  have ho:outer l M.length (l.length+i)=M.length+i:=by unfold outer;rw [List.getElem?_eq_none (by omega)];dsimp only;omega
  rw [ho] at this
  rw [px];exact this)
 have Cq:=R3.perm (Y:=(List.range l.length).flatMap F'++[]) (by rw [List.append_nil])
 obtain ⟨F3,R4,Cr⟩:=yt (bs:=(M'.take l.length).map (cM (outer l M.length))) de (by simp;omega) (fun u hu=>by have:=aK u hu;rw [List.length_append];omega) (fun u hu=>by rw [fP u (by rw [px];exact aK u hu)];exact Co u hu) Cq (fun i u b h1 h2=>by
  rw [List.getElem?_map,Option.map_eq_some_iff] at h2
  obtain ⟨b0,h2,rfl⟩:=h2
  rw [List.getElem?_take] at h2
  split at h2
  ·have:=(vu pK (R'.blk i b0 h2)).mono b9 (Ext.refl _)
   have ho:outer l M.length i=u:=by unfold outer;rw [h1]
   rw [ho] at this;exact this
  ·simp at h2)
 refine ⟨_,F3,I'++I,R4.nil rfl,(Ext.app _ _).b _,⟨I',rfl⟩,fun u hu tJ=>?_,(qg pK hr).mono b9 (Ext.refl _)⟩
 rw [Cr u tJ,fP u (by rw [px];exact hu),iV u tJ]
theorem xE (R:RM D w0 K0 M β F I w) (hK:∀ w,Kp D w0 w→K0 w) {f:FuncId} {vs:List AV} {ys:List Value} {l:List Nat} {told:List AV} {Ms M':List au} {x:AV} (du:ys.length=vs.length) (kU:∀ (j:Nat) c y,vs[j]?=some c→ys[j]?=some y→aE (fun w=>K0 w∧az w I) β c y)
  (gU:iP l vs=some told) (gD:eP l M l=some Ms) (de:l.Nodup) (hle:l.length≤M'.length) (dZ:aL P f told Ms x M'):
  Calls P f ys.toArray w fun e w'=>∃ v,e=.returned v∧∃ aF F' I',RM D w0 K0 (eE (ei M l++(M'.drop l.length).map (cM (outer l M.length))) l ((M'.take l.length).map (cM (outer l M.length)))) aF F' I' w'∧fq [] β aF∧bL I I'∧(∀ u,u<M.length→u ∉ l→F' u=F u)∧aE (fun w=>K0 w∧az w I') aF (mapA (outer l M.length) x) v:=by
 obtain ⟨e1,e2⟩:=oD (β:=β) (K:=fun w=>K0 w∧az w I) gU
 obtain ⟨m1,m2⟩:=qf gD
 refine Jw R hK du e1 (e2 kU) m1 (fun i b hb=>?_) de hle dZ
 obtain ⟨u,b0,g1,g2,g3⟩:=m2 i b hb
 exact ⟨u,b0,g1,g2,vt g1 g3 (R.blk u b0 g2)⟩
theorem Mj {g:Operand} {args:Array Operand} {ey:Array TypeId} (h:AP P E M oc g args=some out):aP P ⟨d,.call ⟨.value g,args,ey⟩,ty,pos,aft,gd⟩ E M out:=by
 unfold AP at h
 split at h
 ·rename_i f bZ vs l x M' hg kB
  split at h
  ·rename_i told Ms gU gD
   cases hc:(cC l&&Nat.ble l.length M'.length) with
   | false=>simp only [hc,cond_false,reduceCtorEq] at h
   | true=>
    simp only [hc,cond_true,Option.some.injEq] at h;subst h
    simp only [Bool.and_eq_true] at hc
    have de:=l4 hc.1
    have hle:=Nat.le_of_ble_eq_true hc.2
    intro D w0 K0 β F I ρ w C hv
    obtain ⟨dZ,-⟩:=hv
    obtain ⟨y,hy,r⟩:=C.bS hg
    cases r with
    | fn cs cG fO=>
     obtain ⟨dT,iU⟩:=C.k5 kB
     have du:(args.toList.map ρ++cs).length=(vs++bZ).length:=by rw [List.length_append,List.length_append,dT,cG]
     have kS:∀ (j:Nat) c y,(vs++bZ)[j]?=some c→(args.toList.map ρ++cs)[j]?=some y→aE (fun w=>K0 w∧az w I) β c y:=by
      intro j c y h1 h2
      rcases Nat.lt_or_ge j vs.length with hj | hj
      ·rw [List.getElem?_append_left hj] at h1
       rw [List.getElem?_append_left (by omega)] at h2
       exact iU j c y h1 h2
      ·rw [List.getElem?_append_right hj] at h1
       rw [List.getElem?_append_right (by omega),dT] at h2
       exact fO _ c y h1 h2
     have hm:args.map ρ=(args.toList.map ρ).toArray:=by rw [← Array.toList_map]
     refine pR hy dZ.1 hm ?_
     have jP:((args.toList.map ρ).toArray++cs.toArray:Array Value)=(args.toList.map ρ++cs).toArray:=by simp
     rw [jP]
     exact xE C.rm C.k du kS gU gD de hle dZ
  ·simp at h
 ·simp at h
end Go.Proofs.YtlinpknagdgphaaGreat
namespace Go.Proofs.YtlinpknagdgphaaGreat
open Go.RowKit
def mB (es:Array MapEntry) (seen:Array Nat):Array MapEntry:=es.filter fun e=>!seen.contains e.born
section
variable {P:Program} {ρ:Operand→Value} {w:World} {Φ:Value→World→Prop} {d:Option Tmp} {ty t k e:TypeId} {pos:String} {aft:Array Edge} {gd:Option (Nat×Bool)} {x:Operand}
def vi:Obj→Bool
 | .cells _ _ _=>false
 | _=>true
theorem ly {r:Nat} {o:Obj} (h:w.heap[r]?=some o) (ho:vi o=true):(getObj r).run P w=.ok o w:=by
 cases o<;>simp [vi] at ho<;>simp [getObj,Sem.run,h]
theorem sa {r:Nat} {o:Obj} (h:w.heap[r]?=some o) (ho:vi o=true) (o':Obj):(setObj r o').run P w=.ok () (ct w r o'):=by
 cases o<;>simp [vi] at ho<;>simp [setObj,Sem.run,h,ct]
theorem Ev {bm:Nat} {es:Array MapEntry} {clock:Nat} (ht:P.underlying t=some (.map k e)) (hx:ρ x=.map (some bm)) (hb:w.heap[bm]?=some (.map es clock)) (aR:∀ b w',Gr w w'→dG w w' [(b,.mapIter (some bm) clock #[] clock)]→Φ (.pointer (some ⟨b,0,none⟩)) w'):bq P ⟨d,.range t x,ty,pos,aft,gd⟩ ρ w Φ:=
 .pure (v:=.pointer (some ⟨w.heap.size,0,none⟩)) (w':=w.alloc (.mapIter (some bm) clock #[] clock)) (by simp [execOp,hx,Instr.range,Sem.run_bind,run_underlying ht,ly hb rfl,newObj,Sem.run]) (aR _ _ (Gr.alloc _ _) (dG.alloc _ _))
theorem Fh {ri bm since c0 clock:Nat} {seen:Array Nat} {es:Array MapEntry} (hx:ρ x=.pointer (some ⟨ri,0,none⟩)) (hi:w.heap[ri]?=some (.mapIter (some bm) since seen c0)) (hb:w.heap[bm]?=some (.map es clock)) (hold:∀ x ∈ es.toList,x.born<since) (Sz:since≤c0)
  (h0:(mB es seen).size=0→Φ (.tuple #[.bool false]) w)
  (h1:∀ en ∈ (mB es seen).toList,∀ w1,Gr w w1→w1.heap=w.heap→Φ (.tuple #[.bool true,en.key,en.val]) (ct w1 ri (.mapIter (some bm) since (seen.push en.born) clock))):bq P ⟨d,.next x false,ty,pos,aft,gd⟩ ρ w Φ:=by
 have key:((mB es seen).size=0∧(Instr.next (.pointer (some ⟨ri,0,none⟩)) false ty).run P w=.ok (.tuple #[.bool false]) w)∨∃ en ∈ (mB es seen).toList,∃ w1,Gr w w1∧w1.heap=w.heap∧(Instr.next (.pointer (some ⟨ri,0,none⟩)) false ty).run P w=.ok (.tuple #[.bool true,en.key,en.val]) (ct w1 ri (.mapIter (some bm) since (seen.push en.born) clock)):=by
  simp only [Instr.next,Sem.run_bind,ly hi rfl,ly hb rfl,Result.andThen,next_test_false seen es since c0 hold Sz,Bool.false_eq_true,if_false]
  unfold mB
  have nK:∀ x ∈ (Array.filter (fun e=>!seen.contains e.born) es).toList,x.born<since:=fun x hx=>hold x (by simp at hx ⊢;exact hx.1)
  generalize Array.filter (fun e=>!seen.contains e.born) es=L at nK ⊢
  have e1:L.filter (fun x=>decide (x.born<since))=L:=Array.filter_eq_self.2 (fun x hx=>by simpa using nK x (by simpa using hx))
  have e2:L.filter (fun x=>decide (x.born≥since))=#[]:=by
   rw [Array.filter_eq_empty_iff]
   intro x hx
   have:=nK x (by simpa using hx)
   simp
   omega
  simp only [e1,e2,Array.append_empty]
  by_cases h0:L.size=0
  ·left
   have:L=#[]:=Array.eq_empty_of_size_eq_zero h0
   subst this
   refine ⟨rfl,?_⟩
   simp [choose,Sem.run,Question.forced]
  ·right
   have dN:L.isEmpty=false:=by simp [Array.isEmpty,h0]
   simp only [dN,Bool.false_eq_true,if_false,Array.empty_append,Array.size_map]
   have tv:∃ (j:Nat) (w1:World),j<L.size∧Gr w w1∧w1.heap=w.heap∧(choose (Question.mapNext L.size)).run P w=.ok j w1:=by
    by_cases hf:L.size≤1
    ·exact ⟨0,w,by omega,Gr.refl _,rfl,by simp [choose,Sem.run,Question.forced,hf]⟩
    ·exact ⟨_,w.drew,Nat.mod_lt _ (by omega),Gr.drew w,rfl,by
      simp only [choose,Sem.run,Question.forced,decide_eq_true_eq,hf,if_false,Question.cut]
      rfl⟩
   obtain ⟨j,w1,hj,hg,hh,fc⟩:=tv
   refine ⟨L[j],by simp,w1,hg,hh,?_⟩
   have eS:w1.heap[ri]?=some (.mapIter (some bm) since seen c0):=by rw [hh];exact hi
   simp only [fc,Array.getElem?_map,Array.getElem?_eq_getElem hj,Option.map_some,Sem.run_bind,Result.andThen,sa eS rfl]
   rfl
 rcases key with ⟨hz,hr⟩ | ⟨en,k9,w1,hg,hh,hr⟩
 ·exact .pure (by simp only [execOp,hx,Sem.run_bind,hr,Result.andThen_ok,Sem.run_pure]) (h0 hz)
 ·exact .pure (by simp only [execOp,hx,Sem.run_bind,hr,Result.andThen_ok,Sem.run_pure]) (h1 en k9 w1 hg hh)
end
end Go.Proofs.YtlinpknagdgphaaGreat
namespace Go.Proofs.YtlinpknagdgphaaGreat
open Go.RowKit Go.Maps
variable {P:Program} {T:aW} {D:List Nat} {w0:World} {K0:World→Prop} {E:List (Nat×AV)} {M:List au} {β:Beta} {F:Nat→aA} {I:aA} {ρ:Operand→Value} {w:World} {d:Option Tmp} {ty:TypeId} {pos:String} {aft:Array Edge} {gd:Option (Nat×Bool)} {oc:Option bj} {out:Out}
theorem MK.inj {a b:MK} (h:a.val=b.val):a=b:=by
 cases a with
 | i k n=>cases b with
  | i k' n'=>simp only [MK.val,Value.int.injEq] at h;obtain ⟨rfl,rfl⟩:=h;rfl
  | a l=>simp [MK.val] at h
 | a l=>cases b with
  | i k' n'=>simp [MK.val] at h
  | a l'=>
   simp only [MK.val,Value.agg.injEq] at h
   replace h:(l.map fun x=>Value.int x.1 x.2)=l'.map fun x=>Value.int x.1 x.2:=by simpa using congrArg Array.toList h
   congr 1
   induction l generalizing l' with
   | nil=>cases l' with | nil=>rfl | cons=>simp at h
   | cons x r ih=>cases l' with
    | nil=>simp at h
    | cons x' r'=>
     simp only [List.map_cons,List.cons.injEq,Value.int.injEq] at h
     obtain ⟨⟨h1,h2⟩,h3⟩:=h
     rw [ih r' h3,Prod.ext h1 h2]
def b5 (P:Program) (K:TypeId) (ks:List MK):Prop:=Keyed P K∧∀ k ∈ ks,∃ l,keyOf P K k.val=some l
def tK:List AV→Option (List (IntKind×Int))
 | []=>some []
 | .d (.v (.int k n))::r=>(match tK r with | some s=>some ((k,n)::s) | none=>none)
 | _=>none
def kC:AV→Option MK
 | .d (.v (.int k n))=>some (.i k n)
 | .ag l=>(match tK l with | some r=>some (.a r) | none=>none)
 | _=>none
theorem Gd {K:World→Prop}:∀ {l:List AV} {r:List (IntKind×Int)} {ys:List Value},tK l=some r→ys.length=l.length→(∀ (j:Nat) c y,l[j]?=some c→ys[j]?=some y→aE K β c y)→ys=r.map fun x=>.int x.1 x.2
 | [],r,ys,h,hl,hr=>by simp only [tK,Option.some.injEq] at h;subst h;simpa using hl
 | c::l,r,ys,h,hl,hr=>by
  unfold tK at h
  split at h
  ·simp at *
  ·rename_i k n l' he
   cases he
   split at h
   ·rename_i s hs
    simp only [Option.some.injEq] at h;subst h
    cases ys with
    | nil=>simp at hl
    | cons y ys=>
     have h0:=hr 0 _ y rfl rfl
     have ih:=Gd (ys:=ys) hs (by simpa using hl) (fun j c z h1 h2=>hr (j+1) c z h1 h2)
     cases h0 with | d h0=>cases h0;simp [ih]
   ·simp at h
  ·simp at h
theorem sx {K:World→Prop} {v:AV} {k:MK} {y:Value} (h:kC v=some k) (r:aE K β v y):y=k.val:=by
 unfold kC at h
 split at h
 ·simp only [Option.some.injEq] at h;subst h
  cases r with | d r=>cases r;rfl
 ·split at h
  ·rename_i s hs
   simp only [Option.some.injEq] at h;subst h
   cases r with | ag ys hl hr=>rw [Gd hs hl hr];rfl
  ·simp at h
 ·simp at h
def tL:MK→AV
 | .i k n=>.d (.v (.int k n))
 | .a l=>.ag (l.map fun x=>.d (.v (.int x.1 x.2)))
theorem Ge {K:World→Prop} (k:MK):aE K β (tL k) k.val:=by
 cases k with
 | i k n=>exact .d (.v _)
 | a l=>
  refine .ag _ (by simp) fun j c y h1 h2=>?_
  rw [List.getElem?_map] at h1 h2
  cases hx:l[j]? with
  | none=>rw [hx] at h1;cases h1
  | some x=>rw [hx] at h1 h2;simp at h1 h2;subst h1 h2;exact .d (.v _)
theorem Fi {es:List (Nat×MK×DV)} {vs:List Value} (hl:vs.length=es.length):(cq es vs).length=es.length:=by simp [cq,hl]
theorem oR {es:List (Nat×MK×DV)} {vs:List Value} {j:Nat} {en:MapEntry} (hl:vs.length=es.length) (h:(cq es vs)[j]?=some en):∃ e v,es[j]?=some e∧vs[j]?=some v∧en={ key:=e.2.1.val,val:=v,born:=e.1 }:=by
 unfold cq at h
 rw [List.getElem?_map] at h
 cases hz:(es.zip vs)[j]? with
 | none=>rw [hz] at h;cases h
 | some x=>
  rw [hz] at h;simp at h
  rw [List.getElem?_zip_eq_some] at hz
  exact ⟨x.1,x.2,hz.1,hz.2,h.symm⟩
theorem qA {es:List (Nat×MK×DV)} {vs:List Value} {j:Nat} {e:Nat×MK×DV} {v:Value} (h1:es[j]?=some e) (h2:vs[j]?=some v):(cq es vs)[j]?=some { key:=e.2.1.val,val:=v,born:=e.1 }:=by
 unfold cq
 rw [List.getElem?_map,(List.getElem?_zip_eq_some (i:=j) (z:=(e,v))).2 ⟨h1,h2⟩];rfl
theorem Ew {es:List (Nat×MK×DV)} {vs:List Value} (hl:vs.length=es.length):(cq es vs).map (·.born)=es.map (·.1):=by
 apply List.ext_getElem?
 intro j
 rw [List.getElem?_map,List.getElem?_map]
 cases h:(cq es vs)[j]? with
 | none=>
  rw [List.getElem?_eq_none_iff,Fi hl] at h
  rw [List.getElem?_eq_none (by omega)];rfl
 | some en=>
  obtain ⟨e,v,h1,h2,rfl⟩:=oR hl h
  rw [h1];rfl
theorem Ml {es:List (Nat×MK×DV)} {vs:List Value} (hl:vs.length=es.length) (c:Nat) (k:MK) (x:DV) (v:Value):(cq es vs).toArray.push { key:=k.val,val:=v,born:=c }=(cq (es++[(c,k,x)]) (vs++[v])).toArray:=by
 unfold cq
 rw [List.zip_append hl.symm]
 simp
theorem sj {K:TypeId} {es:List (Nat×MK×DV)} {vs:List Value} (hl:vs.length=es.length) {k:MK} (hk:b5 P K (k::es.map fun e=>e.2.1)) (w:World):
  ((Instr.findKey K k.val (cq es vs)).run P w=.ok none w∧∀ e ∈ es,e.2.1≠k)∨∃ j e v,(Instr.findKey K k.val (cq es vs)).run P w=.ok (some (j,v)) w∧es[j]?=some e∧vs[j]?=some v∧e.2.1=k:=by
 obtain ⟨L,dQ⟩:=hk
 obtain ⟨l,j1⟩:=dQ k (by simp)
 have du:∀ en ∈ cq es vs,∃ l,keyOf P K en.key=some l:=by
  intro en k9
  obtain ⟨j,hj,rfl⟩:=List.getElem_of_mem k9
  obtain ⟨e,v,h1,h2,h3⟩:=oR hl (List.getElem?_eq_getElem hj)
  rw [h3]
  exact dQ e.2.1 (List.mem_cons_of_mem _ (List.mem_map_of_mem (f:=fun e:Nat×MK×DV=>e.2.1) (List.mem_of_getElem? h1)))
 rcases L.find w j1 (cq es vs) du with h | ⟨j,en,h1,h2,h3⟩
 ·refine .inl ⟨h.1,fun e he Cs=>?_⟩
  obtain ⟨j,hj,rfl⟩:=List.getElem_of_mem he
  have hv:vs[j]?=some vs[j]:=List.getElem?_eq_getElem (by omega)
  exact h.2 _ (List.mem_of_getElem? (qA (List.getElem?_eq_getElem hj) hv)) (by rw [Cs])
 ·obtain ⟨e,v,e1,e2,rfl⟩:=oR hl h2
  exact .inr ⟨j,e,v,h1,e1,e2,MK.inj h3⟩
def yv (T:aW) (M:List au) (t:TypeId) (r:Option Operand):Option Out:=match cV T t,r with
 | some (.mp _ _),none=>some ⟨[],.mv M.length,M++[.mp t 0 []],[],[],none⟩
 | _,_=>none
theorem Jx {t:TypeId} {r:Option Operand} (h:yv T M t r=some out):aP P ⟨d,.makeMap t r,ty,pos,aft,gd⟩ E M out:=by
 unfold yv at h
 split at h
 ·simp only [Option.some.injEq] at h;subst h
  intro D w0 K0 β F I ρ w C _
  refine JJ fun b w' g n=>?_
  exact ⟨_,_,I,C.rm.new (q:=(some ⟨b,0,none⟩,0)) g n (.mp (es:=[]) (fA C.rm _) [] (fun _=>[]) rfl (by simp)),(Ext.app _ _).b _,bL.refl _,kJ _ _,.mv (fA C.rm _)⟩
 ·simp at h
def tM:List AV→Option (List DV)
 | []=>some []
 | .d x::r=>(match tM r with | some s=>some (x::s) | none=>none)
 | _=>none
def Ct:AV→Option DV
 | .d x=>some x
 | .ag l=>(match tM l with | some s=>some (.ag s) | none=>none)
 | _=>none
theorem Gf:∀ {l:List AV} {s:List DV},tM l=some s→l=s.map .d
 | [],s,h=>by simp only [tM,Option.some.injEq] at h;subst h;rfl
 | c::r,s,h=>by
  unfold tM at h
  split at h
  ·simp at *
  ·rename_i x r' he
   cases he
   split at h
   ·rename_i s' hs
    simp only [Option.some.injEq] at h;subst h
    rw [Gf hs];rfl
   ·simp at h
  ·simp at h
theorem Pj {K:World→Prop} {v:AV} {x:DV} {y:Value} (h:Ct v=some x) (r:aE K β v y):bQ K x y []:=by
 unfold Ct at h
 split at h
 ·simp only [Option.some.injEq] at h;subst h
  cases r with | d r=>exact r
 ·split at h
  ·rename_i s hs
   simp only [Option.some.injEq] at h;subst h
   obtain rfl:=Gf hs
   cases r with
   | ag ys hl hr=>
    have:=bQ.ag (K:=K) (l:=s) ys (fun _=>[]) (by simpa using hl) (fun j c y h1 h2=>by
     have:=hr j (.d c) y (by rw [List.getElem?_map,h1];rfl) h2
     cases this with | d h=>exact h)
    rw [show (List.range s.length).flatMap (fun _=>([]:aA))=[] by simp] at this
    exact this
  ·simp at h
 ·simp at h
def sW (M:List au) (oc:Option bj) (v:AV):Option DV:=match oc with
 | some (.n i)=>(match v,M[i]? with | .pt u o,some (.nm u' b)=>bif u.beq u'&&o.beq 0 then some (.v (.pointer (some ⟨b,0,none⟩))) else none | _,_=>none)
 | _=>Ct v
theorem Fj (R:RM D w0 K0 M β F I w) {v:AV} {x:DV} {y:Value} (h:sW M oc v=some x) (r:aE (fun w=>K0 w∧az w I) β v y):bQ (fun w=>K0 w∧az w I) x y []:=by
 unfold sW at h
 split at h
 ·split at h
  ·rename_i u o u' b hM
   cases hc:(u.beq u'&&o.beq 0) with
   | false=>simp [hc] at h
   | true=>
    simp only [hc,cond_true,Option.some.injEq] at h;subst h
    simp only [Bool.and_eq_true] at hc
    obtain rfl:=Nat.eq_of_beq_eq_true hc.1
    obtain rfl:=Nat.eq_of_beq_eq_true hc.2
    have hB:=R.blk _ _ hM
    generalize F _=G at hB
    cases hB with
    | nm hb=>cases r with | pt aV=>rw [aV] at hb;cases hb;exact .v _
  ·simp at h
 ·exact Pj h r
def DV.iW:DV→Bool
 | .ag l=>l.all DV.cp
 | x=>x.cp
theorem bQ.Pk {K:World→Prop} {x:DV} {y:Value} {H:aA} (h:bQ K x y H) (hc:x.cp=true):H=[]:=by
 cases h with
 | v=>rfl
 | jk=>rfl
 | ro=>rfl
 | em=>simp [DV.cp] at hc
 | ag=>simp [DV.cp] at hc
 | tu=>simp [DV.cp] at hc
 | pb=>simp [DV.cp] at hc
theorem bQ.y6 {K:World→Prop} {x:DV} {y:Value} {H:aA} (h:bQ K x y H) (hc:x.iW=true):H=[]:=by
 cases h with
 | v=>rfl
 | jk=>rfl
 | ro=>rfl
 | em=>simp [DV.iW,DV.cp] at hc
 | tu=>simp [DV.iW,DV.cp] at hc
 | pb=>simp [DV.iW,DV.cp] at hc
 | @ag l ys F hl hr=>
  simp only [DV.iW] at hc
  rw [List.flatMap_eq_nil_iff]
  intro j hj
  have hj:=List.mem_range.1 hj
  have h1:=List.getElem?_eq_getElem hj
  exact (hr j _ _ h1 (List.getElem?_eq_getElem (by omega))).Pk (List.all_eq_true.1 hc _ (List.mem_of_getElem? h1))
def DV.xb:DV→AV
 | .ag l=>.ag (l.map .d)
 | x=>.d x
theorem bQ.xb {K:World→Prop} {x:DV} {y:Value} {H:aA} (h:bQ K x y H) (hc:x.iW=true):aE K β x.xb y:=by
 have hn:=h.y6 hc
 subst hn
 cases x with
 | ag l=>
  generalize hH:([]:aA)=H at h
  cases h with
  | ag ys F hl hr=>
   simp only [DV.iW] at hc
   refine .ag ys (by simpa using hl) fun j c y h1 h2=>?_
   rw [List.getElem?_map,Option.map_eq_some_iff] at h1
   obtain ⟨c',h1,rfl⟩:=h1
   exact .d ((hr j c' y h1 h2).cp (List.all_eq_true.1 hc _ (List.mem_of_getElem? h1)))
 | _=>exact .d h
theorem KH (G:Nat→aA) (n:Nat):(List.range (n+1)).flatMap (aS G n [])=(List.range n).flatMap G:=by rw [xP,List.append_nil]
theorem KI {G:Nat→aA} {n j:Nat} (h:G j=[]):(List.range n).flatMap (aS G j [])=(List.range n).flatMap G:=by
 rw [List.flatMap_def,List.flatMap_def];congr 1
 apply List.map_congr_left;intro a _
 simp only [aS];split
 ·rename_i e;rw [e,h]
 ·rfl
theorem mb (es:List (Nat×MK×DV)) (vs:List Value) (i:Nat):(cq es vs)[i]?=(match es[i]?,vs[i]? with | some e,some v=>some { key:=e.2.1.val,val:=v,born:=e.1 } | _,_=>none):=by
 unfold cq
 rw [List.getElem?_map]
 cases h1:es[i]? with
 | none=>
  have:(es.zip vs)[i]?=none:=by rw [List.getElem?_eq_none_iff] at h1 ⊢;simp;omega
  rw [this];rfl
 | some e=>
  cases h2:vs[i]? with
  | none=>
   have:(es.zip vs)[i]?=none:=by rw [List.getElem?_eq_none_iff] at h2 ⊢;simp;omega
   rw [this];rfl
  | some v=>rw [(List.getElem?_zip_eq_some (i:=i) (z:=(e,v))).2 ⟨h1,h2⟩];rfl
theorem NZ {es:List (Nat×MK×DV)} {vs:List Value} {j b:Nat} {k:MK} {x:DV} (hl:vs.length=es.length) (x':DV) (v:Value) (hj:es[j]?=some (b,k,x)):
  (cq es vs).toArray.modify j (fun en=>{ en with key:=k.val,val:=v })=(cq (es.modify j fun e=>(e.1,e.2.1,x')) (vs.set j v)).toArray:=by
 apply Array.ext'
 rw [Array.toList_modify]
 apply List.ext_getElem?
 intro i
 rw [List.getElem?_modify,mb,mb,List.getElem?_modify,List.getElem?_set]
 by_cases e:j=i
 ·subst e
  have aK:=(List.getElem?_eq_some_iff.1 hj).1
  rw [hj,if_pos rfl,if_pos (by omega),List.getElem?_eq_getElem (show j<vs.length by omega)]
  simp
 ·simp only [if_neg e]
  cases es[i]?<;>cases vs[i]?<;>simp
def mi (P:Program) (T:aW) (E:List (Nat×AV)) (M:List au) (oc:Option bj) (t:TypeId) (m k x:Operand):Option Out:=
 match cV T t,aO E m,aO E k,aO E x with
 | some (.mp K _),some (.mv u),some ak,some ax=>(match kC ak,sW M oc ax,M[u]?,oc with
  | some mk,some dv,some (.mp t' c es),some (.b false)=>some ⟨[b5 P K (mk::es.map fun e=>e.2.1),∀ e ∈ es,e.2.1≠mk],.d .jk,M.set u (.mp t' (c+1) (es++[(c,mk,dv)])),[u],[],none⟩
  | some mk,some dv,some (.mp t' c es),some (.n _)=>some ⟨[b5 P K (mk::es.map fun e=>e.2.1),∀ e ∈ es,e.2.1≠mk],.d .jk,M.set u (.mp t' (c+1) (es++[(c,mk,dv)])),[u],[],none⟩
  | some mk,some dv,some (.mp t' c es),some (.mk j k' x)=>some ⟨[b5 P K (mk::es.map fun e=>e.2.1),k'=mk,(es.map fun e=>e.2.1).Nodup,x.iW=true,∃ b,es[j]?=some (b,k',x)],.d .jk,M.set u (.mp t' c (es.modify j fun e=>(e.1,e.2.1,dv))),[u],[],none⟩
  | _,_,_,_=>none)
 | _,_,_,_=>none
theorem xF (hT:bp P T=true) {t:TypeId} {m k x:Operand} (h:mi P T E M oc t m k x=some out) {D:List Nat} {w0:World} {K0:World→Prop} {β:Beta} {F:Nat→aA} {I:aA} {ρ:Operand→Value} {w:World} (C:Ctx D w0 K0 E M β F I ρ w) (hv:bw out.vc):
  ∃ w',(Instr.mapUpdate t (ρ m) (ρ k) (ρ x)).run P w=.ok () w'∧∃ aF F' I',RM D w0 K0 out.M aF F' I' w'∧fq out.mv β aF∧bL I I'∧(∀ u,u<M.length→u ∉ out.tc→F' u=F u)∧aE (fun w=>K0 w∧az w I') aF out.av undef:=by
 unfold mi at h
 split at h
 ·rename_i K Te u ak ax ht hm hk hx
  obtain ⟨ym,iJ,rm⟩:=C.bS hm
  obtain ⟨yk,n5,rk⟩:=C.bS hk
  obtain ⟨yx,fN,rx⟩:=C.bS hx
  have fresh:∀ {mk:MK} {dv:DV} {t' c:Nat} {es:List (Nat×MK×DV)},kC ak=some mk→sW M oc ax=some dv→M[u]?=some (.mp t' c es)→b5 P K (mk::es.map fun e=>e.2.1)→(∀ e ∈ es,e.2.1≠mk)→
    ∃ w',(Instr.mapUpdate t (ρ m) (ρ k) (ρ x)).run P w=.ok () w'∧∃ aF F' I',RM D w0 K0 (M.set u (.mp t' (c+1) (es++[(c,mk,dv)]))) aF F' I' w'∧fq [] β aF∧bL I I'∧(∀ v,v<M.length→v ∉ [u]→F' v=F v)∧aE (fun w=>K0 w∧az w I') aF (.d .jk) undef:=by
   intro mk dv t' c es df pz hM dQ cY
   have ek:=sx df rk
   have hd:=Fj C.rm pz rx
   cases rm with
   | mv hb=>
    obtain ⟨H,hF,hB,hH⟩:=C.rm.at hM
    cases hB with
    | mp aV vs G hl hr=>
     rw [hb] at aV;cases aV
     have hw:=hH.one
     have hg:=rT (P:=P) hw
     obtain ⟨l,j1⟩:=dQ.2 mk (by simp)
     rcases sj hl dQ w with hf | ⟨j,e,v,-,h1,-,h3⟩
     ·have dY:bK (fun w=>K0 w∧az w I) β u (.mp t' (c+1) (es++[(c,mk,dv)])) ((_,.map (cq (es++[(c,mk,dv)]) (vs++[yx])).toArray (c+1))::(List.range (es++[(c,mk,dv)]).length).flatMap (aS G es.length [])):=.mp hb (vs++[yx]) _ (by simp [hl]) (by
       intro j e y h1 h2
       rcases Nat.lt_or_ge j es.length with hj | hj
       ·rw [List.getElem?_append_left hj] at h1;rw [List.getElem?_append_left (by omega)] at h2
        simp only [aS];rw [if_neg (by omega)];exact hr j e y h1 h2
       ·rw [List.getElem?_append_right hj] at h1;rw [List.getElem?_append_right (by omega),hl] at h2
        cases hz:j-es.length with
        | zero=>
         rw [hz] at h1 h2;simp at h1 h2;subst h1 h2
         simp only [aS];rw [if_pos (by omega)];exact hd
        | succ n=>rw [hz] at h1;simp at h1)
      rw [List.length_append,List.length_singleton,KH] at dY
      refine ⟨ct w _ (.map (cq (es++[(c,mk,dv)]) (vs++[yx])).toArray (c+1)),?_,β,_,I,C.rm.set hM hF dY,(Ext.refl β).b _,bL.refl _,fun v hv hn=>by simp only [aS];rw [if_neg (by simpa using hn)],.d (.jk _)⟩
      rw [iJ,n5,fN,ek]
      unfold Instr.mapUpdate
      have hc:(Instr.checkKey false 10000 K mk.val).run P w=.ok () w:=dQ.1.check w _ j1
      simp only [Sem.run_bind,run_underlying (cE hT ht),Result.andThen_ok,hg,hc,hf.1,xC hw,Ml hl c mk dv yx]
     ·exact absurd h3 (cY e (List.mem_of_getElem? h1))
  split at h
  ·rename_i mk dv t' c es df hM pz
   simp only [Option.some.injEq] at h;subst h
   obtain ⟨dQ,cY,-⟩:=hv
   exact fresh df pz hM dQ cY
  ·rename_i mk dv t' c es n df hM pz
   simp only [Option.some.injEq] at h;subst h
   obtain ⟨dQ,cY,-⟩:=hv
   exact fresh df pz hM dQ cY
  ·rename_i mk dv t' c es j k' xo df hM pz
   simp only [Option.some.injEq] at h;subst h
   obtain ⟨dQ,rfl,de,js,⟨b,hj⟩,-⟩:=hv
   have ek:=sx df rk
   have hd:=Fj C.rm pz rx
   cases rm with
   | @mv _ bb cc hb=>
    obtain ⟨H,hF,hB,hH⟩:=C.rm.at hM
    cases hB with
    | mp aV vs G hl hr=>
     rw [hb] at aV;cases aV
     have hw:=hH.one
     have hg:=rT (P:=P) hw
     obtain ⟨l,j1⟩:=dQ.2 k' (by simp)
     obtain ⟨wL,-⟩:=List.getElem?_eq_some_iff.1 hj
     have gl:vs[j]?=some vs[j]:=List.getElem?_eq_getElem (by omega)
     have Cu:G j=[]:=(hr j _ _ hj gl).y6 js
     rcases sj hl dQ w with hf | ⟨j',e,v,hf,h1,-,h3⟩
     ·exact absurd rfl (hf.2 _ (List.mem_of_getElem? hj))
     ·have tN:j'=j:=by
       have a1:(es.map fun e=>e.2.1)[j']?=some k':=by rw [List.getElem?_map,h1];simp [h3]
       have a2:(es.map fun e=>e.2.1)[j]?=some k':=by rw [List.getElem?_map,hj];rfl
       exact (List.getElem?_inj (by have:=(List.getElem?_eq_some_iff.1 h1).1;simpa using this) de).1 (a1.trans a2.symm)
      subst tN
      have dY:bK (fun w=>K0 w∧az w I) β u (.mp t' c (es.modify j' fun e=>(e.1,e.2.1,dv))) ((_,.map (cq (es.modify j' fun e=>(e.1,e.2.1,dv)) (vs.set j' yx)).toArray c)::(List.range (es.modify j' fun e=>(e.1,e.2.1,dv)).length).flatMap (aS G j' [])):=.mp hb (vs.set j' yx) _ (by simp [hl]) (by
       intro i e y h1 h2
       rw [List.getElem?_modify] at h1;rw [List.getElem?_set] at h2
       simp only [aS]
       by_cases hi:j'=i
       ·subst hi
        rw [hj] at h1;simp at h1;subst h1
        rw [if_pos rfl,if_pos (by omega)] at h2;simp only [Option.some.injEq] at h2;subst h2
        rw [if_pos rfl];exact hd
       ·rw [if_neg hi] at h2
        simp only [if_neg hi] at h1
        rw [if_neg (fun e=>hi e.symm)]
        cases pA:es[i]? with
        | none=>rw [pA] at h1;simp at h1
        | some e0=>rw [pA] at h1;simp at h1;subst h1;exact hr i _ y pA h2)
      rw [List.length_modify,KI Cu] at dY
      refine ⟨ct w _ (.map (cq (es.modify j' fun e=>(e.1,e.2.1,dv)) (vs.set j' yx)).toArray c),?_,β,_,I,C.rm.set hM hF dY,(Ext.refl β).b _,bL.refl _,fun v hv hn=>by simp only [aS];rw [if_neg (by simpa using hn)],.d (.jk _)⟩
      rw [iJ,n5,fN,ek]
      unfold Instr.mapUpdate
      have hc:(Instr.checkKey false 10000 K k'.val).run P w=.ok () w:=dQ.1.check w _ j1
      have bM:(Instr.keyThatStays ((((cq es vs).toArray[j']?).map (·.key)).getD k'.val) k'.val).run P w=.ok k'.val w:=by
       have:(cq es vs).toArray[j']?=some { key:=k'.val,val:=vs[j'],born:=b }:=by simpa using qA hj gl
       rw [this];exact dQ.1.stays w j1
      simp only [Sem.run_bind,run_underlying (cE hT ht),Result.andThen_ok,hg,hc,hf,bM,xC hw,NZ hl dv yx hj]
  ·simp at h
 ·simp at h
theorem DY (hT:bp P T=true) {t:TypeId} {m k x:Operand} (h:mi P T E M oc t m k x=some out):aP P ⟨d,.mapUpdate t m k x,ty,pos,aft,gd⟩ E M out∧aP P ⟨d,.insert t m k x,ty,pos,aft,gd⟩ E M out:=by
 have e:out.rd=none:=by
  unfold mi at h
  split at h
  ·split at h
   ·simp only [Option.some.injEq] at h;subst h;rfl
   ·simp only [Option.some.injEq] at h;subst h;rfl
   ·simp only [Option.some.injEq] at h;subst h;rfl
   ·simp at h
  ·simp at h
 constructor
 ·unfold aP;rw [e]
  intro D w0 K0 β F I ρ w C hv
  obtain ⟨w',hr,aR⟩:=xF hT h C hv
  exact Db rfl rfl rfl hr aR
 ·unfold aP;rw [e]
  intro D w0 K0 β F I ρ w C hv
  obtain ⟨w',hr,aR⟩:=xF hT h C hv
  exact .skip (by simp only [execOp,Sem.run_bind,hr,Result.andThen_ok,Sem.run_pure]) aR
def gp (P:Program) (t:TypeId) (z:Value):Prop:=∀ w:World,(zeroValue t).run P w=.ok z w
def mF (M:List au) (x:DV):Option Nat→Option AV
 | none=>bif x.iW then some x.xb else none
 | some i=>(match x,M[i]? with | .v (.pointer (some ⟨_,_,_⟩)),some (.nm u _)=>some (.pt u 0) | _,_=>none)
def qW (M:List au) (x:DV):Option Nat→Prop
 | none=>True
 | some i=>(match M[i]? with | some (.nm _ b)=>x=.v (.pointer (some ⟨b,0,none⟩)) | _=>False)
theorem Fk {K:World→Prop} {F:Nat→aA} {x:DV} {i:Option Nat} {v:AV} {y:Value} {H:aA} (h:mF M x i=some v) (hp:qW M x i) (hM:∀ (u:Nat) blk,M[u]?=some blk→bK K β u blk (F u)) (r:bQ K x y H):aE K β v y:=by
 cases i with
 | none=>
  simp only [mF] at h
  cases hc:x.iW with
  | false=>simp [hc] at h
  | true=>simp only [hc,cond_true,Option.some.injEq] at h;subst h;exact r.xb hc
 | some i=>
  simp only [mF] at h
  split at h
  ·rename_i a o g u b Ip
   simp only [Option.some.injEq] at h;subst h
   simp only [qW,Ip] at hp
   cases hp
   have hB:=hM i _ Ip
   generalize F i=G at hB
   cases hB with
   | nm hb=>cases r;exact .pt hb
  ·simp at h
def sL (P:Program) (T:aW) (E:List (Nat×AV)) (M:List au) (oc:Option bj) (t:TypeId) (m k:Operand) (ok:Bool):Option Out:=
 match cV T t,aO E m,aO E k with
 | some (.mp K Te),some (.mv u),some ak=>(match kC ak,M[u]? with
  | some mk,some (.mp _ _ es)=>(match oc with
   | some (.mk j k' x)=>(match mF M x none with
    | some v=>some ⟨[b5 P K (mk::es.map fun e=>e.2.1),k'=mk,(es.map fun e=>e.2.1).Nodup,∃ b,es[j]?=some (b,k',x)],bif ok then .tu [v,.b true] else v,M,[],[],some [u]⟩
    | none=>none)
   | some (.wY j k' x i)=>(match mF M x (some i) with
    | some v=>some ⟨[b5 P K (mk::es.map fun e=>e.2.1),k'=mk,(es.map fun e=>e.2.1).Nodup,(∃ b,es[j]?=some (b,k',x))∧qW M x (some i)],bif ok then .tu [v,.b true] else v,M,[],[],some [u]⟩
    | none=>none)
   | some (.b false)=>(match oU T Te,mO T Te with
    | some [z],some .one=>some ⟨[b5 P K (mk::es.map fun e=>e.2.1),gp P Te z,∀ e ∈ es,e.2.1≠mk],bif ok then .tu [.d (.v z),.b false] else .d (.v z),M,[],[],some [u]⟩
    | some l,some (.many _)=>some ⟨[b5 P K (mk::es.map fun e=>e.2.1),gp P Te (.agg l.toArray),∀ e ∈ es,e.2.1≠mk],bif ok then .tu [.ag (ki l),.b false] else .ag (ki l),M,[],[],some [u]⟩
    | _,_=>none)
   | _=>none)
  | _,_=>none)
 | _,_,_=>none
theorem sk {K:World→Prop} {a b:AV} {x y:Value} (h1:aE K β a x) (h2:aE K β b y):aE K β (.tu [a,b]) (.tuple #[x,y]):=by
 refine .tu [x,y] rfl fun j c z e1 e2=>?_
 match j with
 | 0=>simp at e1 e2;subst e1 e2;exact h1
 | 1=>simp at e1 e2;subst e1 e2;exact h2
 | j+2=>simp at e1
theorem Ex (hT:bp P T=true) {t:TypeId} {m k:Operand} {ok:Bool} (h:sL P T E M oc t m k ok=some out):aP P ⟨d,.lookup t m k ok,ty,pos,aft,gd⟩ E M out:=by
 unfold sL at h
 split at h
 ·rename_i K Te u ak ht hm hk
  split at h
  ·rename_i mk t' c es df hM
   have aK:=(List.getElem?_eq_some_iff.1 hM).1
   have fi:∀ {j:Nat} {k':MK} {x:DV} {i:Option Nat} {v:AV} {D:List Nat} {w0:World} {K0:World→Prop} {β:Beta} {F:Nat→aA} {I:aA} {ρ:Operand→Value} {w:World},mF M x i=some v→Ctx D w0 K0 E M β F I ρ w→b5 P K (mk::es.map fun e=>e.2.1)→k'=mk→(es.map fun e=>e.2.1).Nodup→(∃ b,es[j]?=some (b,k',x))→qW M x i→
     ∃ y,aE (fun w=>K0 w∧az w I) β (bif ok then .tu [v,.b true] else v) y∧∀ w',gZ K0 I F [u] w'→(execOp ρ ⟨d,.lookup t m k ok,ty,pos,aft,gd⟩).run P w'=.ok (.value y) w':=by
    intro j k' x i v D w0 K0 β F I ρ w hv C dQ b9 de hj hp
    subst b9
    obtain ⟨b,hj⟩:=hj
    obtain ⟨ym,iJ,rm⟩:=C.bS hm
    obtain ⟨yk,n5,rk⟩:=C.bS hk
    have ek:=sx df rk
    cases rm with
    | @mv _ bb cc hb=>
     obtain ⟨H,hF,hB,-⟩:=C.rm.at hM
     cases hB with
     | mp aV vs G hl hr=>
      rw [hb] at aV;cases aV
      obtain ⟨xc,-⟩:=List.getElem?_eq_some_iff.1 hj
      have gl:vs[j]?=some vs[j]:=List.getElem?_eq_getElem (by omega)
      have hx:=Fk hv hp C.rm.blk (hr j _ _ hj gl)
      refine ⟨if ok then .tuple #[vs[j],.bool true] else vs[j],?_,fun w' hs=>?_⟩
      ·cases ok with
       | true=>exact sk hx (.d (.v _))
       | false=>exact hx
      ·have hH:=hs.2 u (by simp)
       rw [hF] at hH
       have hw:=hH.one
       obtain ⟨l,j1⟩:=dQ.2 k' (by simp)
       have iH:(Instr.lookup t (.map (some bb)) yk ok).run P w'=.ok (if ok then .tuple #[vs[j],.bool true] else vs[j]) w':=by
        rw [ek]
        unfold Instr.lookup
        have hc:∀ em,(Instr.checkKey em 10000 K k'.val).run P w'=.ok () w':=fun em=>dQ.1.check w' _ j1
        rcases sj hl dQ w' with hf | ⟨j',e,v,hf,h1,h2,h3⟩
        ·exact absurd rfl (hf.2 _ (List.mem_of_getElem? hj))
        ·have tN:j'=j:=by
          have a1:(es.map fun e=>e.2.1)[j']?=some k':=by rw [List.getElem?_map,h1];simp [h3]
          have a2:(es.map fun e=>e.2.1)[j]?=some k':=by rw [List.getElem?_map,hj];rfl
          exact (List.getElem?_inj (by have:=(List.getElem?_eq_some_iff.1 h1).1;simpa using this) de).1 (a1.trans a2.symm)
         subst tN
         rw [gl] at h2;cases h2
         simp only [Sem.run_bind,run_underlying (cE hT ht),Result.andThen_ok,rT hw,Sem.run_pure,hc,hf]
       simp only [execOp,iJ,n5,Sem.run_bind,iH,Result.andThen_ok,Sem.run_pure]
   have Hr:∀ {z:Value} {v:AV} {D:List Nat} {w0:World} {K0:World→Prop} {β:Beta} {F:Nat→aA} {I:aA} {ρ:Operand→Value} {w:World},aE (fun w=>K0 w∧az w I) β v z→Ctx D w0 K0 E M β F I ρ w→b5 P K (mk::es.map fun e=>e.2.1)→gp P Te z→(∀ e ∈ es,e.2.1≠mk)→
     ∃ y,aE (fun w=>K0 w∧az w I) β (bif ok then .tu [v,.b false] else v) y∧∀ w',gZ K0 I F [u] w'→(execOp ρ ⟨d,.lookup t m k ok,ty,pos,aft,gd⟩).run P w'=.ok (.value y) w':=by
    intro z v D w0 K0 β F I ρ w hv C dQ mP cY
    obtain ⟨ym,iJ,rm⟩:=C.bS hm
    obtain ⟨yk,n5,rk⟩:=C.bS hk
    have ek:=sx df rk
    cases rm with
    | @mv _ bb cc hb=>
     obtain ⟨H,hF,hB,-⟩:=C.rm.at hM
     cases hB with
     | mp aV vs G hl hr=>
      rw [hb] at aV;cases aV
      refine ⟨if ok then .tuple #[z,.bool false] else z,?_,fun w' hs=>?_⟩
      ·cases ok with
       | true=>exact sk hv (.d (.v _))
       | false=>exact hv
      ·have hH:=hs.2 u (by simp)
       rw [hF] at hH
       have hw:=hH.one
       obtain ⟨l,j1⟩:=dQ.2 mk (by simp)
       have iH:(Instr.lookup t (.map (some bb)) yk ok).run P w'=.ok (if ok then .tuple #[z,.bool false] else z) w':=by
        rw [ek]
        unfold Instr.lookup
        have hc:∀ em,(Instr.checkKey em 10000 K mk.val).run P w'=.ok () w':=fun em=>dQ.1.check w' _ j1
        rcases sj hl dQ w' with hf | ⟨j',e,v,-,h1,-,h3⟩
        ·simp only [Sem.run_bind,run_underlying (cE hT ht),Result.andThen_ok,rT hw,Sem.run_pure,hc,hf.1,mP w']
        ·exact absurd h3 (cY _ (List.mem_of_getElem? h1))
       simp only [execOp,iJ,n5,Sem.run_bind,iH,Result.andThen_ok,Sem.run_pure]
   split at h
   ·rename_i j k' x
    split at h
    ·rename_i v hv
     simp only [Option.some.injEq] at h;subst h
     refine aP.look (fun C hq=>?_) (by simpa using aK)
     obtain ⟨q1,q2,q3,q4,-⟩:=hq
     exact fi hv C q1 q2 q3 q4 trivial
    ·simp at h
   ·rename_i j k' x i
    split at h
    ·rename_i v hv
     simp only [Option.some.injEq] at h;subst h
     refine aP.look (fun C hq=>?_) (by simpa using aK)
     obtain ⟨q1,q2,q3,q4,-⟩:=hq
     exact fi hv C q1 q2 q3 q4.1 q4.2
    ·simp at h
   ·split at h
    ·rename_i z hz tB
     simp only [Option.some.injEq] at h;subst h
     refine aP.look (fun C hq=>?_) (by simpa using aK)
     obtain ⟨q1,q2,q3,-⟩:=hq
     exact Hr (.d (.v _)) C q1 q2 q3
    ·rename_i l n hz tB
     simp only [Option.some.injEq] at h;subst h
     refine aP.look (fun C hq=>?_) (by simpa using aK)
     obtain ⟨q1,q2,q3,-⟩:=hq
     exact Hr (.ag l (by simp [ki]) (pT l).2) C q1 q2 q3
    ·simp at h
   ·simp at h
  ·simp at h
 ·simp at h
def zT (T:aW) (E:List (Nat×AV)) (M:List au) (t:TypeId) (x:Operand):Option Out:=match cV T t,aO E x with
 | some (.mp _ _),some (.mv u)=>(match M[u]? with
  | some (.mp _ c _)=>some ⟨[],.pt M.length 0,M++[.it (some u) c [] c],[],[],none⟩
  | some (.mu _ c _)=>some ⟨[],.pt M.length 0,M++[.it (some u) c [] c],[],[],none⟩
  | _=>none)
 | _,_=>none
theorem KJ (hT:bp P T=true) {t:TypeId} {x:Operand} (h:zT T E M t x=some out):aP P ⟨d,.range t x,ty,pos,aft,gd⟩ E M out:=by
 unfold zT at h
 split at h
 ·rename_i K Te u ht hx
  split at h
  ·rename_i t' c es hM
   simp only [Option.some.injEq] at h;subst h
   intro D w0 K0 β F I ρ w C _
   obtain ⟨ym,iJ,rm⟩:=C.bS hx
   cases rm with
   | @mv _ bb cc hb=>
    obtain ⟨H,hF,hB,hH⟩:=C.rm.at hM
    cases hB with
    | mp aV vs G hl hr=>
     rw [hb] at aV;cases aV
     refine Ev (cE hT ht) iJ hH.one fun b w' g n=>?_
     refine ⟨_,_,I,C.rm.new (q:=(some ⟨b,0,none⟩,0)) g n (.it (bm:=bb) (seen:=[]) (fA C.rm _) fun v hv=>?_),(Ext.app _ _).b _,bL.refl _,kJ _ _,.pt (fA C.rm _)⟩
     cases hv
     exact ⟨_,Ext.app _ _ _ _ hb⟩
  ·rename_i t' c es hM
   simp only [Option.some.injEq] at h;subst h
   intro D w0 K0 β F I ρ w C _
   obtain ⟨ym,iJ,rm⟩:=C.bS hx
   cases rm with
   | @mv _ bb cc hb=>
    obtain ⟨H,hF,hB,hH⟩:=C.rm.at hM
    cases hB with
    | mu es' hp de aK aV vs G hl hr=>
     rw [hb] at aV;cases aV
     refine Ev (cE hT ht) iJ hH.one fun b w' g n=>?_
     refine ⟨_,_,I,C.rm.new (q:=(some ⟨b,0,none⟩,0)) g n (.it (bm:=bb) (seen:=[]) (fA C.rm _) fun v hv=>?_),(Ext.app _ _).b _,bL.refl _,kJ _ _,.pt (fA C.rm _)⟩
     cases hv
     exact ⟨_,Ext.app _ _ _ _ hb⟩
  ·simp at h
 ·simp at h
theorem Dp {ri bm since clock:Nat} {seen:Array Nat} {es:Array MapEntry} {en:MapEntry} {w:World} (hi:w.heap[ri]?=some (.mapIter (some bm) since (seen.push en.born) clock)) (hb:w.heap[bm]?=some (.map es clock)) (he:en ∈ es.toList) (hn:(es.toList.map (·.born)).Nodup):(Instr.entry (.pointer (some ⟨ri,0,none⟩))).run P w=.ok (.tuple #[en.key,en.val]) w:=by
 have hf:es.find? (·.born==en.born)=some en:=by rw [← Array.find?_toList];exact find_born en es.toList hn he
 simp only [Instr.entry,Sem.run_bind,ly hi rfl,ly hb rfl,Result.andThen,Array.back?_push,bne_self_eq_false,Bool.false_eq_true,if_false,hf]
 rfl
def zU (E:List (Nat×AV)) (M:List au) (oc:Option bj) (x:Operand):Option Out:=match aO E x,oc with
 | some (.pt ui o),some (.mk j k dv)=>(match M[ui]?,mF M dv none with
  | some (.it (some um) _ seen c),some v=>(match M[um]? with
   | some (.mp _ ck es)=>bif Nat.beq o 0 then some ⟨[∃ b s,es[j]?=some (b,k,dv)∧seen=s++[b],(es.map fun e=>e.1).Nodup,c=ck],.tu [tL k,v],M,[],[],some [ui,um]⟩ else none
   | _=>none)
  | _,_=>none)
 | some (.pt ui o),some (.wY j k dv i)=>(match M[ui]?,mF M dv (some i) with
  | some (.it (some um) _ seen c),some v=>(match M[um]? with
   | some (.mp _ ck es)=>bif Nat.beq o 0 then some ⟨[(∃ b s,es[j]?=some (b,k,dv)∧seen=s++[b]),(es.map fun e=>e.1).Nodup,c=ck,qW M dv (some i)],.tu [tL k,v],M,[],[],some [ui,um]⟩ else none
   | _=>none)
  | _,_=>none)
 | _,_=>none
theorem KK {x:Operand} (h:zU E M oc x=some out):aP P ⟨d,.entry x,ty,pos,aft,gd⟩ E M out:=by
 have main:∀ {ui o j:Nat} {k:MK} {dv:DV} {i:Option Nat} {v:AV} {um:Nat} {since:Nat} {seen:List Nat} {c:Nat} {t' ck:Nat} {es:List (Nat×MK×DV)} {D:List Nat} {w0:World} {K0:World→Prop} {β:Beta} {F:Nat→aA} {I:aA} {ρ:Operand→Value} {w:World},
   aO E x=some (.pt ui o)→M[ui]?=some (.it (some um) since seen c)→mF M dv i=some v→M[um]?=some (.mp t' ck es)→Nat.beq o 0=true→Ctx D w0 K0 E M β F I ρ w→(∃ b s,es[j]?=some (b,k,dv)∧seen=s++[b])→(es.map fun e=>e.1).Nodup→c=ck→qW M dv i→
   ∃ y,aE (fun w=>K0 w∧az w I) β (.tu [tL k,v]) y∧∀ w',gZ K0 I F [ui,um] w'→(execOp ρ ⟨d,.entry x,ty,pos,aft,gd⟩).run P w'=.ok (.value y) w':=by
  intro ui o j k dv i v um since seen c t' ck es D w0 K0 β F I ρ w hx hI hv hM ho C hj de hc hp
  obtain rfl:=Nat.eq_of_beq_eq_true ho
  subst hc
  obtain ⟨b,s,hj,rfl⟩:=hj
  obtain ⟨ym,iJ,rm⟩:=C.bS hx
  cases rm with
  | @pt _ _ bi ci hb=>
   obtain ⟨H1,iV,mU,-⟩:=C.rm.at hI
   obtain ⟨H2,fP,mV,-⟩:=C.rm.at hM
   cases mU with
   | it la hm=>
    rw [hb] at la;cases la
    obtain ⟨c',mW⟩:=hm um rfl
    cases mV with
    | mp aV vs G hl hr=>
     rw [mW] at aV;cases aV
     obtain ⟨xc,-⟩:=List.getElem?_eq_some_iff.1 hj
     have gl:vs[j]?=some vs[j]:=List.getElem?_eq_getElem (by omega)
     have hy:=Fk hv hp C.rm.blk (hr j _ _ hj gl)
     refine ⟨.tuple #[k.val,vs[j]],sk (Ge k) hy,fun w' hs=>?_⟩
     have g1:=hs.2 ui (by simp)
     have g2:=hs.2 um (by simp)
     rw [iV] at g1;rw [fP] at g2
     have q1:=g1.one
     have q2:=g2.one
     have he:=List.mem_of_getElem? (qA hj gl)
     have iH:=Dp (P:=P) (seen:=s.toArray) (en:={ key:=k.val,val:=vs[j],born:=b }) (by simpa using q1) q2 (by simpa using he) (by simpa [Ew hl] using de)
     simp only [execOp,iJ,Sem.run_bind,iH,Result.andThen_ok,Sem.run_pure]
 unfold zU at h
 split at h
 ·rename_i ui o j k dv hx
  split at h
  ·rename_i um since seen c v hI hv
   split at h
   ·rename_i t' ck es hM
    cases ho:Nat.beq o 0 with
    | false=>simp [ho] at h
    | true=>
     simp only [ho,cond_true,Option.some.injEq] at h;subst h
     have sX:=(List.getElem?_eq_some_iff.1 hI).1
     have sY:=(List.getElem?_eq_some_iff.1 hM).1
     refine aP.look (fun C hq=>?_) (by simp;exact ⟨sX,sY⟩)
     obtain ⟨q1,q2,q3,-⟩:=hq
     exact main hx hI hv hM ho C q1 q2 q3 trivial
   ·simp at h
  ·simp at h
 ·rename_i ui o j k dv i hx
  split at h
  ·rename_i um since seen c v hI hv
   split at h
   ·rename_i t' ck es hM
    cases ho:Nat.beq o 0 with
    | false=>simp [ho] at h
    | true=>
     simp only [ho,cond_true,Option.some.injEq] at h;subst h
     have sX:=(List.getElem?_eq_some_iff.1 hI).1
     have sY:=(List.getElem?_eq_some_iff.1 hM).1
     refine aP.look (fun C hq=>?_) (by simp;exact ⟨sX,sY⟩)
     obtain ⟨q1,q2,q3,q4,-⟩:=hq
     exact main hx hI hv hM ho C q1 q2 q3 q4
   ·simp at h
  ·simp at h
 ·simp at h
def y7 (P:Program) (T:aW) (E:List (Nat×AV)) (M:List au) (oc:Option bj) (t:TypeId) (m k:Operand):Option Out:=
 match cV T t,aO E m,aO E k with
 | some (.mp K _),some (.mv u),some ak=>(match kC ak,M[u]?,oc with
  | some mk,some (.mp t' c es),some (.mk j k' x)=>some ⟨[b5 P K (mk::es.map fun e=>e.2.1),k'=mk,(es.map fun e=>e.2.1).Nodup,x.iW=true,∃ b,es[j]?=some (b,k',x)],.d .jk,M.set u (.mp t' c (es.eraseIdx j)),[u],[],none⟩
  | _,_,_=>none)
 | _,_,_=>none
theorem KL {es:List (Nat×MK×DV)} {vs:List Value} {j:Nat} (hl:vs.length=es.length) (hj:j<es.length):(cq es vs).toArray.eraseIdxIfInBounds j=(cq (es.eraseIdx j) (vs.eraseIdx j)).toArray:=by
 apply Array.ext'
 have h1:((cq es vs).toArray.eraseIdxIfInBounds j).toList=(cq es vs).eraseIdx j:=by
  have:j<(cq es vs).length:=by rw [Fi hl];exact hj
  simp [Array.eraseIdxIfInBounds,this]
 rw [h1]
 apply List.ext_getElem?
 intro i
 rw [List.getElem?_eraseIdx,mb,mb,mb,List.getElem?_eraseIdx,List.getElem?_eraseIdx]
 split<;>rfl
theorem JP {G:Nat→aA} {n j:Nat} (hj:j<n) (h:G j=[]):(List.range (n-1)).flatMap (fun i=>G (if i<j then i else i+1))=(List.range n).flatMap G:=by
 rw [range_split hj,h,List.nil_append]
 have hn:n-1=j+(n-(j+1)):=by omega
 have e1:List.range (n-1)=List.range j++List.range' j (n-(j+1)):=by
  rw [hn,List.range_eq_range',List.range_eq_range',← List.range'_append_1];simp
 rw [e1,List.flatMap_append]
 congr 1
 ·exact eL fun a ha=>by have:=List.mem_range.1 ha;rw [if_pos this]
 ·have e2:List.range' (j+1) (n-(j+1))=(List.range' j (n-(j+1))).map (·+1):=by rw [show (fun x=>x+1)=fun x=>1+x from funext fun x=>Nat.add_comm x 1,List.map_add_range',Nat.add_comm]
  rw [e2,List.flatMap_map]
  exact eL fun a ha=>by have:=(List.mem_range'_1.1 ha).1;rw [if_neg (by omega)]
theorem JQ (hT:bp P T=true) {t u':TypeId} {m k:Operand} (h:y7 P T E M oc t m k=some out):aP P ⟨d,.call ⟨.builtin .delete,#[m,k],#[t,u']⟩,ty,pos,aft,gd⟩ E M out:=by
 unfold y7 at h
 split at h
 ·rename_i K Te u ak ht hm hk
  split at h
  ·rename_i mk t' c es j k' x df hM
   simp only [Option.some.injEq] at h;subst h
   intro D w0 K0 β F I ρ w C hv
   obtain ⟨dQ,rfl,de,js,⟨b,hj⟩,-⟩:=hv
   obtain ⟨ym,iJ,rm⟩:=C.bS hm
   obtain ⟨yk,n5,rk⟩:=C.bS hk
   have ek:=sx df rk
   cases rm with
   | @mv _ bb cc hb=>
    obtain ⟨H,hF,hB,hH⟩:=C.rm.at hM
    cases hB with
    | mp aV vs G hl hr=>
     rw [hb] at aV;cases aV
     have hw:=hH.one
     have hg:=rT (P:=P) hw
     obtain ⟨l,j1⟩:=dQ.2 k' (by simp)
     obtain ⟨wL,-⟩:=List.getElem?_eq_some_iff.1 hj
     have gl:vs[j]?=some vs[j]:=List.getElem?_eq_getElem (by omega)
     have Cu:G j=[]:=(hr j _ _ hj gl).y6 js
     rcases sj hl dQ w with hf | ⟨j',e,v,hf,h1,-,h3⟩
     ·exact absurd rfl (hf.2 _ (List.mem_of_getElem? hj))
     ·have tN:j'=j:=by
       have a1:(es.map fun e=>e.2.1)[j']?=some k':=by rw [List.getElem?_map,h1];simp [h3]
       have a2:(es.map fun e=>e.2.1)[j]?=some k':=by rw [List.getElem?_map,hj];rfl
       exact (List.getElem?_inj (by have:=(List.getElem?_eq_some_iff.1 h1).1;simpa using this) de).1 (a1.trans a2.symm)
      subst tN
      have hle:(es.eraseIdx j').length=es.length-1:=by rw [List.length_eraseIdx,if_pos wL]
      have dY:bK (fun w=>K0 w∧az w I) β u (.mp t' c (es.eraseIdx j')) ((_,.map (cq (es.eraseIdx j') (vs.eraseIdx j')).toArray c)::(List.range (es.eraseIdx j').length).flatMap fun i=>G (if i<j' then i else i+1)):=.mp hb (vs.eraseIdx j') _ (by rw [hle,List.length_eraseIdx,if_pos (by omega)];omega) (by
       intro i e y h1 h2
       rw [List.getElem?_eraseIdx] at h1 h2
       split at h1
       ·rename_i hi;rw [if_pos hi] at h2 ⊢;exact hr i e y h1 h2
       ·rename_i hi;rw [if_neg hi] at h2 ⊢;exact hr (i+1) e y h1 h2)
      rw [hle,JP wL Cu] at dY
      refine LW rfl rfl (r:=.tuple #[]) (w':=ct w _ (.map (cq (es.eraseIdx j') (vs.eraseIdx j')).toArray c)) ?_ ⟨β,_,I,C.rm.set hM hF dY,(Ext.refl β).b _,bL.refl _,fun v hv hn=>by simp only [aS];rw [if_neg (by simpa using hn)],.d (.jk _)⟩
      rw [iJ,n5,ek]
      unfold Builtin.delete_
      have hc:∀ em,(Instr.checkKey em 10000 K k'.val).run P w=.ok () w:=fun em=>dQ.1.check w _ j1
      simp only [List.getElem?_toArray,List.getElem?_cons_zero,List.getElem?_cons_succ,Sem.run_bind,run_underlying (cE hT ht),Result.andThen_ok,hg,hc,hf,xC hw,KL hl wL,Sem.run_pure]
  ·simp at h
 ·simp at h
end Go.Proofs.YtlinpknagdgphaaGreat
namespace Go.Proofs.YtlinpknagdgphaaGreat
open Go.RowKit
variable {P:Program} {T:aW} {E:List (Nat×AV)} {M:List au}
variable {d:Option Tmp} {ty:TypeId} {pos:String} {aft:Array Edge} {gd:Option (Nat×Bool)} {oc:Option bj} {out:Out}
def y8 (T:aW) (E:List (Nat×AV)) (M:List au) (oc:Option bj) (t:TypeId) (x ix:Operand):Option Out:=
 match cS (aO E ix),cV T t,aO E x,oc with
 | some (_,z),some (.ar n e),some (.ep u k j o),some (.n2 i _)=>(match fY T e with
  | some sz=>bif Nat.beq k sz&&Nat.beq o 0 then some (lk [z=(i:Int),i<n] (.ep u k (j+i) 0) M) else none
  | none=>none)
 | _,_,_,_=>none
theorem JR (hT:bp P T=true) {t:TypeId} {x ix:Operand} (h:y8 T E M oc t x ix=some out):aP P ⟨d,.indexAddr t x ix,ty,pos,aft,gd⟩ E M out:=by
 unfold y8 at h
 split at h
 rotate_left
 ·simp at h
 rename_i kk z n e u k j o i _ hz ht hx
 split at h
 rotate_left
 ·simp at h
 rename_i sz hk
 cases b9:(Nat.beq k sz&&Nat.beq o 0) with
 | false=>simp [b9] at h
 | true=>
  simp only [b9,cond_true,Option.some.injEq] at h;subst h
  simp only [Bool.and_eq_true] at b9
  obtain rfl:=Nat.eq_of_beq_eq_true b9.1
  obtain rfl:=Nat.eq_of_beq_eq_true b9.2
  replace ht:=cE hT ht
  replace hk:=ie hT hk
  refine aP.same fun C dj=>?_
  obtain ⟨rfl,hi,-⟩:=dj
  obtain ⟨y,hy,r⟩:=C.bS hx
  cases r with
  | ep hb=>
   refine ⟨_,fun _ _=>oy ht hk hy (C.int hz) (by omega) (by omega),?_⟩
   rw [add_eq,Int.toNat_natCast,show j*k+0+i*k=(j+i)*k+0 by rw [Nat.add_mul];omega]
   exact .ep hb
theorem Mm {k:Nat} {rows:List (List DV)} {X:Nat→List Value} (hl:∀ (i:Nat) r,rows[i]?=some r→r.length=k∧(X i).length=k) {R:DV→Value→Prop} (hr:∀ (i:Nat) (r:List DV) (j:Nat) c x,rows[i]?=some r→r[j]?=some c→(X i)[j]?=some x→R c x):
  (lay rows.length X).length=rows.flatten.length∧∀ (p:Nat) c x,rows.flatten[p]?=some c→(lay rows.length X)[p]?=some x→R c x:=by
 induction rows generalizing X with
 | nil=>simp [lay]
 | cons r0 rows ih=>
  have hs:lay (rows.length+1) X=X 0++lay rows.length (fun i=>X (i+1)):=by
   unfold lay
   rw [List.range_succ_eq_map,List.flatMap_cons,List.flatMap_map]
  obtain ⟨h1,h2⟩:=ih (X:=fun i=>X (i+1)) (fun i r h=>hl (i+1) r (by simpa using h)) (fun i r j c x a b e=>hr (i+1) r j c x (by simpa using a) b e)
  obtain ⟨l1,l2⟩:=hl 0 r0 rfl
  rw [List.length_cons,hs,List.flatten_cons]
  refine ⟨by rw [List.length_append,List.length_append,h1,l1,l2],fun p c x a b=>?_⟩
  rcases Nat.lt_or_ge p k with hp | hp
  ·rw [List.getElem?_append_left (by omega)] at a b
   exact hr 0 r0 p c x rfl a b
  ·rw [List.getElem?_append_right (by omega)] at a b
   rw [l1] at a;rw [l2] at b
   exact h2 _ c x a b
def zV (T:aW) (E:List (Nat×AV)) (M:List au) (oc:Option bj) (t:TypeId) (x:Operand):Option Out:=
 match aO E x,oc,mO T t with
 | some (.ep u k i o),some (.res (.ag ds)),some (.many n)=>(match M[u]? with
  | some (.rw _ k' rows)=>bif Nat.beq k k'&&Nat.beq i 0&&Nat.beq o 0&&Nat.beq n ds.length&&ds.all DV.cp&&Nat.blt 0 n then some ⟨[rows.flatten=ds],.ag (ds.map .d),M,[],[],some [u]⟩ else none
  | _=>none)
 | _,_,_=>none
theorem KM (hT:bp P T=true) {t:TypeId} {x:Operand} (h:zV T E M oc t x=some out):aP P ⟨d,.load t x,ty,pos,aft,gd⟩ E M out:=by
 unfold zV at h
 split at h
 rotate_left
 ·simp at h
 rename_i u k i o ds n hv ht
 split at h
 rotate_left
 ·simp at h
 rename_i Tt k' rows hM
 cases hk:(Nat.beq k k'&&Nat.beq i 0&&Nat.beq o 0&&Nat.beq n ds.length&&ds.all DV.cp&&Nat.blt 0 n) with
 | false=>simp [hk] at h
 | true=>
  simp only [hk,cond_true,Option.some.injEq] at h;subst h
  simp only [Bool.and_eq_true,Nat.blt_eq] at hk
  obtain ⟨⟨⟨⟨⟨hk,hi⟩,ho⟩,hn⟩,js⟩,xd⟩:=hk
  obtain rfl:=Nat.eq_of_beq_eq_true hk
  obtain rfl:=Nat.eq_of_beq_eq_true hi
  obtain rfl:=Nat.eq_of_beq_eq_true ho
  obtain rfl:=Nat.eq_of_beq_eq_true hn
  refine aP.look ?_ (by simpa using eB hM)
  intro D w0 K0 β F I ρ w C dj
  obtain ⟨rfl,-⟩:=dj
  obtain ⟨y,hy,r⟩:=C.bS hv
  cases r with
  | ep hb=>
   obtain ⟨H,hF,hB,hH⟩:=C.rm.at hM
   cases hB with
   | rw aV X G hl hs hr=>
    rw [hb] at aV;cases aV
    obtain ⟨f1,f2⟩:=Mm (R:=fun c x=>c.cp=true→bQ (fun w=>K0 w∧az w I) c x []) hl (fun i r j c x a b e hc=>(hr i r j c x a b e).cp hc)
    have jY:0<rows.length:=by
     rcases Nat.eq_zero_or_pos rows.length with h0 | h0
     ·rw [List.length_eq_zero_iff.1 h0] at xd;simp at xd
     ·exact h0
    obtain ⟨b',cap,cs,fz,he,rfl,fL,cX,Sd,iI⟩:=hs.block jY
    cases he
    refine ⟨.agg (lay rows.length X).toArray,.ag _ (by rw [List.length_map];exact f1) (fun j c z h1 h2=>?_),fun w' B5=>DO (lay rows.length X) (by rw [f1];exact ye hT ht) hy (fun j hj=>?_)⟩
    ·simp only [List.getElem?_map,Option.map_eq_some_iff] at h1
     obtain ⟨c',h1,rfl⟩:=h1
     exact .d (f2 j c' z h1 h2 (List.all_eq_true.1 js c' (List.mem_of_getElem? h1)))
    ·have eb:az w' _:=B5.2 u (by simp)
     rw [hF] at eb
     have hw:=(az.app.1 eb).1.one
     rw [add_eq,cell_of hw,Nat.zero_mul,Nat.zero_add]
     try rw [Nat.zero_add]
     have e1:(lay rows.length X)[j]?=some (lay rows.length X)[j]:=List.getElem?_eq_getElem hj
     rw [← e1,← iI,List.getElem?_take,if_pos,Array.getElem?_toList]
     have gO:(lay rows.length X).length=rows.length*k:=e8 fun a ha=>(hl a _ (List.getElem?_eq_getElem ha)).2
     omega
def tO:List AV→Option (List DV)
 | []=>some []
 | .d x::r=>(match tO r with | some l=>some (x::l) | none=>none)
 | _=>none
theorem Gg:∀ {l:List AV} {ds:List DV},tO l=some ds→l=ds.map .d
 | [],ds,h=>by simp only [tO,Option.some.injEq] at h;subst h;rfl
 | c::r,ds,h=>by
  unfold tO at h
  split at h
  ·simp_all
  ·rename_i x r' heq
   simp only [List.cons.injEq] at heq
   obtain ⟨rfl,rfl⟩:=heq
   split at h
   ·rename_i l hl
    simp only [Option.some.injEq] at h;subst h
    rw [Gg hl];rfl
   ·cases h
  ·cases h
def AQ (T:aW) (E:List (Nat×AV)) (M:List au) (oc:Option bj) (t:TypeId) (x ix:Operand):Option Out:=
 match cV T t,aO E x,cS (aO E ix),oc with
 | some (.ar n e),some (.ag l),some (_,z),some (.ix i row)=>(match fY T e,mO T e,tO l with
  | some k,some (.many k'),some ds=>bif Nat.beq k k'&&Nat.beq row.length k&&Nat.blt 0 k then some (lk [z=(i:Int),i<n,(ds.drop (i*k)).take k=row] (.ag (row.map .d)) M) else none
  | _,_,_=>none)
 | _,_,_,_=>none
theorem Mn (hT:bp P T=true) {t:TypeId} {x ix:Operand} (h:AQ T E M oc t x ix=some out):aP P ⟨d,.index t x ix,ty,pos,aft,gd⟩ E M out:=by
 unfold AQ at h
 split at h
 rotate_left
 ·simp at h
 rename_i n e l _ z i row hu hx hz
 split at h
 rotate_left
 ·simp at h
 rename_i k k' ds hk jW tP
 cases hc:(Nat.beq k k'&&Nat.beq row.length k&&Nat.blt 0 k) with
 | false=>simp [hc] at h
 | true=>
  simp only [hc,cond_true,Option.some.injEq] at h;subst h
  simp only [Bool.and_eq_true,Nat.blt_eq] at hc
  obtain ⟨⟨b9,SA⟩,SB⟩:=hc
  obtain rfl:=Nat.eq_of_beq_eq_true b9
  have jY:=Nat.eq_of_beq_eq_true SA
  obtain rfl:=Gg tP
  have bI:∀ w:World,(sizeOf e).run P w=.ok k w:=fun w=>by
   have:=ie hT hk
   cases hi:P.info? e with
   | none=>simp [hi] at this
   | some inf=>simp only [hi,Option.map_some,Option.some.injEq] at this;simp [sizeOf,typeInfo,Sem.run_bind,hi,this]
  refine aP.same ?_
  intro D w0 K0 β F I ρ w C hv
  obtain ⟨rfl,aK,cu,-⟩:=hv
  have r:=C.ev hx
  have hi:=C.int hz
  have hp:pw T e (ds.map AV.d) (i*k)=some (.ag (row.map .d)):=by
   have hle:i*k+k≤(ds.map AV.d).length:=by
    have:=congrArg List.length cu
    rw [List.length_take,List.length_drop,jY] at this
    rw [List.length_map];omega
   simp only [pw,lT,jW,wD,Nat.ble_eq_true_of_le hle,cond_true,← cu,List.map_take,List.map_drop]
  generalize hy:ρ x=y at r
  cases r with
  | ag ys hl hr=>
   obtain ⟨y,h1,h2⟩:=vN hT hp hl hr
   refine ⟨y,fun w' _=>?_,h1⟩
   have fM:=cE hT hu
   have hc:(0:Int)≤(i:Int)∧(i:Int)<(n:Int):=by omega
   simp only [execOp,hy,hi,Instr.index,asIntOf,Sem.run_bind,Sem.run_pure,run_underlying fM,Result.andThen_ok]
   rw [if_pos hc]
   simp only [Sem.run_bind,bI,Result.andThen_ok,Int.toNat_natCast,h2,Sem.run_pure]
end Go.Proofs.YtlinpknagdgphaaGreat
namespace Go.Proofs.YtlinpknagdgphaaGreat
open Go.RowKit
variable {P:Program} {T:aW} {E:List (Nat×AV)} {M:List au}
variable {d:Option Tmp} {ty:TypeId} {pos:String} {aft:Array Edge} {gd:Option (Nat×Bool)} {oc:Option bj} {out:Out}
def TV (T:aW) (E:List (Nat×AV)) (M:List au) (oc:Option bj) (t:TypeId) (x:Operand) (lo hi mx:Option Operand):Option Out:=
 match cV T t,aO E x,oc with
 | some (.sl e),some (.sl u n),some o=>(match fY T e,M[u]? with
  | some k,some (.rw _ k' rows)=>(match lo,hi,mx,o with
   | none,some h,none,.n2 c _=>(match cS (aO E h) with
    | some (.i64,z)=>bif k.beq k' then some ⟨[z=(c:Int),0<c,c≤n,n=rows.length],.sb u k 0 c,M,[],[],some []⟩ else none
    | _=>none)
   | none,some h,none,.res (.ro k2 [])=>(match cS (aO E h) with
    | some (.i64,z)=>some ⟨[z=0,n=rows.length],.d (.ro k2 []),M,[],[],some []⟩
    | _=>none)
   | some l,none,none,.res (.ro k2 [])=>(match cS (aO E l) with
    | some (.i64,z)=>some ⟨[z=(n:Int),n=rows.length],.d (.ro k2 []),M,[],[],some []⟩
    | _=>none)
   | _,_,_,_=>none)
  | _,_=>none)
 | _,_,_=>none
theorem vv {K:World→Prop} {k n c o c':Nat} {a:Option Addr} {rows:List (List DV)} (h:bQ K (.ro k rows) (.slice a n c) []) (ho:o≤c') (hc:c'≤rows.length):bQ K (.ro k ((rows.take c').drop o)) (.slice (if c=o then a else a.map (·.add (o*k))) (c'-o) (c-o)) []:=by
 cases h with
 | ro X hl hy hs hr=>
  obtain ⟨a',Sw,e,ew⟩:=hy
  simp only [Value.slice.injEq] at e;obtain ⟨rfl,rfl,rfl⟩:=e
  have hX:∀ i,i<rows.length→(X i).length=k:=fun i hi=>(hl i _ (List.getElem?_eq_getElem hi)).2
  have hlen:((rows.take c').drop o).length=c'-o:=by simp;omega
  have Iq:∀ (i:Nat) r,((rows.take c').drop o)[i]?=some r→rows[o+i]?=some r:=fun i r hi=>by
   rw [List.getElem?_drop,List.getElem?_take] at hi
   split at hi
   ·exact hi
   ·cases hi
  refine .ro (fun i=>X (o+i)) (fun i r hi=>hl (o+i) r (Iq i r hi)) ⟨_,_,by rw [hlen],by rw [hlen];omega⟩ (fun w hw=>?_) fun i r j x y h1 h2 h3=>hr (o+i) r j x y (Iq i r h1) h2 h3
  rw [hlen]
  refine ⟨e8 fun i hi=>hX (o+i) (by omega),?_⟩
  rcases Nat.eq_zero_or_pos (c'-o) with h0 | hm
  ·exact Or.inl ⟨h0,_,_,by rw [h0]⟩
  rcases (hs w hw).2 with ⟨h0,-⟩ | ⟨a0,c0,e,qJ⟩
  ·omega
  simp only [Value.slice.injEq] at e;obtain ⟨rfl,-,rfl⟩:=e
  refine Or.inr ⟨a0.add (o*k),_,by rw [if_neg (by omega)];rfl,fun j hj=>?_⟩
  have gO:(lay (c'-o) fun i=>X (o+i)).length=(c'-o)*k:=e8 fun i hi=>hX (o+i) (by omega)
  have e1:lay (c'-o) (fun i=>X (o+i))=((lay rows.length X).drop (o*k)).take ((c'-o)*k):=by
   rw [← yq (n:=rows.length) (c:=o) hX (by omega)]
   exact pY (n:=rows.length-o) (c:=c'-o) (X:=fun i=>X (o+i)) (fun i hi=>hX (o+i) (by omega)) (by omega)
  have df:(o+(c'-o))*k≤rows.length*k:=Nat.mul_le_mul_right k (by omega)
  rw [Nat.add_mul] at df
  have hN:(lay rows.length X).length=rows.length*k:=e8 hX
  have lV:o*k+j<(lay rows.length X).length:=by omega
  rw [Addr.na,qJ (o*k+j) lV,← List.getElem?_eq_getElem lV,← List.getElem?_eq_getElem hj,e1,List.getElem?_take,if_pos (by omega),List.getElem?_drop]
def BC (T:aW) (E:List (Nat×AV)) (M:List au) (oc:Option bj) (t:TypeId) (x:Operand) (lo hi mx:Option Operand):Option Out:=
 match cV T t,aO E x,oc with
 | some (.sl e),some (.d (.ro k' rows)),some (.n2 c o)=>(match fY T e with
  | some k=>(match lo,hi,mx with
   | none,some h,none=>(match cS (aO E h) with
    | some (.i64,z)=>bif k.beq k' then some ⟨[z=(c:Int),c≤rows.length],.d (.ro k (rows.take c)),M,[],[],some []⟩ else none
    | _=>none)
   | none,some h,some m=>(match cS (aO E h),cS (aO E m) with
    | some (.i64,z),some (.i64,z')=>bif k.beq k' then some ⟨[z=(c:Int),z'=(c:Int),c≤rows.length],.d (.ro k (rows.take c)),M,[],[],some []⟩ else none
    | _,_=>none)
   | some l,none,none=>(match cS (aO E l) with
    | some (.i64,z)=>bif k.beq k' then some ⟨[z=(o:Int),o≤rows.length],.d (.ro k (rows.drop o)),M,[],[],some []⟩ else none
    | _=>none)
   | some l,some h,none=>(match cS (aO E l),cS (aO E h) with
    | some (.i64,z),some (.i64,z')=>bif k.beq k' then some ⟨[z=(o:Int),z'=(c:Int),o≤c,c≤rows.length],.d (.ro k ((rows.take c).drop o)),M,[],[],some []⟩ else none
    | _,_=>none)
   | _,_,_=>none)
  | _=>none)
 | _,_,_=>none
theorem N0 (hT:bp P T=true) {t:TypeId} {x:Operand} {lo hi mx:Option Operand} (h:BC T E M oc t x lo hi mx=some out):aP P ⟨d,.slice t x lo hi mx,ty,pos,aft,gd⟩ E M out:=by
 unfold BC at h
 split at h
 rotate_left
 ·simp at h
 rename_i e k' rows c o ht hx
 split at h
 rotate_left
 ·simp at h
 rename_i k hk
 replace ht:=cE hT ht
 replace hk:=ie hT hk
 split at h
 ·rename_i hh
  split at h
  rotate_left
  ·simp at h
  rename_i z hz
  cases b9:k.beq k' with
  | false=>simp [b9] at h
  | true=>
   simp only [b9,cond_true,Option.some.injEq] at h;subst h
   obtain rfl:=Nat.eq_of_beq_eq_true b9
   refine aP.look ?_ (by simp)
   intro D w0 K0 β F I ρ w C hv
   obtain ⟨rfl,hc,-⟩:=hv
   obtain ⟨y,hy,r⟩:=C.bS hx
   cases r with | d r=>
   obtain ⟨a,n,cc,rfl,hle,ew⟩:∃ a n cc,y=.slice a n cc∧n=rows.length∧rows.length≤cc:=by
    cases r with | ro X hl lW hs hr=>obtain ⟨a,cc,rfl,h2⟩:=lW;exact ⟨_,_,_,rfl,rfl,h2⟩
   subst hle
   have p:=vv r (o:=0) (c':=c) (Nat.zero_le _) hc
   rw [List.drop_zero] at p
   refine ⟨_,.d p,fun w' _=>?_⟩
   have:=oJ (P:=P) (w:=w') (a:=a) ht hk (n:=rows.length) (c:=cc) (l:=0) (h:=c) (m:=cc) (vl:=none) (vh:=some (.int .i64 c)) (vm:=none) (by simp [Instr.sliceBounds,jd (show c≤cc by omega)])
   simp only [execOp,hy,C.int hz,Option.map_some,Option.map_none,Sem.run_bind,this,Result.andThen_ok,Sem.run_pure]
 ·rename_i hh mm
  split at h
  rotate_left
  ·simp at h
  rename_i z z' hz jX
  cases b9:k.beq k' with
  | false=>simp [b9] at h
  | true=>
   simp only [b9,cond_true,Option.some.injEq] at h;subst h
   obtain rfl:=Nat.eq_of_beq_eq_true b9
   refine aP.look ?_ (by simp)
   intro D w0 K0 β F I ρ w C hv
   obtain ⟨rfl,rfl,hc,-⟩:=hv
   obtain ⟨y,hy,r⟩:=C.bS hx
   cases r with | d r=>
   obtain ⟨a,n,cc,rfl,hle,ew⟩:∃ a n cc,y=.slice a n cc∧n=rows.length∧rows.length≤cc:=by
    cases r with | ro X hl lW hs hr=>obtain ⟨a,cc,rfl,h2⟩:=lW;exact ⟨_,_,_,rfl,rfl,h2⟩
   subst hle
   have p:=vv r (o:=0) (c':=c) (Nat.zero_le _) hc
   rw [List.drop_zero] at p
   have hb:∀ q:Nat,(if q=0 then a else a.map (·.add (0*k)))=a:=by
    intro q
    rw [Nat.zero_mul]
    split
    ·rfl
    ·cases a with
     | none=>rfl
     | some a=>simp [add_zero']
   rw [hb cc] at p
   refine ⟨_,.d (p.cap (c':=c-0) (Nat.le_refl _)),fun w' _=>?_⟩
   have:=oJ (P:=P) (w:=w') (a:=a) ht hk (n:=rows.length) (c:=cc) (l:=0) (h:=c) (m:=c) (vl:=none) (vh:=some (.int .i64 c)) (vm:=some (.int .i64 c)) (by simp [Instr.sliceBounds,jd (show c≤cc by omega),jd (Nat.le_refl c)])
   rw [hb c] at this
   simp only [execOp,hy,C.int hz,C.int jX,Option.map_some,Option.map_none,Sem.run_bind,this,Result.andThen_ok,Sem.run_pure]
 ·rename_i l
  split at h
  rotate_left
  ·simp at h
  rename_i z hz
  cases b9:k.beq k' with
  | false=>simp [b9] at h
  | true=>
   simp only [b9,cond_true,Option.some.injEq] at h;subst h
   obtain rfl:=Nat.eq_of_beq_eq_true b9
   refine aP.look ?_ (by simp)
   intro D w0 K0 β F I ρ w C hv
   obtain ⟨rfl,hc,-⟩:=hv
   obtain ⟨y,hy,r⟩:=C.bS hx
   cases r with | d r=>
   obtain ⟨a,n,cc,rfl,hle,ew⟩:∃ a n cc,y=.slice a n cc∧n=rows.length∧rows.length≤cc:=by
    cases r with | ro X hl lW hs hr=>obtain ⟨a,cc,rfl,h2⟩:=lW;exact ⟨_,_,_,rfl,rfl,h2⟩
   subst hle
   have p:=vv r (o:=o) (c':=rows.length) hc (Nat.le_refl _)
   rw [List.take_length] at p
   refine ⟨_,.d p,fun w' _=>?_⟩
   have:=oJ (P:=P) (w:=w') (a:=a) ht hk (n:=rows.length) (c:=cc) (l:=o) (h:=rows.length) (m:=cc) (vl:=some (.int .i64 o)) (vh:=none) (vm:=none) (by simp [Instr.sliceBounds,jd hc])
   simp only [execOp,hy,C.int hz,Option.map_some,Option.map_none,Sem.run_bind,this,Result.andThen_ok,Sem.run_pure]
 ·rename_i l hh
  split at h
  rotate_left
  ·simp at h
  rename_i z z' hz jX
  cases b9:k.beq k' with
  | false=>simp [b9] at h
  | true=>
   simp only [b9,cond_true,Option.some.injEq] at h;subst h
   obtain rfl:=Nat.eq_of_beq_eq_true b9
   refine aP.look ?_ (by simp)
   intro D w0 K0 β F I ρ w C hv
   obtain ⟨rfl,rfl,ho,hc,-⟩:=hv
   obtain ⟨y,hy,r⟩:=C.bS hx
   cases r with | d r=>
   obtain ⟨a,n,cc,rfl,hle,ew⟩:∃ a n cc,y=.slice a n cc∧n=rows.length∧rows.length≤cc:=by
    cases r with | ro X hl lW hs hr=>obtain ⟨a,cc,rfl,h2⟩:=lW;exact ⟨_,_,_,rfl,rfl,h2⟩
   subst hle
   have p:=vv r (o:=o) (c':=c) ho hc
   refine ⟨_,.d p,fun w' _=>?_⟩
   have:=oJ (P:=P) (w:=w') (a:=a) ht hk (n:=rows.length) (c:=cc) (l:=o) (h:=c) (m:=cc) (vl:=some (.int .i64 o)) (vh:=some (.int .i64 c)) (vm:=none) (by simp [Instr.sliceBounds,jd (show c≤cc by omega),jd ho])
   simp only [execOp,hy,C.int hz,C.int jX,Option.map_some,Option.map_none,Sem.run_bind,this,Result.andThen_ok,Sem.run_pure]
 ·simp at h
end Go.Proofs.YtlinpknagdgphaaGreat
namespace Go.Proofs.YtlinpknagdgphaaGreat
open Go.RowKit
variable {P:Program} {T:aW} {E:List (Nat×AV)} {M:List au} {d:Option Tmp} {ty:TypeId} {pos:String} {aft:Array Edge} {gd:Option (Nat×Bool)} {oc:Option bj} {out:Out}
def nL (P:Program) (t:TypeId):Prop:=P.underlying t=some (.pointer (P.pointee t))
theorem JS {ρ:Operand→Value} {w:World} {Φ:Value→World→Prop} {x:Operand} {t t':TypeId} {o:Option Addr} {c:Bool} (ht:nL P t) (h:ρ x=.pointer o) (hn:ρ (.const (.pointer none))=.pointer none) (hc:(!o.isNone)=c) (aR:Φ (.bool c) w):bq P ⟨d,.binOp .neq t x (.const (.pointer none)) t',ty,pos,aft,gd⟩ ρ w Φ:=by
 subst hc
 exact .pure (v:=.bool !o.isNone) (by simp [execOp,h,hn,eqGuard,binOp,Op.equal,Op.maxDepth,run_equalIn_pointer_nil w 9999 t o ht]) aR
def sZ:Option AV→Option Bool
 | some (.pt _ _)=>some false
 | some (.ep _ _ _ _)=>some false
 | some (.rp _ _)=>some false
 | some (.d (.v (.pointer none)))=>some true
 | _=>none
def AR (P:Program) (E:List (Nat×AV)) (M:List au) (op:BinOp) (t:TypeId) (x y:Operand):Option Out:=
 match op,y,sZ (aO E x) with
 | .eql,.const (.pointer none),some c=>some (lk [nL P t] (.b c) M)
 | .neq,.const (.pointer none),some c=>some (lk [nL P t] (.b (!c)) M)
 | _,_,_=>none
theorem Fm {K:World→Prop} {β:Beta} {v:Option AV} {a:AV} {c:Bool} {y:Value} (h:sZ v=some c) (hv:v=some a) (r:aE K β a y):∃ o,y=.pointer o∧o.isNone=c:=by
 subst hv
 unfold sZ at h
 split at h
 ·rename_i hx;cases hx;simp only [Option.some.injEq] at h;subst h
  cases r with | pt hb=>exact ⟨_,rfl,rfl⟩
 ·rename_i hx;cases hx;simp only [Option.some.injEq] at h;subst h
  cases r with | ep hb=>exact ⟨_,rfl,rfl⟩
 ·rename_i hx;cases hx;simp only [Option.some.injEq] at h;subst h
  cases r with | rp a X hl hc hr=>exact ⟨_,rfl,rfl⟩
 ·rename_i hx;cases hx;simp only [Option.some.injEq] at h;subst h
  cases r with | d r=>cases r;exact ⟨_,rfl,rfl⟩
 ·simp at h
theorem Mp {op:BinOp} {t t':TypeId} {x y:Operand} (h:AR P E M op t x y=some out):aP P ⟨d,.binOp op t x y t',ty,pos,aft,gd⟩ E M out:=by
 unfold AR at h
 split at h
 ·rename_i c hx
  simp only [Option.some.injEq] at h;subst h
  refine kM (.of fun _=>⟨_,rfl⟩) ?_
  intro D w0 K0 β F I ρ w' C hv
  obtain ⟨hp,-⟩:=hv
  cases pB:aO E x with
  | none=>rw [pB] at hx;simp [sZ] at hx
  | some a=>
   obtain ⟨o,ho,hc⟩:=Fm hx pB (C.ev pB)
   exact ⟨_,.d (.v _),fun w Φ aR=>LQ hp ho (C.const _) hc aR⟩
 ·rename_i c hx
  simp only [Option.some.injEq] at h;subst h
  refine kM (.of fun _=>⟨_,rfl⟩) ?_
  intro D w0 K0 β F I ρ w' C hv
  obtain ⟨hp,-⟩:=hv
  cases pB:aO E x with
  | none=>rw [pB] at hx;simp [sZ] at hx
  | some a=>
   obtain ⟨o,ho,hc⟩:=Fm hx pB (C.ev pB)
   exact ⟨_,.d (.v _),fun w Φ aR=>JS hp ho (C.const _) (by rw [hc]) aR⟩
 ·simp at h
def mG (g:Nat):List au→Option (List DV)
 | []=>none
 | .gw g' row::r=>bif g'.beq g then some row else mG g r
 | _::r=>mG g r
theorem y9 {g:Nat} {row:List DV}:∀ {M:List au},mG g M=some row→∃ u:Nat,M[u]?=some (au.gw g row)
 | [],h=>by simp [mG] at h
 | b::r,h=>by
  have next:mG g r=some row→∃ u:Nat,(b::r)[u]?=some (au.gw g row):=fun h=>by
   obtain ⟨u,hu⟩:=y9 h
   exact ⟨u+1,by simpa using hu⟩
  cases b with
  | gw g' BD=>
   simp only [mG] at h
   cases hc:g'.beq g with
   | true=>
    simp only [hc,cond_true,Option.some.injEq] at h;subst h
    obtain rfl:=Nat.eq_of_beq_eq_true hc
    exact ⟨0,rfl⟩
   | false=>
    simp only [hc,cond_false] at h
    exact next h
  | _=>simp only [mG] at h;exact next h
def za (T:aW) (E:List (Nat×AV)) (M:List au) (oc:Option bj) (t:TypeId) (x ix:Operand):Option Out:=
 match x,cS (aO E ix),cV T t,oc with
 | .global g,some (_,z),some (.ar n e),some (.ix i [c])=>(match fY T e,mG g M with
  | some k,some row=>bif k.beq 1 then some (lk [z=(i:Int),i<n,row[i]?=some c] (.rp [c] 0) M) else none
  | _,_=>none)
 | _,_,_,_=>none
theorem JT (hT:bp P T=true) {t:TypeId} {x ix:Operand} (h:za T E M oc t x ix=some out):aP P ⟨d,.indexAddr t x ix,ty,pos,aft,gd⟩ E M out:=by
 unfold za at h
 split at h
 rotate_left
 ·simp at h
 rename_i g kk z n e i c hz ht
 split at h
 rotate_left
 ·simp at h
 rename_i k row hk hg
 cases hc:k.beq 1 with
 | false=>simp [hc] at h
 | true=>
  simp only [hc,cond_true,Option.some.injEq] at h;subst h
  obtain rfl:=Nat.eq_of_beq_eq_true hc
  refine aP.same fun C dj=>?_
  obtain ⟨rfl,hi,cu,-⟩:=dj
  obtain ⟨u,hu⟩:=y9 hg
  obtain ⟨H,-,hB,-⟩:=C.rm.at hu
  cases hB with
  | gw X hl kx hr=>
   have aK:i<X.length:=by have:=(List.getElem?_eq_some_iff.1 cu).1;omega
   have hx:X[i]?=some X[i]:=List.getElem?_eq_getElem aK
   have e0:(⟨g,0,none⟩:Addr).add (((i:Nat):Int).toNat*1)=((⟨g,0,none⟩:Addr).add i).add 0:=by rw [add_zero'];simp
   refine ⟨_,fun _ _=>oy (cE hT ht) (ie hT hk) (C.wB g) (C.int hz) (by simp) (by simp;omega),?_⟩
   rw [e0]
   refine .rp _ [X[i]] rfl (fun w' eb j y hj=>?_) (fun j c' y h1 h2=>?_)
   ·cases j with
    | zero=>simp at hj;subst hj;rw [add_zero'];exact kx w' eb i _ hx
    | succ j=>simp at hj
   ·cases j with
    | zero=>simp at h1 h2;subst h1;subst h2;exact hr i _ _ cu hx
    | succ j=>simp at h1
section
variable {ρ:Operand→Value} {w:World}
theorem KN {w:World} {b:Nat} {c:Array Value} {e:TypeId} (hb:w.heap[b]?=some (.cells c e (0,0))):w.freeze ⟨b,c.size,none⟩ 1=ct w b (.cells c e (c.size,c.size+1)):=by
 unfold World.freeze ct
 rw [if_neg (by decide)]
 congr 1
 apply Array.ext_getElem?
 intro j
 have aK:=lD hb
 rw [Array.getElem?_modify,Array.getElem?_setIfInBounds]
 by_cases e':b=j
 ·subst e'
  have hg:w.heap[b]=.cells c e (0,0):=by rw [Array.getElem?_eq_getElem aK] at hb;exact Option.some.inj hb
  simp [aK,hg]
 ·simp [e']
theorem Pm {t t' e:TypeId} {x:Operand} {bs:List UInt8} (ht:P.underlying t=some .string) (pC:P.underlying t'=some (.slice e)) (he:P.underlying e=some (.int .u8)) (hx:ρ x=.string ⟨bs.toArray⟩):
  ∃ (k:Nat) (c:Array Value),bs.length≤k∧c=(bs.map fun b:UInt8=>Value.int .u8 b.toNat).toArray++Array.replicate (k-bs.length) (Value.int .u8 0)∧
   (execOp ρ ⟨d,.convert t t' x,ty,pos,aft,gd⟩).run P w=.ok (.value (.slice (some ⟨w.heap.size,0,none⟩) bs.length k)) (ct (w.drew.alloc (.cells c e (0,0))) w.heap.size (.cells c e (c.size,c.size+1))):=by
 refine ⟨(Question.appendCap bs.length 0 e).cut (w.tape w.drawn (.appendCap bs.length 0 e)),_,by simp [Question.cut],rfl,?_⟩
 generalize hk:(Question.appendCap bs.length 0 e).cut (w.tape w.drawn (.appendCap bs.length 0 e))=k
 generalize kx:(bs.map fun b:UInt8=>Value.int .u8 b.toNat).toArray++Array.replicate (k-bs.length) (Value.int .u8 0)=c
 have tv:(choose (.appendCap bs.length 0 e)).run P w=.ok k w.drew:=by
  rw [← hk];simp [choose,Sem.run,Question.forced]
 have cu:∀ (cs:Array Value) (w:World),(newRow e cs).run P w=.ok ⟨w.heap.size,0,none⟩ (w.alloc (.cells cs e)):=by
  intro cs w;simp [newRow,newObj,Sem.run]
 have df:(markStringish ⟨w.heap.size,0,none⟩).run P (w.drew.alloc (.cells c e (0,0)))=.ok () (ct (w.drew.alloc (.cells c e (0,0))) w.heap.size (.cells c e (c.size,c.size+1))):=by
  have hb:(w.drew.alloc (.cells c e (0,0))).heap[w.heap.size]?=some (.cells c e (0,0)):=El w.drew _
  have pq:(w.drew.alloc (.cells c e (0,0))).shape? w.heap.size=some (e,c.size):=by unfold World.shape?;rw [hb]
  have:=KN hb
  unfold markStringish
  simp only [Sem.run_bind]
  have h1:(shape w.heap.size).run P (w.drew.alloc (.cells c e (0,0)))=.ok (some (e,c.size)) (w.drew.alloc (.cells c e (0,0))):=by
   simp [shape,Sem.run,pq]
  rw [h1]
  simp only [Result.andThen_ok]
  simp [freeze,Sem.run,this]
 have Qu:(Conv.stringToBytes e ⟨bs.toArray⟩).run P w=.ok (.slice (some ⟨w.heap.size,0,none⟩) bs.length k) (ct (w.drew.alloc (.cells c e (0,0))) w.heap.size (.cells c e (c.size,c.size+1))):=by
  have bI:(⟨bs.toArray⟩:ByteArray).size=bs.length:=by simp [ByteArray.size]
  unfold Conv.stringToBytes
  simp only [bI,Sem.run_bind,tv,Result.andThen_ok,cu,Sem.run_pure]
  have cX:((Array.map (fun b:UInt8=>Value.int .u8 (b.toNat:Int)) bs.toArray)++Array.replicate (k-bs.length) (Value.int .u8 0))=c:=by rw [← kx];simp
  rw [cX]
  have hd:w.drew.heap.size=w.heap.size:=rfl
  rw [hd,df]
  rfl
 simp only [execOp,hx,convert,Sem.run_bind,run_underlying ht,run_underlying pC,run_underlying he,Result.andThen_ok,Qu,Sem.run_pure]
theorem Gh {n:Nat} (f:Nat→Value):lay n (fun i=>[f i])=(List.range n).map f:=by
 unfold lay
 induction n with
 | zero=>rfl
 | succ n ih=>rw [List.range_succ,List.flatMap_append,List.map_append,ih];rfl
end
theorem Gi (w:World) (o:Obj):Gr w (w.drew.alloc o)∧dG w (w.drew.alloc o) [(w.heap.size,o)]:=⟨(Gr.drew w).trans (Gr.alloc w.drew o),(dG.alloc w.drew o).ahead (Gr.drew w)⟩
def AT (T:aW) (E:List (Nat×AV)) (M:List au) (t t':TypeId) (x:Operand):Option Out:=
 match cV T t,cV T t',kt (aO E x) with
 | some .st,some (.sl e),some bs=>(match cV T e with
  | some (.it .u8)=>some ⟨[],.d (.ro 1 (bc bs)),M,[],[],none⟩
  | _=>none)
 | _,_,_=>none
theorem Mq (hT:bp P T=true) {t t':TypeId} {x:Operand} (h:AT T E M t t' x=some out):aP P ⟨d,.convert t t' x,ty,pos,aft,gd⟩ E M out:=by
 unfold AT at h
 split at h
 rotate_left
 ·cases h
 rename_i e bs ht pC hs
 split at h
 rotate_left
 ·cases h
 rename_i he
 simp only [Option.some.injEq] at h;subst h
 intro D w0 K0 β F I ρ w C _
 have RC:=C.str (x:=x) (l:=bs) hs
 obtain ⟨k,c,hk,hc,fc⟩:=Pm (d:=d) (ty:=ty) (pos:=pos) (aft:=aft) (gd:=gd) (w:=w) (cE hT ht) (cE hT pC) (cE hT he) RC
 refine bq.pure fc ?_
 have s1:St D w0 (w.drew.alloc (.cells c e (0,0))) ((w.heap.size,.cells c e (0,0))::((List.range M.length).flatMap F++I)):=C.rm.st.new (Gi w (.cells c e (0,0))).1 (Gi w (.cells c e (0,0))).2
 have s2:=s1.set (.cells c e (c.size,c.size+1))
 have R2:RM D w0 K0 M β F ([(w.heap.size,.cells c e (c.size,c.size+1))]++I) (ct (w.drew.alloc (.cells c e (0,0))) w.heap.size (.cells c e (c.size,c.size+1))):=by
  refine ⟨C.rm.len,fun v bl hv=>(C.rm.blk v bl hv).mono (fun w hw=>⟨hw.1,(az.app.1 hw.2).2⟩) (Ext.refl _),?_⟩
  exact s2.perm (by classical rw [List.perm_iff_count];intro z;simp only [List.count_append,List.count_cons,List.count_nil];omega)
 refine ⟨β,F,_,R2,(Ext.refl β).b _,⟨_,rfl⟩,fun _ _ _=>rfl,?_⟩
 have hlen:(bc bs).length=bs.length:=by simp [bc]
 refine .d (.ro (fun i=>[Value.int .u8 (bs.getD i 0).toNat]) (fun i r hi=>?_) ⟨_,_,by rw [hlen],by rw [hlen];exact hk⟩ (fun w' eb=>?_) fun i r j cc z h1 h2 h3=>?_)
 ·simp only [bc,List.getElem?_map,Option.map_eq_some_iff] at hi
  obtain ⟨b,-,rfl⟩:=hi;exact ⟨rfl,rfl⟩
 ·have aV:w'.heap[w.heap.size]?=some (.cells c e (c.size,c.size+1)):=(az.app.1 eb.2).1.one
  rw [hlen,Gh]
  refine ⟨by simp,Or.inr ⟨_,k,rfl,fun j hj=>?_⟩⟩
  rw [add_eq,Nat.zero_add,cell_of aV,hc]
  have jt:j<bs.length:=by simpa using hj
  rw [Array.getElem?_append_left (by simpa using jt)]
  simp [jt,List.getD_eq_getElem?_getD]
 ·simp only [bc,List.getElem?_map,Option.map_eq_some_iff] at h1
  obtain ⟨b,hb,rfl⟩:=h1
  cases j with
  | succ j=>simp at h2
  | zero=>
   simp at h2 h3;subst h2;subst h3
   simp only [List.getD_eq_getElem?_getD,hb,Option.getD_some]
   exact .v _
end Go.Proofs.YtlinpknagdgphaaGreat
namespace Go.Proofs.YtlinpknagdgphaaGreat
open Go.RowKit
variable {P:Program} {T:aW} {D:List Nat} {w0:World} {K0:World→Prop} {E:List (Nat×AV)} {M:List au} {β:Beta} {F:Nat→aA} {I X:aA} {ρ:Operand→Value} {w:World}
variable {d:Option Tmp} {ty:TypeId} {pos:String} {aft:Array Edge} {gd:Option (Nat×Bool)} {oc:Option bj} {out:Out}
def wM (l:List UInt8):AV:=.d (.v (.string ⟨l.toArray⟩))
theorem Fo (l:List UInt8):(⟨l.toArray⟩:ByteArray).size=l.length:=by simp [ByteArray.size]
theorem N1 {op:BinOp} {t t':TypeId} {x y:Operand} {a b:List UInt8} (cB:op=.add) (hx:ρ x=.string ⟨a.toArray⟩) (hy:ρ y=.string ⟨b.toArray⟩) (hle:a.length+b.length≤9223372036854775807):
  (execOp ρ ⟨d,.binOp op t x y t',ty,pos,aft,gd⟩).run P w=.ok (.value (.string ⟨(a++b).toArray⟩)) w:=by
 subst cB
 have hn:¬ (((a.length+b.length:Nat):Int)>IntKind.i64.max):=by simp [IntKind.max,IntKind.signed,IntKind.bits];omega
 have kY:(⟨a.toArray⟩:ByteArray)++⟨b.toArray⟩=⟨(a++b).toArray⟩:=by
  apply ByteArray.ext;simp
 simp only [execOp,hx,hy,eqGuard,binOp,Op.stringOp,Sem.run_bind,Sem.run_pure,Result.andThen_ok,Fo]
 rw [if_neg hn,kY]
 simp
def BE (E:List (Nat×AV)) (M:List au) (op:BinOp) (x y:Operand):Option Out:=
 match op,kt (aO E x),kt (aO E y) with
 | .add,some a,some b=>some (lk [a.length+b.length≤9223372036854775807] (wM (a++b)) M)
 | _,_,_=>none
theorem N2 {op:BinOp} {t t':TypeId} {x y:Operand} (h:BE E M op x y=some out):aP P ⟨d,.binOp op t x y t',ty,pos,aft,gd⟩ E M out:=by
 unfold BE at h
 split at h
 ·rename_i a b ha hb
  simp only [Option.some.injEq] at h;subst h
  exact aP.same fun C hv=>⟨_,fun w' _=>N1 rfl (C.str ha) (C.str hb) hv.1,.d (.v _)⟩
 ·cases h
theorem JU {t:TypeId} {x ix:Operand} {l:List UInt8} {k:IntKind} {i:Nat} {u:UInt8} (ht:P.underlying t=some .string) (hx:ρ x=.string ⟨l.toArray⟩) (hi:ρ ix=.int k (i:Int)) (hu:l[i]?=some u):
  (execOp ρ ⟨d,.index t x ix,ty,pos,aft,gd⟩).run P w=.ok (.value (.int .u8 (u.toNat:Int))) w:=by
 have h4:(⟨l.toArray⟩:ByteArray)[i]?=some u:=by
  obtain ⟨hi,rfl⟩:=List.getElem?_eq_some_iff.1 hu
  exact getElem?_pos (⟨l.toArray⟩:ByteArray) i (by show i<l.toArray.size;simpa using hi)
 simp [execOp,hx,hi,Instr.index,asIntOf,Sem.run_bind,run_underlying ht,h4]
def AU (T:aW) (E:List (Nat×AV)) (M:List au) (oc:Option bj) (t:TypeId) (x ix:Operand):Option Out:=
 match cV T t,kt (aO E x),cS (aO E ix),oc with
 | some .st,some l,some (_,z),some (.ix i [c])=>some (lk [z=(i:Int),∃ u:UInt8,l[i]?=some u∧c=.v (.int .u8 (u.toNat:Int))] (.d c) M)
 | _,_,_,_=>none
theorem Mr (hT:bp P T=true) {t:TypeId} {x ix:Operand} (h:AU T E M oc t x ix=some out):aP P ⟨d,.index t x ix,ty,pos,aft,gd⟩ E M out:=by
 unfold AU at h
 split at h
 ·rename_i l k z i c hu hx hz
  simp only [Option.some.injEq] at h;subst h
  refine aP.same fun C hv=>?_
  obtain ⟨rfl,⟨u,h1,rfl⟩,-⟩:=hv
  exact ⟨_,fun w' _=>JU (cE hT hu) (C.str hx) (C.int hz) h1,.d (.v _)⟩
 ·cases h
theorem RD (l:List UInt8) (o c:Nat):(⟨l.toArray⟩:ByteArray).extract o c=⟨((l.take c).drop o).toArray⟩:=by
 apply ByteArray.ext
 rw [ByteArray.data_extract]
 apply Array.toList_inj.1
 simp [Array.toList_extract,List.extract_eq_take_drop,List.drop_take]
theorem yw {t:TypeId} {x:Operand} {lo hi:Option Operand} {l:List UInt8} {o c:Nat} (ht:P.underlying t=some .string) (hx:ρ x=.string ⟨l.toArray⟩)
  (hb:(Instr.sliceBounds false l.length l.length (lo.map ρ) (hi.map ρ) none).run P w=.ok (o,c,l.length) w):
  (execOp ρ ⟨d,.slice t x lo hi none,ty,pos,aft,gd⟩).run P w=.ok (.value (.string ⟨((l.take c).drop o).toArray⟩)) w:=by
 simp only [execOp,hx,Option.map_none,Instr.sliceAt,Instr.slice,Sem.run_bind,run_underlying ht,Result.andThen_ok,Option.isSome_none,Bool.false_eq_true,if_false,Fo,hb,Sem.run_pure,RD]
def BF (T:aW) (E:List (Nat×AV)) (M:List au) (oc:Option bj) (t:TypeId) (x:Operand) (lo hi mx:Option Operand):Option Out:=
 match cV T t,kt (aO E x),oc,mx with
 | some .st,some l,some (.n2 c o),none=>(match lo,hi with
  | none,some h=>(match cS (aO E h) with
   | some (.i64,z)=>some (lk [z=(c:Int),c≤l.length] (wM (l.take c)) M)
   | _=>none)
  | some lo,none=>(match cS (aO E lo) with
   | some (.i64,z)=>some (lk [z=(o:Int),o≤l.length] (wM (l.drop o)) M)
   | _=>none)
  | some lo,some h=>(match cS (aO E lo),cS (aO E h) with
   | some (.i64,z),some (.i64,z')=>some (lk [z=(o:Int),z'=(c:Int),o≤c,c≤l.length] (wM ((l.take c).drop o)) M)
   | _,_=>none)
  | _,_=>none)
 | _,_,_,_=>none
theorem N3 (hT:bp P T=true) {t:TypeId} {x:Operand} {lo hi mx:Option Operand} (h:BF T E M oc t x lo hi mx=some out):aP P ⟨d,.slice t x lo hi mx,ty,pos,aft,gd⟩ E M out:=by
 unfold BF at h
 split at h
 rotate_left
 ·cases h
 rename_i l c o hu hx
 replace hu:=cE hT hu
 split at h
 ·rename_i hh
  split at h
  rotate_left
  ·cases h
  rename_i z hz
  simp only [Option.some.injEq] at h;subst h
  refine aP.same ?_
  intro D w0 K0 β F I ρ w C hv
  obtain ⟨rfl,hc,-⟩:=hv
  refine ⟨.string ⟨(l.take c).toArray⟩,fun w' _=>?_,.d (.v _)⟩
  have:=yw (P:=P) (ρ:=ρ) (w:=w') (d:=d) (ty:=ty) (pos:=pos) (aft:=aft) (gd:=gd) (lo:=none) (hi:=some hh) (o:=0) (c:=c) hu (C.str hx) (by simp [Instr.sliceBounds,C.int hz,jd hc])
  simpa using this
 ·rename_i ll
  split at h
  rotate_left
  ·cases h
  rename_i z hz
  simp only [Option.some.injEq] at h;subst h
  refine aP.same ?_
  intro D w0 K0 β F I ρ w C hv
  obtain ⟨rfl,ho,-⟩:=hv
  refine ⟨.string ⟨(l.drop o).toArray⟩,fun w' _=>?_,.d (.v _)⟩
  have:=yw (P:=P) (ρ:=ρ) (w:=w') (d:=d) (ty:=ty) (pos:=pos) (aft:=aft) (gd:=gd) (lo:=some ll) (hi:=none) (o:=o) (c:=l.length) hu (C.str hx) (by simp [Instr.sliceBounds,C.int hz,jd ho])
  simpa using this
 ·rename_i ll hh
  split at h
  rotate_left
  ·cases h
  rename_i z z' hz jX
  simp only [Option.some.injEq] at h;subst h
  refine aP.same fun C hv=>?_
  obtain ⟨rfl,rfl,ho,hc,-⟩:=hv
  refine ⟨.string ⟨((l.take c).drop o).toArray⟩,fun w' _=>?_,.d (.v _)⟩
  exact yw hu (C.str hx) (by simp [Instr.sliceBounds,C.int hz,C.int jX,jd hc,jd ho])
 ·cases h
def AW (T:aW) (E:List (Nat×AV)) (M:List au) (oc:Option bj) (t:TypeId) (x ix:Operand):Option Out:=
 match x,cS (aO E ix),cV T t,oc with
 | .global g,some (_,z),some (.ar n e),some (.ix i row)=>(match fY T e,mG g M with
  | some k,some s5=>some (lk [z=(i:Int),i<n,(s5.drop (i*k)).take k=row] (.rp row 0) M)
  | _,_=>none)
 | _,_,_,_=>none
theorem Mt (hT:bp P T=true) {t:TypeId} {x ix:Operand} (h:AW T E M oc t x ix=some out):aP P ⟨d,.indexAddr t x ix,ty,pos,aft,gd⟩ E M out:=by
 unfold AW at h
 split at h
 rotate_left
 ·cases h
 rename_i g kk z n e i row hz ht
 split at h
 rotate_left
 ·cases h
 rename_i k s5 hk hg
 simp only [Option.some.injEq] at h;subst h
 refine aP.same fun C dj=>?_
 obtain ⟨rfl,hi,rfl,-⟩:=dj
 obtain ⟨u,hu⟩:=y9 hg
 obtain ⟨H,-,hB,-⟩:=C.rm.at hu
 cases hB with
 | gw X hl kx hr=>
  have e0:(⟨g,0,none⟩:Addr).add (((i:Nat):Int).toNat*k)=((⟨g,0,none⟩:Addr).add (i*k)).add 0:=by rw [add_zero'];simp
  refine ⟨_,fun _ _=>oy (cE hT ht) (ie hT hk) (C.wB g) (C.int hz) (by simp) (by simp;omega),?_⟩
  rw [e0]
  refine .rp _ ((X.drop (i*k)).take k) (by simp [hl]) (fun w' eb j y hj=>?_) (fun j c' y h1 h2=>?_)
  ·rw [List.getElem?_take] at hj
   split at hj
   ·rw [List.getElem?_drop] at hj
    rw [Addr.na];exact kx w' eb _ y hj
   ·cases hj
  ·rw [List.getElem?_take] at h1 h2
   split at h1
   ·rename_i hj
    rw [if_pos hj] at h2
    rw [List.getElem?_drop] at h1 h2
    exact hr _ _ _ h1 h2
   ·cases h1
theorem Fp (K:World→Prop) (bs:List UInt8):dW K 1 (bc bs) (fun i=>[Value.int .u8 (bs.getD i 0).toNat]) (fun _ _=>[]):=by
 refine ⟨fun i r hi=>?_,fun i r j cc z h1 h2 h3=>?_⟩
 ·simp only [bc,List.getElem?_map,Option.map_eq_some_iff] at hi
  obtain ⟨b,-,rfl⟩:=hi;exact ⟨rfl,rfl⟩
 ·simp only [bc,List.getElem?_map,Option.map_eq_some_iff] at h1
  obtain ⟨b,hb,rfl⟩:=h1
  cases j with
  | succ j=>simp at h2
  | zero=>
   simp at h2 h3;subst h2;subst h3
   simp only [List.getD_eq_getElem?_getD,hb,Option.getD_some]
   exact .v _
theorem Ey (bs:List UInt8):lay bs.length (fun i=>[Value.int .u8 (bs.getD i 0).toNat])=bs.map fun b:UInt8=>Value.int .u8 (b.toNat:Int):=by
 rw [Gh]
 apply List.ext_getElem
 ·simp
 ·intro i h1 h2
  simp only [List.length_map,List.length_range] at h1
  simp [List.getD_eq_getElem?_getD,List.getElem?_eq_getElem h1]
theorem Ez (bs:List UInt8):bA (bc bs):=by simp [bA,AV.one,cd,bc]
def AX (T:aW) (E:List (Nat×AV)) (M:List au) (st xt:TypeId) (x y:Operand):Option Out:=
 match ju T st,cV T xt,kt (aO E y),aO E x with
 | some (e,k,b,_),some .st,some bs,some vx=>bif k.beq 1 then (match qT M e k vx with
  | some (some u,n,rows)=>some ⟨[n=rows.length,(2*(n+bs.length)+0)*b≤281474976710656,n+bs.length<4611686018427387904],.sl u (n+bs.length),(M.map (gT [u])).set u (.rw e k (rows++bc bs)),[u],[u],none⟩
  | some (none,_,_)=>some ⟨[(2*(0+bs.length)+0)*b≤281474976710656,0+bs.length<4611686018427387904],.sl M.length bs.length,M++[.rw e k (bc bs)],[],[],none⟩
  | none=>none) else none
 | _,_,_,_=>none
theorem Mu (hT:bp P T=true) {st xt:TypeId} {x y:Operand} (h:AX T E M st xt x y=some out):aP P ⟨d,.call ⟨.builtin .append,#[x,y],#[st,xt]⟩,ty,pos,aft,gd⟩ E M out:=by
 unfold AX at h
 split at h
 rotate_left
 ·cases h
 rename_i e k b z bs vx he hu hs hx
 cases iX:k.beq 1 with
 | false=>simp [iX] at h
 | true=>
  simp only [iX,cond_true] at h
  obtain rfl:=Nat.eq_of_beq_eq_true iX
  have lb:(bc bs).length=bs.length:=by simp [bc]
  split at h
  ·rename_i u n rows hd
   simp only [Option.some.injEq] at h;subst h
   obtain ⟨rfl,hM⟩:=xS hd
   intro D w0 K0 β F I ρ w C hv
   obtain ⟨hn,h1,h2,-⟩:=hv
   obtain ⟨X1,G1,H0,hF,dL,a1,-⟩:=nc C.rm hM hn (C.ev hx)
   have R1:=C.rm.x.ea hM
   rw [hF,List.nil_append] at R1
   have aK:u<(M.set u .dead).length:=by rw [List.length_set];exact eB hM
   have g6:lH P xt w 1 (ρ y) bs.length (lay bs.length fun i=>[Value.int .u8 (bs.getD i 0).toNat]):=by
    rw [Ey,C.str hs];exact lH.str (cE hT hu)
   refine (yT hT he rfl rfl (R1.perm (Y:=(H0++bW n 1 G1)++[]) (by rw [List.append_nil])) aK (by simp [aS]) dL hn lb.symm a1 rfl (Fp _ bs) (by rw [l8]) g6 h1 h2 (Ez bs)).mono ?_
   rintro v' w' ⟨aF,F',R',hE,ky,hr⟩
   rw [uB] at R'
   exact ⟨aF,F',I,R',hE,bL.refl _,fun q _ hq=>by have rA:q≠u:=(by simpa using hq);rw [ky q rA];simp only [aS];rw [if_neg rA],hr⟩
  ·rename_i n0 r0 hd
   simp only [Option.some.injEq] at h;subst h
   obtain rfl:=xT hd
   intro D w0 K0 β F I ρ w C hv
   obtain ⟨h1,h2,-⟩:=hv
   have mQ:ρ x=.slice none 0 0:=by have:=C.ev hx;generalize ρ x=q at this;cases this with | d r=>cases r;rfl
   have g6:lH P xt w 1 (ρ y) bs.length (lay bs.length fun i=>[Value.int .u8 (bs.getD i 0).toNat]):=by
    rw [Ey,C.str hs];exact lH.str (cE hT hu)
   refine (yU hT he mQ rfl C.rm.x lb.symm (Fp _ bs) (by rw [l8]) g6 h1 h2 (Ez bs)).mono ?_
   rintro v' w' ⟨aF,F',R',hE,ky,hr⟩
   exact ⟨aF,F',I,R',hE.b _,bL.refl _,fun q hq _=>ky q hq,hr⟩
  ·cases h
def zW (E:List (Nat×AV)) (M:List au) (r:Value) (c x y:Operand):Option Out:=
 match aO E c,aO E x,aO E y with
 | some (.d (.v vc)),some (.d (.v vx)),some (.d (.v vy))=>some (lk [∃ b:Bool,vc=.bool b∧(bif b then vx else vy)=r] (.d (.v r)) M)
 | _,_,_=>none
theorem Ctx.val (C:Ctx D w0 K0 E M β F I ρ w) {x:Operand} {v:Value} (h:aO E x=some (.d (.v v))):ρ x=v:=by
 obtain ⟨y,hy,r⟩:=C.bS h
 cases r with | d r=>cases r;exact hy
theorem KO {r:Value} {c x y:Operand} (h:zW E M r c x y=some out):aP P ⟨d,.pick c x y,ty,pos,aft,gd⟩ E M out:=by
 unfold zW at h
 split at h
 ·rename_i vc vx vy hc hx hy
  simp only [Option.some.injEq] at h;subst h
  refine kM uZ fun C dj=>?_
  obtain ⟨⟨b,rfl,rfl⟩,-⟩:=dj
  refine ⟨_,.d (.v _),fun w Φ aR=>O7 (C.val hc) (C.val hx) (C.val hy) ?_⟩
  cases b<;>exact aR
 ·cases h
def Hs (P:Program) (t t':TypeId):Bool:=match P.underlying t,P.underlying t' with
 | some (.pointer s),some .unsafePointer=>(match P.info? s with | some j=>!(j.size==0) | none=>false)
 | _,_=>false
def Ht (P:Program) (t t' T n:Nat):Bool:=match P.underlying t,P.underlying t' with
 | some .unsafePointer,some (.pointer u)=>(P.info? u).isSome&&liesAt P P.depth T (n / P.cellsOf T) 0 u 1
 | _,_=>false
def zX (P:Program) (E:List (Nat×AV)) (M:List au) (oc:Option bj) (t t':TypeId) (x:Operand):Option Out:=
 match aO E x,oc with
 | some (.pt u 0),some (.b c)=>(match M[u]? with
  | some (.bx Tb cells)=>some ⟨[(bif c then Hs P t t' else Ht P t t' Tb cells.length)=true,0<cells.length],.pt u 0,M,[],[],some [u]⟩
  | _=>none)
 | _,_=>none
theorem EA {w:World} {b:Nat} {c:Array Value} {t:TypeId} {fr:Nat×Nat} (h:w.heap[b]?=some (.cells c t fr)):w.shape? b=some (t,c.size):=by
 unfold World.shape?;rw [h]
theorem KP {t t':TypeId} {x:Operand} (h:zX P E M oc t t' x=some out):aP P ⟨d,.convert t t' x,ty,pos,aft,gd⟩ E M out:=by
 unfold zX at h
 split at h
 rotate_left
 ·cases h
 rename_i u c hx
 split at h
 rotate_left
 ·cases h
 rename_i Tb cells hM
 simp only [Option.some.injEq] at h;subst h
 refine aP.look ?_ (by simpa using eB hM)
 intro D w0 K0 β F I ρ w C hv
 obtain ⟨hc,h0,-⟩:=hv
 obtain ⟨y,hy,r⟩:=C.bS hx
 cases r with
 | @pt _ _ b cc hb=>
  refine ⟨_,.pt hb,fun w' hs=>?_⟩
  obtain ⟨H,hF,hB,-⟩:=C.rm.at hM
  have hH:az w' (F u):=hs.2 u (by simp)
  rw [hF] at hH
  cases hB with
  | bx aV ys hl hr=>
   rw [hb] at aV;cases aV
   have pq:=EA hH.one
   have bI:ys.toArray.size=cells.length:=by simp [hl]
   rw [bI] at pq
   have key:(convert t t' (.pointer (some ⟨b,0,none⟩))).run P w'=.ok (.pointer (some ⟨b,0,none⟩)) w':=by
    cases c with
    | true=>
     simp only [cond_true] at hc
     unfold Hs at hc
     split at hc
     ·rename_i s h1 h2
      split at hc
      ·rename_i j hj
       exact Go.Lib.run_to_unsafe w' ⟨b,0,none⟩ h1 h2 hj (by simpa using hc) pq h0
      ·cases hc
     ·cases hc
    | false=>
     simp only [cond_false] at hc
     unfold Ht at hc
     split at hc
     ·rename_i s h1 h2
      rw [Bool.and_eq_true] at hc
      obtain ⟨j,hj⟩:=Option.isSome_iff_exists.1 hc.1
      exact Go.Lib.run_from_unsafe w' ⟨b,0,none⟩ h1 h2 hj pq hc.2
     ·cases hc
   simp only [execOp,hy,Sem.run_bind,key,Result.andThen_ok,Sem.run_pure]
def wN (P:Program) (t:TypeId):Bool:=match P.underlying t with | some (.pointer te)=>(P.info? te).isSome | _=>false
def BG (P:Program) (E:List (Nat×AV)) (M:List au) (op:BinOp) (t:TypeId) (x y:Operand):Option Out:=
 match op,aO E x,aO E y with
 | .eql,some (.pt u o),some (.pt v q)=>bif Nat.beq u v&&Nat.beq o q then some (lk [wN P t=true] (.b true) M) else none
 | .neq,some (.pt u o),some (.pt v q)=>bif Nat.beq u v&&Nat.beq o q then some (lk [wN P t=true] (.b false) M) else none
 | _,_,_=>none
theorem Fq {t:TypeId} (h:wN P t=true):∃ te j,P.underlying t=some (.pointer te)∧P.info? te=some j:=by
 unfold wN at h
 split at h
 ·rename_i te h1
  obtain ⟨j,hj⟩:=Option.isSome_iff_exists.1 h
  exact ⟨te,j,h1,hj⟩
 ·cases h
theorem N4 {op:BinOp} {t t':TypeId} {x y:Operand} (h:BG P E M op t x y=some out):aP P ⟨d,.binOp op t x y t',ty,pos,aft,gd⟩ E M out:=by
 unfold BG at h
 split at h
 ·rename_i u o v q hx hy
  cases hc:(Nat.beq u v&&Nat.beq o q) with
  | false=>simp [hc] at h
  | true=>
   simp only [hc,cond_true,Option.some.injEq] at h;subst h
   rw [Bool.and_eq_true] at hc
   obtain rfl:=Nat.eq_of_beq_eq_true hc.1
   obtain rfl:=Nat.eq_of_beq_eq_true hc.2
   refine aP.same fun C hv=>?_
   obtain ⟨te,j,h1,h2⟩:=Fq hv.1
   obtain ⟨y1,e1,r1⟩:=C.bS hx
   obtain ⟨y2,e2,r2⟩:=C.bS hy
   cases r1 with
   | pt hb=>
    cases r2 with
    | pt cH=>
     rw [hb] at cH;cases cH
     refine ⟨_,fun w' _=>?_,.d (.v _)⟩
     simp only [execOp,e1,e2,eqGuard,Sem.run_bind,Sem.run_pure,Result.andThen_ok,run_eql_ptr_same w' _ h1 h2,Bool.not_true,Bool.false_eq_true,if_false]
 ·rename_i u o v q hx hy
  cases hc:(Nat.beq u v&&Nat.beq o q) with
  | false=>simp [hc] at h
  | true=>
   simp only [hc,cond_true,Option.some.injEq] at h;subst h
   rw [Bool.and_eq_true] at hc
   obtain rfl:=Nat.eq_of_beq_eq_true hc.1
   obtain rfl:=Nat.eq_of_beq_eq_true hc.2
   refine aP.same fun C hv=>?_
   obtain ⟨te,j,h1,h2⟩:=Fq hv.1
   obtain ⟨y1,e1,r1⟩:=C.bS hx
   obtain ⟨y2,e2,r2⟩:=C.bS hy
   cases r1 with
   | pt hb=>
    cases r2 with
    | pt cH=>
     rw [hb] at cH;cases cH
     refine ⟨_,fun w' _=>?_,.d (.v _)⟩
     simp only [execOp,e1,e2,eqGuard,Sem.run_bind,Sem.run_pure,Result.andThen_ok,Go.Lib.run_neq_ptr_same w' _ h1 h2,Bool.not_true,Bool.false_eq_true,if_false]
 ·cases h
def Qv (P:Program) (f:FuncId):Prop:=∃ fn,P.funcs[f]?=some fn∧(fn.name == "runtime.NumGoroutine")=false∧fn.body.isNone=true∧Extern.findNext fn=none∧Extern.find fn=some Extern.AbiNoEscape.same
def zY (P:Program) (E:List (Nat×AV)) (M:List au) (g:Operand) (args:Array Operand):Option Out:=
 match aO E g,args with
 | some (.fn f []),⟨[x]⟩=>(match aO E x with | some (.pt u o)=>some (lk [Qv P f] (.pt u o) M) | _=>none)
 | _,_=>none
theorem KQ {g:Operand} {args:Array Operand} {ey:Array TypeId} (h:zY P E M g args=some out):aP P ⟨d,.call ⟨.value g,args,ey⟩,ty,pos,aft,gd⟩ E M out:=by
 unfold zY at h
 split at h
 ·rename_i f x hg
  split at h
  ·rename_i u o hx
   simp only [Option.some.injEq] at h;subst h
   refine aP.same fun C hv=>?_
   obtain ⟨⟨fn,h1,h2,h3,h4,h5⟩,-⟩:=hv
   obtain ⟨yg,eg,rg⟩:=C.bS hg
   obtain ⟨yx,ex,rx⟩:=C.bS hx
   refine ⟨yx,fun w' _=>?_,rx⟩
   cases rg with
   | fn cs hl hr=>
    have cX:cs=[]:=List.eq_nil_of_length_eq_zero (by simpa using hl)
    subst cX
    have:=run_callFunc_extern h1 h2 h3 h4 h5 #[yx] w'
    simp only [Go.Lib.run_noEscape,Result.andThen_ok] at this
    simp [execOp,resolve,eg,ex,Deferred.ofValue,invoke,this]
  ·cases h
 ·cases h
def zZ (E:List (Nat×AV)) (M:List au) (x:Operand):Option Out:=
 match aO E x with
 | some (.sl u n)=>(match M[u]? with | some (.rw _ k rows)=>bif k.beq 1 then some ⟨[n=rows.length,0<n],.ep u 1 0 0,M,[],[],some [u]⟩ else none | _=>none)
 | _=>none
theorem KR {t:TypeId} {x:Operand} (h:zZ E M x=some out):aP P ⟨d,.call ⟨.builtin .unsafeSliceData,#[x],#[t]⟩,ty,pos,aft,gd⟩ E M out:=by
 unfold zZ at h
 split at h
 rotate_left
 ·cases h
 rename_i u n hx
 split at h
 rotate_left
 ·cases h
 rename_i Tr k rows hM
 cases iX:k.beq 1 with
 | false=>simp [iX] at h
 | true=>
  simp only [iX,cond_true,Option.some.injEq] at h;subst h
  obtain rfl:=Nat.eq_of_beq_eq_true iX
  refine aP.look ?_ (by simpa using eB hM)
  intro D w0 K0 β F I ρ w C hv
  obtain ⟨hn,h0,-⟩:=hv
  obtain ⟨y,hy,r⟩:=C.bS hx
  cases r with
  | @sl _ _ cc a hb=>
   obtain ⟨H,hF,hB,-⟩:=C.rm.at hM
   cases hB with
   | rw aV X G hl hs hr=>
    rw [hb] at aV;cases aV
    obtain ⟨b',cap,cs,fz,he,rfl,fL,cX,ew,iI⟩:=hs.block (by omega)
    simp only [Value.slice.injEq] at he;obtain ⟨rfl,-,rfl⟩:=he
    refine ⟨.pointer (some ⟨b',0,none⟩),by simpa using aE.ep (k:=1) (i:=0) (o:=0) hb,fun w' _=>?_⟩
    have:=Go.Lib.run_unsafeSliceData_row (P:=P) w' #[t] ty ⟨b',0,none⟩ n cc (by omega)
    simp only [execOp,resolve,List.map_toArray,List.map,hy,Sem.run_bind,Sem.run_pure,Result.andThen_ok,invoke,builtin,this]
theorem N5 {w:World} {b n:Nat} {c:Array Value} {e:TypeId} {fz:Nat×Nat} (hb:w.heap[b]?=some (.cells c e fz)) (hn:n≠0):∃ jV,w.freeze ⟨b,0,none⟩ n=ct w b (.cells c e jV):=by
 obtain ⟨lo,hi⟩:=fz
 refine ⟨if lo==hi then (0,0+n) else (min lo 0,max hi (0+n)),?_⟩
 unfold World.freeze ct
 rw [if_neg hn]
 congr 1
 apply Array.ext_getElem?
 intro j
 have aK:=lD hb
 rw [Array.getElem?_modify,Array.getElem?_setIfInBounds]
 by_cases e':b=j
 ·subst e'
  have hg:w.heap[b]=.cells c e (lo,hi):=by rw [Array.getElem?_eq_getElem aK] at hb;exact Option.some.inj hb
  simp [aK,hg]
 ·simp [e']
def Hu (P:Program) (t T:TypeId):Bool:=match P.underlying t with | some (.pointer e)=>Nat.beq e T&&Nat.beq (P.cellsOf e) 1 | _=>false
def AY (P:Program) (E:List (Nat×AV)) (M:List au) (oc:Option bj) (t:TypeId) (x y:Operand):Option Out:=
 match aO E x,cS (aO E y),oc with
 | some (.ep u 1 0 0),some (.i64,z),some (.res (.v (.string s)))=>(match M[u]? with
  | some (.rw Tr k rows)=>bif k.beq 1 then some ⟨[z=(rows.length:Int),0<rows.length,rows=bc s.data.toList,Hu P t Tr=true,rows.length≤9223372036854775807],.d (.v (.string s)),M.set u .dead,[u],[],none⟩ else none
  | _=>none)
 | _,_,_=>none
theorem Mv {t t2:TypeId} {x y:Operand} (h:AY P E M oc t x y=some out):aP P ⟨d,.call ⟨.builtin .unsafeString,#[x,y],#[t,t2]⟩,ty,pos,aft,gd⟩ E M out:=by
 unfold AY at h
 split at h
 rotate_left
 ·cases h
 rename_i u z s hx hz
 split at h
 rotate_left
 ·cases h
 rename_i Tr k rows hM
 cases iX:k.beq 1 with
 | false=>simp [iX] at h
 | true=>
  simp only [iX,cond_true,Option.some.injEq] at h;subst h
  obtain rfl:=Nat.eq_of_beq_eq_true iX
  intro D w0 K0 β F I ρ w C hv
  obtain ⟨rfl,h0,lX,rC,Uc,-⟩:=hv
  generalize hl:s.data.toList=bs at lX
  have hs:s=⟨bs.toArray⟩:=by rw [← hl]
  subst hs
  have hlen:rows.length=bs.length:=by rw [lX];simp [bc]
  obtain ⟨yx,ex,rx⟩:=C.bS hx
  have Ir:=C.int hz
  cases rx with
  | @ep _ _ _ _ b cc hb=>
   have R1:=C.rm.x.ea hM
   have hB:=C.rm.blk u _ hM
   have hH:=C.rm.jE hM
   generalize hC:F u=Fu at hB R1 hH
   cases hB with
   | @rw _ _ _ _ _ H0 aV X G dI pD hr=>
    rw [hb] at aV;cases aV
    obtain ⟨b',cap,cs,fz,he,rfl,fL,cX,ew,iI⟩:=pD.block (by omega)
    simp only [Value.slice.injEq,Option.some.injEq,Addr.mk.injEq] at he;obtain ⟨⟨rfl,-⟩,-,rfl⟩:=he
    have hw:w.heap[b]?=some (.cells cs Tr fz):=(az.app.1 hH).1.one
    have fc:(Builtin.unsafeString_ #[t,t2] ty #[.pointer (some ⟨b,0,none⟩),.int .i64 bs.length]).run P w=.ok (.string ⟨bs.toArray⟩) (w.freeze ⟨b,0,none⟩ bs.length):=by
     unfold Hu at rC
     split at rC
     ·rename_i e he
      rw [Bool.and_eq_true] at rC
      obtain rfl:=Nat.eq_of_beq_eq_true rC.1
      refine Go.Lib.run_unsafeString_row w t t2 ty e he (Nat.eq_of_beq_eq_true rC.2) b cs.size (EA hw) bs (by intro hn;rw [hn,List.length_nil] at hlen;omega) (by rw [cX,← hlen];omega) (by omega) fun j q hj=>?_
      rw [add_eq,Nat.zero_add,cell_of hw]
      have rD:=(List.getElem?_eq_some_iff.1 hj).1
      have e1:(cs.toList.take (rows.length*1))[j]?=cs[j]?:=by rw [List.getElem?_take,if_pos (by omega),Array.getElem?_toList]
      rw [← e1,iI]
      have cu:(bc bs)[j]?=some [.v (.int .u8 (q.toNat:Int))]:=by simp [bc,hj]
      rw [← lX] at cu
      obtain ⟨H7,H8⟩:=dI j _ cu
      have hg:=lE (n:=rows.length) (k:=1) (X:=X) (fun i hi=>(dI i _ (List.getElem?_eq_getElem hi)).2) (i:=j) (j:=0) (by omega) (by omega)
      rw [Nat.mul_one,Nat.add_zero] at hg
      obtain ⟨v0,aM⟩:∃ v0,(X j)[0]?=some v0:=⟨(X j)[0]'(by omega),List.getElem?_eq_getElem _⟩
      have hd:=hr j _ 0 _ _ cu rfl aM
      generalize G j 0=GG at hd
      cases hd
      rw [hg,aM]
     ·cases rC
    obtain ⟨jV,iE⟩:=N5 (n:=bs.length) hw (by omega)
    rw [iE] at fc
    have hex:(execOp ρ ⟨d,.call ⟨.builtin .unsafeString,#[x,y],#[t,t2]⟩,ty,pos,aft,gd⟩).run P w=.ok (.value (.string ⟨bs.toArray⟩)) (ct w b (.cells cs Tr jV)):=by
     rw [hlen] at Ir
     simp only [execOp,resolve,List.map_toArray,List.map,ex,Ir,Nat.zero_mul,Nat.zero_add,Sem.run_bind,Sem.run_pure,Result.andThen_ok,invoke,builtin,fc]
    refine bq.pure hex ?_
    have R2:=(R1.perm (Y:=[(b,.cells cs Tr fz)]++bW rows.length 1 G) (by rw [List.nil_append])).drop
    have bM:=(R2.st.perm (K:=(b,.cells cs Tr fz)::((List.range (M.set u .dead).length).flatMap (aS F u [])++I)) (by classical rw [List.perm_iff_count];intro z;simp only [List.count_append,List.count_cons,List.count_nil];omega)).set (.cells cs Tr jV)
    refine ⟨β,aS F u [],[(b,.cells cs Tr jV)]++I,⟨R2.len,fun v bl hv=>(R2.blk v bl hv).mono (fun w hw=>⟨hw.1,(az.app.1 hw.2).2⟩) (Ext.refl _),?_⟩,(Ext.refl β).b _,⟨_,rfl⟩,fun v hv hn=>by simp only [aS];rw [if_neg (by simpa using hn)],.d (.v _)⟩
    exact bM.perm (by classical rw [List.perm_iff_count];intro z;simp only [List.count_append,List.count_cons,List.count_nil];omega)
end Go.Proofs.YtlinpknagdgphaaGreat
namespace Go.Proofs.YtlinpknagdgphaaGreat
open Go.RowKit
variable {P:Program} {T:aW} {D:List Nat} {w0:World} {K0:World→Prop} {E:List (Nat×AV)} {M:List au} {β:Beta} {F:Nat→aA} {I X:aA} {ρ:Operand→Value} {w:World}
variable {d:Option Tmp} {ty:TypeId} {pos:String} {aft:Array Edge} {gd:Option (Nat×Bool)} {oc:Option bj} {out:Out}
def AZ (T:aW) (E:List (Nat×AV)) (M:List au) (t:TypeId) (x:Operand):Option Out:=
 match cV T t,aO E x with
 | some (.sl _),some (.d (.v (.slice none 0 0)))=>some (lk [] (.n 0) M)
 | _,_=>none
theorem Mw {x:Operand} {t e n c:Nat} {a:Option Addr} (ht:P.underlying t=some (.slice e)) (hx:ρ x=.slice a n c) (w:World):(execOp ρ ⟨d,.call ⟨.builtin .cap,#[x],#[t]⟩,ty,pos,aft,gd⟩).run P w=.ok (.value (.int .i64 (c:Int))) w:=by
 have:(Builtin.cap_ #[t] ty #[.slice a n c]).run P w=.ok (.int .i64 (c:Int)) w:=by
  unfold Builtin.cap_
  simp only [List.getElem?_toArray,List.getElem?_cons_zero,Sem.run_bind,run_underlying ht,Result.andThen_ok,Sem.run_pure];rfl
 simp only [execOp,resolve,List.map_toArray,List.map,hx,Sem.run_bind,Sem.run_pure,Result.andThen_ok,invoke,builtin,this]
theorem Mx (hT:bp P T=true) {t:TypeId} {x:Operand} (h:AZ T E M t x=some out):aP P ⟨d,.call ⟨.builtin .cap,#[x],#[t]⟩,ty,pos,aft,gd⟩ E M out:=by
 unfold AZ at h
 split at h
 ·rename_i e ht hx
  simp only [Option.some.injEq] at h;subst h
  have pC:=cE hT ht
  refine aP.same fun C dj=>?_
  obtain ⟨y,hy,r⟩:=C.bS hx
  cases r with
  | d hd=>cases hd;exact ⟨_,fun w' _=>Mw pC hy w',.d (.v _)⟩
 ·cases h
def Hv (P:Program) (f e:Nat):Prop:=∃ fn t,P.funcs[f]?=some fn∧(fn.name == "runtime.NumGoroutine")=false∧fn.body.isNone=true∧Extern.findNext fn=none∧Extern.find fn=some (Extern.BytealgMakeNoZero.makeNoZero fn.params fn.resultTypes)∧fn.resultTypes=#[t]∧P.underlying t=some (.slice e)
def A3 (P:Program) (E:List (Nat×AV)) (M:List au) (oc:Option bj) (g:Operand) (args:Array Operand):Option Out:=
 match aO E g,args,oc with
 | some (.fn f []),⟨[x]⟩,some (.n2 m e)=>(match cS (aO E x) with
  | some (.i64,z)=>some ⟨[Hv P f e,z=(m:Int),m≤281474976710656],.sl M.length m,M++[.rw e 1 (List.replicate m [.jk])],[],[],none⟩
  | _=>none)
 | _,_,_=>none
theorem My {f e m:Nat} (h:Hv P f e) (hm:m≤281474976710656) (w:World):∃ (c:Nat) (cs:Array Value),m≤c∧cs.size=c∧(callFunc f #[.int .i64 (m:Int)]).run P w=.ok (.value (.slice (some ⟨w.heap.size,0,none⟩) m c)) (w.drew.drew.alloc (.cells cs e (0,0))):=by
 obtain ⟨fn,t,h1,h2,h3,h4,h5,h6,h7⟩:=h
 obtain ⟨cs,hr,hc,-⟩:=Go.Lib.run_makeNoZero (P:=P) (w:=w) fn.params t e h7 m hm
 refine ⟨cs.size,cs,hc,rfl,?_⟩
 rw [run_callFunc_extern h1 h2 h3 h4 h5,h6,hr];rfl
theorem Mz {g:Operand} {args:Array Operand} {ey:Array TypeId} (h:A3 P E M oc g args=some out):aP P ⟨d,.call ⟨.value g,args,ey⟩,ty,pos,aft,gd⟩ E M out:=by
 unfold A3 at h
 split at h
 ·rename_i f x m e hg
  split at h
  ·rename_i z hx
   simp only [Option.some.injEq] at h;subst h
   intro D w0 K0 β F I ρ w C hv
   obtain ⟨hN,rfl,hm,-⟩:=hv
   obtain ⟨yg,eg,rg⟩:=C.bS hg
   have ex:=C.int hx
   cases rg with
   | fn cs hl hr=>
    have cX:cs=[]:=List.eq_nil_of_length_eq_zero (by simpa using hl)
    subst cX
    obtain ⟨c,cs,h1,h2,h3⟩:=My hN hm w
    refine bq.pure (v:=.slice (some ⟨w.heap.size,0,none⟩) m c) (w':=w.drew.drew.alloc (.cells cs e (0,0))) (by simp [execOp,resolve,eg,ex,Deferred.ofValue,invoke,h3]) ?_
    have gr:Gr w (w.drew.drew.alloc (.cells cs e (0,0))):=((Gr.drew w).trans (Gr.drew w.drew)).trans (Gr.alloc w.drew.drew _)
    have nf:dG w (w.drew.drew.alloc (.cells cs e (0,0))) [(w.heap.size,.cells cs e (0,0))]:=(dG.alloc w.drew.drew (.cells cs e (0,0))).ahead ((Gr.drew w).trans (Gr.drew w.drew))
    refine ⟨_,_,I,C.rm.new (q:=(some ⟨w.heap.size,0,none⟩,c)) gr nf ?_,(Ext.app _ _).b _,bL.refl _,kJ _ _,.sl (fA C.rm _)⟩
    have hX:∀ i,i<m→([cs[i]!]:List Value).length=1:=fun _ _=>rfl
    have nI:lay m (fun i=>[cs[i]!])=cs.toList.take m:=by
     have key:∀ k,k≤cs.size→lay k (fun i=>[cs[i]!])=cs.toList.take k:=by
      intro k
      induction k with
      | zero=>intro _;simp [lay]
      | succ k ih=>
       intro hk
       have:=ih (by omega)
       simp only [lay] at this ⊢
       rw [List.range_succ,List.flatMap_append,this,List.take_add_one,Array.getElem?_toList,Array.getElem?_eq_getElem (by omega)]
       simp [getElem!_pos cs k (by omega)]
     exact key m (by omega)
    have:=bK.rw (K:=fun w=>K0 w∧az w I) (β:=β++[(some ⟨w.heap.size,0,none⟩,c)]) (u:=M.length) (T:=e) (k:=1) (rows:=List.replicate m [.jk]) (H0:=[(w.heap.size,.cells cs e (0,0))]) (fA C.rm _) (fun i=>[cs[i]!]) (fun _ _=>[]) (fun i r hi=>by
     rw [List.getElem?_replicate] at hi
     split at hi
     ·simp only [Option.some.injEq] at hi;subst hi;exact ⟨rfl,rfl⟩
     ·simp at hi) (by
     rw [List.length_replicate]
     exact ⟨by rw [nI];simp;omega,Or.inr ⟨w.heap.size,c,_,(0,0),rfl,rfl,kZ _,by rw [h2];omega,h1,by rw [nI];simp⟩⟩) (fun i r j q x hi h1 h2=>by
     rw [List.getElem?_replicate] at hi
     split at hi
     ·simp only [Option.some.injEq] at hi;subst hi
      cases j with
      | succ j=>simp at h1
      | zero=>simp at h1;subst h1;exact .jk _
     ·simp at hi)
    rw [l8,List.append_nil] at this
    exact this
  ·cases h
 ·cases h
end Go.Proofs.YtlinpknagdgphaaGreat
namespace Go.Proofs.YtlinpknagdgphaaGreat
open Go.RowKit
variable {P:Program} {T:aW} {D:List Nat} {w0:World} {K0:World→Prop} {E:List (Nat×AV)} {M:List au} {β:Beta} {F:Nat→aA} {I:aA} {ρ:Operand→Value} {w:World}
variable {d:Option Tmp} {ty:TypeId} {pos:String} {aft:Array Edge} {gd:Option (Nat×Bool)} {oc:Option bj} {out:Out}
def A4 (T:aW) (E:List (Nat×AV)) (M:List au) (oc:Option bj) (t:TypeId) (len:Nat) (parts:Array (Nat×Operand)):Option Out:=
 match oc with
 | some (.stay _ (.ro k' rows'))=>(match wG T E M t len parts with
  | some ⟨vc,.sl u n,M1,tc,mv,none⟩=>(match sK M1 (.sl u n) (.d (.ro k' rows')) with
   | some (v2,b)=>bif mz M1 b&&b.all fun v=>Nat.ble M.length v then some ⟨v2++vc,.d (.ro k' rows'),nJ M1 b,tc,mv,none⟩ else none
   | none=>none)
  | _=>none)
 | _=>none
theorem MA (hT:bp P T=true) {t:TypeId} {len:Nat} {parts:Array (Nat×Operand)} (h:A4 T E M oc t len parts=some out):aP P ⟨d,.buildSlice t len parts,ty,pos,aft,gd⟩ E M out:=by
 unfold A4 at h
 split at h
 ·rename_i k' rows'
  split at h
  ·rename_i vc u n M1 tc mv hs
   split at h
   ·rename_i v2 b hl
    cases hc:(mz M1 b&&b.all fun v=>Nat.ble M.length v) with
    | false=>simp [hc] at h
    | true=>
     simp only [hc,cond_true,Option.some.injEq] at h;subst h
     simp only [Bool.and_eq_true] at hc
     have hd:aP P ⟨d,.buildSlice t len parts,ty,pos,aft,gd⟩ E M ⟨vc,.sl u n,M1,tc,mv,none⟩:=Fc hT hs
     intro D w0 K0 β F I ρ w C hv
     obtain ⟨c8,bg⟩:=bw.app.1 hv
     refine bq.mono (hd C bg) fun v w' ⟨aF,F',I',R,e,g,f,a⟩=>?_
     obtain ⟨F2,I2,R2,g2,bM,fP⟩:=RM.die R (vb hc.1)
     have a2:=u9 R (K':=fun w=>K0 w∧az w I2) hl c8 (fun w hw=>⟨⟨hw.1,g2.holds w hw.2⟩,bM w hw.2⟩) a
     refine ⟨aF,F2,I2,R2,e,g.trans g2,fun x hx hn=>(fP x fun hb=>?_).trans (f x hx hn),?_⟩
     ·have:=Nat.le_of_ble_eq_true (List.all_eq_true.1 hc.2 x hb);omega
     ·cases a2 with | d h=>exact .d h
   ·simp at h
  ·simp at h
 ·simp at h
end Go.Proofs.YtlinpknagdgphaaGreat
namespace Go.Proofs.YtlinpknagdgphaaGreat
open Go.RowKit
variable {P:Program} {T:aW} {D:List Nat} {w0:World} {K0:World→Prop} {E:List (Nat×AV)} {M:List au} {β:Beta} {F:Nat→aA} {I X:aA} {ρ:Operand→Value} {w:World}
variable {d:Option Tmp} {ty:TypeId} {pos:String} {aft:Array Edge} {gd:Option (Nat×Bool)} {oc:Option bj} {out:Out}
theorem KS {G:Nat→aA} {n j:Nat} (hj:j<n) (X:aA):((List.range n).flatMap (aS G j X)++G j).Perm ((List.range n).flatMap G++X):=by
 rw [range_split hj G,range_split hj (aS G j X)]
 have c1:(List.range j).flatMap (aS G j X)=(List.range j).flatMap G:=eL fun a ha=>by have:=List.mem_range.1 ha;simp [aS];omega
 have c2:(List.range' (j+1) (n-(j+1))).flatMap (aS G j X)=(List.range' (j+1) (n-(j+1))).flatMap G:=eL fun a ha=>by have:=(List.mem_range'_1.1 ha).1;simp [aS];omega
 have fM:aS G j X j=X:=by simp [aS]
 rw [c1,c2,fM]
 classical
 rw [List.perm_iff_count];intro z
 simp only [List.count_append];omega
def cU (es:List (Nat×MK×DV)) (j:Nat) (x:DV):List (Nat×MK×DV):=es.modify j fun e=>(e.1,e.2.1,x)
theorem vj (es:List (Nat×MK×DV)) (j:Nat) (x:DV):(cU es j x).map (fun e=>e.2.1)=es.map fun e=>e.2.1:=by
 apply List.ext_getElem?
 intro i
 unfold cU
 rw [List.getElem?_map,List.getElem?_map,List.getElem?_modify]
 cases es[i]? with
 | none=>rfl
 | some e=>by_cases h:j=i<;>simp [h]
theorem vw {es:List (Nat×MK×DV)} {j b:Nat} {k:MK} {x:DV} (h:es[j]?=some (b,k,x)) (y:DV):(cU es j y)[j]?=some (b,k,y):=by
 unfold cU;rw [List.getElem?_modify,h];simp
theorem yz (es:List (Nat×MK×DV)) (j:Nat) (x y:DV):cU (cU es j x) j y=cU es j y:=by
 apply List.ext_getElem?
 intro i
 unfold cU
 rw [List.getElem?_modify,List.getElem?_modify,List.getElem?_modify]
 cases es[i]? with
 | none=>rfl
 | some e=>by_cases h:j=i<;>simp [h]
theorem KT (es:List (Nat×MK×DV)) (b:Nat) (k:MK) (x y:DV):cU (es++[(b,k,x)]) es.length y=es++[(b,k,y)]:=by
 apply List.ext_getElem?
 intro i
 unfold cU
 rw [List.getElem?_modify]
 rcases Nat.lt_trichotomy i es.length with h | h | h
 ·rw [List.getElem?_append_left h,List.getElem?_append_left h];simp [show es.length≠i by omega]
 ·subst h;simp
 ·rw [List.getElem?_eq_none (by simp;omega),List.getElem?_eq_none (by simp;omega)];simp
theorem KU {es:List (Nat×MK×DV)} {vs:List Value} {j:Nat} (x:DV):cq (cU es j x) vs=cq es vs:=by
 apply List.ext_getElem?
 intro i
 unfold cU
 rw [mb,mb,List.getElem?_modify]
 cases es[i]? with
 | none=>simp
 | some e=>by_cases h:j=i<;>simp [h]<;>cases vs[i]?<;>rfl
theorem bR.BH {Y:aA} {u Tm ck j b0:Nat} {k:MK} {es:List (Nat×MK×DV)} {x x':DV} {H:aA} {vs:List Value} {bm:Nat} {c:Nat} {G:Nat→aA} (R:bR D w0 K0 M β F I ((bm,.map (cq es vs).toArray ck)::(List.range es.length).flatMap G++(H++Y)) w) (hu:u<M.length) (hF:F u=[]) (hb:β[u]?=some (some ⟨bm,0,none⟩,c)) (he:es[j]?=some (b0,k,x)) (hl:vs.length=es.length)
  (hr:∀ (i:Nat) e y,es[i]?=some e→vs[i]?=some y→bQ (fun w=>K0 w∧az w I) e.2.2 y (G i)) (hx:∀ y,vs[j]?=some y→bQ (fun w=>K0 w∧az w I) x' y H):
  bR D w0 K0 (M.set u (.mp Tm ck (cU es j x'))) β (aS F u ((bm,.map (cq es vs).toArray ck)::(List.range es.length).flatMap (aS G j H))) I (G j++Y) w:=by
 obtain ⟨hj,-⟩:=List.getElem?_eq_some_iff.1 he
 have mE:=KS (G:=G) hj H
 have dY:bK (fun w=>K0 w∧az w I) β u (.mp Tm ck (cU es j x')) ((bm,.map (cq es vs).toArray ck)::(List.range es.length).flatMap (aS G j H)):=by
  have:=bK.mp (K:=fun w=>K0 w∧az w I) (T:=Tm) (ck:=ck) (es:=cU es j x') hb vs (aS G j H) (by simp [cU,hl]) (fun i e y h1 h2=>by
   unfold cU at h1
   rw [List.getElem?_modify] at h1
   simp only [aS]
   by_cases hi:j=i
   ·subst hi
    rw [he] at h1;simp at h1;subst h1
    rw [if_pos rfl];exact hx y h2
   ·simp only [if_neg hi] at h1
    rw [if_neg (fun e=>hi e.symm)]
    cases pA:es[i]? with
    | none=>rw [pA] at h1;simp at h1
    | some e0=>rw [pA] at h1;simp at h1;subst h1;exact hr i _ y pA h2)
  rw [KU,show (cU es j x').length=es.length by simp [cU]] at this
  exact this
 exact (R.perm (Y:=((bm,.map (cq es vs).toArray ck)::(List.range es.length).flatMap (aS G j H))++(G j++Y)) (by
  classical
  have hc:=List.perm_iff_count.1 mE
  rw [List.perm_iff_count];intro z
  have:=hc z
  simp only [List.count_append,List.count_cons] at this ⊢
  omega)).back hu hF dY
theorem RM.RG (R:RM D w0 K0 M β F I w) {u Tm ck j b0 T k2:Nat} {k:MK} {es:List (Nat×MK×DV)} {rows:List (List DV)} (hM:M[u]?=some (.mp Tm ck es)) (he:es[j]?=some (b0,k,.em T k2 rows)):
  ∃ y aF F',RM D w0 K0 (M.set u (.mp Tm ck (cU es j (.v y)))++[.rw T k2 rows]) aF F' I w∧Ext β aF∧(∀ v,v<M.length→v≠u→F' v=F v)∧aE (fun w=>K0 w∧az w I) aF (.sl M.length rows.length) y:=by
 have hB:=R.blk u _ hM
 have aK:=eB hM
 have R1:=R.x.ea hM
 generalize hC:F u=Fu at hB R1
 cases hB with
 | @mp bm c _ _ _ hb vs G hl hr=>
  obtain ⟨hj,-⟩:=List.getElem?_eq_some_iff.1 he
  have gl:vs[j]?=some vs[j]:=List.getElem?_eq_getElem (by omega)
  have hd:=hr j _ _ he gl
  have R2:=bR.BH (Y:=[]) (H:=[]) (x':=.v vs[j]) (Tm:=Tm) (R1.perm (by rw [List.nil_append,List.append_nil,List.append_nil])) (by rw [List.length_set];exact aK) (by simp [aS]) hb he hl hr (fun y hy=>by rw [gl] at hy;cases hy;exact .v _)
  rw [List.set_set] at R2
  obtain ⟨iK,F2,R3,e,hF,-,a⟩:=qc (x:=.em T k2 rows) rfl R2 hd
  refine ⟨vs[j],iK,F2,R3.nil rfl,e,fun v hv dN=>?_,?_⟩
  ·rw [hF v (by rw [List.length_set];exact hv)];simp [aS,dN]
  ·simpa [nH] using a
theorem RM.SC (R:RM D w0 K0 M β F I w) {u Tm ck j b0:Nat} {k:MK} {es:List (Nat×MK×DV)} {y:Value} (hM:M[u]?=some (.mp Tm ck es)) (he:es[j]?=some (b0,k,.v y)):
  ∃ F',RM D w0 K0 (M.set u (.mp Tm ck (cU es j .jk))) β F' I w∧∀ v,v≠u→F' v=F v:=by
 have hB:=R.blk u _ hM
 have aK:=eB hM
 have R1:=R.x.ea hM
 generalize hC:F u=Fu at hB R1
 cases hB with
 | @mp bm c _ _ _ hb vs G hl hr=>
  obtain ⟨hj,-⟩:=List.getElem?_eq_some_iff.1 he
  have gl:vs[j]?=some vs[j]:=List.getElem?_eq_getElem (by omega)
  have hd:=hr j _ _ he gl
  have hG:G j=[]:=by generalize G j=H at hd;cases hd;rfl
  have R2:=bR.BH (Y:=[]) (H:=[]) (x':=.jk) (Tm:=Tm) (R1.perm (by rw [List.nil_append,List.append_nil,List.append_nil])) (by rw [List.length_set];exact aK) (by simp [aS]) hb he hl hr (fun y hy=>.jk _)
  rw [List.set_set,hG] at R2
  exact ⟨_,R2.nil rfl,fun v dN=>by simp [aS,dN]⟩
theorem RM.SD (R:RM D w0 K0 M β F I w) {u v n Tm ck j b0 T k2:Nat} {k:MK} {es:List (Nat×MK×DV)} {rows:List (List DV)} {y:Value} (hM:M[u]?=some (.mp Tm ck es)) (he:es[j]?=some (b0,k,.v y)) (hv:M[v]?=some (.rw T k2 rows)) (hn:n=rows.length) (r:aE (fun w=>K0 w∧az w I) β (.sl v n) y):
  ∃ F',RM D w0 K0 ((M.set v .dead).set u (.mp Tm ck (cU es j (.em T k2 rows)))) β F' I w∧∀ z,z≠u→z≠v→F' z=F z:=by
 have k7:u≠v:=fun e=>by subst e;rw [hM] at hv;cases hv
 have Is:=R.blk v _ hv
 have R1:=R.x.ea hv
 rw [List.nil_append] at R1
 have hd:bQ (fun w=>K0 w∧az w I) (.em T k2 rows) y (F v):=by
  generalize F v=G0 at Is
  cases r with
  | sl hb=>cases Is with | rw aV X G hl hs hr=>rw [hb] at aV;cases aV;rw [hn];exact .em X G hl hs hr
 have iY:(M.set v .dead)[u]?=some (.mp Tm ck es):=by rw [List.getElem?_set,if_neg (fun e=>k7 e.symm)];exact hM
 have Cv:=R1.blk u _ iY
 have aK:=eB iY
 have R2:=R1.ea iY
 have hC:aS F v [] u=F u:=by simp [aS,k7]
 rw [hC] at Cv R2
 generalize hq:F u=Fu at Cv R2
 cases Cv with
 | @mp bm c _ _ _ hb vs G hl hr=>
  obtain ⟨hj,-⟩:=List.getElem?_eq_some_iff.1 he
  have gl:vs[j]?=some vs[j]:=List.getElem?_eq_getElem (by omega)
  have Cw:=hr j _ _ he gl
  obtain ⟨hG,tC⟩:G j=[]∧vs[j]=y:=by
   generalize vs[j]=z at Cw
   generalize G j=H at Cw
   cases Cw with | v=>exact ⟨rfl,rfl⟩
  have R3:=bR.BH (Y:=[]) (H:=F v) (x':=.em T k2 rows) (Tm:=Tm) (R2.perm (by rw [List.append_nil];exact List.perm_append_comm)) (by rw [List.length_set];exact aK) (by simp [aS]) hb he hl hr (fun y' lW=>by rw [gl] at lW;cases lW;rw [tC];exact hd)
  rw [List.set_set,hG] at R3
  exact ⟨_,R3.nil rfl,fun z h1 h2=>by simp [aS,h1,h2]⟩
def z4 (P:Program) (T:aW) (E:List (Nat×AV)) (M:List au) (oc:Option bj) (t:TypeId) (m k:Operand) (ok:Bool):Option Out:=
 match cV T t,aO E m,aO E k,oc with
 | some (.mp K _),some (.mv u),some ak,some (.mk j k' (.em Tq kq rows))=>(match kC ak,M[u]? with
  | some mk,some (.mp t' c es)=>some ⟨[b5 P K (mk::es.map fun e=>e.2.1),k'=mk,(es.map fun e=>e.2.1).Nodup,∃ b,es[j]?=some (b,k',.em Tq kq rows)],bif ok then .tu [.sl M.length rows.length,.b true] else .sl M.length rows.length,M.set u (.mp t' c (cU es j .jk))++[.rw Tq kq rows],[u],[],none⟩
  | _,_=>none)
 | _,_,_,_=>none
theorem KV (hT:bp P T=true) {t:TypeId} {m k:Operand} {ok:Bool} (h:z4 P T E M oc t m k ok=some out):aP P ⟨d,.lookup t m k ok,ty,pos,aft,gd⟩ E M out:=by
 unfold z4 at h
 split at h
 ·rename_i K Te u ak j k' Tq kq rows ht hm hk
  split at h
  ·rename_i mk t' c es df hM
   simp only [Option.some.injEq] at h;subst h
   have aK:=eB hM
   intro D w0 K0 β F I ρ w C hv
   obtain ⟨q1,q2,q3,⟨b,q4⟩,-⟩:=hv
   obtain ⟨y,kI,F1,R1,e1,f1,a1⟩:=C.rm.RG hM q4
   have iY:(M.set u (.mp t' c (cU es j (.v y)))++[au.rw Tq kq rows])[u]?=some (.mp t' c (cU es j (.v y))):=by
    rw [List.getElem?_append_left (by rw [List.length_set];exact aK),List.getElem?_set];simp [aK]
   have C1:Ctx D w0 K0 E (M.set u (.mp t' c (cU es j (.v y)))++[au.rw Tq kq rows]) kI F1 I ρ w:=⟨R1,fun t v hv=>(C.sl t v hv).mono (fun _ h=>h) e1,C.const,C.func,C.wB,C.k⟩
   have hl:sL P T E (M.set u (.mp t' c (cU es j (.v y)))++[au.rw Tq kq rows]) (some (.mk j k' (.v y))) t m k ok=some ⟨[b5 P K (mk::(cU es j (.v y)).map fun e=>e.2.1),k'=mk,((cU es j (.v y)).map fun e=>e.2.1).Nodup,∃ b,(cU es j (.v y))[j]?=some (b,k',.v y)],bif ok then .tu [.d (.v y),.b true] else .d (.v y),M.set u (.mp t' c (cU es j (.v y)))++[au.rw Tq kq rows],[],[],some [u]⟩:=by
    unfold sL
    simp only [ht,hm,hk,df,iY]
    rfl
   have hd:aP P ⟨d,.lookup t m k ok,ty,pos,aft,gd⟩ E _ _:=Ex hT hl
   obtain ⟨v,r,fc⟩:=hd.1 C1 ⟨by rw [vj];exact q1,q2,by rw [vj];exact q3,⟨b,vw q4 _⟩,trivial⟩
   obtain ⟨F2,R2,f2⟩:=R1.SC iY (vw q4 _)
   rw [yz,List.set_append_left _ _ (by rw [List.length_set];exact aK),List.set_set] at R2
   refine bq.pure (fc w (C1.wC fun z hz=>by simp only [List.mem_singleton] at hz;subst hz;rw [List.length_append,List.length_set];omega)) ⟨kI,F2,I,R2,e1.b _,bL.refl _,fun z hz hn=>?_,?_⟩
   ·have dN:z≠u:=by simpa using hn
    rw [f2 z dN,f1 z hz dN]
   ·cases ok with
    | true=>
     simp only [cond_true] at r ⊢
     cases r with
     | tu ys hl hr=>
      match ys,hl with
      | [y1,y2],_=>
       have r1:=hr 0 _ _ rfl rfl
       have r2:=hr 1 _ _ rfl rfl
       cases r1 with
       | d hd=>cases hd;exact sk a1 r2
    | false=>
     simp only [cond_false] at r ⊢
     cases r with | d hd=>cases hd;exact a1
  ·cases h
 ·cases h
theorem Ctx.raw (C:Ctx D w0 K0 E M β F I ρ w) (t:Nat):Ctx D w0 K0 ((t,.d (.v (ρ (.tmp t))))::E) M β F I ρ w:=⟨C.rm,fun s v hv=>by
 unfold bO at hv
 cases hb:t.beq s with
 | true=>simp only [hb,cond_true,Option.some.injEq] at hv;subst hv;rw [Nat.eq_of_beq_eq_true hb];exact .d (.v _)
 | false=>simp only [hb,cond_false] at hv;exact C.sl s v hv,C.const,C.func,C.wB,C.k⟩
theorem z5 {t:Nat} {v:DV} {x:Operand} {a b:AV} (hx:aO E (.tmp t)=some a) (h:aO E x=some b) (dN:a≠b):aO ((t,.d v)::E) x=some b:=by
 cases x with
 | tmp s=>
  simp only [aO,bO] at *
  cases hb:t.beq s with
  | true=>rw [Nat.eq_of_beq_eq_true hb] at hx;rw [hx] at h;cases h;exact absurd rfl dN
  | false=>simpa using h
 | const c=>exact h
 | func f=>exact h
 | global g=>exact h
def qi (P:Program) (T:aW) (E:List (Nat×AV)) (M:List au) (oc:Option bj) (t:TypeId) (m k x:Operand):Option Out:=
 match cV T t,aO E m,aO E k,aO E x with
 | some (.mp K _),some (.mv u),some ak,some (.sl v n)=>(match kC ak,M[u]?,M[v]?,oc with
  | some mk,some (.mp t' c es),some (.rw Tq kq rows),some (.b false)=>some ⟨[b5 P K (mk::es.map fun e=>e.2.1),∀ e ∈ es,e.2.1≠mk,n=rows.length],.d .jk,(M.set v .dead).set u (.mp t' (c+1) (es++[(c,mk,.em Tq kq rows)])),[u,v],[],none⟩
  | some mk,some (.mp t' c es),some (.rw Tq kq rows),some (.mk j k' xo)=>some ⟨[b5 P K (mk::es.map fun e=>e.2.1),k'=mk,(es.map fun e=>e.2.1).Nodup,xo.iW=true,∃ b,es[j]?=some (b,k',xo),n=rows.length],.d .jk,(M.set v .dead).set u (.mp t' c (cU es j (.em Tq kq rows))),[u,v],[],none⟩
  | _,_,_,_=>none)
 | _,_,_,_=>none
theorem Gj {ak:AV} {mk:MK} (h:kC ak=some mk) (u n:Nat):AV.sl u n≠ak:=by rintro rfl;simp [kC] at h
theorem Dd (hT:bp P T=true) {t:TypeId} {m k x:Operand} (h:qi P T E M oc t m k x=some out) {D:List Nat} {w0:World} {K0:World→Prop} {β:Beta} {F:Nat→aA} {I:aA} {ρ:Operand→Value} {w:World} (C:Ctx D w0 K0 E M β F I ρ w) (hv:bw out.vc):
  ∃ w',(Instr.mapUpdate t (ρ m) (ρ k) (ρ x)).run P w=.ok () w'∧∃ aF F' I',RM D w0 K0 out.M aF F' I' w'∧fq out.mv β aF∧bL I I'∧(∀ u,u<M.length→u ∉ out.tc→F' u=F u)∧aE (fun w=>K0 w∧az w I') aF out.av undef:=by
 unfold qi at h
 split at h
 ·rename_i K Te u ak v n ht hm hk hx
  have jU:∃ tx,x=.tmp tx:=by
   cases x with
   | tmp s=>exact ⟨s,rfl⟩
   | const c=>simp [aO] at hx
   | func f=>simp [aO] at hx
   | global g=>simp [aO] at hx
  obtain ⟨tx,rfl⟩:=jU
  have rx:=C.ev hx
  have C1:=C.raw tx
  have It:aO ((tx,.d (.v (ρ (.tmp tx))))::E) m=some (.mv u):=z5 hx hm (by simp)
  have xe:aO ((tx,AV.d (.v (ρ (.tmp tx))))::E) (.tmp tx)=some (.d (.v (ρ (.tmp tx)))):=by simp [aO,bO]
  have fin:∀ {mk:MK} {t' c c' j b:Nat} {k0:MK} {es es':List (Nat×MK×DV)} {Tq kq:Nat} {rows:List (List DV)} {vc:List Prop} {oc':Option bj} {tc:List Nat},kC ak=some mk→M[u]?=some (.mp t' c es)→M[v]?=some (.rw Tq kq rows)→n=rows.length→
    mi P T ((tx,AV.d (.v (ρ (.tmp tx))))::E) M oc' t m k (.tmp tx)=some ⟨vc,.d .jk,M.set u (.mp t' c' es'),[u],[],none⟩→bw vc→es'[j]?=some (b,k0,.v (ρ (.tmp tx)))→
    ∃ w',(Instr.mapUpdate t (ρ m) (ρ k) (ρ (.tmp tx))).run P w=.ok () w'∧∃ aF F' I',RM D w0 K0 ((M.set v .dead).set u (.mp t' c' (cU es' j (.em Tq kq rows)))) aF F' I' w'∧fq [] β aF∧bL I I'∧(∀ z,z<M.length→z ∉ [u,v]→F' z=F z)∧aE (fun w=>K0 w∧az w I') aF (.d .jk) undef:=by
   intro mk t' c c' j b k0 es es' Tq kq rows vc oc' tc df hM pE hn hs dj hj
   obtain ⟨w',fc,kI,F1,I1,R1,e1,g1,f1,r1⟩:=xF hT hs C1 dj
   have aK:=eB hM
   have k7:u≠v:=fun e=>by subst e;rw [hM] at pE;cases pE
   have iY:(M.set u (.mp t' c' es'))[u]?=some (.mp t' c' es'):=by rw [List.getElem?_set];simp [aK]
   have bg:(M.set u (.mp t' c' es'))[v]?=some (.rw Tq kq rows):=by rw [List.getElem?_set,if_neg k7];exact pE
   have SE:aE (fun w=>K0 w∧az w I1) kI (.sl v n) (ρ (.tmp tx)):=rx.mono (fun w hw=>⟨hw.1,g1.holds w hw.2⟩) fun z q hq=>e1 z q (by simp) hq
   obtain ⟨F2,R2,f2⟩:=R1.SD iY hj bg hn SE
   rw [List.set_comm _ _ k7,List.set_set] at R2
   refine ⟨w',fc,kI,F2,I1,R2,e1,g1,fun z hz xf=>?_,r1⟩
   simp only [List.mem_cons,List.not_mem_nil,or_false,not_or] at xf
   rw [f2 z xf.1 xf.2,f1 z hz (by simp [xf.1])]
  split at h
  ·rename_i mk t' c es Tq kq rows df hM pE
   simp only [Option.some.injEq] at h;subst h
   obtain ⟨dQ,cY,hn,-⟩:=hv
   have iX:aO ((tx,AV.d (.v (ρ (.tmp tx))))::E) k=some ak:=z5 hx hk (Gj df _ _)
   have:=fin (j:=es.length) (b:=c) (k0:=mk) (oc':=some (.b false)) (c':=c+1) (es':=es++[(c,mk,.v (ρ (.tmp tx)))]) (vc:=[b5 P K (mk::es.map fun e=>e.2.1),∀ e ∈ es,e.2.1≠mk]) (tc:=[]) df hM pE hn (by
    unfold mi
    simp only [ht,It,iX,xe,df,hM]
    rfl) ⟨dQ,cY,trivial⟩ (by simp)
   rw [KT] at this
   exact this
  ·rename_i mk t' c es Tq kq rows j k' xo df hM pE
   simp only [Option.some.injEq] at h;subst h
   obtain ⟨dQ,rfl,de,js,⟨b,hj⟩,hn,-⟩:=hv
   have iX:aO ((tx,AV.d (.v (ρ (.tmp tx))))::E) k=some ak:=z5 hx hk (Gj df _ _)
   have:=fin (j:=j) (b:=b) (k0:=k') (oc':=some (.mk j k' xo)) (c':=c) (es':=cU es j (.v (ρ (.tmp tx)))) (vc:=[b5 P K (k'::es.map fun e=>e.2.1),k'=k',(es.map fun e=>e.2.1).Nodup,xo.iW=true,∃ b,es[j]?=some (b,k',xo)]) (tc:=[]) df hM pE hn (by
    unfold mi
    rw [ht,It,iX,xe]
    show (match kC ak,sW M (some (.mk j k' xo)) (.d (.v (ρ (.tmp tx)))),M[u]?,some (bj.mk j k' xo) with
     | some mk,some dv,some (.mp t' c es),some (.b false)=>_
     | some mk,some dv,some (.mp t' c es),some (.n _)=>_
     | some mk,some dv,some (.mp t' c es),some (.mk j k' x)=>_
     | _,_,_,_=>none)=_
    rw [df,hM]
    rfl) ⟨dQ,rfl,de,js,⟨b,hj⟩,trivial⟩ (vw hj _)
   rw [yz] at this
   exact this
  ·cases h
 ·cases h
theorem Dq (hT:bp P T=true) {t:TypeId} {m k x:Operand} (h:qi P T E M oc t m k x=some out):aP P ⟨d,.mapUpdate t m k x,ty,pos,aft,gd⟩ E M out∧aP P ⟨d,.insert t m k x,ty,pos,aft,gd⟩ E M out:=by
 have e:out.rd=none:=by
  unfold qi at h
  split at h
  ·split at h
   ·simp only [Option.some.injEq] at h;subst h;rfl
   ·simp only [Option.some.injEq] at h;subst h;rfl
   ·simp at h
  ·simp at h
 constructor
 ·unfold aP;rw [e]
  intro D w0 K0 β F I ρ w C hv
  obtain ⟨w',hr,aR⟩:=Dd hT h C hv
  exact Db rfl rfl rfl hr aR
 ·unfold aP;rw [e]
  intro D w0 K0 β F I ρ w C hv
  obtain ⟨w',hr,aR⟩:=Dd hT h C hv
  exact .skip (by simp only [execOp,Sem.run_bind,hr,Result.andThen_ok,Sem.run_pure]) aR
def zb (E:List (Nat×AV)) (M:List au) (oc:Option bj) (x:Operand):Option Out:=match aO E x,oc with
 | some (.pt ui o),some (.wY j k dv _)=>(match M[ui]? with
  | some (.it (some um) _ seen c)=>(match M[um]? with
   | some (.mp _ ck es)=>bif Nat.beq o 0 then some ⟨[∃ b s,es[j]?=some (b,k,dv)∧seen=s++[b],(es.map fun e=>e.1).Nodup,c=ck],.tu [tL k,.d .jk],M,[],[],some [ui,um]⟩ else none
   | _=>none)
  | _=>none)
 | _,_=>none
theorem JV {x:Operand} (h:zb E M oc x=some out):aP P ⟨d,.entry x,ty,pos,aft,gd⟩ E M out:=by
 unfold zb at h
 split at h
 ·rename_i ui o j k dv i0 hx
  split at h
  ·rename_i um since seen c hI
   split at h
   ·rename_i t' ck es hM
    cases ho:Nat.beq o 0 with
    | false=>simp [ho] at h
    | true=>
     simp only [ho,cond_true,Option.some.injEq] at h;subst h
     have sX:=(List.getElem?_eq_some_iff.1 hI).1
     have sY:=(List.getElem?_eq_some_iff.1 hM).1
     refine aP.look (fun C hq=>?_) (by simp;exact ⟨sX,sY⟩)
     obtain ⟨hj,de,hc,-⟩:=hq
     obtain rfl:=Nat.eq_of_beq_eq_true ho
     subst hc
     obtain ⟨b,s,hj,rfl⟩:=hj
     obtain ⟨ym,iJ,rm⟩:=C.bS hx
     cases rm with
     | @pt _ _ bi ci hb=>
      obtain ⟨H1,iV,mU,-⟩:=C.rm.at hI
      obtain ⟨H2,fP,mV,-⟩:=C.rm.at hM
      cases mU with
      | it la hm=>
       rw [hb] at la;cases la
       obtain ⟨c',mW⟩:=hm um rfl
       cases mV with
       | mp aV vs G hl hr=>
        rw [mW] at aV;cases aV
        obtain ⟨xc,-⟩:=List.getElem?_eq_some_iff.1 hj
        have gl:vs[j]?=some vs[j]:=List.getElem?_eq_getElem (by omega)
        refine ⟨.tuple #[k.val,vs[j]],sk (Ge k) (.d (.jk _)),fun w' hs=>?_⟩
        have g1:=hs.2 ui (by simp)
        have g2:=hs.2 um (by simp)
        rw [iV] at g1;rw [fP] at g2
        have q1:=g1.one
        have q2:=g2.one
        have he:=List.mem_of_getElem? (qA hj gl)
        have iH:=Dp (P:=P) (seen:=s.toArray) (en:={ key:=k.val,val:=vs[j],born:=b }) (by simpa using q1) q2 (by simpa using he) (by simpa [Ew hl] using de)
        simp only [execOp,iJ,Sem.run_bind,iH,Result.andThen_ok,Sem.run_pure]
   ·simp at h
  ·simp at h
 ·simp at h
def z6 (E:List (Nat×AV)) (M:List au) (fn:Fn) (first bZ:Array Operand):Option Out:=
 match fn,bZ with
 | .func f,⟨[]⟩=>(match jN E first.toList with | some l=>some (lk [] (.fm f l) M) | none=>none)
 | _,_=>none
theorem KW {fn:Fn} {first bZ:Array Operand} (h:z6 E M fn first bZ=some out):aP P ⟨d,.makeFunc fn first bZ,ty,pos,aft,gd⟩ E M out:=by
 unfold z6 at h
 split at h
 ·rename_i f
  split at h
  ·rename_i l hl
   simp only [Option.some.injEq] at h;subst h
   refine aP.same ?_
   intro D w0 K0 β F I ρ w C _
   obtain ⟨h1,h2⟩:=C.k5 hl
   refine ⟨_,fun w' _=>?_,aE.fm _ h1 h2⟩
   have hm:(first.toList.map ρ).toArray=first.map ρ:=by rw [← Array.toList_map]
   simp [execOp,Instr.makeFunc,hm]
  ·simp at h
 ·simp at h
def o1 (P:Program) (t:TypeId):Prop:=(match P.underlying t with | some (.func ..)=>true | _=>false)=true
def A5 (P:Program) (E:List (Nat×AV)) (M:List au) (op:BinOp) (t:TypeId) (x y:Operand):Option Out:=
 match op,y,aO E x with
 | .eql,.const .nilFunc,some (.fm _ _)=>some (lk [o1 P t] (.b false) M)
 | .eql,.const .nilFunc,some (.fn _ _)=>some (lk [o1 P t] (.b false) M)
 | _,_,_=>none
theorem MB {op:BinOp} {t t':TypeId} {x y:Operand} (h:A5 P E M op t x y=some out):aP P ⟨d,.binOp op t x y t',ty,pos,aft,gd⟩ E M out:=by
 have key:∀ {v:AV},aO E x=some v→(∀ {K:World→Prop} {β:Beta} {y:Value},aE K β v y→∃ g fs cs,y=.func g fs cs)→aP P ⟨d,.binOp .eql t x (.const .nilFunc) t',ty,pos,aft,gd⟩ E M (lk [o1 P t] (.b false) M):=fun {v} hx hv=>by
  refine aP.same fun C dj=>?_
  obtain ⟨y,hy,r⟩:=C.bS hx
  obtain ⟨g,fs,cs,rfl⟩:=hv r
  refine ⟨.bool false,fun w' _=>?_,.d (.v _)⟩
  have h2:o1 P t:=dj.1
  unfold o1 at h2
  split at h2
  ·rename_i hu
   have:∀ m,(Op.equalIn (m+1) t (.func g fs cs) .nilFunc).run P w'=.ok false w':=by
    intro m;simp [Op.equalIn,Sem.run_bind,run_underlying hu]
   simp [execOp,hy,C.const,eqGuard,binOp,Op.equal,Op.maxDepth,this 9999]
  ·cases h2
 unfold A5 at h
 split at h
 ·rename_i hx;simp only [Option.some.injEq] at h;subst h
  exact key hx fun r=>by cases r with | fm=>exact ⟨_,_,_,rfl⟩
 ·rename_i hx;simp only [Option.some.injEq] at h;subst h
  exact key hx fun r=>by cases r with | fn=>exact ⟨_,_,_,rfl⟩
 ·cases h
theorem MC {Φ:Value→World→Prop} {g:Operand} {args:Array Operand} {ey:Array TypeId} {f:FuncId} {vs first:Array Value} (hg:ρ g=.func (.func f) first #[]) (hf:fR P f=true) (ha:args.map ρ=vs)
  (aR:Calls P f (first++vs) w fun e w'=>∃ v,e=.returned v∧Φ v w'):bq P ⟨d,.call ⟨.value g,args,ey⟩,ty,pos,aft,gd⟩ ρ w Φ:=
 .call (f:=f) (args:=first++vs) (by simp [execOp,resolve,hg,ha,Deferred.ofValue,invoke,uV hf]) aR
def A6 (P:Program) (E:List (Nat×AV)) (M:List au) (oc:Option bj) (g:Operand) (args:Array Operand):Option Out:=
 match aO E g,jN E args.toList,oc with
 | some (.fm f first),some vs,some (.mem l x M')=>(match iP l (first++vs),eP l M l with
  | some told,some Ms=>bif cC l&&Nat.ble l.length M'.length then some ⟨[aL P f told Ms x M'],mapA (outer l M.length) x,eE (ei M l++(M'.drop l.length).map (cM (outer l M.length))) l ((M'.take l.length).map (cM (outer l M.length))),l,[],none⟩ else none
  | _,_=>none)
 | _,_,_=>none
theorem MD {g:Operand} {args:Array Operand} {ey:Array TypeId} (h:A6 P E M oc g args=some out):aP P ⟨d,.call ⟨.value g,args,ey⟩,ty,pos,aft,gd⟩ E M out:=by
 unfold A6 at h
 split at h
 ·rename_i f bZ vs l x M' hg kB
  split at h
  ·rename_i told Ms gU gD
   cases hc:(cC l&&Nat.ble l.length M'.length) with
   | false=>simp only [hc,cond_false,reduceCtorEq] at h
   | true=>
    simp only [hc,cond_true,Option.some.injEq] at h;subst h
    simp only [Bool.and_eq_true] at hc
    have de:=l4 hc.1
    have hle:=Nat.le_of_ble_eq_true hc.2
    intro D w0 K0 β F I ρ w C hv
    obtain ⟨dZ,-⟩:=hv
    obtain ⟨y,hy,r⟩:=C.bS hg
    cases r with
    | fm cs cG fO=>
     obtain ⟨dT,iU⟩:=C.k5 kB
     have du:(cs++args.toList.map ρ).length=(bZ++vs).length:=by rw [List.length_append,List.length_append,dT,cG]
     have kS:∀ (j:Nat) c y,(bZ++vs)[j]?=some c→(cs++args.toList.map ρ)[j]?=some y→aE (fun w=>K0 w∧az w I) β c y:=by
      intro j c y h1 h2
      rcases Nat.lt_or_ge j bZ.length with hj | hj
      ·rw [List.getElem?_append_left hj] at h1
       rw [List.getElem?_append_left (by omega)] at h2
       exact fO j c y h1 h2
      ·rw [List.getElem?_append_right hj] at h1
       rw [List.getElem?_append_right (by omega),cG] at h2
       exact iU _ c y h1 h2
     have hm:args.map ρ=(args.toList.map ρ).toArray:=by rw [← Array.toList_map]
     refine MC hy dZ.1 hm ?_
     have jP:(cs.toArray++(args.toList.map ρ).toArray:Array Value)=(cs++args.toList.map ρ).toArray:=by simp
     rw [jP]
     exact xE C.rm C.k du kS gU gD de hle dZ
  ·simp at h
 ·simp at h
end Go.Proofs.YtlinpknagdgphaaGreat
