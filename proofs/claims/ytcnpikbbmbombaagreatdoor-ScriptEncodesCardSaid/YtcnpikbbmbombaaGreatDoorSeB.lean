/-
  scriptEncodes_card, part 2 of 6: merged by program from the texts that it needs.
-/
import Derived.Test.YtcnpikbbmbombaaGreatDoorSeA
set_option linter.unusedSimpArgs false
set_option linter.unusedVariables false
set_option linter.unnecessarySimpa false
namespace Go.Proofs.YtcnpikbbmbombaaGreatDoor
open Go.RowKit
variable {P:Program} {T:aN} {D:List Nat} {w0:World} {K0:World→Prop} {E:List (Nat×AV)} {M:List ai} {β:Beta} {F:Nat→ak} {I X:ak} {ρ:Operand→Value} {w:World}
variable {d:Option Tmp} {ty:TypeId} {pos:String} {aft:Array Edge} {gd:Option (Nat×Bool)} {oc:Option aU} {out:Out}
def ae (l:List UInt8):List (List DV):=l.map fun b=>[.v (.int .u8 (b.toNat:Int))]
theorem zk {K:World→Prop} {l:List UInt8} {X:Nat→List Value} {G:Nat→Nat→ak} (h:dj K 1 (ae l) X G):lay (ae l).length X=l.map fun b:UInt8=>.int .u8 b.toNat:=by
 have hl:(ae l).length=l.length:=by simp [ae]
 have hX:∀ i,i<(ae l).length→(X i).length=1:=fun i hi=>(h.hl i _ (List.getElem?_eq_getElem hi)).2
 apply List.ext_getElem?
 intro p
 have gl:=ei hX
 rcases Nat.lt_or_ge p l.length with hp | hp
 ·have Cr:p<(ae l).length:=by omega
  have hg:=j8 hX Cr (show 0<1 by omega)
  rw [Nat.mul_one,Nat.add_zero] at hg
  have cg:(ae l)[p]?=some [.v (.int .u8 (l[p].toNat:Int))]:=by simp [ae,List.getElem?_eq_getElem hp]
  obtain ⟨x,h1⟩:∃ x,(X p)[0]?=some x:=⟨(X p)[0]'(by rw [hX p Cr];omega),List.getElem?_eq_getElem _⟩
  have hd:=h.hr p _ 0 _ _ cg rfl h1
  generalize G p 0=GG at hd
  cases hd
  rw [hg,h1,List.getElem?_map,List.getElem?_eq_getElem hp];rfl
 ·rw [List.getElem?_eq_none (by omega),List.getElem?_eq_none (by simp;omega)]
def xb (T:aN) (E:List (Nat×AV)) (M:List ai) (oc:Option aU) (t t':TypeId) (x:Operand):Option Out:=
 match iq T t,cW T t',oc with
 | some (e,_,_,_),some .st,some (.res (.v (.string s)))=>(match cW T e,aI E x with
  | some (.it .u8),some (.d (.ro k rows))=>bif Nat.beq k 1 then some (lk [rows=ae s.data.toList] (.d (.v (.string s))) M) else none
  | some (.it .u8),some (.sl u n)=>(match M[u]? with | some (.rw _ k rows)=>bif Nat.beq k 1 then some ⟨[n=rows.length,rows=ae s.data.toList],.d (.v (.string s)),M,[],[],some [u]⟩ else none | _=>none)
  | _,_=>none)
 | _,_,_=>none
theorem Hr (hT:aY P T=true) {t t':TypeId} {x:Operand} (h:xb T E M oc t t' x=some out):aK P ⟨d,.convert t t' x,ty,pos,aft,gd⟩ E M out:=by
 unfold xb at h
 split at h
 ·rename_i e _ _ _ s he bq
  obtain ⟨zv,ok,-,-⟩:=kb hT he
  split at h
  ·rename_i k rows qw hx
   cases hk:Nat.beq k 1 with
   | false=>simp [hk] at h
   | true=>
    simp only [hk,cond_true,Option.some.injEq] at h;subst h
    obtain rfl:=Nat.eq_of_beq_eq_true hk
    refine aK.same ?_
    intro D w0 K0 β F I ρ w C hv
    obtain ⟨rfl,-⟩:=hv
    have r:=C.ev hx
    generalize hy:ρ x=y at r
    cases r with | d r=>
    cases r with
    | ro X hl im hs hr=>
     refine ⟨_,fun w' dS=>rn (.of fun _=>⟨_,rfl⟩) (yO (l:=s.data.toList) ok.bq (cH hT qw) (cH hT bq) hy ?_ ⟨rfl,rfl⟩),.d (.v _)⟩
     have:=hs w' dS
     rw [zk (G:=fun _ _=>[]) ⟨hl,hr⟩] at this
     simpa [ae] using this
  ·rename_i u n qw hx
   split at h
   ·rename_i T2 k rows hM
    cases hk:Nat.beq k 1 with
    | false=>simp [hk] at h
    | true=>
     simp only [hk,cond_true,Option.some.injEq] at h;subst h
     obtain rfl:=Nat.eq_of_beq_eq_true hk
     refine aK.look ?_ (by simpa using fh hM)
     intro D w0 K0 β F I ρ w C hv
     obtain ⟨rfl,rfl,-⟩:=hv
     obtain ⟨X,G,H0,hF,dM,ra,hH⟩:=lI C.rm hM rfl (C.ev hx)
     refine ⟨_,.d (.v _),fun w' dS=>rn (.of fun _=>⟨_,rfl⟩) (yO (l:=s.data.toList) ok.bq (cH hT qw) (cH hT bq) rfl ?_ ⟨rfl,rfl⟩)⟩
     have Cs:Holds w' (F u):=dS.2 u (by simp)
     rw [hF] at Cs
     have:=dM.src (Holds.app.1 Cs).1
     rw [zk ra] at this
     simpa [ae] using this
   ·simp at h
  ·simp at h
 ·simp at h
def oy (P:Program) (t:TypeId):Bool:=match P.underlying t with | some .bool=>true | _=>false
theorem yQ {t:TypeId} (h:oy P t=true) (a b:Bool) (w:World):(Op.equal t (.bool a) (.bool b)).run P w=.ok (a==b) w:=by
 unfold oy at h
 split at h
 ·rename_i hu
  have:∀ m,(Op.equalIn (m+1) t (.bool a) (.bool b)).run P w=.ok (a==b) w:=by intro m;simp [Op.equalIn,Sem.run_bind,run_underlying hu]
  exact this 9999
 ·simp at h
def vZ (P:Program) (E:List (Nat×AV)) (M:List ai) (oc:Option aU) (op:BinOp) (t:TypeId) (x y:Operand):Option Out:=
 match kO (aI E x),kO (aI E y),op with
 | some a,some b,.eql=>bif oy P t then some (kP oc (a==b) M) else none
 | some a,some b,.neq=>bif oy P t then some (kP oc (!(a==b)) M) else none
 | _,_,_=>none
theorem FP {op:BinOp} {t t':TypeId} {x y:Operand} (h:vZ P E M oc op t x y=some out):aK P ⟨d,.binOp op t x y t',ty,pos,aft,gd⟩ E M out:=by
 unfold vZ at h
 split at h
 ·rename_i a b ha oX
  cases hb:oy P t with
  | false=>simp [hb] at h
  | true=>
   simp only [hb,cond_true,Option.some.injEq] at h;subst h
   exact mK (.of fun _=>⟨_,rfl⟩) fun C w Φ aE=>.pure (v:=.bool (a==b)) (by simp [execOp,C.bool ha,C.bool oX,eqGuard,binOp,yQ hb]) aE
 ·rename_i a b ha oX
  cases hb:oy P t with
  | false=>simp [hb] at h
  | true=>
   simp only [hb,cond_true,Option.some.injEq] at h;subst h
   exact mK (.of fun _=>⟨_,rfl⟩) fun C w Φ aE=>.pure (v:=.bool (!(a==b))) (by simp [execOp,C.bool ha,C.bool oX,eqGuard,binOp,yQ hb]) aE
 ·simp at h
def v7 (T:aN) (E:List (Nat×AV)) (M:List ai) (oc:Option aU) (op:BinOp) (t:TypeId) (x y:Operand):Option Out:=
 match op,cW T t,y,aI E x with
 | .eql,some (.sl _),.const (.slice none 0 0),some (.d (.v (.slice a _ _)))=>some (kP oc a.isNone M)
 | .eql,some (.sl _),.const (.slice none 0 0),some (.d (.ro _ rows))=>some (lk [0<rows.length] (.b false) M)
 | .eql,some (.sl _),.const (.slice none 0 0),some (.sl u n)=>(match M[u]? with | some (.rw _ _ rows)=>some ⟨[n=rows.length,0<n],.b false,M,[],[],some [u]⟩ | _=>none)
 | _,_,_,_=>none
theorem FQ (hT:aY P T=true) {op:BinOp} {t t':TypeId} {x y:Operand} (h:v7 T E M oc op t x y=some out):aK P ⟨d,.binOp op t x y t',ty,pos,aft,gd⟩ E M out:=by
 unfold v7 at h
 split at h
 ·rename_i e a n c hu hx
  simp only [Option.some.injEq] at h;subst h
  refine mK (.of fun _=>⟨_,rfl⟩) ?_
  intro D w0 K0 β F I ρ w' C w Φ aE
  have r:=C.ev hx
  generalize hy:ρ x=y at r
  cases r with | d r=>cases r;exact tv (cH hT hu) hy (C.const _) rfl aE
 ·rename_i e k rows hu hx
  simp only [Option.some.injEq] at h;subst h
  refine jF (.of fun _=>⟨_,rfl⟩) ?_
  intro D w0 K0 β F I ρ w' C hv
  obtain ⟨na,-⟩:=hv
  have r:=C.ev hx
  generalize hy:ρ x=y at r
  cases r with | d r=>
  cases r with
  | ro X hl im hs hr=>
   obtain ⟨a,c,sT,-⟩:=(hs _ C.now).row na
   exact ⟨_,.d (.v _),fun w Φ aE=>tv (cH hT hu) (hy.trans sT) (C.const _) rfl aE⟩
 ·rename_i e u n hu hx
  split at h
  ·rename_i T2 k rows hM
   simp only [Option.some.injEq] at h;subst h
   refine aK.look ?_ (by simpa using fh hM)
   intro D w0 K0 β F I ρ w C hv
   obtain ⟨hn,na,-⟩:=hv
   obtain ⟨X,G,H0,hF,dM,ra,hH⟩:=lI C.rm hM hn (C.ev hx)
   obtain ⟨b,cap,cs,x2,-⟩:=dM.block na
   exact ⟨_,.d (.v _),fun w' _=>rn (.of fun _=>⟨_,rfl⟩) (tv (cH hT hu) x2 (C.const _) rfl ⟨rfl,rfl⟩)⟩
  ·simp at h
 ·simp at h
def vi (T:aN) (E:List (Nat×AV)) (M:List ai) (t t':TypeId) (x:Operand):Option Out:=
 bif Nat.beq t t' then (match iq T t with
 | some (e,k,_,_)=>(match cW T e,aI E x with
  | some (.it .u8),some (.sl u n)=>(match M[u]? with
   | some (.rw e' k' rows)=>bif Nat.beq e e'&&Nat.beq k k'&&rows.all (fun r=>r.all DV.cp) then some ⟨[n=rows.length,0<n],.d (.ro k rows),M.set u .dead,[u],[],none⟩ else none
   | _=>none)
  | _,_=>none)
 | none=>none) else none
theorem EC (hT:aY P T=true) {t t':TypeId} {x:Operand} (h:vi T E M t t' x=some out):aK P ⟨d,.convert t t' x,ty,pos,aft,gd⟩ E M out:=by
 unfold vi at h
 cases x3:Nat.beq t t' with
 | false=>simp [x3] at h
 | true=>
  simp only [x3,cond_true] at h
  obtain rfl:=Nat.eq_of_beq_eq_true x3
  split at h
  ·rename_i e k _ _ he
   obtain ⟨zv,ok,-,-⟩:=kb hT he
   split at h
   ·rename_i u n qw hx
    split at h
    ·rename_i e' k' rows hM
     cases hc:(Nat.beq e e'&&Nat.beq k k'&&rows.all fun r=>r.all DV.cp) with
     | false=>simp [hc] at h
     | true=>
      simp only [hc,cond_true,Option.some.injEq] at h;subst h
      simp only [Bool.and_eq_true] at hc
      obtain rfl:=Nat.eq_of_beq_eq_true hc.1.1
      obtain rfl:=Nat.eq_of_beq_eq_true hc.1.2
      intro D w0 K0 β F I ρ w C hv
      obtain ⟨hn,na,-⟩:=hv
      obtain ⟨X,G,H0,hF,dM,ra,hH⟩:=lI C.rm hM hn (C.ev hx)
      obtain ⟨b,cap,cs,x2,rfl,cJ,hle,r9⟩:=dM.block na
      have R1:=C.rm.x.fc hM
      rw [hF,List.nil_append] at R1
      have hb:=hH.one
      refine Dy ok.bq (cH hT qw) x2 hb ?_
      have nb:St D w0 w ((b,.cells cs e (0,0))::(bE n k G++((List.range (M.set u .dead).length).flatMap (aL F u [])++I))):=R1.st.perm (by classical rw [List.perm_iff_count];intro z;simp only [List.count_append,List.count_cons,List.count_nil];omega)
      have oI:=nb.set (.cells cs e (cs.size,cs.size+1))
      have R2:RM D w0 K0 (M.set u .dead) β (aL F u []) ([(b,.cells cs e (cs.size,cs.size+1))]++I) (cd w b (.cells cs e (cs.size,cs.size+1))):=by
       refine ⟨R1.len,fun v bl hv=>(R1.blk v bl hv).mono (fun w hw=>⟨hw.1,(Holds.app.1 hw.2).2⟩) (Ext.refl _),?_⟩
       have:=(oI.perm (K:=bE n k G++((List.range (M.set u .dead).length).flatMap (aL F u [])++([(b,.cells cs e (cs.size,cs.size+1))]++I))) (by classical rw [List.perm_iff_count];intro z;simp only [List.count_append,List.count_cons,List.count_nil];omega)).lD
       exact this
      refine ⟨β,_,_,R2,(Ext.refl β).b _,⟨_,rfl⟩,fun q _ hq=>by simp only [aL];rw [if_neg (by simpa using hq)],?_⟩
      refine .d (.ro X ra.hl ⟨_,_,by rw [← hn],by rw [← hn];exact hle⟩ (fun w' dS=>?_) fun i r j c x h1 h2 h3=>?_)
      ·have aQ:w'.heap[b]?=some (.cells cs e (cs.size,cs.size+1)):=(Holds.app.1 dS.2).1.one
       refine ⟨by rw [← hn];exact dM.1,Or.inr ⟨_,cap,by rw [← hn],fun j hj=>?_⟩⟩
       rw [add_eq,Nat.zero_add,cell_of aQ]
       have lZ:lay rows.length X=cs.toList.take (n*k):=by rw [← hn];exact r9.symm
       have key:∀ q,q=cs.toList.take (n*k)→∀ (hj:j<q.length),cs[j]?=some q[j]:=by
        intro q hq hj
        subst hq
        have iR:=hj
        simp only [List.length_take] at iR
        rw [List.getElem_take,← Array.getElem?_toList]
        exact List.getElem?_eq_getElem _
       exact key _ lZ hj
      ·have:=(ra.hr i r j c x h1 h2 h3).cp (List.all_eq_true.1 (List.all_eq_true.1 hc.2 r (List.mem_of_getElem? h1)) c (List.mem_of_getElem? h2))
       exact this.mono fun w hw=>⟨hw.1,(Holds.app.1 hw.2).2⟩
    ·simp at h
   ·simp at h
  ·simp at h
theorem ED {t:TypeId} {xs:Array Value} {o:Nat} {v:Value} (w:World) (ht:scalar P t=true) (h:xs[o]?=some v):(part t xs o).run P w=.ok v w:=by
 simp [part,Sem.run_bind,yu ht,h]
theorem EE {t:TypeId} {xs:Array Value} {o n:Nat} (w:World) (ht:lP P t n=true):(part t xs o).run P w=.ok (.agg (xs.extract o (o+n))) w:=by
 unfold lP at ht
 simp only [Bool.and_eq_true] at ht
 obtain ⟨h1,h2⟩:=ht
 cases hu:P.underlying t with
 | none=>simp [hu] at h1
 | some u=>
  cases hi:P.info? t with
  | none=>simp [hi] at h2
  | some i=>
   simp only [hi,beq_iff_eq] at h2
   have ha:(isAgg t).run P w=.ok true w:=by cases u<;>simp [hu] at h1<;>simp [isAgg,Sem.run_bind,run_underlying hu]
   simp [part,Sem.run_bind,ha,sizeOf,typeInfo,hi,h2]
def nu (T:aN) (e:TypeId) (l:List AV) (o:Nat):Option AV:=la T e l o
theorem vj (hT:aY P T=true) {K:World→Prop} {e:TypeId} {l:List AV} {o:Nat} {v:AV} (h:nu T e l o=some v) {ys:List Value} (hl:ys.length=l.length) (hr:∀ (j:Nat) c y,l[j]?=some c→ys[j]?=some y→aw K β c y):
  ∃ y,aw K β v y∧∀ w:World,(part e ys.toArray o).run P w=.ok y w:=by
 unfold nu la at h
 split at h
 ·rename_i ht
  obtain ⟨y,h1,h2⟩:=uV hl hr h
  exact ⟨y,h2,fun w=>ED w (uo hT ht) (by simpa using h1)⟩
 ·rename_i n ht
  simp only [wT] at h
  cases hb:(o+n).ble l.length with
  | false=>simp [hb] at h
  | true=>
   simp only [hb,cond_true,Option.some.injEq] at h
   have hle:o+n≤l.length:=Nat.le_of_ble_eq_true hb
   subst h
   have he:(ys.toArray.extract o (o+n))=((ys.drop o).take n).toArray:=by
    simp [List.extract_eq_take_drop]
   refine ⟨.agg ((ys.drop o).take n).toArray,.ag _ (by simp;omega) ?_,fun w=>by rw [EE w (zA hT ht),he]⟩
   intro j c y h1 h2
   rw [List.getElem?_take,List.getElem?_drop] at h1 h2
   split at h1
   ·rename_i hj;rw [if_pos hj] at h2;exact hr _ _ _ h1 h2
   ·simp at h1
 ·simp at h
def xc (T:aN) (E:List (Nat×AV)) (M:List ai) (t:TypeId) (x:Operand) (f:Nat):Option Out:=
 match xK T t f,aI E x with
 | some (o,ty),some (.ag l)=>(match nu T ty l o with | some v=>some (lk [] v M) | none=>none)
 | _,_=>none
theorem Hs (hT:aY P T=true) {t:TypeId} {x:Operand} {f:Nat} (h:xc T E M t x f=some out):aK P ⟨d,.field t x f,ty,pos,aft,gd⟩ E M out:=by
 unfold xc at h
 split at h
 ·rename_i o e l hf hx
  split at h
  ·rename_i v hp
   simp only [Option.some.injEq] at h;subst h
   obtain ⟨fs,q,hu,hq,rfl,rfl⟩:=IQ hT hf
   refine aK.same ?_
   intro D w0 K0 β F I ρ w C _
   have r:=C.ev hx
   generalize hy:ρ x=y at r
   cases r with
   | ag ys hl hr=>
    obtain ⟨y,h1,h2⟩:=vj hT hp hl hr
    exact ⟨y,fun w' _=>by simp only [execOp,hy,Instr.field,Sem.run_bind,run_underlying hu,Result.andThen_ok,hq,asAgg,Sem.run_pure,h2],h1⟩
  ·simp at h
 ·simp at h
def xd (T:aN) (E:List (Nat×AV)) (M:List ai) (oc:Option aU) (t:TypeId) (x ix:Operand):Option Out:=
 match cW T t,aI E x,cF (aI E ix),oc with
 | some (.ar n e),some (.ag l),some (_,z),some (.n i)=>(match fE T e with
  | some k=>(match nu T e l (i*k) with | some v=>some (lk [z=(i:Int),i<n] v M) | none=>none)
  | none=>none)
 | _,_,_,_=>none
theorem Ht (hT:aY P T=true) {t:TypeId} {x ix:Operand} (h:xd T E M oc t x ix=some out):aK P ⟨d,.index t x ix,ty,pos,aft,gd⟩ E M out:=by
 unfold xd at h
 split at h
 ·rename_i n e l _ z i hu hx hz
  split at h
  ·rename_i k hk
   split at h
   ·rename_i v hp
    simp only [Option.some.injEq] at h;subst h
    have bu:∀ w:World,(sizeOf e).run P w=.ok k w:=fun w=>by
     have:=gU hT hk
     cases hi:P.info? e with
     | none=>simp [hi] at this
     | some inf=>simp only [hi,Option.map_some,Option.some.injEq] at this;simp [sizeOf,typeInfo,Sem.run_bind,hi,this]
    refine aK.same ?_
    intro D w0 K0 β F I ρ w C hv
    obtain ⟨rfl,aM,-⟩:=hv
    have r:=C.ev hx
    have hi:=C.int hz
    generalize hy:ρ x=y at r
    cases r with
    | ag ys hl hr=>
     obtain ⟨y,h1,h2⟩:=vj hT hp hl hr
     refine ⟨y,fun w' _=>?_,h1⟩
     have fR:=cH hT hu
     have hc:(0:Int)≤(i:Int)∧(i:Int)<(n:Int):=by omega
     simp only [execOp,hy,hi,Instr.index,asIntOf,Sem.run_bind,Sem.run_pure,run_underlying fR,Result.andThen_ok]
     rw [if_pos hc]
     simp only [Sem.run_bind,bu,Result.andThen_ok,Int.toNat_natCast,h2,Sem.run_pure]
   ·simp at h
  ·simp at h
 ·simp at h
def ux (T:aN) (E:List (Nat×AV)) (M:List ai) (t:TypeId) (parts:Array (Nat×Operand)):Option Out:=
 match cW T t,ow T t with
 | some (.ar _ e),some z=>(match fE T e with
  | some k=>(match kg E (fun i=>some (i*k,k)) (kL z) parts.toList with
   | some l=>some (lk [] (.ag l) M)
   | none=>none)
  | none=>none)
 | _,_=>none
theorem D1 (hT:aY P T=true) {t:TypeId} {parts:Array (Nat×Operand)} (h:ux T E M t parts=some out):aK P ⟨d,.build t parts,ty,pos,aft,gd⟩ E M out:=by
 unfold ux at h
 split at h
 ·rename_i n e z hu hz
  split at h
  ·rename_i k hk
   split at h
   ·rename_i l hl
    simp only [Option.some.injEq] at h;subst h
    obtain ⟨zv,ns,nt⟩:=rl hT hz
    have bu:∀ w:World,(sizeOf e).run P w=.ok k w:=fun w=>by
     have:=gU hT hk
     cases hi:P.info? e with
     | none=>simp [hi] at this
     | some inf=>simp only [hi,Option.map_some,Option.some.injEq] at this;simp [sizeOf,typeInfo,Sem.run_bind,hi,this]
    refine aK.same ?_
    intro D w0 K0 β F I ρ w C _
    obtain ⟨p1,p2⟩:=pv (K:=fun w=>K0 w∧Holds w I) (β:=β) z
    obtain ⟨bM,g1,g2,g3⟩:=ru C (cs:=z.toArray) hl (by simpa using p1) (by intro j c y e1 e2;exact p2 j c y e1 (by simpa using e2))
    refine ⟨.agg bM,fun w' _=>?_,?_⟩
    ·have oV:(parts.map fun (p:Nat×Operand)=>(p.1,ρ p.2)).toList=parts.toList.map fun p=>(p.1,ρ p.2):=by simp
     have hb:(Instr.build t (parts.map fun (p:Nat×Operand)=>(p.1,ρ p.2))).run P w'=.ok (.agg bM) w':=by
      simp only [Instr.build,Sem.run_bind,nt,Result.andThen_ok,run_underlying (cH hT hu),bu,ns,oV,g1,Sem.run_pure]
     simp only [execOp,Sem.run_bind]
     have:(parts.map fun (i,x)=>(i,ρ x))=parts.map fun (p:Nat×Operand)=>(p.1,ρ p.2):=rfl
     rw [this,hb];rfl
    ·have:(aw (fun w=>K0 w∧Holds w I) β (.ag l) (.agg bM.toList.toArray)):=.ag bM.toList (by simpa using g2) (by intro j c y e1 e2;exact g3 j c y e1 (by simpa using e2))
     simpa using this
   ·simp at h
  ·simp at h
 ·simp at h
end Go.Proofs.YtcnpikbbmbombaaGreatDoor
namespace Go.Proofs.YtcnpikbbmbombaaGreatDoor
open Go.RowKit
variable {P:Program} {T:aN} {D:List Nat} {w0:World} {K0:World→Prop} {E:List (Nat×AV)} {M:List ai} {β:Beta} {F:Nat→ak} {I X:ak} {ρ:Operand→Value} {w:World}
variable {d:Option Tmp} {ty:TypeId} {pos:String} {aft:Array Edge} {gd:Option (Nat×Bool)} {oc:Option aU} {out:Out}
theorem bB.iB (R:bB D w0 K0 M β F I X w) {u:Nat} {blk:ai} (h:M[u]?=some blk):Holds w (F u):=by
 intro x hx
 obtain ⟨hu,-⟩:=List.getElem?_eq_some_iff.1 h
 exact R.st.holds x (List.mem_append_left _ (List.mem_flatMap.2 ⟨u,List.mem_range.2 hu,hx⟩))
theorem bB.back {X Y:ak} (R:bB D w0 K0 M β F I (X++Y) w) {u:Nat} (hu:u<M.length) (hF:F u=[]) {blk:ai} (hb:bw (fun w=>K0 w∧Holds w I) β u blk X):
  bB D w0 K0 (M.set u blk) β (aL F u X) I Y w where
 len:=by rw [List.length_set];exact R.len
 blk:=by
  intro v bl hv
  rw [List.getElem?_set] at hv
  by_cases e:u=v
  ·subst e
   simp only [hu,if_pos,Option.some.injEq] at hv;subst hv
   simpa [aL] using hb
  ·rw [if_neg e] at hv
   have:aL F u X v=F v:=by simp only [aL];rw [if_neg (fun h=>e h.symm)]
   rw [this];exact R.blk v bl hv
 st:=by
  have hs:=R.st
  rw [List.length_set,range_split hu]
  rw [range_split hu,hF] at hs
  have c1:(List.range u).flatMap (aL F u X)=(List.range u).flatMap F:=eT fun a ha=>by have:=List.mem_range.1 ha;simp [aL];omega
  have c2:(List.range' (u+1) (M.length-(u+1))).flatMap (aL F u X)=(List.range' (u+1) (M.length-(u+1))).flatMap F:=eT fun a ha=>by have:=(List.mem_range'_1.1 ha).1;simp [aL];omega
  have fR:aL F u X u=X:=by simp [aL]
  rw [c1,c2,fR]
  exact hs.perm (by classical rw [List.perm_iff_count];intro z;simp only [List.count_append,List.count_nil];omega)
theorem yD {k o m:Nat} (h:o+m≤k) (f:Nat→ak):(List.range k).flatMap f=(List.range o).flatMap f++((List.range' o m).flatMap f++(List.range' (o+m) (k-(o+m))).flatMap f):=by
 have:List.range k=List.range o++(List.range' o m++List.range' (o+m) (k-(o+m))):=by
  rw [List.range_eq_range',List.range_eq_range']
  have h1:k=o+(m+(k-(o+m))):=by omega
  conv=>lhs;rw [h1]
  rw [← List.range'_append_1,← List.range'_append_1]
  simp
 rw [this,List.flatMap_append,List.flatMap_append]
def eb (G:Nat→Nat→ak) (i o m:Nat) (Gx:Nat→ak):Nat→Nat→ak:=fun a j=>if a=i∧o≤j∧j<o+m then Gx (j-o) else G a j
theorem zH {n k i o m:Nat} (hi:i<n) (ho:o+m≤k) (G:Nat→Nat→ak) (Gx:Nat→ak):(bE n k G++(List.range m).flatMap Gx).Perm (bE n k (eb G i o m Gx)++(List.range' o m).flatMap (G i)):=by
 unfold bE
 have c1:(List.range i).flatMap (fun a=>(List.range k).flatMap (eb G i o m Gx a))=(List.range i).flatMap (fun a=>(List.range k).flatMap (G a)):=eT fun a ha=>eT fun j _=>by have:=List.mem_range.1 ha;simp only [eb];rw [if_neg (by omega)]
 have c2:(List.range' (i+1) (n-(i+1))).flatMap (fun a=>(List.range k).flatMap (eb G i o m Gx a))=(List.range' (i+1) (n-(i+1))).flatMap (fun a=>(List.range k).flatMap (G a)):=eT fun a ha=>eT fun j _=>by have:=(List.mem_range'_1.1 ha).1;simp only [eb];rw [if_neg (by omega)]
 have c3:(List.range o).flatMap (eb G i o m Gx i)=(List.range o).flatMap (G i):=eT fun j hj=>by have:=List.mem_range.1 hj;simp only [eb];rw [if_neg (by omega)]
 have c4:(List.range' o m).flatMap (eb G i o m Gx i)=(List.range m).flatMap Gx:=by
  rw [List.range'_eq_map_range,List.flatMap_map]
  exact eT fun j hj=>by
   have:=List.mem_range.1 hj
   show eb G i o m Gx i (o+j)=Gx j
   unfold eb;rw [if_pos ⟨rfl,by omega,by omega⟩,Nat.add_sub_cancel_left]
 have c5:(List.range' (o+m) (k-(o+m))).flatMap (eb G i o m Gx i)=(List.range' (o+m) (k-(o+m))).flatMap (G i):=eT fun j hj=>by have:=(List.mem_range'_1.1 hj).1;simp only [eb];rw [if_neg (by omega)]
 rw [range_split hi (fun a=>(List.range k).flatMap (G a)),range_split hi (fun a=>(List.range k).flatMap (eb G i o m Gx a)),c1,c2]
 rw [yD ho (G i),yD ho (eb G i o m Gx i),c3,c4,c5]
 classical rw [List.perm_iff_count];intro z;simp only [List.count_append];omega
def iK (X:Nat→List Value) (i o:Nat) (zs:List Value):Nat→List Value:=fun a=>if a=i then (X i).take o++(zs++(X i).drop (o+zs.length)) else X a
theorem mL {α:Type} {l zs:List α} {o j:Nat} (h:o+zs.length≤l.length):(l.take o++(zs++l.drop (o+zs.length)))[j]?=if o≤j∧j<o+zs.length then zs[j-o]? else l[j]?:=by
 by_cases h1:o≤j∧j<o+zs.length
 ·rw [if_pos h1,List.getElem?_append_right (by simp;omega),List.getElem?_append_left (by simp;omega)]
  congr 1;simp;omega
 ·rw [if_neg h1]
  rcases Nat.lt_or_ge j o with hj | hj
  ·rw [List.getElem?_append_left (by simp;omega),List.getElem?_take,if_pos hj]
  ·rw [List.getElem?_append_right (by simp;omega),List.getElem?_append_right (by simp;omega),List.getElem?_drop]
   congr 1;simp;omega
theorem rA {X:Nat→List Value} {i o k:Nat} {zs:List Value} (ho:o+zs.length≤k) {a:Nat} (h:(X a).length=k):(iK X i o zs a).length=k:=by
 unfold iK;split
 ·rename_i e;subst e;simp;omega
 ·exact h
theorem Hu {n k i o:Nat} {X:Nat→List Value} {zs:List Value} {cs:Array Value} (hX:∀ a,a<n→(X a).length=k) (hi:i<n) (ho:o+zs.length≤k) (ht:cs.toList.take (n*k)=lay n X) (bu:n*k≤cs.size):
  (cu cs (i*k+o) zs).toList.take (n*k)=lay n (iK X i o zs):=by
 have Ct:∀ a,a<n→(iK X i o zs a).length=k:=fun a ha=>rA ho (hX a ha)
 have gl:=ei Ct
 have Cu:i*k+k≤n*k:=by have:=Nat.mul_le_mul_right k (show i+1≤n from hi);rw [Nat.succ_mul] at this;exact this
 apply List.ext_getElem?
 intro p
 rcases Nat.lt_or_ge p (n*k) with hp | hp
 ·have hk:0<k:=by
   rcases Nat.eq_zero_or_pos k with h0 | h0
   ·subst h0;simp at hp
   ·exact h0
  have hd:p / k<n:=Nat.div_lt_of_lt_mul (by rw [Nat.mul_comm];exact hp)
  have hm:p%k<k:=Nat.mod_lt _ hk
  have hg:=j8 Ct hd hm
  have Cv:=j8 hX hd hm
  have e:p / k*k+p%k=p:=by rw [Nat.mul_comm,Nat.div_add_mod]
  rw [e] at hg Cv
  rw [hg,List.getElem?_take,if_pos hp,Array.getElem?_toList,nR _ _ _ _ (by omega)]
  have hc:cs[p]?=(X (p / k))[p%k]?:=by rw [← Cv,← ht,List.getElem?_take,if_pos hp,Array.getElem?_toList]
  generalize hA:p / k=a at *
  generalize hJ:p%k=j at *
  by_cases ha:a=i
  ·subst ha
   unfold iK
   rw [if_pos rfl,mL (by rw [hX a hd];exact ho)]
   by_cases h1:o≤j∧j<o+zs.length
   ·rw [if_pos h1,if_pos (by omega)];congr 1;omega
   ·rw [if_neg h1,if_neg (by omega)];exact hc
  ·unfold iK
   rw [if_neg ha,if_neg ?_]
   ·exact hc
   ·intro h1
    rcases Nat.lt_or_gt_of_ne ha with h2 | h2
    ·have:=Nat.mul_le_mul_right k (show a+1≤i from h2);rw [Nat.succ_mul] at this;omega
    ·have:=Nat.mul_le_mul_right k (show i+1≤a from h2);rw [Nat.succ_mul] at this;omega
 ·rw [List.getElem?_eq_none (by simp [lC];omega),List.getElem?_eq_none (by omega)]
theorem dj.put {K:World→Prop} {k i o:Nat} {rows:List (List DV)} {X:Nat→List Value} {G:Nat→Nat→ak} {row xs:List DV} {zs:List Value} {Gx:Nat→ak} (h:dj K k rows X G) (cg:rows[i]?=some row) (ho:o+zs.length≤k) (hx:zs.length=xs.length) (hd:∀ (j:Nat) c y,xs[j]?=some c→zs[j]?=some y→bF K c y (Gx j)):
  dj K k (rows.set i (row.take o++(xs++row.drop (o+xs.length)))) (iK X i o zs) (eb G i o zs.length Gx):=by
 have kz:=h.hl i row cg
 constructor
 ·intro a r ha
  rw [List.getElem?_set] at ha
  by_cases e:i=a
  ·subst e
   rw [if_pos rfl] at ha
   split at ha
   ·simp only [Option.some.injEq] at ha;subst ha
    exact ⟨by simp;omega,rA ho kz.2⟩
   ·simp at ha
  ·rw [if_neg e] at ha
   have:=h.hl a r ha
   exact ⟨this.1,rA ho this.2⟩
 ·intro a r j c x ha hj ld
  rw [List.getElem?_set] at ha
  by_cases e:i=a
  ·subst e
   rw [if_pos rfl] at ha
   split at ha
   ·simp only [Option.some.injEq] at ha;subst ha
    rw [mL (by omega)] at hj
    unfold iK at ld
    rw [if_pos rfl,mL (by omega)] at ld
    unfold eb
    by_cases h1:o≤j∧j<o+zs.length
    ·rw [if_pos (by omega)] at hj
     rw [if_pos h1] at ld
     rw [if_pos ⟨rfl,h1⟩]
     exact hd _ c x hj ld
    ·rw [if_neg (by omega)] at hj
     rw [if_neg h1] at ld
     rw [if_neg (fun q=>h1 q.2)]
     exact h.hr i row j c x cg hj ld
   ·simp at ha
  ·rw [if_neg e] at ha
   unfold iK at ld
   rw [if_neg (fun q=>e q.symm)] at ld
   unfold eb
   rw [if_neg (fun q=>e q.1.symm)]
   exact h.hr a r j c x ha hj ld
def uy (T:aN) (E:List (Nat×AV)) (M:List ai) (oc:Option aU) (t:TypeId) (x y:Operand):Option Out:=
 match aI E x,aI E y,fE T t,oc with
 | some (.ep u k i o),some v,some n,some (.ix _ row)=>(match og v with
  | some l=>(match kf M l with
   | some (vc,xs,M')=>(match M'[u]? with
    | some (.rw e k' rows)=>bif k.beq k'&&l.length.beq n&&(o+n).ble k then some ⟨(rows[i]?=some row)::vc,.d .jk,M'.set u (.rw e k (rows.set i (row.take o++(xs++row.drop (o+xs.length))))),u::qe l,[],none⟩ else none
    | _=>none)
   | none=>none)
  | none=>none)
 | _,_,_,_=>none
theorem D2 (hT:aY P T=true) {t:TypeId} {x y:Operand} (h:uy T E M oc t x y=some out):aK P ⟨d,.store t x y,ty,pos,aft,gd⟩ E M out:=by
 unfold uy at h
 split at h
 rotate_left
 ·simp at h
 rename_i u k i o v n i0 row hx hy hn
 split at h
 rotate_left
 ·simp at h
 rename_i l hl
 split at h
 rotate_left
 ·simp at h
 rename_i vc xs M' hp
 split at h
 rotate_left
 ·simp at h
 rename_i e k' rows hM
 cases hc:(k.beq k'&&l.length.beq n&&(o+n).ble k) with
 | false=>simp [hc] at h
 | true=>
  simp only [hc,cond_true,Option.some.injEq] at h;subst h
  simp only [Bool.and_eq_true] at hc
  obtain rfl:=Nat.eq_of_beq_eq_true hc.1.1
  have sU:=Nat.eq_of_beq_eq_true hc.1.2
  have hle:=Nat.le_of_ble_eq_true hc.2
  intro D w0 K0 β F I ρ w C hv
  obtain ⟨cg,hv⟩:=hv
  obtain ⟨yx,jr,rx⟩:=C.bR hx
  obtain ⟨yy,qq,ry⟩:=C.bR hy
  obtain ⟨zs,h1,h2,h3,h4⟩:=qY hl ry
  obtain ⟨lM,F',Hp,R',dd,MQ⟩:=uw C.rm.x hp hv (ys:=zs) h2 h3
  rw [List.nil_append] at R'
  cases rx with
  | @ep _ _ _ _ b0 c0 hb=>
   have aM:u<M'.length:=fh hM
   have hB:=R'.blk u _ hM
   have hH:=R'.iB hM
   have R1:=R'.fc hM
   have dl:=dd.len
   obtain ⟨Gx,MR,xZ⟩:=dd.to
   generalize ju:F' u=Fu at hB hH R1
   cases hB with
   | rw aQ X G cX hs hr=>
    rw [hb] at aQ;cases aQ
    obtain ⟨hi,-⟩:=List.getElem?_eq_some_iff.1 cg
    obtain ⟨b',cap,cs,he,rfl,cJ,dP,ht⟩:=hs.block (by omega)
    cases he
    have hw:=(Holds.app.1 hH).1.one
    have hX:∀ a,a<rows.length→(X a).length=k:=fun a ha=>(cX a _ (List.getElem?_eq_getElem ha)).2
    have Cu:i*k+k≤rows.length*k:=by have:=Nat.mul_le_mul_right k (show i+1≤rows.length from hi);rw [Nat.succ_mul] at this;exact this
    have bu:rows.length*k≤cs.size:=by rw [cJ];exact Nat.mul_le_mul_right _ dP
    refine Ah n (gU hT hn) jr qq hw (by rw [h1];simp;omega) (by omega) (by rw [h1];simpa using h4) ?_
    rw [h1]
    have ra:dj (fun w=>K0 w∧Holds w I) k rows X G:=⟨cX,hr⟩
    have iT:=ra.put (o:=o) (zs:=zs) (xs:=xs) (Gx:=Gx) cg (by omega) dl xZ
    have bq:=R1.st
    have nb:St D w0 w ((b0,.cells cs e (0,0))::(bE rows.length k G++(Hp++((List.range (M'.set u .dead).length).flatMap (aL F' u [])++I)))):=bq.perm (by classical rw [List.perm_iff_count];intro z;simp only [List.count_append,List.count_cons,List.cons_append,List.nil_append];omega)
    have oI:=nb.set (.cells (cu cs (i*k+o) zs) e (0,0))
    have nc:=zH (n:=rows.length) (k:=k) (i:=i) (o:=o) (m:=zs.length) hi (by omega) G Gx
    rw [MR,← dl] at oI
    have R2:bB D w0 K0 (M'.set u .dead) β (aL F' u []) I (([(b0,.cells (cu cs (i*k+o) zs) e (0,0))]++bE rows.length k (eb G i o zs.length Gx))++(List.range' o zs.length).flatMap (G i)) _:=R1.move (oI.perm (by
     classical
     have hc:=List.perm_iff_count.1 nc
     rw [List.perm_iff_count];intro z
     have:=hc z
     simp only [List.count_append,List.count_cons,List.cons_append,List.nil_append] at this ⊢
     omega))
    have gg:bw (fun w=>K0 w∧Holds w I) β u (.rw e k (rows.set i (row.take o++(xs++row.drop (o+xs.length))))) ([(b0,.cells (cu cs (i*k+o) zs) e (0,0))]++bE rows.length k (eb G i o zs.length Gx)):=by
     have:=bw.rw (K:=fun w=>K0 w∧Holds w I) (u:=u) (T:=e) (k:=k) (rows:=rows.set i (row.take o++(xs++row.drop (o+xs.length)))) (H0:=[(b0,.cells (cu cs (i*k+o) zs) e (0,0))]) hb (iK X i o zs) (eb G i o zs.length Gx) iT.hl (by
      rw [List.length_set]
      exact ⟨ei fun a ha=>rA (by omega) (hX a ha),Or.inr ⟨_,_,_,rfl,rfl,by rw [lC];exact cJ,dP,Hu hX hi (by omega) ht bu⟩⟩) iT.hr
     rw [List.length_set] at this;exact this
    have R3:=((R2.drop.perm (Y:=([(b0,.cells (cu cs (i*k+o) zs) e (0,0))]++bE rows.length k (eb G i o zs.length Gx))++[]) (by rw [List.append_nil])).back (by rw [List.length_set];exact aM) (by simp [aL]) gg).nil rfl
    rw [List.set_set] at R3
    refine ⟨β,_,I,R3,(Ext.refl β).b _,bK.refl _,fun q hq jv=>?_,.d (.jk _)⟩
    simp only [List.mem_cons,not_or] at jv
    simp only [aL];rw [if_neg jv.1,if_neg jv.1]
    exact MQ q jv.2
def wa (T:aN) (E:List (Nat×AV)) (M:List ai) (oc:Option aU) (t:TypeId) (x:Operand):Option Out:=
 match aI E x,oc,oS T t with
 | some (.ep u k i o),some (.ix _ row),some .one=>(match M[u]?,row[o]? with
  | some (.rw e k' rows),some (.em T2 k2 bT)=>bif k.beq k' then some ⟨[rows[i]?=some row],.sl M.length bT.length,M.set u (.rw e k (rows.set i (row.take o++([.jk]++row.drop (o+1)))))++[.rw T2 k2 bT],[u],[],none⟩ else none
  | _,_=>none)
 | _,_,_=>none
theorem FR (hT:aY P T=true) {t:TypeId} {x:Operand} (h:wa T E M oc t x=some out):aK P ⟨d,.load t x,ty,pos,aft,gd⟩ E M out:=by
 unfold wa at h
 split at h
 rotate_left
 ·simp at h
 rename_i u k i o i0 row hx jR
 split at h
 rotate_left
 ·simp at h
 rename_i e k' rows T2 k2 bT hM jH
 cases hk:k.beq k' with
 | false=>simp [hk] at h
 | true=>
  simp only [hk,cond_true,Option.some.injEq] at h;subst h
  obtain rfl:=Nat.eq_of_beq_eq_true hk
  intro D w0 K0 β F I ρ w C hv
  obtain ⟨cg,-⟩:=hv
  obtain ⟨yx,jr,rx⟩:=C.bR hx
  have R:=C.rm.x
  have hB:=R.blk u _ hM
  have hH:=R.iB hM
  have R1:=R.fc hM
  have aM:=fh hM
  cases rx with
  | @ep _ _ _ _ b0 c0 hb=>
   generalize ju:F u=Fu at hB hH R1
   cases hB with
   | rw aQ X G cX hs hr=>
    rw [hb] at aQ;cases aQ
    obtain ⟨hi,-⟩:=List.getElem?_eq_some_iff.1 cg
    obtain ⟨ho,-⟩:=List.getElem?_eq_some_iff.1 jH
    obtain ⟨Ci,Cj⟩:=cX i row cg
    obtain ⟨b',cap,cs,he,rfl,cJ,dP,ht⟩:=hs.block (by omega)
    cases he
    have hw:=(Holds.app.1 hH).1.one
    have hX:∀ a,a<rows.length→(X a).length=k:=fun a ha=>(cX a _ (List.getElem?_eq_getElem ha)).2
    have Cu:i*k+k≤rows.length*k:=by have:=Nat.mul_le_mul_right k (show i+1≤rows.length from hi);rw [Nat.succ_mul] at this;exact this
    have bu:rows.length*k≤cs.size:=by rw [cJ];exact Nat.mul_le_mul_right _ dP
    obtain ⟨y,hy⟩:∃ y,(X i)[o]?=some y:=⟨_,List.getElem?_eq_getElem (by omega)⟩
    have hd:=hr i row o _ y cg jH hy
    have IW:w.cell? ⟨b0,i*k+o,none⟩=some y:=by
     rw [cell_of hw,← hy,← j8 hX hi (by omega),← ht,List.getElem?_take,if_pos (by omega),Array.getElem?_toList]
    refine aT.pure (AL (uo hT jR) jr IW) ?_
    have ra:dj (fun w=>K0 w∧Holds w I) k rows X G:=⟨cX,hr⟩
    have iT:=ra.put (o:=o) (zs:=[y]) (xs:=[.jk]) (Gx:=fun _=>[]) cg (by simp;omega) rfl (fun j c z h1 h2=>by
     cases j with
     | zero=>simp at h1;subst h1;exact .jk _
     | succ j=>simp at h1)
    have nc:=zH (n:=rows.length) (k:=k) (i:=i) (o:=o) (m:=1) hi (by omega) G (fun _=>[])
    have dz:(List.range 1).flatMap (fun _=>([]:ak))=[]:=by simp
    have Kr:(List.range' o 1).flatMap (G i)=G i o:=by simp
    rw [dz,Kr,List.append_nil] at nc
    have R2:=R1.perm (Y:=([(b0,.cells cs e (0,0))]++bE rows.length k (eb G i o 1 fun _=>[]))++G i o) (by
     classical
     have hc:=List.perm_iff_count.1 nc
     rw [List.perm_iff_count];intro z
     have:=hc z
     simp only [List.count_append,List.count_nil] at this ⊢
     omega)
    have IX:lay rows.length (iK X i o [y])=lay rows.length X:=by
     refine ur fun a ha=>?_
     unfold iK;split
     ·rename_i e;subst e
      apply List.ext_getElem?;intro j
      rw [mL (by simp;omega)]
      split
      ·rename_i h1;simp at h1
       obtain rfl:j=o:=by omega
       rw [hy];simp
      ·rfl
     ·rfl
    have gg:bw (fun w=>K0 w∧Holds w I) β u (.rw e k (rows.set i (row.take o++([.jk]++row.drop (o+1))))) ([(b0,.cells cs e (0,0))]++bE rows.length k (eb G i o 1 fun _=>[])):=by
     have:=bw.rw (K:=fun w=>K0 w∧Holds w I) (u:=u) (T:=e) (k:=k) (rows:=rows.set i (row.take o++([.jk]++row.drop (o+1)))) (H0:=[(b0,.cells cs e (0,0))]) hb (iK X i o [y]) (eb G i o 1 fun _=>[]) iT.hl (by
      rw [List.length_set,IX]
      exact ⟨ei hX,Or.inr ⟨_,_,_,rfl,rfl,cJ,dP,ht⟩⟩) iT.hr
     rw [List.length_set] at this;exact this
    have R3:=R2.back (by rw [List.length_set];exact aM) (by simp [aL]) gg
    rw [List.set_set] at R3
    have Cw:(M.set u (ai.rw e k (rows.set i (row.take o++([.jk]++row.drop (o+1)))))).length=M.length:=by rw [List.length_set]
    generalize G i o=Ov at hd R3
    cases hd with
    | em X2 F2 ml kx jw=>
     obtain ⟨a2,c2,rfl⟩:=kx.len
     have hq:(β++[(a2,c2)])[M.length]?=some (a2,c2):=by rw [← R.len];simp
     have gP:=bw.rw (K:=fun w=>K0 w∧Holds w I) (T:=T2) (k:=k2) (rows:=bT) hq X2 F2 ml kx jw
     rw [← Cw] at gP
     have R4:=((R3.perm (Y:=_++[]) (by rw [List.append_nil])).take gP).nil rfl
     rw [Cw] at R4
     refine ⟨_,_,I,R4,(Ext.app _ _).b _,bK.refl _,fun q oW jv=>?_,.sl hq⟩
     have jT:q≠u:=by simpa using jv
     simp only [aL]
     rw [if_neg (by omega),if_neg jT,if_neg jT]
def wb (T:aN) (E:List (Nat×AV)) (M:List ai) (oc:Option aU) (st:TypeId) (x y:Operand):Option Out:=
 match iq T st,aI E x,aI E y,oc with
 | some (_,k,_,_),some (.sl u n),some vy,some (.n c)=>(match M[u]?,oH M k vy with
  | some (.rw e' k' rows),some (none,_,bT)=>bif k.beq k' then some ⟨[n=rows.length,min bT.length n=c,aA bT],.d (.v (.int .i64 (c:Int))),M.set u (.rw e' k (bT.take c++rows.drop c)),[u],[],none⟩ else none
  | _,_=>none)
 | _,_,_,_=>none
theorem dj.take {K:World→Prop} {k c:Nat} {rows:List (List DV)} {X:Nat→List Value} {G:Nat→Nat→ak} (h:dj K k rows X G):dj K k (rows.take c) X G:=by
 constructor
 ·intro i r hi
  rw [List.getElem?_take] at hi
  split at hi
  ·exact h.hl i r hi
  ·simp at hi
 ·intro i r j c' x hi
  rw [List.getElem?_take] at hi
  split at hi
  ·exact h.hr i r j c' x hi
  ·simp at hi
theorem dj.drop {K:World→Prop} {k c:Nat} {rows:List (List DV)} {X:Nat→List Value} {G:Nat→Nat→ak} (h:dj K k rows X G):dj K k (rows.drop c) (fun i=>X (c+i)) (fun i=>G (c+i)):=by
 constructor
 ·intro i r hi;rw [List.getElem?_drop] at hi;exact h.hl _ r hi
 ·intro i r j c' x hi;rw [List.getElem?_drop] at hi;exact h.hr _ r j c' x hi
theorem nU {n c k:Nat} {X:Nat→List Value} (hX:∀ a,a<n→(X a).length=k) (hc:c≤n):lay c X=(lay n X).take (c*k):=by
 have h1:=n4 c (n-c) X (fun i=>X (c+i))
 rw [show c+(n-c)=n by omega] at h1
 have h2:lay n (fun i=>if i<c then X i else X (c+(i-c)))=lay n X:=ur fun i hi=>by
  split
  ·rfl
  ·congr 1;omega
 rw [h2] at h1
 rw [h1,List.take_append_of_le_length (by rw [ei fun a ha=>hX a (by omega)];exact Nat.le_refl _),List.take_of_length_le (by rw [ei fun a ha=>hX a (by omega)];exact Nat.le_refl _)]
theorem tV {n c k:Nat} {X:Nat→List Value} (hX:∀ a,a<n→(X a).length=k) (hc:c≤n):lay (n-c) (fun i=>X (c+i))=(lay n X).drop (c*k):=by
 have h1:=n4 c (n-c) X (fun i=>X (c+i))
 rw [show c+(n-c)=n by omega] at h1
 have h2:lay n (fun i=>if i<c then X i else X (c+(i-c)))=lay n X:=ur fun i hi=>by
  split
  ·rfl
  ·congr 1;omega
 rw [h2] at h1
 have hl:=ei (n:=c) (k:=k) (X:=X) (fun a ha=>hX a (by omega))
 rw [h1,List.drop_append_of_le_length (by omega),List.drop_of_length_le (by omega),List.nil_append]
theorem qX {n c k:Nat} (G:Nat→Nat→ak) (hc:c≤n):bE n k G=bE c k G++bE (n-c) k (fun i=>G (c+i)):=by
 have h1:=pC c (n-c) k G (fun i=>G (c+i))
 rw [show c+(n-c)=n by omega] at h1
 rw [← h1]
 simp only [bE]
 refine eT fun i hi=>eT fun j _=>?_
 show G i j=(if i<c then G i else G (c+(i-c))) j
 split
 ·rfl
 ·congr 2;omega
theorem DH (cs:Array Value) (zs:List Value) (h:zs.length≤cs.size):(cu cs 0 zs).toList=zs++cs.toList.drop zs.length:=by
 apply List.ext_getElem?
 intro p
 rw [Array.getElem?_toList,nR _ _ _ _ (by omega)]
 by_cases hp:p<zs.length
 ·rw [if_pos (by omega),List.getElem?_append_left hp,Nat.sub_zero]
 ·rw [if_neg (by omega),List.getElem?_append_right (by omega),List.getElem?_drop,Array.getElem?_toList]
  congr 1;omega
theorem Src.pre {size:Nat} {x:Value} {m c:Nat} {X:List Value} (h:Src w size x m X) (hc:c≤m):(Builtin.lenOf x).run P w=.ok m w∧(Builtin.firstCells size c x).run P w=.ok (X.take (c*size)).toArray w:=by
 obtain ⟨hl,hh⟩:=h
 refine ⟨(Src.first (P:=P) ⟨hl,hh⟩).1,?_⟩
 rcases hh with ⟨rfl,a,c',rfl⟩ | ⟨a,c',rfl,h⟩
 ·obtain rfl:c=0:=by omega
  have:X=[]:=List.eq_nil_of_length_eq_zero (by simpa using hl)
  subst this
  cases a with
  | none=>simp [Builtin.firstCells]
  | some a=>simp [Builtin.firstCells,loadCells,loadCellsFrom]
 ·have hlen:(X.take (c*size)).length=c*size:=by rw [List.length_take,hl];exact Nat.min_eq_left (Nat.mul_le_mul_right _ hc)
  simp only [Builtin.firstCells]
  have:=run_loadCells (P:=P) (w:=w) (a:=a) (X:=X.take (c*size)) (fun j hj=>by
   rw [h j (by simp at hj;omega),List.getElem_take])
  rw [hlen] at this;exact this
theorem FT (hT:aY P T=true) {st xt:TypeId} {x y:Operand} (h:wb T E M oc st x y=some out):aK P ⟨d,.call ⟨.builtin .copy,#[x,y],#[st,xt]⟩,ty,pos,aft,gd⟩ E M out:=by
 unfold wb at h
 split at h
 rotate_left
 ·simp at h
 rename_i e k b z u n vy c he hx hy
 obtain ⟨zv,ok,-,-⟩:=kb hT he
 split at h
 rotate_left
 ·simp at h
 rename_i e' k' rows m bT hM hs
 cases hk:k.beq k' with
 | false=>simp [hk] at h
 | true=>
  simp only [hk,cond_true,Option.some.injEq] at h;subst h
  obtain rfl:=Nat.eq_of_beq_eq_true hk
  obtain ⟨qt,hm⟩:=tH hs
  intro D w0 K0 β F I ρ w C hv
  obtain ⟨hn,oJ,dz,-⟩:=hv
  subst hn
  obtain ⟨X2,a2,fO⟩:=tT C.now qt (C.ev hy)
  have nv:c≤bT.length:=by omega
  have qx:c≤rows.length:=by omega
  have bu:∀ w:World,(sizeOf e).run P w=.ok k w:=fun w=>by obtain ⟨i,hi,h1,-⟩:=ok.info;simp [sizeOf,typeInfo,Sem.run_bind,hi,h1]
  obtain ⟨hlen,ob⟩:=fO.pre (P:=P) nv
  have x4:∀ a,a<bT.length→(X2 a).length=k:=fun a ha=>(a2.hl a _ (List.getElem?_eq_getElem ha)).2
  rw [← nU x4 nv] at ob
  have Cx:(lay c X2).length=c*k:=ei fun a ha=>x4 a (by omega)
  have wc:∀ q ∈ lay c X2,aW q=true:=fun q hq=>a2.one dz q (by rw [nU x4 nv] at hq;exact List.mem_of_mem_take hq)
  obtain ⟨yx,jr,rx⟩:=C.bR hx
  cases rx with
  | @sl _ _ c0 q0 hb=>
   have R:=C.rm.x
   have hB:=R.blk u _ hM
   have hH:=R.iB hM
   have R1:=R.fc hM
   have aM:=fh hM
   generalize ju:F u=Fu at hB hH R1
   cases hB with
   | rw aQ X G cX hs hr=>
    rw [hb] at aQ;cases aQ
    have hX:∀ a,a<rows.length→(X a).length=k:=fun a ha=>(cX a _ (List.getElem?_eq_getElem ha)).2
    have kz:(bT.take c++rows.drop c).length=rows.length:=by simp;omega
    have ra:dj (fun w=>K0 w∧Holds w I) k rows X G:=⟨cX,hr⟩
    have MS:min c bT.length=c:=by omega
    have iT:=(a2.take (c:=c)).app (ra.drop (c:=c))
    rw [List.length_take,MS] at iT
    have mT:∀ (a0:Option Addr) (c0:Nat) w',ρ x=.slice a0 rows.length c0→(∀ a:Addr,a0=some a→(storeCells a (lay c X2)).run P w=.ok () w')→(a0=none→w'=w)→(execOp ρ ⟨d,.call ⟨.builtin .copy,#[x,y],#[st,xt]⟩,ty,pos,aft,gd⟩).run P w=.ok (.value (.int .i64 (c:Int))) w':=by
     intro a0 c0 w' jr bq iU
     have we:Nat.min bT.length rows.length=c:=oJ
     simp only [execOp,resolve,List.map_toArray,List.map,jr,Sem.run_bind,Sem.run_pure,Result.andThen_ok,invoke,builtin,Builtin.copy_,List.getElem?_toArray,List.getElem?_cons_zero,List.getElem?_cons_succ,run_underlying ok.bq,hlen,we,bu,ob]
     cases a0 with
     | some a=>simp only [Sem.run_bind,bq _ rfl,Result.andThen_ok,Sem.run_pure];rfl
     | none=>rw [iU rfl];simp only [Sem.run_pure,Result.andThen_ok];rfl
    have eG:∀ {w':World} {H0':ak},St D w0 w' (H0'++(bE rows.length k G++((List.range (M.set u .dead).length).flatMap (aL F u [])++I)))→(∀ a0 c0,β[u]?=some (a0,c0)→dJ e' k (.slice a0 rows.length c0) rows.length (lay c X2++(lay rows.length X).drop (c*k)) H0')→∃ az F' I',RM D w0 K0 (M.set u (.rw e' k (bT.take c++rows.drop c))) az F' I' w'∧fM [] β az∧bK I I'∧(∀ v,v<M.length→v ∉ [u]→F' v=F v)∧aw (fun w=>K0 w∧Holds w I') az (.d (.v (.int .i64 (c:Int)))) (.int .i64 (c:Int)):=by
     intro w' H0' bq dM
     rw [qX G qx] at bq
     have R2:bB D w0 K0 (M.set u .dead) β (aL F u []) I ((H0'++bE (rows.length-c) k (fun i=>G (c+i)))++bE c k G) w':=R1.move (bq.perm (by classical rw [List.perm_iff_count];intro z;simp only [List.count_append];omega))
     have gg:bw (fun w=>K0 w∧Holds w I) β u (.rw e' k (bT.take c++rows.drop c)) (H0'++bE (rows.length-c) k (fun i=>G (c+i))):=by
      have lZ:lay rows.length (fun i=>if i<c then X2 i else X (c+(i-c)))=lay c X2++(lay rows.length X).drop (c*k):=by
       have:=n4 c (rows.length-c) X2 (fun i=>X (c+i))
       rw [show c+(rows.length-c)=rows.length by omega,tV hX qx] at this
       exact this
      have Ks:bE rows.length k (fun i=>if i<c then (fun _=>[]) else G (c+(i-c)))=bE (rows.length-c) k (fun i=>G (c+i)):=by
       have:=pC c (rows.length-c) k (fun _ _=>[]) (fun i=>G (c+i))
       rw [show c+(rows.length-c)=rows.length by omega,kG,List.nil_append] at this
       exact this
      have:=bw.rw (K:=fun w=>K0 w∧Holds w I) (u:=u) (T:=e') (k:=k) (rows:=bT.take c++rows.drop c) (H0:=H0') hb _ _ iT.hl (by
       rw [kz,lZ];exact dM _ _ hb) iT.hr
      rw [kz,Ks] at this;exact this
     have R3:=((R2.drop.perm (Y:=(H0'++bE (rows.length-c) k (fun i=>G (c+i)))++[]) (by rw [List.append_nil])).back (by rw [List.length_set];exact aM) (by simp [aL]) gg).nil rfl
     rw [List.set_set] at R3
     refine ⟨β,_,I,R3,(Ext.refl β).b _,bK.refl _,fun q hq jv=>?_,.d (.v _)⟩
     have jT:q≠u:=by simpa using jv
     simp only [aL];rw [if_neg jT,if_neg jT]
    have BV:=R1.st
    rcases hs.2 with ⟨h0,rfl,a,Cy⟩ | ⟨b',cap,cs,Cz,rfl,cJ,dP,ht⟩
    ·have xS:c=0:=by omega
     simp only [Value.slice.injEq] at Cy
     obtain ⟨-,-,rfl⟩:=Cy
     have sU:lay c X2=[]:=by subst xS;simp [lay]
     refine aT.pure (mT _ _ w jr (fun a _=>by rw [sU];simp [storeCells]) (fun _=>rfl)) (eG (H0':=[]) (BV.perm (by classical rw [List.perm_iff_count];intro z;simp only [List.count_append,List.count_nil];omega)) fun a0 c0 dY=>?_)
     rw [hb] at dY;cases dY
     have:lay rows.length X=[]:=by rw [h0];simp [lay]
     rw [sU,this,List.drop_nil,List.append_nil]
     rw [h0];exact dJ.nil _ _ _
    ·simp only [Value.slice.injEq] at Cz
     obtain ⟨rfl,-,rfl⟩:=Cz
     have hw:=(Holds.app.1 hH).1.one
     have MT:c*k≤rows.length*k:=Nat.mul_le_mul_right _ qx
     have sw:rows.length*k≤cs.size:=by rw [cJ];exact Nat.mul_le_mul_right _ dP
     have AN:=nN (P:=P) (lay c X2) w cs 0 0 hw (by omega) wc
     rw [Nat.add_zero] at AN
     refine aT.pure (mT _ _ _ jr (fun a ha=>by simp only [Option.some.injEq] at ha;subst ha;exact AN) (fun iU=>by simp at iU)) (eG (H0':=[(b',.cells (cu cs 0 (lay c X2)) e' (0,0))]) ?_ fun a0 c0 dY=>?_)
     ·have nb:St D w0 w ((b',.cells cs e' (0,0))::(bE rows.length k G++((List.range (M.set u .dead).length).flatMap (aL F u [])++I))):=BV.perm (by classical rw [List.perm_iff_count];intro z;simp only [List.count_append,List.count_cons,List.cons_append,List.nil_append];omega)
      exact nb.set _
     ·rw [hb] at dY;cases dY
      refine ⟨by rw [List.length_append,List.length_drop,Cx,ei hX];omega,Or.inr ⟨b',_,_,rfl,rfl,by rw [lC];exact cJ,dP,?_⟩⟩
      rw [DH cs _ (by omega),List.take_append,Cx,List.take_of_length_le (by omega),← ht,List.drop_take]
def vk (T:aN) (E:List (Nat×AV)) (M:List ai) (oc:Option aU) (t:TypeId) (x y:Operand):Option Out:=
 match iq T t,cF (aI E x),cF (aI E y),oc with
 | some (e,k,b,z),some (.i64,n),some (.i64,n'),some (.n2 m c)=>some ⟨[n=(m:Int),n'=(c:Int),m≤c,b*c≤281474976710656,c<4611686018427387904],.sl M.length m,M++[.rw e k (List.replicate m (z.map .v))],[],[],none⟩
 | _,_,_,_=>none
set_option maxRecDepth 20000 in
theorem Dr {t e k b:Nat} {z:List Value} {zv:Value} (ok:ov P t e k b zv) (hz:zv.cells=z.toArray) (en:z.length=k) {m c:Nat} (mn:m≤c) (hb:b*c≤281474976710656) (hm:c<4611686018427387904):
  (Instr.makeSlice t (.int .i64 m) (.int .i64 c)).run P w=.ok (.slice (some ⟨w.heap.size,0,none⟩) m c) (w.alloc (.cells (lay c fun _=>z).toArray e)):=by
 obtain ⟨i,hi,h1,h2,h3⟩:=ok.info
 have hw:∀ m:Nat,m<4611686018427387904→IntKind.i64.wrap (m:Int)=m:=by
  intro m hm;simp [IntKind.wrap,IntKind.signed,IntKind.bits];omega
 have bu:∀ w:World,(sizeOf e).run P w=.ok k w:=fun w=>by simp [sizeOf,typeInfo,Sem.run_bind,hi,h1]
 have kd:∀ w:World,(typeInfo e).run P w=.ok i w:=fun w=>by simp [typeInfo,Sem.run_bind,hi]
 have hzero:∀ w:World,(zeroValue e).run P w=.ok zv w:=fun w=>by simp [zeroValue,Sem.run_bind,kd,h3]
 have qc:∀ (k:Nat) (w:World),(askRoom k).run P w=.ok () w:=by
  intro k w;unfold askRoom;split<;>simp [mark,Sem.run]
 have xR:∀ n:Int,asInt (.int .i64 n)=pure n:=fun n=>rfl
 have cg:∀ (cs:Array Value) (w:World),(newRow e cs).run P w=.ok ⟨w.heap.size,0,none⟩ (w.alloc (.cells cs e)):=by
  intro cs w;simp [newRow,newObj,Sem.run]
 have Cp:∀ m:Nat,b*m≤281474976710656→¬ ((i.bytes:Int)*(m:Int)>2 ^ 48):=by
  intro m hb
  rw [h2]
  have e:((b*m:Nat):Int)=(b:Int)*(m:Int):=Int.natCast_mul b m
  rw [← e]
  generalize b*m=q at hb
  omega
 have vg:∀ n,n=c*k→(if n=0 then ((Array.range n).map fun i=>(#[]:Array Value)[i%(#[]:Array Value).size]!) else ((Array.range n).map fun i=>z.toArray[i%z.toArray.size]!))=(lay c fun _=>z).toArray:=by
  intro n hn
  subst hn
  rw [← rv z c k en]
  by_cases h0:c*k=0
  ·rw [if_pos h0,h0];simp
  ·rw [if_neg h0]
 unfold Instr.makeSlice
 simp only [Sem.run_bind,run_underlying ok.bq,Result.andThen_ok,xR,Sem.run_pure,kd,hw c hm,hw m (by omega)]
 have n2:=Cp c hb
 have vW:¬ ((((m:Int)<0:Bool)||decide ((i.bytes:Int)*(c:Int)>2 ^ 48))=true∨(m:Int)<0∨(m:Int)>c):=by
  simp only [Bool.or_eq_true,decide_eq_true_eq]
  omega
 rw [if_neg (by simpa using vW)]
 simp only [Sem.run_bind,Result.andThen_ok,qc,bu,Int.toNat_natCast]
 have:=vg (c*k) rfl
 by_cases h0:c*k=0
 ·rw [if_pos h0] at this ⊢
  simp only [Sem.run_pure,Result.andThen_ok,Sem.run_bind,cg,this]
 ·rw [if_neg h0] at this ⊢
  simp only [Sem.run_pure,Result.andThen_ok,Sem.run_bind,hzero,hz,cg,this]
theorem EF (hT:aY P T=true) {t:TypeId} {x y:Operand} (h:vk T E M oc t x y=some out):aK P ⟨d,.makeSlice t x y,ty,pos,aft,gd⟩ E M out:=by
 unfold vk at h
 split at h
 ·rename_i e k b z n n' m c he hx hy
  simp only [Option.some.injEq] at h;subst h
  obtain ⟨zv,ok,hz,en⟩:=kb hT he
  intro D w0 K0 β F I ρ w C hv
  obtain ⟨rfl,rfl,mn,hb,hm,-⟩:=hv
  refine aT.pure (v:=.slice (some ⟨w.heap.size,0,none⟩) m c) (w':=w.alloc (.cells (lay c fun _=>z).toArray e)) (by simp only [execOp,C.int hx,C.int hy,Sem.run_bind,Dr ok hz en mn hb hm,Result.andThen_ok,Sem.run_pure]) ?_
  have gl:=ei (n:=c) (k:=k) (X:=fun _=>z) (fun _ _=>en)
  have MU:=ei (n:=m) (k:=k) (X:=fun _=>z) (fun _ _=>en)
  refine ⟨_,_,I,C.rm.new (q:=(some ⟨w.heap.size,0,none⟩,c)) (Gr.alloc w _) (dh.alloc w _) ?_,(Ext.app _ _).b _,bK.refl _,lK _ _,.sl (hC C.rm _)⟩
  have:=bw.rw (K:=fun w=>K0 w∧Holds w I) (β:=β++[(some ⟨w.heap.size,0,none⟩,c)]) (u:=M.length) (T:=e) (k:=k) (rows:=List.replicate m (z.map .v)) (H0:=[(w.heap.size,.cells (lay c fun _=>z).toArray e (0,0))]) (hC C.rm _) (fun _=>z) (fun _ _=>[]) (fun i r hi=>by
   rw [List.getElem?_replicate] at hi
   split at hi
   ·simp only [Option.some.injEq] at hi;subst hi;rw [List.length_map];exact ⟨en,en⟩
   ·simp at hi) (by
    rw [List.length_replicate]
    exact ⟨MU,Or.inr ⟨w.heap.size,c,_,rfl,rfl,by simpa using gl,mn,(nU (n:=c) (k:=k) (X:=fun _=>z) (fun _ _=>en) mn).symm⟩⟩) (fun i r j c x hi h1 h2=>by
    rw [List.getElem?_replicate] at hi
    split at hi
    ·simp only [Option.some.injEq] at hi;subst hi;exact tx h1 h2
    ·simp at hi)
  rw [kG,List.append_nil] at this
  exact this
 ·simp at h
end Go.Proofs.YtcnpikbbmbombaaGreatDoor
namespace Go.Proofs.YtcnpikbbmbombaaGreatDoor
open Go.RowKit
variable {P:Program} {T:aN} {D:List Nat} {w0:World} {K0:World→Prop} {E:List (Nat×AV)} {M:List ai} {β:Beta} {F:Nat→ak} {I X:ak} {ρ:Operand→Value} {w:World}
variable {d:Option Tmp} {ty:TypeId} {pos:String} {aft:Array Edge} {gd:Option (Nat×Bool)} {oc:Option aU} {out:Out}
theorem mM {t e size n c l h m:Nat} {a:Option Addr} (ht:P.underlying t=some (.slice e)) (hs:(P.info? e).map (·.size)=some size) {vl vh vm:Option Value} (hb:(Instr.sliceBounds true n c vl vh vm).run P w=.ok (l,h,m) w):
  (Instr.sliceAt t (.slice a n c) vl vh vm).run P w=.ok (.slice (if m=l then a else a.map (·.add (l*size))) (h-l) (m-l)) w:=by
 cases hi:P.info? e with
 | none=>simp [hi] at hs
 | some inf=>
  simp only [hi,Option.map_some,Option.some.injEq] at hs
  have bu:(sizeOf e).run P w=.ok size w:=by simp [sizeOf,typeInfo,Sem.run_bind,hi,hs]
  simp only [Instr.sliceAt,Instr.slice,Sem.run_bind,run_underlying ht,Result.andThen_ok,hb,bu,Sem.run_pure]
def x5 (T:aN) (E:List (Nat×AV)) (M:List ai) (oc:Option aU) (t:TypeId) (x:Operand) (lo hi mx:Option Operand):Option Out:=
 match cW T t,aI E x,oc with
 | some (.sl e),some (.sl u n),some o=>(match fE T e,M[u]? with
  | some k,some (.rw Te k' rows)=>(match lo,hi,mx,o with
   | some l,none,none,.n c=>(match cF (aI E l) with
    | some (.i64,z)=>bif k.beq k' then some ⟨[z=(c:Int),c<n,n=rows.length],.sb u k c (n-c),M,[],[],some [u]⟩ else none
    | _=>none)
   | none,some h,none,.n c=>(match cF (aI E h) with
    | some (.i64,z)=>some ⟨[z=(c:Int),c≤n,n=rows.length],.sl u c,M.set u (.rw Te k' (rows.take c)),[u],[],none⟩
    | _=>none)
   | none,some h,some m,.res (.ro k2 bT)=>(match cF (aI E h),cF (aI E m) with
    | some (.i64,z),some (.i64,z')=>some ⟨[z=(n:Int),z'=(n:Int),n=rows.length,k'=k2,cN rows=bT],.d (.ro k2 bT),M.set u .dead,[u],[],none⟩
    | _,_=>none)
   | _,_,_,_=>none)
  | _,_=>none)
 | _,_,_=>none
theorem Src.cap {size n c c':Nat} {a:Option Addr} {xs:List Value} (h:Src w size (.slice a n c) n xs):Src w size (.slice a n c') n xs:=by
 refine ⟨h.1,?_⟩
 rcases h.2 with ⟨rfl,_,_,_⟩ | ⟨a',_,e,h2⟩
 ·exact Or.inl ⟨rfl,_,_,rfl⟩
 ·simp only [Value.slice.injEq] at e;obtain ⟨rfl,-,rfl⟩:=e
  exact Or.inr ⟨a',c',rfl,h2⟩
theorem bF.cap {K:World→Prop} {k n c c':Nat} {a:Option Addr} {rows:List (List DV)} {H:ak} (h:bF K (.ro k rows) (.slice a n c) H) (hc:n≤c'):bF K (.ro k rows) (.slice a n c') H:=by
 cases h with
 | ro X hl hy hs hr=>
  obtain ⟨a',MV,e,-⟩:=hy
  simp only [Value.slice.injEq] at e;obtain ⟨rfl,rfl,rfl⟩:=e
  exact .ro X hl ⟨_,_,rfl,hc⟩ (fun w hw=>(hs w hw).cap) hr
theorem IY (hT:aY P T=true) {t:TypeId} {x:Operand} {lo hi mx:Option Operand} (h:x5 T E M oc t x lo hi mx=some out):aK P ⟨d,.slice t x lo hi mx,ty,pos,aft,gd⟩ E M out:=by
 unfold x5 at h
 split at h
 rotate_left
 ·simp at h
 rename_i e u n o ht hx
 split at h
 rotate_left
 ·simp at h
 rename_i k Te k' rows hk hM
 replace ht:=cH hT ht
 replace hk:=gU hT hk
 split at h
 ·rename_i l c
  split at h
  rotate_left
  ·simp at h
  rename_i z hz
  cases cm:k.beq k' with
  | false=>simp [cm] at h
  | true=>
   simp only [cm,cond_true,Option.some.injEq] at h;subst h
   obtain rfl:=Nat.eq_of_beq_eq_true cm
   refine aK.look ?_ (by simpa using fh hM)
   intro D w0 K0 β F I ρ w C hv
   obtain ⟨rfl,hc,hn,-⟩:=hv
   obtain ⟨y,hy,r⟩:=C.bR hx
   cases r with
   | @sl _ _ cc a hb=>
    obtain ⟨H,hF,hB,hH⟩:=C.rm.at hM
    cases hB with
    | rw aQ X G hl hs hr=>
     rw [hb] at aQ;cases aQ
     obtain ⟨b',cap,cs,he,rfl,cJ,dP,lf⟩:=hs.block (by omega)
     simp only [Value.slice.injEq] at he;obtain ⟨rfl,-,rfl⟩:=he
     refine ⟨_,aw.sb (k:=k) (o:=c) (n:=n-c) (c':=cc-c) hb,fun w' _=>?_⟩
     have:=mM (P:=P) (w:=w') (a:=some ⟨b',0,none⟩) ht hk (n:=n) (c:=cc) (l:=c) (h:=n) (m:=cc) (vl:=some (.int .i64 c)) (vh:=none) (vm:=none) (by simp [Instr.sliceBounds,gT (show c≤n by omega)])
     rw [if_neg (by omega)] at this
     simp only [execOp,hy,C.int hz,Option.map_some,Option.map_none,Sem.run_bind,this,Result.andThen_ok,Sem.run_pure,add_eq,Nat.zero_add]
 ·rename_i hh c
  split at h
  rotate_left
  ·simp at h
  rename_i z hz
  simp only [Option.some.injEq] at h;subst h
  intro D w0 K0 β F I ρ w C hv
  obtain ⟨rfl,hc,hn,-⟩:=hv
  obtain ⟨y,hy,r⟩:=C.bR hx
  cases r with
  | @sl _ _ cc a hb=>
   have R:=C.rm.x
   have hB:=R.blk u _ hM
   have R1:=R.fc hM
   have aM:=fh hM
   generalize ju:F u=Fu at hB R1
   cases hB with
   | @rw _ _ _ _ _ H0 aQ X G hl hs hr=>
    rw [hb] at aQ;cases aQ
    have js:n≤cc:=by
     rcases hs.2 with ⟨h0,-,a,hq⟩ | ⟨b',cap,cs,hq,-,-,dP,-⟩
     ·omega
     ·simp only [Value.slice.injEq] at hq;omega
    have fF:=mM (P:=P) (w:=w) (a:=a) ht hk (n:=n) (c:=cc) (l:=0) (h:=c) (m:=cc) (vl:=none) (vh:=some (.int .i64 c)) (vm:=none) (by simp [Instr.sliceBounds,gT (show c≤cc by omega)])
    have iS:(if cc=0 then a else a.map (·.add (0*k)))=a:=by
     split
     ·rfl
     ·cases a with
      | none=>rfl
      | some a=>simp [add_zero']
    rw [iS] at fF
    refine aT.pure (v:=.slice a c cc) (w':=w) (by simp only [execOp,hy,C.int hz,Option.map_some,Option.map_none,Sem.run_bind,fF,Result.andThen_ok,Sem.run_pure,Nat.sub_zero]) ?_
    have hX:∀ a,a<rows.length→(X a).length=k':=fun a ha=>(hl a _ (List.getElem?_eq_getElem ha)).2
    have fT:c≤rows.length:=by omega
    have hlen:(rows.take c).length=c:=by simp;omega
    have ra:dj (fun w=>K0 w∧Holds w I) k' rows X G:=⟨hl,hr⟩
    have dM:dJ Te k' (.slice a c cc) c (lay c X) H0:=by
     refine ⟨ei fun i hi=>hX i (by omega),?_⟩
     rcases hs.2 with ⟨h0,e0,a',hq⟩ | ⟨b',cap,cs,hq,e0,h1,dP,lf⟩
     ·simp only [Value.slice.injEq] at hq
      obtain ⟨rfl,-,rfl⟩:=hq
      obtain rfl:c=0:=by omega
      exact Or.inl ⟨rfl,e0,_,rfl⟩
     ·simp only [Value.slice.injEq] at hq
      obtain ⟨rfl,-,rfl⟩:=hq
      refine Or.inr ⟨b',cc,cs,rfl,e0,h1,by omega,?_⟩
      rw [nU hX fT,← lf,List.take_take,Nat.min_eq_left (Nat.mul_le_mul_right _ fT)]
    have gg:bw (fun w=>K0 w∧Holds w I) β u (.rw Te k' (rows.take c)) (H0++bE c k' G):=by
     have:=bw.rw (K:=fun w=>K0 w∧Holds w I) (u:=u) (T:=Te) (k:=k') (rows:=rows.take c) hb X G (ra.take (c:=c)).hl (by rw [hlen];exact dM) (ra.take (c:=c)).hr
     rw [hlen] at this;exact this
    rw [List.nil_append,qX G fT,← List.append_assoc] at R1
    have R3:=((R1.drop.perm (Y:=(H0++bE c k' G)++[]) (by rw [List.append_nil])).back (by rw [List.length_set];exact aM) (by simp [aL]) gg).nil rfl
    rw [List.set_set] at R3
    refine ⟨β,_,I,R3,(Ext.refl β).b _,bK.refl _,fun q hq jv=>?_,.sl hb⟩
    have jT:q≠u:=by simpa using jv
    simp only [aL];rw [if_neg jT,if_neg jT]
 ·rename_i hh m k2 bT
  split at h
  rotate_left
  ·simp at h
  rename_i z z' hz iS
  simp only [Option.some.injEq] at h;subst h
  intro D w0 K0 β F I ρ w C hv
  obtain ⟨rfl,rfl,hn,rfl,rfl,-⟩:=hv
  obtain ⟨y,hy,r⟩:=C.bR hx
  cases r with
  | @sl _ _ cc a hb=>
   have R:=C.rm.x
   have hB:=R.blk u _ hM
   have R1:=R.fc hM
   generalize ju:F u=Fu at hB R1
   have hd:bF (fun w=>K0 w∧Holds w I) (.em Te k' rows) (.slice a n cc) Fu∧n≤cc:=by
    cases hB with
    | rw aQ X G hl hs hr=>
     rw [hb] at aQ;cases aQ
     refine ⟨by rw [hn];exact .em X G hl hs hr,?_⟩
     rcases hs.2 with ⟨h0,-,a,hq⟩ | ⟨b',cap,cs,hq,-,-,dP,-⟩
     ·omega
     ·simp only [Value.slice.injEq] at hq;omega
   obtain ⟨hd,js⟩:=hd
   have fF:=mM (P:=P) (w:=w) (a:=a) ht hk (n:=n) (c:=cc) (l:=0) (h:=n) (m:=n) (vl:=none) (vh:=some (.int .i64 n)) (vm:=some (.int .i64 n)) (by simp [Instr.sliceBounds,gT js,gT (Nat.le_refl n)])
   have MW:(if n=0 then a else a.map (·.add (0*k)))=a:=by
    split
    ·rfl
    ·cases a with
     | none=>rfl
     | some a=>simp [add_zero']
   rw [MW] at fF
   refine aT.pure (v:=.slice a n n) (w':=w) (by simp only [execOp,hy,C.int hz,C.int iS,Option.map_some,Option.map_none,Sem.run_bind,fF,Result.andThen_ok,Sem.run_pure,Nat.sub_zero]) ?_
   rw [List.nil_append] at R1
   have R2:RM D w0 K0 (M.set u .dead) β (aL F u []) (Fu++I) w:=by
    refine ⟨R1.len,fun v bl hv=>(R1.blk v bl hv).mono (fun w hw=>⟨hw.1,(Holds.app.1 hw.2).2⟩) (Ext.refl _),?_⟩
    exact R1.st.perm (List.Perm.append_left _ List.perm_append_comm)
   refine ⟨β,_,_,R2,(Ext.refl β).b _,⟨_,rfl⟩,fun q _ hq=>by simp only [aL];rw [if_neg (by simpa using hq)],?_⟩
   have:=rJ (K':=fun w=>K0 w∧Holds w (Fu++I)) hd fun w hw=>⟨⟨hw.1,(Holds.app.1 hw.2).2⟩,(Holds.app.1 hw.2).1⟩
   rw [dK] at this
   exact .d (this.cap (Nat.le_refl _))
 ·simp at h
def uz (T:aN) (E:List (Nat×AV)) (M:List ai) (oc:Option aU) (t:TypeId) (x ix:Operand):Option Out:=
 match cF (aI E ix),cW T t,aI E x,oc with
 | some (_,z),some (.sl e),some (.sb u k o n),some (.n i)=>(match fE T e,M[u]? with
  | some k',some (.rw _ _ rows)=>bif k.beq k' then some ⟨[z=(i:Int),i<n,o+n≤rows.length],.ep u k (o+i) 0,M,[],[],some []⟩ else none
  | _,_=>none)
 | _,_,_,_=>none
theorem D3 (hT:aY P T=true) {t:TypeId} {x ix:Operand} (h:uz T E M oc t x ix=some out):aK P ⟨d,.indexAddr t x ix,ty,pos,aft,gd⟩ E M out:=by
 unfold uz at h
 split at h
 rotate_left
 ·simp at h
 rename_i kk z e u k o n i hz ht hx
 split at h
 rotate_left
 ·simp at h
 rename_i k' Tt k2 rows hk hM
 cases cm:k.beq k' with
 | false=>simp [cm] at h
 | true=>
  simp only [cm,cond_true,Option.some.injEq] at h;subst h
  obtain rfl:=Nat.eq_of_beq_eq_true cm
  replace ht:=cH hT ht
  replace hk:=gU hT hk
  refine aK.look ?_ (by simp)
  intro D w0 K0 β F I ρ w C dt
  obtain ⟨rfl,hi,MF,-⟩:=dt
  obtain ⟨y,hy,r⟩:=C.bR hx
  cases r with
  | sb hb=>
   refine ⟨_,?_,fun _ _=>tR ht hk hy (C.int hz) (by omega) (by omega)⟩
   rw [add_eq]
   have:=aw.ep (K:=fun w=>K0 w∧Holds w I) (k:=k) (i:=o+i) (o:=0) hb
   rw [Nat.add_mul,Nat.add_zero] at this
   simpa using this
def vn (T:aN) (E:List (Nat×AV)) (M:List ai) (t:TypeId) (x:Operand):Option Out:=
 match iq T t,aI E x with
 | some (_,k,_,z),some (.sb u k' o n)=>(match M[u]? with
  | some (.rw Te k2 rows)=>bif k.beq k'&&k.beq k2&&z.all aW then some ⟨[0<n,o+n≤rows.length],.d (.v (.tuple #[])),M.set u (.rw Te k2 (rows.take o++(List.replicate n (z.map .v)++rows.drop (o+n)))),[u],[],none⟩ else none
  | _=>none)
 | _,_=>none
theorem EG (cs:Array Value) (i:Nat) (zs:List Value) (h:i+zs.length≤cs.size):(cu cs i zs).toList=cs.toList.take i++(zs++cs.toList.drop (i+zs.length)):=by
 apply List.ext_getElem?;intro p
 rw [Array.getElem?_toList,nR _ _ _ _ h,mL (by simpa using h)]
 split
 ·rfl
 ·simp
theorem FU {l z:List Value} {i n N:Nat} (hz:z.length=n) (h1:i+n≤N) (h2:N≤l.length):(l.take i++(z++l.drop (i+n))).take N=(l.take N).take i++(z++(l.take N).drop (i+n)):=by
 subst hz
 apply List.ext_getElem?;intro p
 rw [List.getElem?_take,mL (by omega),mL (by simp;omega),List.getElem?_take]
 by_cases hp:p<N
 ·rw [if_pos hp,if_pos hp]
 ·rw [if_neg hp,if_neg hp,if_neg (by omega)]
theorem FV {z:List Value} {zv:Value} (hz:zv.cells=z.toArray) (n:Nat):(Builtin.zeroCells zv.cells n).toList=lay n fun _=>z:=by
 rw [hz];unfold Builtin.zeroCells
 have:=rv z n z.length rfl
 simpa using this
theorem EH (hT:aY P T=true) {t:TypeId} {x:Operand} (h:vn T E M t x=some out):aK P ⟨d,.call ⟨.builtin .clear,#[x],#[t]⟩,ty,pos,aft,gd⟩ E M out:=by
 unfold vn at h
 split at h
 rotate_left
 ·simp at h
 rename_i e k b z u k' o n he hx
 split at h
 rotate_left
 ·simp at h
 rename_i Te k2 rows hM
 cases hc:(k.beq k'&&k.beq k2&&z.all aW) with
 | false=>simp [hc] at h
 | true=>
  simp only [hc,cond_true,Option.some.injEq] at h;subst h
  simp only [Bool.and_eq_true] at hc
  obtain rfl:=Nat.eq_of_beq_eq_true hc.1.1
  obtain rfl:=Nat.eq_of_beq_eq_true hc.1.2
  obtain ⟨zv,ok,hz,en⟩:=kb hT he
  intro D w0 K0 β F I ρ w C hv
  obtain ⟨na,sW,-⟩:=hv
  obtain ⟨y,hy,r⟩:=C.bR hx
  have hzero:∀ w:World,(zeroValue e).run P w=.ok zv w:=fun w=>by obtain ⟨i,hi,-,-,h3⟩:=ok.info;simp [zeroValue,typeInfo,Sem.run_bind,hi,h3]
  cases r with
  | @sb _ _ _ _ b0 c0 c1 hb=>
   have R:=C.rm.x
   have hB:=R.blk u _ hM
   have hH:=R.iB hM
   have R1:=R.fc hM
   have aM:=fh hM
   generalize ju:F u=Fu at hB hH R1
   cases hB with
   | rw aQ X G hl hs hr=>
    rw [hb] at aQ;cases aQ
    obtain ⟨b',cap,cs,hq,rfl,cJ,dP,lf⟩:=hs.block (by omega)
    simp only [Value.slice.injEq,Option.some.injEq,Addr.mk.injEq] at hq
    obtain ⟨⟨rfl,-⟩,-,rfl⟩:=hq
    have hw:=(Holds.app.1 hH).1.one
    have hX:∀ a,a<rows.length→(X a).length=k:=fun a ha=>(hl a _ (List.getElem?_eq_getElem ha)).2
    have x6:(lay n fun _=>z).length=n*k:=ei fun _ _=>en
    have hmul:o*k+n*k≤rows.length*k:=by rw [← Nat.add_mul];exact Nat.mul_le_mul_right _ sW
    have bu:rows.length*k≤cs.size:=by rw [cJ];exact Nat.mul_le_mul_right _ dP
    obtain ⟨n',rfl⟩:∃ n',n=n'+1:=⟨n-1,by omega⟩
    refine Fz (Z:=lay (n'+1) fun _=>z) ok.bq (hzero w) hy hw (FV hz _) (by omega) (fun q hq=>?_) ?_
    ·simp only [lay,List.mem_flatMap] at hq
     obtain ⟨_,-,hq⟩:=hq
     exact List.all_eq_true.1 hc.2 q hq
    have ra:dj (fun w=>K0 w∧Holds w I) k rows X G:=⟨hl,hr⟩
    have rz:dj (fun w=>K0 w∧Holds w I) k (List.replicate (n'+1) (z.map DV.v)) (fun _=>z) (fun _ _=>[]):=⟨fun i r hi=>by
     rw [List.getElem?_replicate] at hi
     split at hi
     ·simp only [Option.some.injEq] at hi;subst hi;rw [List.length_map];exact ⟨en,en⟩
     ·simp at hi,fun i r j c x hi h1 h2=>by
     rw [List.getElem?_replicate] at hi
     split at hi
     ·simp only [Option.some.injEq] at hi;subst hi;exact tx h1 h2
     ·simp at hi⟩
    have iT:=(ra.take (c:=o)).app (rz.app (ra.drop (c:=o+(n'+1))))
    have ho:(rows.take o).length=o:=by simp;omega
    have kz:(rows.take o++(List.replicate (n'+1) (z.map DV.v)++rows.drop (o+(n'+1)))).length=rows.length:=by simp;omega
    rw [ho,List.length_replicate] at iT
    have e1:=n4 o ((n'+1)+(rows.length-(o+(n'+1)))) X (fun i=>if i<n'+1 then z else X (o+(n'+1)+(i-(n'+1))))
    rw [n4 (n'+1) (rows.length-(o+(n'+1))) (fun _=>z) (fun i=>X (o+(n'+1)+i)),tV hX sW,show o+((n'+1)+(rows.length-(o+(n'+1))))=rows.length by omega] at e1
    have e2:=pC o ((n'+1)+(rows.length-(o+(n'+1)))) k G (fun i=>if i<n'+1 then (fun _=>[]) else G (o+(n'+1)+(i-(n'+1))))
    rw [pC (n'+1) (rows.length-(o+(n'+1))) k (fun _ _=>[]) (fun i=>G (o+(n'+1)+i)),kG,List.nil_append,show o+((n'+1)+(rows.length-(o+(n'+1))))=rows.length by omega] at e2
    have e3:=qX (k:=k) G (show o+(n'+1)≤rows.length by omega)
    have e4:=qX (n:=o+(n'+1)) (k:=k) G (show o≤o+(n'+1) by omega)
    have bq:=R1.st
    rw [e3,e4] at bq
    have nb:St D w0 w ((b0,.cells cs Te (0,0))::((bE o k G++bE (rows.length-(o+(n'+1))) k fun i=>G (o+(n'+1)+i))++(((bE (o+(n'+1)-o) k fun i=>G (o+i)))++((List.range (M.set u .dead).length).flatMap (aL F u [])++I)))):=bq.perm (by classical rw [List.perm_iff_count];intro z;simp only [List.count_append,List.count_cons,List.cons_append,List.nil_append];omega)
    have oI:=nb.set (.cells (cu cs (o*k) (lay (n'+1) fun _=>z)) Te (0,0))
    have R2:bB D w0 K0 (M.set u .dead) β (aL F u []) I (([(b0,.cells (cu cs (o*k) (lay (n'+1) fun _=>z)) Te (0,0))]++(bE o k G++bE (rows.length-(o+(n'+1))) k fun i=>G (o+(n'+1)+i)))++(bE (o+(n'+1)-o) k fun i=>G (o+i))) _:=R1.move (oI.perm (by classical rw [List.perm_iff_count];intro z;simp only [List.count_append,List.count_cons,List.cons_append,List.nil_append];omega))
    have gg:bw (fun w=>K0 w∧Holds w I) β u (.rw Te k (rows.take o++(List.replicate (n'+1) (z.map DV.v)++rows.drop (o+(n'+1))))) ([(b0,.cells (cu cs (o*k) (lay (n'+1) fun _=>z)) Te (0,0))]++(bE o k G++bE (rows.length-(o+(n'+1))) k fun i=>G (o+(n'+1)+i))):=by
     have:=bw.rw (K:=fun w=>K0 w∧Holds w I) (u:=u) (T:=Te) (k:=k) (rows:=rows.take o++(List.replicate (n'+1) (z.map DV.v)++rows.drop (o+(n'+1)))) (H0:=[(b0,.cells (cu cs (o*k) (lay (n'+1) fun _=>z)) Te (0,0))]) hb _ _ iT.hl (by
      rw [kz,e1]
      refine ⟨by rw [List.length_append,List.length_append,x6,List.length_drop,ei hX,ei (n:=o) fun a ha=>hX a (by omega),Nat.add_mul o];omega,Or.inr ⟨_,_,_,rfl,rfl,by rw [lC];exact cJ,dP,?_⟩⟩
      rw [EG _ _ _ (by omega),x6,FU x6 (by omega) (by simpa using bu),lf,nU (c:=o) hX (by omega),Nat.add_mul o]) iT.hr
     rw [kz,e2] at this;exact this
    have R3:=((R2.drop.perm (Y:=([(b0,.cells (cu cs (o*k) (lay (n'+1) fun _=>z)) Te (0,0))]++(bE o k G++bE (rows.length-(o+(n'+1))) k fun i=>G (o+(n'+1)+i)))++[]) (by rw [List.append_nil])).back (by rw [List.length_set];exact aM) (by simp [aL]) gg).nil rfl
    rw [List.set_set] at R3
    refine ⟨β,_,I,R3,(Ext.refl β).b _,bK.refl _,fun q hq jv=>?_,.d (.v _)⟩
    have jT:q≠u:=by simpa using jv
    simp only [aL];rw [if_neg jT,if_neg jT]
def wg (T:aN) (E:List (Nat×AV)) (M:List ai) (oc:Option aU) (t:TypeId) (x ix:Operand):Option Out:=
 match cW T t,jj (aI E x),cF (aI E ix),oc with
 | some .st,some l,some (_,z),some (.n i)=>(match l[i]? with | some b=>some (lk [z=(i:Int)] (.d (.v (.int .u8 (b.toNat:Int)))) M) | none=>none)
 | _,_,_,_=>none
theorem FW (hT:aY P T=true) {t:TypeId} {x ix:Operand} (h:wg T E M oc t x ix=some out):aK P ⟨d,.index t x ix,ty,pos,aft,gd⟩ E M out:=by
 unfold wg at h
 split at h
 ·rename_i l k z i hu hx hz
  split at h
  ·rename_i b hb
   simp only [Option.some.injEq] at h;subst h
   refine aK.same ?_
   intro D w0 K0 β F I ρ w C hv
   obtain ⟨rfl,-⟩:=hv
   refine ⟨_,fun w' _=>?_,.d (.v _)⟩
   have h1:=C.str hx
   have h2:=C.int hz
   have h3:=cH hT hu
   have h4:(⟨l.toArray⟩:ByteArray)[i]?=some b:=by
    obtain ⟨hi,rfl⟩:=List.getElem?_eq_some_iff.1 hb
    exact getElem?_pos (⟨l.toArray⟩:ByteArray) i (by show i<l.toArray.size;simpa using hi)
   simp [execOp,h1,h2,Instr.index,asIntOf,Sem.run_bind,run_underlying h3,h4]
  ·simp at h
 ·simp at h
def uA (T:aN) (E:List (Nat×AV)) (M:List ai) (oc:Option aU) (t:TypeId) (x ix:Operand):Option Out:=
 match cF (aI E ix),cW T t,aI E x,oc with
 | some (_,z),some (.ar n e),some (.ep u k j o),some (.n2 i _)=>(match fE T e with
  | some sz=>bif Nat.beq k 1&&Nat.beq o 0 then some (lk [z=(i:Int),i<n] (.ep u 1 (j+i*sz) 0) M) else none
  | none=>none)
 | _,_,_,_=>none
theorem D4 (hT:aY P T=true) {t:TypeId} {x ix:Operand} (h:uA T E M oc t x ix=some out):aK P ⟨d,.indexAddr t x ix,ty,pos,aft,gd⟩ E M out:=by
 unfold uA at h
 split at h
 rotate_left
 ·simp at h
 rename_i kk z n e u k j o i _ hz ht hx
 split at h
 rotate_left
 ·simp at h
 rename_i sz hk
 cases cm:(Nat.beq k 1&&Nat.beq o 0) with
 | false=>simp [cm] at h
 | true=>
  simp only [cm,cond_true,Option.some.injEq] at h;subst h
  simp only [Bool.and_eq_true] at cm
  obtain rfl:=Nat.eq_of_beq_eq_true cm.1
  obtain rfl:=Nat.eq_of_beq_eq_true cm.2
  replace ht:=cH hT ht
  replace hk:=gU hT hk
  refine aK.same fun C dt=>?_
  obtain ⟨rfl,hi,-⟩:=dt
  obtain ⟨y,hy,r⟩:=C.bR hx
  cases r with
  | ep hb=>
   refine ⟨_,fun _ _=>nQ ht hk hy (C.int hz) (by omega) (by omega),?_⟩
   rw [add_eq,Int.toNat_natCast,show j*1+0+i*sz=(j+i*sz)*1+0 by omega]
   exact .ep hb
def ng:List ai→List Nat→List ai
 | M,[]=>M
 | M,u::r=>ng (M.set u .dead) r
theorem zI:∀ (b:List Nat) (M:List ai),(ng M b).length=M.length
 | [],_=>rfl
 | u::r,M=>by rw [ng,zI r,List.length_set]
theorem RM.die:∀ {b:List Nat} {M:List ai} {F:Nat→ak} {I:ak},RM D w0 K0 M β F I w→(∀ u ∈ b,u<M.length)→∃ F' I',RM D w0 K0 (ng M b) β F' I' w∧bK I I'∧(∀ w,Holds w I'→∀ u ∈ b,Holds w (F u))∧∀ u,u ∉ b→F' u=F u
 | [],M,F,I,R,_=>⟨F,I,R,bK.refl I,fun _ _ u hu=>by simp at hu,fun _ _=>rfl⟩
 | u::r,M,F,I,R,hb=>by
  have hu:=hb u (by simp)
  have R1:=R.x.fc (List.getElem?_eq_getElem hu)
  rw [List.nil_append] at R1
  have R2:RM D w0 K0 (M.set u .dead) β (aL F u []) (F u++I) w:=
   ⟨R1.len,fun v bl hv=>(R1.blk v bl hv).mono (fun w hw=>⟨hw.1,(Holds.app.1 hw.2).2⟩) (Ext.refl _),R1.st.perm (List.Perm.append_left _ List.perm_append_comm)⟩
  obtain ⟨F',I',R3,g,h1,h2⟩:=R2.die (b:=r) (fun v hv=>by rw [List.length_set];exact hb v (by simp [hv]))
  refine ⟨F',I',R3,(show bK I (F u++I) from ⟨F u,rfl⟩).trans g,fun w hw v hv=>?_,fun v hv=>?_⟩
  ·by_cases e:v=u
   ·subst e;exact (Holds.app.1 (g.holds w hw)).1
   ·have:=h1 w hw v ((List.mem_cons.1 hv).resolve_left e)
    simpa [aL,e] using this
  ·simp only [List.mem_cons,not_or] at hv
   rw [h2 v hv.2];simp only [aL];rw [if_neg hv.1]
def vo (P:Program) (E:List (Nat×AV)) (M:List ai) (oc:Option aU) (g:Operand) (args:Array Operand):Option Out:=
 match aI E g,kq E args.toList,oc with
 | some (.fn f cf),some l,some (.stay told x)=>(match mQ M (l++cf) told with
  | some (vc,b)=>bif kR x&&mU M b then some ⟨al P f told x::vc,(mi (ng M b) x).1,(mi (ng M b) x).2,b,[],none⟩ else none
  | none=>none)
 | _,_,_=>none
theorem EI {g:Operand} {args:Array Operand} {eJ:Array TypeId} (h:vo P E M oc g args=some out):aK P ⟨d,.call ⟨.value g,args,eJ⟩,ty,pos,aft,gd⟩ E M out:=by
 unfold vo at h
 split at h
 ·rename_i f cf l told x hg hl
  split at h
  ·rename_i vc b vT
   cases dX:(kR x&&mU M b) with
   | false=>simp [dX] at h
   | true=>
    simp only [dX,cond_true,Option.some.injEq] at h;subst h
    simp only [Bool.and_eq_true] at dX
    have hb:=tS dX.2
    intro D w0 K0 β F I ρ w C hv
    obtain ⟨fN,hv⟩:=hv
    obtain ⟨y,hy,r⟩:=C.bR hg
    cases r with
    | fn cs cx fT=>
     obtain ⟨dA,jS⟩:=C.mh hl
     have gh:(args.toList.map ρ++cs).length=(l++cf).length:=by rw [List.length_append,List.length_append,dA,cx]
     have mZ:∀ (j:Nat) c y,(l++cf)[j]?=some c→(args.toList.map ρ++cs)[j]?=some y→aw (fun w=>K0 w∧Holds w I) β c y:=by
      intro j c y h1 h2
      rcases Nat.lt_or_ge j l.length with hj | hj
      ·rw [List.getElem?_append_left hj] at h1
       rw [List.getElem?_append_left (by omega)] at h2
       exact jS j c y h1 h2
      ·rw [List.getElem?_append_right hj] at h1
       rw [List.getElem?_append_right (by omega),dA] at h2
       exact fT _ c y h1 h2
     obtain ⟨F1,I1,R1,g1,bq,qy⟩:=C.rm.die hb
     obtain ⟨e1,e2⟩:=tE C.rm (K':=ic K0 I1 F1 []) vT hv (fun w hw=>⟨⟨hw.1.1,g1.holds w hw.1.2⟩,bq w hw.1.2⟩) gh mZ
     have hm:args.map ρ=(args.toList.map ρ).toArray:=by rw [← Array.toList_map]
     refine pr hy fN.1 hm ?_
     have kU:((args.toList.map ρ).toArray++cs.toArray:Array Value)=(args.toList.map ρ++cs).toArray:=by simp
     rw [kU]
     refine (fN.now R1 C.k (b:=[]) (by simp) e1 e2 (fun h=>absurd rfl h)).mono ?_
     rintro e w' ⟨v,rfl,I',X,R,hI,hd⟩
     refine ⟨v,rfl,?_⟩
     have R':bB D w0 K0 (ng M b) β F1 I' (X++[]) w':=by rw [List.append_nil];exact R
     obtain ⟨az,F',R2,e,f2,-,a2⟩:=vd dX.1 R' hd
     exact ⟨az,F',I',R2.nil rfl,e.b _,g1.trans hI,fun u hu x7=>(f2 u (by rw [zI];exact hu)).trans (qy u x7),a2⟩
  ·simp at h
 ·simp at h
end Go.Proofs.YtcnpikbbmbombaaGreatDoor
namespace Go.Proofs.YtcnpikbbmbombaaGreatDoor
open Go.RowKit
variable {mk:Bool} {P:Program} {T:aN} {f:FuncId} {w:World} {D:List Nat} {w0:World} {K0:World→Prop} {E:List (Nat×AV)} {M:List ai} {β:Beta} {F:Nat→ak} {I X:ak} {ρ:Operand→Value}
variable {d:Option Tmp} {ty:TypeId} {pos:String} {aft:Array Edge} {gd:Option (Nat×Bool)} {oc:Option aU} {out:Out}
def iL:List Nat→Nat→Option Nat
 | [],_=>none
 | k::r,u=>bif k.beq u then some 0 else (match iL r u with | some i=>some (i+1) | none=>none)
theorem j9:∀ {l:List Nat} {u i:Nat},iL l u=some i→l[i]?=some u
 | [],u,i,h=>by simp [iL] at h
 | k::r,u,i,h=>by
  unfold iL at h
  cases hk:k.beq u with
  | true=>simp only [hk,cond_true,Option.some.injEq] at h;subst h;simp [Nat.eq_of_beq_eq_true hk]
  | false=>
   simp only [hk,cond_false] at h
   split at h
   ·rename_i j hj;simp only [Option.some.injEq] at h;subst h;simpa using j9 hj
   ·simp at h
def sB (l:List Nat):AV→Option AV
 | .d x=>some (.d x)
 | .sl u n=>(match iL l u with | some v=>some (.sl v n) | none=>none)
 | .pt u o=>(match iL l u with | some v=>some (.pt v o) | none=>none)
 | .mv u=>(match iL l u with | some v=>some (.mv v) | none=>none)
 | .yl u=>(match iL l u with | some v=>some (.yl v) | none=>none)
 | .sb u k o n=>(match iL l u with | some v=>some (.sb v k o n) | none=>none)
 | .ep u k i o=>(match iL l u with | some v=>some (.ep v k i o) | none=>none)
 | .sf u k o n q=>(match iL l u with | some v=>some (.sf v k o n q) | none=>none)
 | .rp r o=>some (.rp r o)
 | .bt bs=>some (.bt bs)
 | .uk=>some .uk
 | _=>none
def mV (l:List Nat):List AV→Option (List AV)
 | []=>some []
 | c::r=>(match sB l c,mV l r with | some c',some r'=>some (c'::r') | _,_=>none)
def qf (l:List Nat):AV→Option AV
 | .fn f cs=>(match mV l cs with | some bM=>some (.fn f bM) | none=>none)
 | .ag cs=>(match mV l cs with | some bM=>some (.ag bM) | none=>none)
 | .tu cs=>(match mV l cs with | some bM=>some (.tu bM) | none=>none)
 | c=>sB l c
def jJ (l:List Nat):List AV→Option (List AV)
 | []=>some []
 | c::r=>(match qf l c,jJ l r with | some c',some r'=>some (c'::r') | _,_=>none)
def qg (l:List Nat):List (Nat×AV)→Option (List (Nat×AV))
 | []=>some []
 | (t,c)::r=>(match qf l c,qg l r with | some c',some r'=>some ((t,c')::r') | _,_=>none)
def sC (l:List Nat):ai→Option ai
 | .bx T cs=>(match jJ l cs with | some bM=>some (.bx T bM) | none=>none)
 | .rw T k rows=>some (.rw T k rows)
 | .tw a c T k rows=>some (.tw a c T k rows)
 | .nm v b=>(match iL l v with | some i=>some (.nm i b) | none=>none)
 | .gw g row=>some (.gw g row)
 | .fl T k m cs=>(match jJ l cs with | some bM=>some (.fl T k m bM) | none=>none)
 | .mf _ _ _=>none
 | .il _ _ _ _=>none
 | .mp T c es=>some (.mp T c es)
 | .mu T c es=>some (.mu T c es)
 | .it (some v) a s c=>(match iL l v with | some i=>some (.it (some i) a s c) | none=>none)
 | .it none a s c=>some (.it none a s c)
 | .lp b f sz E rf=>(match qg l E with | some E'=>some (.lp b f sz E' rf) | none=>none)
 | .dead=>some .dead
def fG (l:List Nat) (M:List ai):List Nat→Option (List ai)
 | []=>some []
 | u::r=>(match M[u]? with
  | some b=>(match sC l b,fG l M r with | some b',some r'=>some (b'::r') | _,_=>none)
  | none=>none)
def sD (l:List Nat):AV→Option AV
 | .ag cs=>(match jJ l cs with | some bM=>some (.ag bM) | none=>none)
 | .tu cs=>(match jJ l cs with | some bM=>some (.tu bM) | none=>none)
 | c=>qf l c
def iM (l:List Nat) (E:List (Nat×AV)):List Nat→Option (List (Nat×AV))
 | []=>some []
 | t::r=>(match bV E t with
  | some v=>(match sD l v,iM l E r with | some v',some r'=>some ((t,v')::r') | _,_=>none)
  | none=>none)
def eA (β:Beta):List Nat→Beta
 | []=>[]
 | u::r=>(match β[u]? with | some x=>x | none=>(none,0))::eA β r
theorem eR:∀ {l:List Nat} {i u:Nat} {x:Option Addr×Nat},l[i]?=some u→β[u]?=some x→(eA β l)[i]?=some x
 | [],i,u,x,h,_=>by simp at h
 | v::r,i,u,x,h,hx=>by
  cases i with
  | zero=>simp at h;subst h;simp [eA,hx]
  | succ i=>simp at h;simpa [eA] using eR h hx
theorem tj (β:Beta) (l:List Nat):(eA β l).length=l.length:=by induction l with | nil=>rfl | cons u r ih=>simp [eA,ih]
theorem Am {K:World→Prop} {l:List Nat} {c c':AV} (h:sB l c=some c') {y:Value} (r:aw K β c y):aw K (eA β l) c' y:=by
 unfold sB at h
 split at h
 ·simp only [Option.some.injEq] at h;subst h;cases r with | d r=>exact .d r
 ·split at h
  ·rename_i hv;simp only [Option.some.injEq] at h;subst h;cases r with | sl hb=>exact .sl (eR (j9 hv) hb)
  ·simp at h
 ·split at h
  ·rename_i hv;simp only [Option.some.injEq] at h;subst h;cases r with | pt hb=>exact .pt (eR (j9 hv) hb)
  ·simp at h
 ·split at h
  ·rename_i hv;simp only [Option.some.injEq] at h;subst h;cases r with | mv hb=>exact .mv (eR (j9 hv) hb)
  ·simp at h
 ·split at h
  ·rename_i hv;simp only [Option.some.injEq] at h;subst h;cases r with | yl hb=>exact .yl (eR (j9 hv) hb)
  ·simp at h
 ·split at h
  ·rename_i hv;simp only [Option.some.injEq] at h;subst h;cases r with | sb hb=>exact .sb (eR (j9 hv) hb)
  ·simp at h
 ·split at h
  ·rename_i hv;simp only [Option.some.injEq] at h;subst h;cases r with | ep hb=>exact .ep (eR (j9 hv) hb)
  ·simp at h
 ·split at h
  ·rename_i hv;simp only [Option.some.injEq] at h;subst h;cases r with | sf hb h1 h2 h3=>exact .sf (eR (j9 hv) hb) h1 h2 h3
  ·simp at h
 ·simp only [Option.some.injEq] at h;subst h;cases r with | rp a X hl hc hr=>exact .rp a X hl hc hr
 ·simp only [Option.some.injEq] at h;subst h;cases r with | bt hd hn=>exact .bt hd hn
 ·simp only [Option.some.injEq] at h;subst h;cases r with | uk hu=>exact .uk hu
 ·simp at h
theorem rB {K:World→Prop} {l:List Nat}:∀ {cs bM:List AV},mV l cs=some bM→bM.length=cs.length∧∀ {ys:List Value},(∀ (j:Nat) c y,cs[j]?=some c→ys[j]?=some y→aw K β c y)→∀ (j:Nat) c y,bM[j]?=some c→ys[j]?=some y→aw K (eA β l) c y
 | [],bM,h=>by simp only [mV,Option.some.injEq] at h;subst h;simp
 | c::r,bM,h=>by
  unfold mV at h
  split at h
  ·rename_i c1 r1 h1 h2
   simp only [Option.some.injEq] at h;subst h
   obtain ⟨e1,e2⟩:=rB (K:=K) h2
   refine ⟨by simp [e1],fun {ys} hr j d y h3 h4=>?_⟩
   cases ys with
   | nil=>simp at h4
   | cons z zs=>
    cases j with
    | zero=>simp at h3 h4;subst h3 h4;exact Am h1 (hr 0 _ _ rfl rfl)
    | succ j=>simp at h3 h4;exact e2 (ys:=zs) (fun j c y h5 h6=>hr (j+1) c y (by simpa using h5) (by simpa using h6)) j d y h3 h4
  ·simp at h
theorem uB {K:World→Prop} {l:List Nat} {c c':AV} (h:qf l c=some c') {y:Value} (r:aw K β c y):aw K (eA β l) c' y:=by
 unfold qf at h
 split at h
 ·split at h
  ·rename_i hl;simp only [Option.some.injEq] at h;subst h
   cases r with | fn ys cX hr=>obtain ⟨e1,e2⟩:=rB (β:=β) (K:=K) hl;exact .fn ys (by omega) (e2 hr)
  ·simp at h
 ·split at h
  ·rename_i hl;simp only [Option.some.injEq] at h;subst h
   cases r with | ag ys cX hr=>obtain ⟨e1,e2⟩:=rB (β:=β) (K:=K) hl;exact .ag ys (by omega) (e2 hr)
  ·simp at h
 ·split at h
  ·rename_i hl;simp only [Option.some.injEq] at h;subst h
   cases r with | tu ys cX hr=>obtain ⟨e1,e2⟩:=rB (β:=β) (K:=K) hl;exact .tu ys (by omega) (e2 hr)
  ·simp at h
 ·exact Am h r
theorem nV {K:World→Prop} {l:List Nat}:∀ {cs bM:List AV},jJ l cs=some bM→bM.length=cs.length∧∀ {ys:List Value},(∀ (j:Nat) c y,cs[j]?=some c→ys[j]?=some y→aw K β c y)→∀ (j:Nat) c y,bM[j]?=some c→ys[j]?=some y→aw K (eA β l) c y
 | [],bM,h=>by simp only [jJ,Option.some.injEq] at h;subst h;simp
 | c::r,bM,h=>by
  unfold jJ at h
  split at h
  ·rename_i c1 r1 h1 h2
   simp only [Option.some.injEq] at h;subst h
   obtain ⟨e1,e2⟩:=nV (K:=K) h2
   refine ⟨by simp [e1],fun {ys} hr j d y h3 h4=>?_⟩
   cases ys with
   | nil=>simp at h4
   | cons z zs=>
    cases j with
    | zero=>simp at h3 h4;subst h3 h4;exact uB h1 (hr 0 _ _ rfl rfl)
    | succ j=>simp at h3 h4;exact e2 (ys:=zs) (fun j c y h5 h6=>hr (j+1) c y (by simpa using h5) (by simpa using h6)) j d y h3 h4
  ·simp at h
theorem An {K:World→Prop} {l:List Nat} {c c':AV} (h:sD l c=some c') {y:Value} (r:aw K β c y):aw K (eA β l) c' y:=by
 unfold sD at h
 split at h
 ·split at h
  ·rename_i hl;simp only [Option.some.injEq] at h;subst h
   cases r with | ag ys cX hr=>obtain ⟨e1,e2⟩:=nV (β:=β) (K:=K) hl;exact .ag ys (by omega) (e2 hr)
  ·simp at h
 ·split at h
  ·rename_i hl;simp only [Option.some.injEq] at h;subst h
   cases r with | tu ys cX hr=>obtain ⟨e1,e2⟩:=nV (β:=β) (K:=K) hl;exact .tu ys (by omega) (e2 hr)
  ·simp at h
 ·exact uB h r
theorem Ao {K:World→Prop} {l:List Nat} {g:Nat→Value}:∀ {E E':List (Nat×AV)},qg l E=some E'→(∀ x ∈ E,aw K β x.2 (g x.1))→∀ x ∈ E',aw K (eA β l) x.2 (g x.1)
 | [],E',h,_,x,hx=>by simp only [qg,Option.some.injEq] at h;subst h;cases hx
 | (t,c)::r,E',h,hr,x,hx=>by
  unfold qg at h
  split at h
  ·rename_i c1 r1 h1 h2
   simp only [Option.some.injEq] at h;subst h
   rcases List.mem_cons.1 hx with rfl | hx
   ·exact uB h1 (hr (t,c) List.mem_cons_self)
   ·exact Ao h2 (fun y hy=>hr y (List.mem_cons_of_mem _ hy)) x hx
  ·simp at h
theorem uC {K:World→Prop} {l:List Nat} {u i:Nat} {b b':ai} {H:ak} (hi:l[i]?=some u) (h:sC l b=some b') (r:bw K β u b H):bw K (eA β l) i b' H:=by
 unfold sC at h
 split at h
 ·split at h
  ·rename_i hl;simp only [Option.some.injEq] at h;subst h
   cases r with
   | bx hb ys cX hr=>obtain ⟨e1,e2⟩:=nV (β:=β) (K:=K) hl;exact .bx (eR hi hb) ys (by omega) (e2 hr)
  ·simp at h
 ·simp only [Option.some.injEq] at h;subst h
  cases r with | rw hb X G hl hs hr=>exact .rw (eR hi hb) X G hl hs hr
 ·simp only [Option.some.injEq] at h;subst h
  cases r with | tw hb X G hl hs hr=>exact .tw (eR hi hb) X G hl hs hr
 ·split at h
  ·rename_i hv;simp only [Option.some.injEq] at h;subst h
   cases r with | nm hb=>exact .nm (eR (j9 hv) hb)
  ·simp at h
 ·simp only [Option.some.injEq] at h;subst h
  cases r with | gw X hl hc hr=>exact .gw X hl hc hr
 ·split at h
  ·rename_i hl;simp only [Option.some.injEq] at h;subst h
   cases r with
   | fl hb ys cX hm hc hr=>obtain ⟨e1,e2⟩:=nV (β:=β) (K:=K) hl;exact .fl (eR hi hb) ys cX (by omega) hc (e2 hr)
  ·simp at h
 ·simp at h
 ·simp at h
 ·simp only [Option.some.injEq] at h;subst h
  cases r with | mp hb vs G hl hr=>exact .mp (eR hi hb) vs G hl hr
 ·simp only [Option.some.injEq] at h;subst h
  cases r with | mu gO hp hn aM hb vs G hl hr=>exact .mu gO hp hn aM (eR hi hb) vs G hl hr
 ·split at h
  ·rename_i hv;simp only [Option.some.injEq] at h;subst h
   cases r with
   | @it b bm c since ck um seen hb hm=>
    obtain ⟨c',h'⟩:=hm _ rfl
    exact .it (bm:=bm) (eR hi hb) (fun v' gm=>by cases gm;exact ⟨c',eR (j9 hv) h'⟩)
  ·simp at h
 ·simp only [Option.some.injEq] at h;subst h
  cases r with
  | @it b bm c since ck um seen hb hm=>exact .it (bm:=bm) (eR hi hb) (fun v' gm=>by cases gm)
 ·split at h
  ·rename_i hp;simp only [Option.some.injEq] at h;subst h
   cases r with | @lp b c f sz nn bz E rf tmps hb bu hr=>exact .lp (eR hi hb) bu (Ao (g:=fun t=>tmps.getD t undef) hp hr)
  ·simp at h
 ·simp only [Option.some.injEq] at h;subst h
  cases r with | dead=>exact .dead i
theorem pJ {l:List Nat}:∀ {k:List Nat} {M':List ai},fG l M k=some M'→M'.length=k.length∧∀ (i:Nat) b,M'[i]?=some b→∃ u b0,k[i]?=some u∧M[u]?=some b0∧sC l b0=some b
 | [],M',h=>by simp only [fG,Option.some.injEq] at h;subst h;simp
 | u::r,M',h=>by
  unfold fG at h
  split at h
  ·rename_i b hb
   split at h
   ·rename_i b' r' h1 h2
    simp only [Option.some.injEq] at h;subst h
    obtain ⟨e1,e2⟩:=pJ h2
    refine ⟨by simp [e1],fun i c hc=>?_⟩
    cases i with
    | zero=>simp at hc;subst hc;exact ⟨u,b,rfl,hb,h1⟩
    | succ i=>simp at hc;simpa using e2 i c hc
   ·simp at h
  ·simp at h
theorem uD {K:World→Prop} {l:List Nat} {ρ:Operand→Value} (hs:∀ t v,bV E t=some v→aw K β v (ρ (.tmp t))):∀ {ts:List Nat} {E':List (Nat×AV)},iM l E ts=some E'→∀ t v,bV E' t=some v→aw K (eA β l) v (ρ (.tmp t))
 | [],E',h,t,v,hv=>by simp only [iM,Option.some.injEq] at h;subst h;simp [bV] at hv
 | s::r,E',h,t,v,hv=>by
  unfold iM at h
  split at h
  ·rename_i u hu
   split at h
   ·rename_i u' r' h1 h2
    simp only [Option.some.injEq] at h;subst h
    unfold bV at hv
    cases hk:s.beq t with
    | true=>
     simp only [hk,cond_true,Option.some.injEq] at hv;subst hv
     rw [← Nat.eq_of_beq_eq_true hk];exact An h1 (hs s u hu)
    | false=>simp only [hk,cond_false] at hv;exact uD hs h2 t v hv
   ·simp at h
  ·simp at h
theorem tW:∀ {l:List Nat} {M:List ai} {F:Nat→ak} {X:ak},l.Nodup→(∀ u ∈ l,u<M.length)→bB D w0 K0 M β F I X w→∃ rest,St D w0 w (rest++(I++(X++l.flatMap F)))
 | [],M,F,X,_,_,R=>⟨_,by simpa using R.st⟩
 | u::r,M,F,X,hn,hl,R=>by
  have hu:=hl u (by simp)
  have R':=R.fc (List.getElem?_eq_getElem hu)
  simp only [List.nodup_cons] at hn
  obtain ⟨rest,h⟩:=tW hn.2 (fun v hv=>by rw [List.length_set];exact hl v (by simp [hv])) R'
  refine ⟨rest,?_⟩
  have:r.flatMap (aL F u [])=r.flatMap F:=eT fun v hv=>by
   simp only [aL];rw [if_neg (fun e=>hn.1 (by rw [← e];exact hv))]
  rw [this] at h
  rw [List.flatMap_cons]
  simpa [List.append_assoc] using h
def lV (F:Nat→ak) (l:List Nat) (i:Nat):ak:=match l[i]? with | some u=>F u | none=>[]
theorem tX {F:Nat→ak} {l:List Nat} {i u:Nat} (h:l[i]?=some u):lV F l i=F u:=by simp [lV,h]
theorem rC (F:Nat→ak):∀ (l:List Nat),(List.range l.length).flatMap (lV F l)=l.flatMap F
 | []=>by simp
 | u::r=>by
  rw [List.length_cons,qW,List.flatMap_cons]
  congr 1
  have:=rC F r
  exact this
def nodupB:List Nat→Bool
 | []=>true
 | u::r=>!(r.elem u)&&nodupB r
theorem nS:∀ {l:List Nat},nodupB l=true→l.Nodup
 | [],_=>by simp
 | u::r,h=>by
  simp only [nodupB,Bool.and_eq_true,Bool.not_eq_true'] at h
  rw [List.nodup_cons]
  refine ⟨?_,nS h.2⟩
  intro hu;have:=h.1;simp [hu] at this
mutual
def mapA (σ:Nat→Nat):AV→AV
 | .d x=>.d x
 | .sl u n=>.sl (σ u) n
 | .pt u o=>.pt (σ u) o
 | .mv u=>.mv (σ u)
 | .yl u=>.yl (σ u)
 | .sb u k o n=>.sb (σ u) k o n
 | .sf u k o n q=>.sf (σ u) k o n q
 | .ep u k i o=>.ep (σ u) k i o
 | .rp r o=>.rp r o
 | .bt bs=>.bt bs
 | .uk=>.uk
 | .fn f l=>.fn f (kr σ l)
 | .fm f l=>.fm f (kr σ l)
 | .ag l=>.ag (kr σ l)
 | .tu l=>.tu (kr σ l)
def kr (σ:Nat→Nat):List AV→List AV
 | []=>[]
 | c::r=>mapA σ c::kr σ r
end
theorem kH (σ:Nat→Nat) (l:List AV):kr σ l=l.map (mapA σ):=by induction l with | nil=>rfl | cons c r ih=>rw [kr,ih];rfl
theorem mN {K:World→Prop} {β az:Beta} {σ:Nat→Nat} (h:∀ (u:Nat) x,β[u]?=some x→az[σ u]?=some x) {v:AV} {y:Value} (r:aw K β v y):aw K az (mapA σ v) y:=by
 have key:∀ {l:List AV} {ys:List Value},(∀ (j:Nat) c y,l[j]?=some c→ys[j]?=some y→aw K az (mapA σ c) y)→∀ (j:Nat) c y,(kr σ l)[j]?=some c→ys[j]?=some y→aw K az c y:=by
  intro l ys hh j c y h1 h2
  rw [kH,List.getElem?_map,Option.map_eq_some_iff] at h1
  obtain ⟨c',h1,rfl⟩:=h1
  exact hh j c' y h1 h2
 induction r with
 | d h=>exact .d h
 | sl hb=>exact .sl (h _ _ hb)
 | pt hb=>exact .pt (h _ _ hb)
 | mv hb=>exact .mv (h _ _ hb)
 | yl hb=>exact .yl (h _ _ hb)
 | sb hb=>exact .sb (h _ _ hb)
 | sf hb h1 h2 h3=>exact .sf (h _ _ hb) h1 h2 h3
 | ep hb=>exact .ep (h _ _ hb)
 | rp a X hl hc hr=>exact .rp a X hl hc hr
 | bt hd hn=>exact .bt hd hn
 | uk hu=>exact .uk hu
 | fn ys hl hr ih=>exact .fn ys (by rw [kH,List.length_map];exact hl) (key ih)
 | fm ys hl hr ih=>exact .fm ys (by rw [kH,List.length_map];exact hl) (key ih)
 | ag ys hl hr ih=>exact .ag ys (by rw [kH,List.length_map];exact hl) (key ih)
 | tu ys hl hr ih=>exact .tu ys (by rw [kH,List.length_map];exact hl) (key ih)
def eW (σ:Nat→Nat):ai→ai
 | .bx T cs=>.bx T (kr σ cs)
 | .rw T k rows=>.rw T k rows
 | .tw a c T k rows=>.tw a c T k rows
 | .nm v b=>.nm (σ v) b
 | .gw g row=>.gw g row
 | .fl T k m cs=>.fl T k m (kr σ cs)
 | .mf T c es=>.mf T c (es.map fun e=>(e.1,e.2.1,mapA σ e.2.2))
 | .il um s l c=>.il (um.map σ) s l c
 | .mp T c es=>.mp T c es
 | .mu T c es=>.mu T c es
 | .it um a s c=>.it (um.map σ) a s c
 | .lp b f sz E rf=>.lp b f sz (E.map fun x=>(x.1,mapA σ x.2)) rf
 | .dead=>.dead
theorem rK {K:World→Prop} {β az:Beta} {σ:Nat→Nat} (h:∀ (u:Nat) x,β[u]?=some x→az[σ u]?=some x) {u:Nat} {b:ai} {H:ak} (r:bw K β u b H):bw K az (σ u) (eW σ b) H:=by
 cases r with
 | dead=>exact .dead _
 | bx hb ys hl hr=>
  refine .bx (h _ _ hb) ys (by rw [kH,List.length_map];exact hl) fun j c y h1 h2=>?_
  rw [kH,List.getElem?_map,Option.map_eq_some_iff] at h1
  obtain ⟨c',h1,rfl⟩:=h1
  exact mN h (hr j c' y h1 h2)
 | rw hb X G hl hs hr=>exact .rw (h _ _ hb) X G hl hs hr
 | tw hb X G hl hs hr=>exact .tw (h _ _ hb) X G hl hs hr
 | nm hb=>exact .nm (h _ _ hb)
 | gw X hl hc hr=>exact .gw X hl hc hr
 | fl hb ys hl hm hc hr=>
  refine .fl (h _ _ hb) ys hl (by rw [kH,List.length_map];exact hm) hc fun j c y h1 h2=>?_
  rw [kH,List.getElem?_map,Option.map_eq_some_iff] at h1
  obtain ⟨c',h1,rfl⟩:=h1
  exact mN h (hr j c' y h1 h2)
 | @mf _ _ Tm xT xU hb vs hl hr=>
  have hh:=bw.mf (K:=K) (T:=Tm) (ck:=xT) (u:=σ u) (h _ _ hb) vs (by rw [List.length_map];exact hl) (es:=List.map (fun (e:Nat×MK×AV)=>(e.1,e.2.1,mapA σ e.2.2)) xU) (fun j c y h1 h2=>by
   rw [List.getElem?_map,Option.map_eq_some_iff] at h1
   obtain ⟨c',h1,rfl⟩:=h1
   exact mN h (hr j c' y h1 h2))
  rw [tO (fun (e:Nat×MK×AV)=>(e.1,e.2.1,mapA σ e.2.2)) (fun _=>⟨rfl,rfl⟩)] at hh
  exact hh
 | mp hb vs G hl hr=>exact .mp (h _ _ hb) vs G hl hr
 | mu gO hp hn aM hb vs G hl hr=>exact .mu gO hp hn aM (h _ _ hb) vs G hl hr
 | lp hb bu hr=>
  refine .lp (h _ _ hb) bu fun x hx=>?_
  obtain ⟨x0,sV,rfl⟩:=List.mem_map.1 hx
  exact mN h (hr x0 sV)
 | @il b bm c since last ck um seen hb hm=>
  refine .il (bm:=bm) (seen:=seen) (h _ _ hb) (fun v hv=>?_)
  cases um with
  | none=>cases hv
  | some v0=>cases hv;obtain ⟨c',h'⟩:=hm v0 rfl;exact ⟨c',h _ _ h'⟩
 | @it b bm c since ck um seen hb hm=>
  refine .it (bm:=bm) (h _ _ hb) (fun v hv=>?_)
  cases um with
  | none=>cases hv
  | some v0=>cases hv;obtain ⟨c',h'⟩:=hm v0 rfl;exact ⟨c',h _ _ h'⟩
def iE (M:List ai):List Nat→List ai
 | []=>M
 | u::r=>iE (M.set u .dead) r
theorem zl:∀ (l:List Nat) (M:List ai),(iE M l).length=M.length
 | [],_=>rfl
 | u::r,M=>by rw [iE,zl r,List.length_set]
theorem zm:∀ {l:List Nat} {M:List ai} {F:Nat→ak} {X:ak},l.Nodup→(∀ u ∈ l,u<M.length)→bB D w0 K0 M β F I X w→
  ∃ F0,bB D w0 K0 (iE M l) β F0 I (X++l.flatMap F) w∧(∀ u ∈ l,F0 u=[])∧∀ u,u ∉ l→F0 u=F u
 | [],M,F,X,_,_,R=>⟨F,by simpa [iE] using R,by simp,fun _ _=>rfl⟩
 | u::r,M,F,X,hn,hl,R=>by
  have hu:=hl u (by simp)
  have R':=R.fc (List.getElem?_eq_getElem hu)
  simp only [List.nodup_cons] at hn
  obtain ⟨F0,h1,h2,h3⟩:=zm hn.2 (fun v hv=>by rw [List.length_set];exact hl v (by simp [hv])) R'
  have:r.flatMap (aL F u [])=r.flatMap F:=eT fun v hv=>by
   simp only [aL];rw [if_neg (fun e=>hn.1 (by rw [← e];exact hv))]
  rw [this] at h1
  refine ⟨F0,by rw [List.flatMap_cons,← List.append_assoc];exact h1,fun v hv=>?_,fun v hv=>?_⟩
  ·rcases List.mem_cons.1 hv with e | e
   ·subst e;rw [h3 v hn.1];simp [aL]
   ·exact h2 v e
  ·simp only [List.mem_cons,not_or] at hv
   rw [h3 v hv.2];simp only [aL];rw [if_neg hv.1]
theorem bB.put {X Y:ak} (R:bB D w0 K0 M β F I (X++Y) w) {u:Nat} (hu:u<M.length) (hF:F u=[]) {blk:ai} (hb:bw (fun w=>K0 w∧Holds w I) β u blk X):
  bB D w0 K0 (M.set u blk) β (aL F u X) I Y w where
 len:=by rw [List.length_set];exact R.len
 blk:=by
  intro v bl hv
  rw [List.getElem?_set] at hv
  by_cases e:u=v
  ·subst e
   simp only [hu,if_pos,Option.some.injEq] at hv;subst hv
   simpa [aL] using hb
  ·rw [if_neg e] at hv
   have:aL F u X v=F v:=by simp only [aL];rw [if_neg (fun h=>e h.symm)]
   rw [this];exact R.blk v bl hv
 st:=by
  have hs:=R.st
  rw [List.length_set,range_split hu]
  rw [range_split hu,hF] at hs
  have c1:(List.range u).flatMap (aL F u X)=(List.range u).flatMap F:=eT fun a ha=>by have:=List.mem_range.1 ha;simp [aL];omega
  have c2:(List.range' (u+1) (M.length-(u+1))).flatMap (aL F u X)=(List.range' (u+1) (M.length-(u+1))).flatMap F:=eT fun a ha=>by have:=(List.mem_range'_1.1 ha).1;simp [aL];omega
  have fR:aL F u X u=X:=by simp [aL]
  rw [c1,c2,fR]
  exact hs.perm (by classical rw [List.perm_iff_count];intro z;simp only [List.count_append,List.count_nil];omega)
def kV (M:List ai):List Nat→List ai→List ai
 | u::r,b::bs=>kV (M.set u b) r bs
 | _,_=>M
theorem zJ:∀ {l:List Nat} {bs:List ai} {M:List ai} {F:Nat→ak} {G:Nat→ak} {Y:ak},l.Nodup→bs.length=l.length→(∀ u ∈ l,u<M.length)→(∀ u ∈ l,F u=[])→
  bB D w0 K0 M β F I ((List.range l.length).flatMap G++Y) w→(∀ (i u:Nat) b,l[i]?=some u→bs[i]?=some b→bw (fun w=>K0 w∧Holds w I) β u b (G i))→
  ∃ F',bB D w0 K0 (kV M l bs) β F' I Y w∧∀ u,u ∉ l→F' u=F u
 | [],[],M,F,G,Y,_,_,_,_,R,_=>⟨F,by simpa [kV] using R,fun _ _=>rfl⟩
 | [],_::_,_,_,_,_,_,h,_,_,_,_=>by simp at h
 | _::_,[],_,_,_,_,_,h,_,_,_,_=>by simp at h
 | u::r,b::bs,M,F,G,Y,hn,hl,aM,hF,R,hb=>by
  simp only [List.nodup_cons] at hn
  rw [List.length_cons,qW,List.append_assoc] at R
  have R1:=R.put (aM u (by simp)) (hF u (by simp)) (hb 0 u b rfl rfl)
  obtain ⟨F',h1,h2⟩:=zJ (l:=r) (bs:=bs) (G:=fun i=>G (i+1)) hn.2 (by simpa using hl) (fun v hv=>by rw [List.length_set];exact aM v (by simp [hv])) (fun v hv=>by
   simp only [aL];rw [if_neg (fun e=>hn.1 (by rw [← e];exact hv))];exact hF v (by simp [hv])) R1 (fun i v c h3 h4=>hb (i+1) v c (by simpa using h3) (by simpa using h4))
  refine ⟨F',h1,fun v hv=>?_⟩
  simp only [List.mem_cons,not_or] at hv
  rw [h2 v hv.2];simp only [aL];rw [if_neg hv.1]
theorem FX {bs:List ai} {γ:Beta} {G:Nat→ak} {Y:ak} (hl:γ.length=bs.length) (R:bB D w0 K0 M β F I ((List.range bs.length).flatMap G++Y) w) (hb:∀ (i:Nat) b,bs[i]?=some b→bw (fun w=>K0 w∧Holds w I) (β++γ) (M.length+i) b (G i)):
  ∃ F',bB D w0 K0 (M++bs) (β++γ) F' I Y w∧∀ u,u<M.length→F' u=F u:=by
 refine ⟨fun u=>if u<M.length then F u else G (u-M.length),⟨by simp [R.len,hl],fun u b hu=>?_,?_⟩,fun u hu=>by simp [hu]⟩
 ·rcases Nat.lt_or_ge u M.length with h | h
  ·rw [List.getElem?_append_left h] at hu
   simp only [h,if_true]
   exact (R.blk u b hu).mono (fun _ h=>h) (Ext.app _ _)
  ·rw [List.getElem?_append_right h] at hu
   have hn:¬ u<M.length:=by omega
   simp only [hn,if_false]
   have:=hb (u-M.length) b hu
   rwa [show M.length+(u-M.length)=u by omega] at this
 ·rw [List.length_append,List.range_add,List.flatMap_append,List.flatMap_map]
  have e1:(List.range M.length).flatMap (fun u=>if u<M.length then F u else G (u-M.length))=(List.range M.length).flatMap F:=eT fun u hu=>by have:=List.mem_range.1 hu;simp [this]
  have e2:(List.range bs.length).flatMap (fun i=>if M.length+i<M.length then F (M.length+i) else G (M.length+i-M.length))=(List.range bs.length).flatMap G:=eT fun i hi=>by
   rw [if_neg (by omega),Nat.add_sub_cancel_left]
  rw [e1,e2]
  exact R.st.perm (by classical rw [List.perm_iff_count];intro z;simp only [List.count_append];omega)
def aC (P:Program) (f:FuncId) (args:List AV) (M:List ai) (x:AV) (M':List ai):Prop:=
 gv P f=true∧∀ {D:List Nat} {w0:World} {K0:World→Prop} {β:Beta} {F:Nat→ak} {I:ak} {w:World} (ys:List Value),RM D w0 K0 M β F I w→(∀ w,Kp D w0 w→K0 w)→ys.length=args.length→(∀ (j:Nat) c y,args[j]?=some c→ys[j]?=some y→aw (fun w=>K0 w∧Holds w I) β c y)→
  Calls P f ys.toArray w fun e w'=>∃ v,e=.returned v∧∃ az F' I',RM D w0 K0 M' az F' I' w'∧Ext β az∧bK I I'∧aw (fun w=>K0 w∧Holds w I') az x v
def outer (l:List Nat) (n:Nat) (i:Nat):Nat:=match l[i]? with | some u=>u | none=>n+(i-l.length)
def wh (P:Program) (E:List (Nat×AV)) (M:List ai) (oc:Option aU) (g:Operand) (args:Array Operand):Option Out:=
 match aI E g,kq E args.toList,oc with
 | some (.fn f cf),some vs,some (.mem l x M')=>(match jJ l (vs++cf),fG l M l with
  | some told,some Ms=>bif nodupB l&&Nat.ble l.length M'.length then some ⟨[aC P f told Ms x M'],mapA (outer l M.length) x,kV (iE M l++(M'.drop l.length).map (eW (outer l M.length))) l ((M'.take l.length).map (eW (outer l M.length))),l,[],none⟩ else none
  | _,_=>none)
 | _,_,_=>none
theorem DI (R:RM D w0 K0 M β F I w) (hK:∀ w,Kp D w0 w→K0 w) {f:FuncId} {vs:List AV} {ys:List Value} {l:List Nat} {told:List AV} {Ms M':List ai} {x:AV} (gh:ys.length=vs.length)
  (e1:told.length=vs.length) (e2:∀ (j:Nat) c y,told[j]?=some c→ys[j]?=some y→aw (fun w=>K0 w∧Holds w I) (eA β l) c y) (m1:Ms.length=l.length) (m2:∀ (i:Nat) b,Ms[i]?=some b→∃ u b0,l[i]?=some u∧M[u]?=some b0∧bw (fun w=>K0 w∧Holds w I) (eA β l) i b (F u)) (fV:l.Nodup) (hle:l.length≤M'.length) (fN:aC P f told Ms x M'):
  Calls P f ys.toArray w fun e w'=>∃ v,e=.returned v∧∃ az F' I',RM D w0 K0 (kV (iE M l++(M'.drop l.length).map (eW (outer l M.length))) l ((M'.take l.length).map (eW (outer l M.length)))) az F' I' w'∧fM [] β az∧bK I I'∧(∀ u,u<M.length→u ∉ l→F' u=F u)∧aw (fun w=>K0 w∧Holds w I') az (mapA (outer l M.length) x) v:=by
 have aM:∀ u ∈ l,u<M.length:=by
  intro u hu
  obtain ⟨i,hi,rfl⟩:=List.getElem_of_mem hu
  obtain ⟨u',b0,g1,g2,-⟩:=m2 i Ms[i] (List.getElem?_eq_getElem (by omega))
  rw [List.getElem?_eq_getElem hi,Option.some.injEq] at g1
  rw [g1];exact fh g2
 obtain ⟨F0,R0,oY,qy⟩:=zm fV aM R.x
 rw [List.nil_append] at R0
 have sX:=zl l M
 have CA:=rC F l
 have sY:St D w0 w (l.flatMap F++((List.range (iE M l).length).flatMap F0++I)):=R0.st.perm (by classical rw [List.perm_iff_count];intro z;simp only [List.count_append];omega)
 have qz:∀ w',Kp (keys (l.flatMap F)) w w'→K0 w'∧Holds w' I:=fun w' k=>by
  have t:St (keys (l.flatMap F)) w w' []:=⟨k,by simp [keys],by simp [keys],Holds.nil _⟩
  have s':=St.call sY rfl t
  rw [List.nil_append] at s'
  exact ⟨hK _ s'.kp,(Holds.app.1 s'.holds).2⟩
 have MX:RM (keys (l.flatMap F)) w (fun w=>K0 w∧Holds w I) Ms (eA β l) (lV F l) [] w:=by
  refine ⟨by rw [tj,m1],fun i b hb=>?_,?_⟩
  ·obtain ⟨u,b0,g1,g2,g3⟩:=m2 i b hb
   rw [tX g1]
   exact g3.mono (fun w hw=>hw.1) (Ext.refl _)
  ·rw [m1,CA,List.append_nil]
   exact St.start sY.tL.nd sY.tL.holds
 refine (fN.2 _ MX qz (by omega) (fun j c y h1 h2=>(e2 j c y h1 h2).mono (fun w hw=>hw.1) (Ext.refl _))).mono ?_
 rintro e w' ⟨v,rfl,az,F',I',R',hE,-,hr⟩
 refine ⟨v,rfl,?_⟩
 have s2:=St.call sY rfl R'.st
 have Ow:l.length≤az.length:=by rw [R'.len];exact hle
 have lA:∀ (i:Nat) q,az[i]?=some q→(β++az.drop l.length)[outer l M.length i]?=some q:=by
  intro i q hq
  unfold outer
  rcases Nat.lt_or_ge i l.length with hi | hi
  ·have CB:l[i]?=some l[i]:=List.getElem?_eq_getElem hi
   rw [CB]
   have hu:=aM l[i] (List.getElem_mem hi)
   have x7:l[i]<β.length:=by rw [R.len];exact hu
   obtain ⟨q',CC⟩:∃ q',β[l[i]]?=some q':=⟨_,List.getElem?_eq_getElem x7⟩
   have:=hE i _ (eR CB CC)
   rw [hq,Option.some.injEq] at this
   rw [List.getElem?_append_left (by rw [R.len];exact hu),CC,this]
  ·rw [List.getElem?_eq_none hi]
   dsimp only
   rw [List.getElem?_append_right (by rw [R.len];omega),R.len,Nat.add_sub_cancel_left,List.getElem?_drop,show l.length+(i-l.length)=i by omega];exact hq
 have cm:∀ w,K0 w∧Holds w (I'++I)→(K0 w∧Holds w I)∧Holds w I':=fun w hw=>⟨⟨hw.1,(Holds.app.1 hw.2).2⟩,(Holds.app.1 hw.2).1⟩
 have IZ:(List.range M'.length).flatMap F'=(List.range l.length).flatMap F'++(List.range ((M'.drop l.length).map (eW (outer l M.length))).length).flatMap fun i=>F' (l.length+i):=by
  rw [List.length_map,List.length_drop]
  conv=>lhs;rw [show M'.length=l.length+(M'.length-l.length) by omega,List.range_add,List.flatMap_append,List.flatMap_map]
 have R2:bB D w0 K0 (iE M l) β F0 (I'++I) ((List.range ((M'.drop l.length).map (eW (outer l M.length))).length).flatMap (fun i=>F' (l.length+i))++(List.range l.length).flatMap F') w':=by
  refine ⟨R0.len,fun u b hb=>(R0.blk u b hb).mono (fun w hw=>(cm w hw).1) (Ext.refl _),?_⟩
  rw [IZ] at s2
  exact s2.perm (by classical rw [List.perm_iff_count];intro z;simp only [List.count_append];omega)
 obtain ⟨F2,R3,ky⟩:=FX (γ:=az.drop l.length) (by rw [List.length_drop,R'.len,List.length_map,List.length_drop]) R2 (fun i b hb=>by
  rw [List.getElem?_map,Option.map_eq_some_iff] at hb
  obtain ⟨b0,hb,rfl⟩:=hb
  rw [List.getElem?_drop] at hb
  have:=(rK lA (R'.blk _ b0 hb)).mono cm (Ext.refl _)
  have ho:outer l M.length (l.length+i)=M.length+i:=by unfold outer;rw [List.getElem?_eq_none (by omega)];dsimp only;omega
  rw [ho] at this
  rw [sX];exact this)
 have MY:=R3.perm (Y:=(List.range l.length).flatMap F'++[]) (by rw [List.append_nil])
 obtain ⟨F3,R4,MZ⟩:=zJ (bs:=(M'.take l.length).map (eW (outer l M.length))) fV (by simp;omega) (fun u hu=>by have:=aM u hu;rw [List.length_append];omega) (fun u hu=>by rw [ky u (by rw [sX];exact aM u hu)];exact oY u hu) MY (fun i u b h1 h2=>by
  rw [List.getElem?_map,Option.map_eq_some_iff] at h2
  obtain ⟨b0,h2,rfl⟩:=h2
  rw [List.getElem?_take] at h2
  split at h2
  ·have:=(rK lA (R'.blk i b0 h2)).mono cm (Ext.refl _)
   have ho:outer l M.length i=u:=by unfold outer;rw [h1]
   rw [ho] at this;exact this
  ·simp at h2)
 refine ⟨_,F3,I'++I,R4.nil rfl,(Ext.app _ _).b _,⟨I',rfl⟩,fun u hu CD=>?_,(mN lA hr).mono cm (Ext.refl _)⟩
 rw [MZ u CD,ky u (by rw [sX];exact hu),qy u CD]
theorem yR (R:RM D w0 K0 M β F I w) (hK:∀ w,Kp D w0 w→K0 w) {f:FuncId} {vs:List AV} {ys:List Value} {l:List Nat} {told:List AV} {Ms M':List ai} {x:AV} (gh:ys.length=vs.length) (kW:∀ (j:Nat) c y,vs[j]?=some c→ys[j]?=some y→aw (fun w=>K0 w∧Holds w I) β c y)
  (oz:jJ l vs=some told) (nw:fG l M l=some Ms) (fV:l.Nodup) (hle:l.length≤M'.length) (fN:aC P f told Ms x M'):
  Calls P f ys.toArray w fun e w'=>∃ v,e=.returned v∧∃ az F' I',RM D w0 K0 (kV (iE M l++(M'.drop l.length).map (eW (outer l M.length))) l ((M'.take l.length).map (eW (outer l M.length)))) az F' I' w'∧fM [] β az∧bK I I'∧(∀ u,u<M.length→u ∉ l→F' u=F u)∧aw (fun w=>K0 w∧Holds w I') az (mapA (outer l M.length) x) v:=by
 obtain ⟨e1,e2⟩:=nV (β:=β) (K:=fun w=>K0 w∧Holds w I) oz
 obtain ⟨m1,m2⟩:=pJ nw
 refine DI R hK gh e1 (e2 kW) m1 (fun i b hb=>?_) fV hle fN
 obtain ⟨u,b0,g1,g2,g3⟩:=m2 i b hb
 exact ⟨u,b0,g1,g2,uC g1 g3 (R.blk u b0 g2)⟩
theorem FY {g:Operand} {args:Array Operand} {eJ:Array TypeId} (h:wh P E M oc g args=some out):aK P ⟨d,.call ⟨.value g,args,eJ⟩,ty,pos,aft,gd⟩ E M out:=by
 unfold wh at h
 split at h
 ·rename_i f cf vs l x M' hg qA
  split at h
  ·rename_i told Ms oz nw
   cases hc:(nodupB l&&Nat.ble l.length M'.length) with
   | false=>simp only [hc,cond_false,reduceCtorEq] at h
   | true=>
    simp only [hc,cond_true,Option.some.injEq] at h;subst h
    simp only [Bool.and_eq_true] at hc
    have fV:=nS hc.1
    have hle:=Nat.le_of_ble_eq_true hc.2
    intro D w0 K0 β F I ρ w C hv
    obtain ⟨fN,-⟩:=hv
    obtain ⟨y,hy,r⟩:=C.bR hg
    cases r with
    | fn cs cx fT=>
     obtain ⟨dA,jS⟩:=C.mh qA
     have gh:(args.toList.map ρ++cs).length=(vs++cf).length:=by rw [List.length_append,List.length_append,dA,cx]
     have mZ:∀ (j:Nat) c y,(vs++cf)[j]?=some c→(args.toList.map ρ++cs)[j]?=some y→aw (fun w=>K0 w∧Holds w I) β c y:=by
      intro j c y h1 h2
      rcases Nat.lt_or_ge j vs.length with hj | hj
      ·rw [List.getElem?_append_left hj] at h1
       rw [List.getElem?_append_left (by omega)] at h2
       exact jS j c y h1 h2
      ·rw [List.getElem?_append_right hj] at h1
       rw [List.getElem?_append_right (by omega),dA] at h2
       exact fT _ c y h1 h2
     have hm:args.map ρ=(args.toList.map ρ).toArray:=by rw [← Array.toList_map]
     refine pr hy fN.1 hm ?_
     have kU:((args.toList.map ρ).toArray++cs.toArray:Array Value)=(args.toList.map ρ++cs).toArray:=by simp
     rw [kU]
     exact yR C.rm C.k gh mZ oz nw fV hle fN
  ·simp at h
 ·simp at h
end Go.Proofs.YtcnpikbbmbombaaGreatDoor
namespace Go.Proofs.YtcnpikbbmbombaaGreatDoor
open Go.RowKit
section
variable {P:Program} {ρ:Operand→Value} {w:World} {Φ:Value→World→Prop} {d:Option Tmp} {ty t k e:TypeId} {pos:String} {aft:Array Edge} {gd:Option (Nat×Bool)} {x:Operand}
def rD:Obj→Bool
 | .cells _ _ _=>false
 | _=>true
theorem pD {r:Nat} {o:Obj} (h:w.heap[r]?=some o) (ho:rD o=true):(getObj r).run P w=.ok o w:=by
 cases o<;>simp [rD] at ho<;>simp [getObj,Sem.run,h]
theorem rE {r:Nat} {o:Obj} (h:w.heap[r]?=some o) (ho:rD o=true) (o':Obj):(setObj r o').run P w=.ok () (cd w r o'):=by
 cases o<;>simp [rD] at ho<;>simp [setObj,Sem.run,h,cd]
end
end Go.Proofs.YtcnpikbbmbombaaGreatDoor
namespace Go.Proofs.YtcnpikbbmbombaaGreatDoor
open Go.RowKit
variable {P:Program} {T:aN} {E:List (Nat×AV)} {M:List ai}
variable {d:Option Tmp} {ty:TypeId} {pos:String} {aft:Array Edge} {gd:Option (Nat×Bool)} {oc:Option aU} {out:Out}
def N9 (T:aN) (E:List (Nat×AV)) (M:List ai) (oc:Option aU) (t:TypeId) (x:Operand) (lo hi mx:Option Operand):Option Out:=
 match cW T t,aI E x,oc with
 | some (.sl e),some (.sl u n),some o=>(match fE T e,M[u]? with
  | some k,some (.rw _ k' rows)=>(match lo,hi,mx,o with
   | none,some h,none,.n2 c _=>(match cF (aI E h) with
    | some (.i64,z)=>bif k.beq k' then some ⟨[z=(c:Int),0<c,c≤n,n=rows.length],.sb u k 0 c,M,[],[],some []⟩ else none
    | _=>none)
   | none,some h,none,.res (.ro k2 [])=>(match cF (aI E h) with
    | some (.i64,z)=>some ⟨[z=0,n=rows.length],.d (.ro k2 []),M,[],[],some []⟩
    | _=>none)
   | some l,none,none,.res (.ro k2 [])=>(match cF (aI E l) with
    | some (.i64,z)=>some ⟨[z=(n:Int),n=rows.length],.d (.ro k2 []),M,[],[],some []⟩
    | _=>none)
   | _,_,_,_=>none)
  | _,_=>none)
 | _,_,_=>none
theorem rL {K:World→Prop} {k n c o c':Nat} {a:Option Addr} {rows:List (List DV)} (h:bF K (.ro k rows) (.slice a n c) []) (ho:o≤c') (hc:c'≤rows.length):bF K (.ro k ((rows.take c').drop o)) (.slice (if c=o then a else a.map (·.add (o*k))) (c'-o) (c-o)) []:=by
 cases h with
 | ro X hl hy hs hr=>
  obtain ⟨a',MV,e,dP⟩:=hy
  simp only [Value.slice.injEq] at e;obtain ⟨rfl,rfl,rfl⟩:=e
  have hX:∀ i,i<rows.length→(X i).length=k:=fun i hi=>(hl i _ (List.getElem?_eq_getElem hi)).2
  have hlen:((rows.take c').drop o).length=c'-o:=by simp;omega
  have CE:∀ (i:Nat) r,((rows.take c').drop o)[i]?=some r→rows[o+i]?=some r:=fun i r hi=>by
   rw [List.getElem?_drop,List.getElem?_take] at hi
   split at hi
   ·exact hi
   ·cases hi
  refine .ro (fun i=>X (o+i)) (fun i r hi=>hl (o+i) r (CE i r hi)) ⟨_,_,by rw [hlen],by rw [hlen];omega⟩ (fun w hw=>?_) fun i r j x y h1 h2 h3=>hr (o+i) r j x y (CE i r h1) h2 h3
  rw [hlen]
  refine ⟨ei fun i hi=>hX (o+i) (by omega),?_⟩
  rcases Nat.eq_zero_or_pos (c'-o) with h0 | hm
  ·exact Or.inl ⟨h0,_,_,by rw [h0]⟩
  rcases (hs w hw).2 with ⟨h0,-⟩ | ⟨a0,c0,e,jH⟩
  ·omega
  simp only [Value.slice.injEq] at e;obtain ⟨rfl,-,rfl⟩:=e
  refine Or.inr ⟨a0.add (o*k),_,by rw [if_neg (by omega)];rfl,fun j hj=>?_⟩
  have gl:(lay (c'-o) fun i=>X (o+i)).length=(c'-o)*k:=ei fun i hi=>hX (o+i) (by omega)
  have e1:lay (c'-o) (fun i=>X (o+i))=((lay rows.length X).drop (o*k)).take ((c'-o)*k):=by
   rw [← tV (n:=rows.length) (c:=o) hX (by omega)]
   exact nU (n:=rows.length-o) (c:=c'-o) (X:=fun i=>X (o+i)) (fun i hi=>hX (o+i) (by omega)) (by omega)
  have lg:(o+(c'-o))*k≤rows.length*k:=Nat.mul_le_mul_right k (by omega)
  rw [Nat.add_mul] at lg
  have hN:(lay rows.length X).length=rows.length*k:=ei hX
  have mq:o*k+j<(lay rows.length X).length:=by omega
  rw [Addr.mJ,jH (o*k+j) mq,← List.getElem?_eq_getElem mq,← List.getElem?_eq_getElem hj,e1,List.getElem?_take,if_pos (by omega),List.getElem?_drop]
def xe (T:aN) (E:List (Nat×AV)) (M:List ai) (oc:Option aU) (t:TypeId) (x:Operand) (lo hi mx:Option Operand):Option Out:=
 match cW T t,aI E x,oc with
 | some (.sl e),some (.d (.ro k' rows)),some (.n2 c o)=>(match fE T e with
  | some k=>(match lo,hi,mx with
   | none,some h,none=>(match cF (aI E h) with
    | some (.i64,z)=>bif k.beq k' then some ⟨[z=(c:Int),c≤rows.length],.d (.ro k (rows.take c)),M,[],[],some []⟩ else none
    | _=>none)
   | none,some h,some m=>(match cF (aI E h),cF (aI E m) with
    | some (.i64,z),some (.i64,z')=>bif k.beq k' then some ⟨[z=(c:Int),z'=(c:Int),c≤rows.length],.d (.ro k (rows.take c)),M,[],[],some []⟩ else none
    | _,_=>none)
   | some l,none,none=>(match cF (aI E l) with
    | some (.i64,z)=>bif k.beq k' then some ⟨[z=(o:Int),o≤rows.length],.d (.ro k (rows.drop o)),M,[],[],some []⟩ else none
    | _=>none)
   | some l,some h,none=>(match cF (aI E l),cF (aI E h) with
    | some (.i64,z),some (.i64,z')=>bif k.beq k' then some ⟨[z=(o:Int),z'=(c:Int),o≤c,c≤rows.length],.d (.ro k ((rows.take c).drop o)),M,[],[],some []⟩ else none
    | _,_=>none)
   | _,_,_=>none)
  | _=>none)
 | _,_,_=>none
theorem Hv (hT:aY P T=true) {t:TypeId} {x:Operand} {lo hi mx:Option Operand} (h:xe T E M oc t x lo hi mx=some out):aK P ⟨d,.slice t x lo hi mx,ty,pos,aft,gd⟩ E M out:=by
 unfold xe at h
 split at h
 rotate_left
 ·simp at h
 rename_i e k' rows c o ht hx
 split at h
 rotate_left
 ·simp at h
 rename_i k hk
 replace ht:=cH hT ht
 replace hk:=gU hT hk
 split at h
 ·rename_i hh
  split at h
  rotate_left
  ·simp at h
  rename_i z hz
  cases cm:k.beq k' with
  | false=>simp [cm] at h
  | true=>
   simp only [cm,cond_true,Option.some.injEq] at h;subst h
   obtain rfl:=Nat.eq_of_beq_eq_true cm
   refine aK.look ?_ (by simp)
   intro D w0 K0 β F I ρ w C hv
   obtain ⟨rfl,hc,-⟩:=hv
   obtain ⟨y,hy,r⟩:=C.bR hx
   cases r with | d r=>
   obtain ⟨a,n,cc,rfl,hle,dP⟩:∃ a n cc,y=.slice a n cc∧n=rows.length∧rows.length≤cc:=by
    cases r with | ro X hl nx hs hr=>obtain ⟨a,cc,rfl,h2⟩:=nx;exact ⟨_,_,_,rfl,rfl,h2⟩
   subst hle
   have p:=rL r (o:=0) (c':=c) (Nat.zero_le _) hc
   rw [List.drop_zero] at p
   refine ⟨_,.d p,fun w' _=>?_⟩
   have:=mM (P:=P) (w:=w') (a:=a) ht hk (n:=rows.length) (c:=cc) (l:=0) (h:=c) (m:=cc) (vl:=none) (vh:=some (.int .i64 c)) (vm:=none) (by simp [Instr.sliceBounds,gT (show c≤cc by omega)])
   simp only [execOp,hy,C.int hz,Option.map_some,Option.map_none,Sem.run_bind,this,Result.andThen_ok,Sem.run_pure]
 ·rename_i hh mm
  split at h
  rotate_left
  ·simp at h
  rename_i z z' hz iS
  cases cm:k.beq k' with
  | false=>simp [cm] at h
  | true=>
   simp only [cm,cond_true,Option.some.injEq] at h;subst h
   obtain rfl:=Nat.eq_of_beq_eq_true cm
   refine aK.look ?_ (by simp)
   intro D w0 K0 β F I ρ w C hv
   obtain ⟨rfl,rfl,hc,-⟩:=hv
   obtain ⟨y,hy,r⟩:=C.bR hx
   cases r with | d r=>
   obtain ⟨a,n,cc,rfl,hle,dP⟩:∃ a n cc,y=.slice a n cc∧n=rows.length∧rows.length≤cc:=by
    cases r with | ro X hl nx hs hr=>obtain ⟨a,cc,rfl,h2⟩:=nx;exact ⟨_,_,_,rfl,rfl,h2⟩
   subst hle
   have p:=rL r (o:=0) (c':=c) (Nat.zero_le _) hc
   rw [List.drop_zero] at p
   have hb:∀ q:Nat,(if q=0 then a else a.map (·.add (0*k)))=a:=by
    intro q
    rw [Nat.zero_mul]
    split
    ·rfl
    ·cases a with
     | none=>rfl
     | some a=>simp [add_zero']
   rw [hb cc] at p
   refine ⟨_,.d (p.cap (c':=c-0) (Nat.le_refl _)),fun w' _=>?_⟩
   have:=mM (P:=P) (w:=w') (a:=a) ht hk (n:=rows.length) (c:=cc) (l:=0) (h:=c) (m:=c) (vl:=none) (vh:=some (.int .i64 c)) (vm:=some (.int .i64 c)) (by simp [Instr.sliceBounds,gT (show c≤cc by omega),gT (Nat.le_refl c)])
   rw [hb c] at this
   simp only [execOp,hy,C.int hz,C.int iS,Option.map_some,Option.map_none,Sem.run_bind,this,Result.andThen_ok,Sem.run_pure]
 ·rename_i l
  split at h
  rotate_left
  ·simp at h
  rename_i z hz
  cases cm:k.beq k' with
  | false=>simp [cm] at h
  | true=>
   simp only [cm,cond_true,Option.some.injEq] at h;subst h
   obtain rfl:=Nat.eq_of_beq_eq_true cm
   refine aK.look ?_ (by simp)
   intro D w0 K0 β F I ρ w C hv
   obtain ⟨rfl,hc,-⟩:=hv
   obtain ⟨y,hy,r⟩:=C.bR hx
   cases r with | d r=>
   obtain ⟨a,n,cc,rfl,hle,dP⟩:∃ a n cc,y=.slice a n cc∧n=rows.length∧rows.length≤cc:=by
    cases r with | ro X hl nx hs hr=>obtain ⟨a,cc,rfl,h2⟩:=nx;exact ⟨_,_,_,rfl,rfl,h2⟩
   subst hle
   have p:=rL r (o:=o) (c':=rows.length) hc (Nat.le_refl _)
   rw [List.take_length] at p
   refine ⟨_,.d p,fun w' _=>?_⟩
   have:=mM (P:=P) (w:=w') (a:=a) ht hk (n:=rows.length) (c:=cc) (l:=o) (h:=rows.length) (m:=cc) (vl:=some (.int .i64 o)) (vh:=none) (vm:=none) (by simp [Instr.sliceBounds,gT hc])
   simp only [execOp,hy,C.int hz,Option.map_some,Option.map_none,Sem.run_bind,this,Result.andThen_ok,Sem.run_pure]
 ·rename_i l hh
  split at h
  rotate_left
  ·simp at h
  rename_i z z' hz iS
  cases cm:k.beq k' with
  | false=>simp [cm] at h
  | true=>
   simp only [cm,cond_true,Option.some.injEq] at h;subst h
   obtain rfl:=Nat.eq_of_beq_eq_true cm
   refine aK.look ?_ (by simp)
   intro D w0 K0 β F I ρ w C hv
   obtain ⟨rfl,rfl,ho,hc,-⟩:=hv
   obtain ⟨y,hy,r⟩:=C.bR hx
   cases r with | d r=>
   obtain ⟨a,n,cc,rfl,hle,dP⟩:∃ a n cc,y=.slice a n cc∧n=rows.length∧rows.length≤cc:=by
    cases r with | ro X hl nx hs hr=>obtain ⟨a,cc,rfl,h2⟩:=nx;exact ⟨_,_,_,rfl,rfl,h2⟩
   subst hle
   have p:=rL r (o:=o) (c':=c) ho hc
   refine ⟨_,.d p,fun w' _=>?_⟩
   have:=mM (P:=P) (w:=w') (a:=a) ht hk (n:=rows.length) (c:=cc) (l:=o) (h:=c) (m:=cc) (vl:=some (.int .i64 o)) (vh:=some (.int .i64 c)) (vm:=none) (by simp [Instr.sliceBounds,gT (show c≤cc by omega),gT ho])
   simp only [execOp,hy,C.int hz,C.int iS,Option.map_some,Option.map_none,Sem.run_bind,this,Result.andThen_ok,Sem.run_pure]
 ·simp at h
end Go.Proofs.YtcnpikbbmbombaaGreatDoor
namespace Go.Proofs.YtcnpikbbmbombaaGreatDoor
open Go.RowKit
variable {P:Program} {T:aN} {E:List (Nat×AV)} {M:List ai} {d:Option Tmp} {ty:TypeId} {pos:String} {aft:Array Edge} {gd:Option (Nat×Bool)} {oc:Option aU} {out:Out}
def cU (P:Program) (t:TypeId):Prop:=P.underlying t=some (.pointer (P.pointee t))
theorem D5 {ρ:Operand→Value} {w:World} {Φ:Value→World→Prop} {x:Operand} {t t':TypeId} {o:Option Addr} {c:Bool} (ht:cU P t) (h:ρ x=.pointer o) (hn:ρ (.const (.pointer none))=.pointer none) (hc:(!o.isNone)=c) (aE:Φ (.bool c) w):aT P ⟨d,.binOp .neq t x (.const (.pointer none)) t',ty,pos,aft,gd⟩ ρ w Φ:=by
 subst hc
 exact .pure (v:=.bool !o.isNone) (by simp [execOp,h,hn,eqGuard,binOp,Op.equal,Op.maxDepth,run_equalIn_pointer_nil w 9999 t o ht]) aE
def qh:Option AV→Option Bool
 | some (.pt _ _)=>some false
 | some (.ep _ _ _ _)=>some false
 | some (.rp _ _)=>some false
 | some (.d (.v (.pointer none)))=>some true
 | _=>none
def wj (P:Program) (E:List (Nat×AV)) (M:List ai) (op:BinOp) (t:TypeId) (x y:Operand):Option Out:=
 match op,y,qh (aI E x) with
 | .eql,.const (.pointer none),some c=>some (lk [cU P t] (.b c) M)
 | .neq,.const (.pointer none),some c=>some (lk [cU P t] (.b (!c)) M)
 | _,_,_=>none
theorem Ap {K:World→Prop} {β:Beta} {v:Option AV} {a:AV} {c:Bool} {y:Value} (h:qh v=some c) (hv:v=some a) (r:aw K β a y):∃ o,y=.pointer o∧o.isNone=c:=by
 subst hv
 unfold qh at h
 split at h
 ·rename_i hx;cases hx;simp only [Option.some.injEq] at h;subst h
  cases r with | pt hb=>exact ⟨_,rfl,rfl⟩
 ·rename_i hx;cases hx;simp only [Option.some.injEq] at h;subst h
  cases r with | ep hb=>exact ⟨_,rfl,rfl⟩
 ·rename_i hx;cases hx;simp only [Option.some.injEq] at h;subst h
  cases r with | rp a X hl hc hr=>exact ⟨_,rfl,rfl⟩
 ·rename_i hx;cases hx;simp only [Option.some.injEq] at h;subst h
  cases r with | d r=>cases r;exact ⟨_,rfl,rfl⟩
 ·simp at h
theorem FZ {op:BinOp} {t t':TypeId} {x y:Operand} (h:wj P E M op t x y=some out):aK P ⟨d,.binOp op t x y t',ty,pos,aft,gd⟩ E M out:=by
 unfold wj at h
 split at h
 ·rename_i c hx
  simp only [Option.some.injEq] at h;subst h
  refine jF (.of fun _=>⟨_,rfl⟩) ?_
  intro D w0 K0 β F I ρ w' C hv
  obtain ⟨hp,-⟩:=hv
  cases ny:aI E x with
  | none=>rw [ny] at hx;simp [qh] at hx
  | some a=>
   obtain ⟨o,ho,hc⟩:=Ap hx ny (C.ev ny)
   exact ⟨_,.d (.v _),fun w Φ aE=>Fy hp ho (C.const _) hc aE⟩
 ·rename_i c hx
  simp only [Option.some.injEq] at h;subst h
  refine jF (.of fun _=>⟨_,rfl⟩) ?_
  intro D w0 K0 β F I ρ w' C hv
  obtain ⟨hp,-⟩:=hv
  cases ny:aI E x with
  | none=>rw [ny] at hx;simp [qh] at hx
  | some a=>
   obtain ⟨o,ho,hc⟩:=Ap hx ny (C.ev ny)
   exact ⟨_,.d (.v _),fun w Φ aE=>D5 hp ho (C.const _) (by rw [hc]) aE⟩
 ·simp at h
def kX (g:Nat):List ai→Option (List DV)
 | []=>none
 | .gw g' row::r=>bif g'.beq g then some row else kX g r
 | _::r=>kX g r
theorem uE {g:Nat} {row:List DV}:∀ {M:List ai},kX g M=some row→∃ u:Nat,M[u]?=some (ai.gw g row)
 | [],h=>by simp [kX] at h
 | b::r,h=>by
  have next:kX g r=some row→∃ u:Nat,(b::r)[u]?=some (ai.gw g row):=fun h=>by
   obtain ⟨u,hu⟩:=uE h
   exact ⟨u+1,by simpa using hu⟩
  cases b with
  | gw g' xf=>
   simp only [kX] at h
   cases hc:g'.beq g with
   | true=>
    simp only [hc,cond_true,Option.some.injEq] at h;subst h
    obtain rfl:=Nat.eq_of_beq_eq_true hc
    exact ⟨0,rfl⟩
   | false=>
    simp only [hc,cond_false] at h
    exact next h
  | _=>simp only [kX] at h;exact next h
def uF (T:aN) (E:List (Nat×AV)) (M:List ai) (oc:Option aU) (t:TypeId) (x ix:Operand):Option Out:=
 match x,cF (aI E ix),cW T t,oc with
 | .global g,some (_,z),some (.ar n e),some (.ix i [c])=>(match fE T e,kX g M with
  | some k,some row=>bif k.beq 1 then some (lk [z=(i:Int),i<n,row[i]?=some c] (.rp [c] 0) M) else none
  | _,_=>none)
 | _,_,_,_=>none
theorem D6 (hT:aY P T=true) {t:TypeId} {x ix:Operand} (h:uF T E M oc t x ix=some out):aK P ⟨d,.indexAddr t x ix,ty,pos,aft,gd⟩ E M out:=by
 unfold uF at h
 split at h
 rotate_left
 ·simp at h
 rename_i g kk z n e i c hz ht
 split at h
 rotate_left
 ·simp at h
 rename_i k row hk hg
 cases hc:k.beq 1 with
 | false=>simp [hc] at h
 | true=>
  simp only [hc,cond_true,Option.some.injEq] at h;subst h
  obtain rfl:=Nat.eq_of_beq_eq_true hc
  refine aK.same fun C dt=>?_
  obtain ⟨rfl,hi,cg,-⟩:=dt
  obtain ⟨u,hu⟩:=uE hg
  obtain ⟨H,-,hB,-⟩:=C.rm.at hu
  cases hB with
  | gw X hl js hr=>
   have aM:i<X.length:=by have:=(List.getElem?_eq_some_iff.1 cg).1;omega
   have hx:X[i]?=some X[i]:=List.getElem?_eq_getElem aM
   have e0:(⟨g,0,none⟩:Addr).add (((i:Nat):Int).toNat*1)=((⟨g,0,none⟩:Addr).add i).add 0:=by rw [add_zero'];simp
   refine ⟨_,fun _ _=>nQ (cH hT ht) (gU hT hk) (C.BT g) (C.int hz) (by simp) (by simp;omega),?_⟩
   rw [e0]
   refine .rp _ [X[i]] rfl (fun w' dS j y hj=>?_) (fun j c' y h1 h2=>?_)
   ·cases j with
    | zero=>simp at hj;subst hj;rw [add_zero'];exact js w' dS i _ hx
    | succ j=>simp at hj
   ·cases j with
    | zero=>simp at h1 h2;subst h1;subst h2;exact hr i _ _ cg hx
    | succ j=>simp at h1
section
variable {ρ:Operand→Value} {w:World}
theorem EJ {w:World} {b:Nat} {c:Array Value} {e:TypeId} (hb:w.heap[b]?=some (.cells c e (0,0))):w.freeze ⟨b,c.size,none⟩ 1=cd w b (.cells c e (c.size,c.size+1)):=by
 unfold World.freeze cd
 rw [if_neg (by decide)]
 congr 1
 apply Array.ext_getElem?
 intro j
 have aM:=j7 hb
 rw [Array.getElem?_modify,Array.getElem?_setIfInBounds]
 by_cases e':b=j
 ·subst e'
  have hg:w.heap[b]=.cells c e (0,0):=by rw [Array.getElem?_eq_getElem aM] at hb;exact Option.some.inj hb
  simp [aM,hg]
 ·simp [e']
theorem I0 {t t' e:TypeId} {x:Operand} {bs:List UInt8} (ht:P.underlying t=some .string) (nz:P.underlying t'=some (.slice e)) (he:P.underlying e=some (.int .u8)) (hx:ρ x=.string ⟨bs.toArray⟩):
  ∃ (k:Nat) (c:Array Value),bs.length≤k∧c=(bs.map fun b:UInt8=>Value.int .u8 b.toNat).toArray++Array.replicate (k-bs.length) (Value.int .u8 0)∧
   (execOp ρ ⟨d,.convert t t' x,ty,pos,aft,gd⟩).run P w=.ok (.value (.slice (some ⟨w.heap.size,0,none⟩) bs.length k)) (cd (w.drew.alloc (.cells c e (0,0))) w.heap.size (.cells c e (c.size,c.size+1))):=by
 refine ⟨(Question.appendCap bs.length 0 e).cut (w.tape w.drawn (.appendCap bs.length 0 e)),_,by simp [Question.cut],rfl,?_⟩
 generalize hk:(Question.appendCap bs.length 0 e).cut (w.tape w.drawn (.appendCap bs.length 0 e))=k
 generalize js:(bs.map fun b:UInt8=>Value.int .u8 b.toNat).toArray++Array.replicate (k-bs.length) (Value.int .u8 0)=c
 have xI:(choose (.appendCap bs.length 0 e)).run P w=.ok k w.drew:=by
  rw [← hk];simp [choose,Sem.run,Question.forced]
 have cg:∀ (cs:Array Value) (w:World),(newRow e cs).run P w=.ok ⟨w.heap.size,0,none⟩ (w.alloc (.cells cs e)):=by
  intro cs w;simp [newRow,newObj,Sem.run]
 have lg:(markStringish ⟨w.heap.size,0,none⟩).run P (w.drew.alloc (.cells c e (0,0)))=.ok () (cd (w.drew.alloc (.cells c e (0,0))) w.heap.size (.cells c e (c.size,c.size+1))):=by
  have hb:(w.drew.alloc (.cells c e (0,0))).heap[w.heap.size]?=some (.cells c e (0,0)):=zx w.drew _
  have np:(w.drew.alloc (.cells c e (0,0))).shape? w.heap.size=some (e,c.size):=by unfold World.shape?;rw [hb]
  have:=EJ hb
  unfold markStringish
  simp only [Sem.run_bind]
  have h1:(shape w.heap.size).run P (w.drew.alloc (.cells c e (0,0)))=.ok (some (e,c.size)) (w.drew.alloc (.cells c e (0,0))):=by
   simp [shape,Sem.run,np]
  rw [h1]
  simp only [Result.andThen_ok]
  simp [freeze,Sem.run,this]
 have Kt:(Conv.stringToBytes e ⟨bs.toArray⟩).run P w=.ok (.slice (some ⟨w.heap.size,0,none⟩) bs.length k) (cd (w.drew.alloc (.cells c e (0,0))) w.heap.size (.cells c e (c.size,c.size+1))):=by
  have bu:(⟨bs.toArray⟩:ByteArray).size=bs.length:=by simp [ByteArray.size]
  unfold Conv.stringToBytes
  simp only [bu,Sem.run_bind,xI,Result.andThen_ok,cg,Sem.run_pure]
  have cJ:((Array.map (fun b:UInt8=>Value.int .u8 (b.toNat:Int)) bs.toArray)++Array.replicate (k-bs.length) (Value.int .u8 0))=c:=by rw [← js];simp
  rw [cJ]
  have hd:w.drew.heap.size=w.heap.size:=rfl
  rw [hd,lg]
  rfl
 simp only [execOp,hx,convert,Sem.run_bind,run_underlying ht,run_underlying nz,run_underlying he,Result.andThen_ok,Kt,Sem.run_pure]
theorem AO {n:Nat} (f:Nat→Value):lay n (fun i=>[f i])=(List.range n).map f:=by
 unfold lay
 induction n with
 | zero=>rfl
 | succ n ih=>rw [List.range_succ,List.flatMap_append,List.map_append,ih];rfl
end
theorem AP (w:World) (o:Obj):Gr w (w.drew.alloc o)∧dh w (w.drew.alloc o) [(w.heap.size,o)]:=⟨(Gr.drew w).trans (Gr.alloc w.drew o),(dh.alloc w.drew o).ahead (Gr.drew w)⟩
def wk (T:aN) (E:List (Nat×AV)) (M:List ai) (t t':TypeId) (x:Operand):Option Out:=
 match cW T t,cW T t',jj (aI E x) with
 | some .st,some (.sl e),some bs=>(match cW T e with
  | some (.it .u8)=>some ⟨[],.d (.ro 1 (ae bs)),M,[],[],none⟩
  | _=>none)
 | _,_,_=>none
theorem F5 (hT:aY P T=true) {t t':TypeId} {x:Operand} (h:wk T E M t t' x=some out):aK P ⟨d,.convert t t' x,ty,pos,aft,gd⟩ E M out:=by
 unfold wk at h
 split at h
 rotate_left
 ·cases h
 rename_i e bs ht nz hs
 split at h
 rotate_left
 ·cases h
 rename_i he
 simp only [Option.some.injEq] at h;subst h
 intro D w0 K0 β F I ρ w C _
 have LM:=C.str (x:=x) (l:=bs) hs
 obtain ⟨k,c,hk,hc,fF⟩:=I0 (d:=d) (ty:=ty) (pos:=pos) (aft:=aft) (gd:=gd) (w:=w) (cH hT ht) (cH hT nz) (cH hT he) LM
 refine aT.pure fF ?_
 have s1:St D w0 (w.drew.alloc (.cells c e (0,0))) ((w.heap.size,.cells c e (0,0))::((List.range M.length).flatMap F++I)):=C.rm.st.new (AP w (.cells c e (0,0))).1 (AP w (.cells c e (0,0))).2
 have s2:=s1.set (.cells c e (c.size,c.size+1))
 have R2:RM D w0 K0 M β F ([(w.heap.size,.cells c e (c.size,c.size+1))]++I) (cd (w.drew.alloc (.cells c e (0,0))) w.heap.size (.cells c e (c.size,c.size+1))):=by
  refine ⟨C.rm.len,fun v bl hv=>(C.rm.blk v bl hv).mono (fun w hw=>⟨hw.1,(Holds.app.1 hw.2).2⟩) (Ext.refl _),?_⟩
  exact s2.perm (by classical rw [List.perm_iff_count];intro z;simp only [List.count_append,List.count_cons,List.count_nil];omega)
 refine ⟨β,F,_,R2,(Ext.refl β).b _,⟨_,rfl⟩,fun _ _ _=>rfl,?_⟩
 have hlen:(ae bs).length=bs.length:=by simp [ae]
 refine .d (.ro (fun i=>[Value.int .u8 (bs.getD i 0).toNat]) (fun i r hi=>?_) ⟨_,_,by rw [hlen],by rw [hlen];exact hk⟩ (fun w' dS=>?_) fun i r j cc z h1 h2 h3=>?_)
 ·simp only [ae,List.getElem?_map,Option.map_eq_some_iff] at hi
  obtain ⟨b,-,rfl⟩:=hi;exact ⟨rfl,rfl⟩
 ·have aQ:w'.heap[w.heap.size]?=some (.cells c e (c.size,c.size+1)):=(Holds.app.1 dS.2).1.one
  rw [hlen,AO]
  refine ⟨by simp,Or.inr ⟨_,k,rfl,fun j hj=>?_⟩⟩
  rw [add_eq,Nat.zero_add,cell_of aQ,hc]
  have iR:j<bs.length:=by simpa using hj
  rw [Array.getElem?_append_left (by simpa using iR)]
  simp [iR,List.getD_eq_getElem?_getD]
 ·simp only [ae,List.getElem?_map,Option.map_eq_some_iff] at h1
  obtain ⟨b,hb,rfl⟩:=h1
  cases j with
  | succ j=>simp at h2
  | zero=>
   simp at h2 h3;subst h2;subst h3
   simp only [List.getD_eq_getElem?_getD,hb,Option.getD_some]
   exact .v _
end Go.Proofs.YtcnpikbbmbombaaGreatDoor
namespace Go.Proofs.YtcnpikbbmbombaaGreatDoor
open Go.RowKit
variable {P:Program} {T:aN} {D:List Nat} {w0:World} {K0:World→Prop} {E:List (Nat×AV)} {M:List ai} {β:Beta} {F:Nat→ak} {I X:ak} {ρ:Operand→Value} {w:World}
variable {d:Option Tmp} {ty:TypeId} {pos:String} {aft:Array Edge} {gd:Option (Nat×Bool)} {oc:Option aU} {out:Out}
def sE (l:List UInt8):AV:=.d (.v (.string ⟨l.toArray⟩))
theorem strSize (l:List UInt8):(⟨l.toArray⟩:ByteArray).size=l.length:=by simp [ByteArray.size]
theorem Hw {op:BinOp} {t t':TypeId} {x y:Operand} {a b:List UInt8} (M0:op=.add) (hx:ρ x=.string ⟨a.toArray⟩) (hy:ρ y=.string ⟨b.toArray⟩) (hle:a.length+b.length≤9223372036854775807):
  (execOp ρ ⟨d,.binOp op t x y t',ty,pos,aft,gd⟩).run P w=.ok (.value (.string ⟨(a++b).toArray⟩)) w:=by
 subst M0
 have hn:¬ (((a.length+b.length:Nat):Int)>IntKind.i64.max):=by simp [IntKind.max,IntKind.signed,IntKind.bits];omega
 have k8:(⟨a.toArray⟩:ByteArray)++⟨b.toArray⟩=⟨(a++b).toArray⟩:=by
  apply ByteArray.ext;simp
 simp only [execOp,hx,hy,eqGuard,binOp,Op.stringOp,Sem.run_bind,Sem.run_pure,Result.andThen_ok,strSize]
 rw [if_neg hn,k8]
 simp
def xg (E:List (Nat×AV)) (M:List ai) (op:BinOp) (x y:Operand):Option Out:=
 match op,jj (aI E x),jj (aI E y) with
 | .add,some a,some b=>some (lk [a.length+b.length≤9223372036854775807] (sE (a++b)) M)
 | _,_,_=>none
theorem Hx {op:BinOp} {t t':TypeId} {x y:Operand} (h:xg E M op x y=some out):aK P ⟨d,.binOp op t x y t',ty,pos,aft,gd⟩ E M out:=by
 unfold xg at h
 split at h
 ·rename_i a b ha hb
  simp only [Option.some.injEq] at h;subst h
  exact aK.same fun C hv=>⟨_,fun w' _=>Hw rfl (C.str ha) (C.str hb) hv.1,.d (.v _)⟩
 ·cases h
theorem D7 {t:TypeId} {x ix:Operand} {l:List UInt8} {k:IntKind} {i:Nat} {u:UInt8} (ht:P.underlying t=some .string) (hx:ρ x=.string ⟨l.toArray⟩) (hi:ρ ix=.int k (i:Int)) (hu:l[i]?=some u):
  (execOp ρ ⟨d,.index t x ix,ty,pos,aft,gd⟩).run P w=.ok (.value (.int .u8 (u.toNat:Int))) w:=by
 have h4:(⟨l.toArray⟩:ByteArray)[i]?=some u:=by
  obtain ⟨hi,rfl⟩:=List.getElem?_eq_some_iff.1 hu
  exact getElem?_pos (⟨l.toArray⟩:ByteArray) i (by show i<l.toArray.size;simpa using hi)
 simp [execOp,hx,hi,Instr.index,asIntOf,Sem.run_bind,run_underlying ht,h4]
def wm (T:aN) (E:List (Nat×AV)) (M:List ai) (oc:Option aU) (t:TypeId) (x ix:Operand):Option Out:=
 match cW T t,jj (aI E x),cF (aI E ix),oc with
 | some .st,some l,some (_,z),some (.ix i [c])=>some (lk [z=(i:Int),∃ u:UInt8,l[i]?=some u∧c=.v (.int .u8 (u.toNat:Int))] (.d c) M)
 | _,_,_,_=>none
theorem F6 (hT:aY P T=true) {t:TypeId} {x ix:Operand} (h:wm T E M oc t x ix=some out):aK P ⟨d,.index t x ix,ty,pos,aft,gd⟩ E M out:=by
 unfold wm at h
 split at h
 ·rename_i l k z i c hu hx hz
  simp only [Option.some.injEq] at h;subst h
  refine aK.same fun C hv=>?_
  obtain ⟨rfl,⟨u,h1,rfl⟩,-⟩:=hv
  exact ⟨_,fun w' _=>D7 (cH hT hu) (C.str hx) (C.int hz) h1,.d (.v _)⟩
 ·cases h
theorem LN (l:List UInt8) (o c:Nat):(⟨l.toArray⟩:ByteArray).extract o c=⟨((l.take c).drop o).toArray⟩:=by
 apply ByteArray.ext
 rw [ByteArray.data_extract]
 apply Array.toList_inj.1
 simp [Array.toList_extract,List.extract_eq_take_drop,List.drop_take]
theorem tY {t:TypeId} {x:Operand} {lo hi:Option Operand} {l:List UInt8} {o c:Nat} (ht:P.underlying t=some .string) (hx:ρ x=.string ⟨l.toArray⟩)
  (hb:(Instr.sliceBounds false l.length l.length (lo.map ρ) (hi.map ρ) none).run P w=.ok (o,c,l.length) w):
  (execOp ρ ⟨d,.slice t x lo hi none,ty,pos,aft,gd⟩).run P w=.ok (.value (.string ⟨((l.take c).drop o).toArray⟩)) w:=by
 simp only [execOp,hx,Option.map_none,Instr.sliceAt,Instr.slice,Sem.run_bind,run_underlying ht,Result.andThen_ok,Option.isSome_none,Bool.false_eq_true,if_false,strSize,hb,Sem.run_pure,LN]
def xh (T:aN) (E:List (Nat×AV)) (M:List ai) (oc:Option aU) (t:TypeId) (x:Operand) (lo hi mx:Option Operand):Option Out:=
 match cW T t,jj (aI E x),oc,mx with
 | some .st,some l,some (.n2 c o),none=>(match lo,hi with
  | none,some h=>(match cF (aI E h) with
   | some (.i64,z)=>some (lk [z=(c:Int),c≤l.length] (sE (l.take c)) M)
   | _=>none)
  | some lo,none=>(match cF (aI E lo) with
   | some (.i64,z)=>some (lk [z=(o:Int),o≤l.length] (sE (l.drop o)) M)
   | _=>none)
  | some lo,some h=>(match cF (aI E lo),cF (aI E h) with
   | some (.i64,z),some (.i64,z')=>some (lk [z=(o:Int),z'=(c:Int),o≤c,c≤l.length] (sE ((l.take c).drop o)) M)
   | _,_=>none)
  | _,_=>none)
 | _,_,_,_=>none
theorem Hy (hT:aY P T=true) {t:TypeId} {x:Operand} {lo hi mx:Option Operand} (h:xh T E M oc t x lo hi mx=some out):aK P ⟨d,.slice t x lo hi mx,ty,pos,aft,gd⟩ E M out:=by
 unfold xh at h
 split at h
 rotate_left
 ·cases h
 rename_i l c o hu hx
 replace hu:=cH hT hu
 split at h
 ·rename_i hh
  split at h
  rotate_left
  ·cases h
  rename_i z hz
  simp only [Option.some.injEq] at h;subst h
  refine aK.same ?_
  intro D w0 K0 β F I ρ w C hv
  obtain ⟨rfl,hc,-⟩:=hv
  refine ⟨.string ⟨(l.take c).toArray⟩,fun w' _=>?_,.d (.v _)⟩
  have:=tY (P:=P) (ρ:=ρ) (w:=w') (d:=d) (ty:=ty) (pos:=pos) (aft:=aft) (gd:=gd) (lo:=none) (hi:=some hh) (o:=0) (c:=c) hu (C.str hx) (by simp [Instr.sliceBounds,C.int hz,gT hc])
  simpa using this
 ·rename_i ll
  split at h
  rotate_left
  ·cases h
  rename_i z hz
  simp only [Option.some.injEq] at h;subst h
  refine aK.same ?_
  intro D w0 K0 β F I ρ w C hv
  obtain ⟨rfl,ho,-⟩:=hv
  refine ⟨.string ⟨(l.drop o).toArray⟩,fun w' _=>?_,.d (.v _)⟩
  have:=tY (P:=P) (ρ:=ρ) (w:=w') (d:=d) (ty:=ty) (pos:=pos) (aft:=aft) (gd:=gd) (lo:=some ll) (hi:=none) (o:=o) (c:=l.length) hu (C.str hx) (by simp [Instr.sliceBounds,C.int hz,gT ho])
  simpa using this
 ·rename_i ll hh
  split at h
  rotate_left
  ·cases h
  rename_i z z' hz iS
  simp only [Option.some.injEq] at h;subst h
  refine aK.same fun C hv=>?_
  obtain ⟨rfl,rfl,ho,hc,-⟩:=hv
  refine ⟨.string ⟨((l.take c).drop o).toArray⟩,fun w' _=>?_,.d (.v _)⟩
  exact tY hu (C.str hx) (by simp [Instr.sliceBounds,C.int hz,C.int iS,gT hc,gT ho])
 ·cases h
def wo (T:aN) (E:List (Nat×AV)) (M:List ai) (oc:Option aU) (t:TypeId) (x ix:Operand):Option Out:=
 match x,cF (aI E ix),cW T t,oc with
 | .global g,some (_,z),some (.ar n e),some (.ix i row)=>(match fE T e,kX g M with
  | some k,some qi=>some (lk [z=(i:Int),i<n,(qi.drop (i*k)).take k=row] (.rp row 0) M)
  | _,_=>none)
 | _,_,_,_=>none
theorem F7 (hT:aY P T=true) {t:TypeId} {x ix:Operand} (h:wo T E M oc t x ix=some out):aK P ⟨d,.indexAddr t x ix,ty,pos,aft,gd⟩ E M out:=by
 unfold wo at h
 split at h
 rotate_left
 ·cases h
 rename_i g kk z n e i row hz ht
 split at h
 rotate_left
 ·cases h
 rename_i k qi hk hg
 simp only [Option.some.injEq] at h;subst h
 refine aK.same fun C dt=>?_
 obtain ⟨rfl,hi,rfl,-⟩:=dt
 obtain ⟨u,hu⟩:=uE hg
 obtain ⟨H,-,hB,-⟩:=C.rm.at hu
 cases hB with
 | gw X hl js hr=>
  have e0:(⟨g,0,none⟩:Addr).add (((i:Nat):Int).toNat*k)=((⟨g,0,none⟩:Addr).add (i*k)).add 0:=by rw [add_zero'];simp
  refine ⟨_,fun _ _=>nQ (cH hT ht) (gU hT hk) (C.BT g) (C.int hz) (by simp) (by simp;omega),?_⟩
  rw [e0]
  refine .rp _ ((X.drop (i*k)).take k) (by simp [hl]) (fun w' dS j y hj=>?_) (fun j c' y h1 h2=>?_)
  ·rw [List.getElem?_take] at hj
   split at hj
   ·rw [List.getElem?_drop] at hj
    rw [Addr.mJ];exact js w' dS _ y hj
   ·cases hj
  ·rw [List.getElem?_take] at h1 h2
   split at h1
   ·rename_i hj
    rw [if_pos hj] at h2
    rw [List.getElem?_drop] at h1 h2
    exact hr _ _ _ h1 h2
   ·cases h1
theorem Aq (K:World→Prop) (bs:List UInt8):dj K 1 (ae bs) (fun i=>[Value.int .u8 (bs.getD i 0).toNat]) (fun _ _=>[]):=by
 refine ⟨fun i r hi=>?_,fun i r j cc z h1 h2 h3=>?_⟩
 ·simp only [ae,List.getElem?_map,Option.map_eq_some_iff] at hi
  obtain ⟨b,-,rfl⟩:=hi;exact ⟨rfl,rfl⟩
 ·simp only [ae,List.getElem?_map,Option.map_eq_some_iff] at h1
  obtain ⟨b,hb,rfl⟩:=h1
  cases j with
  | succ j=>simp at h2
  | zero=>
   simp at h2 h3;subst h2;subst h3
   simp only [List.getD_eq_getElem?_getD,hb,Option.getD_some]
   exact .v _
theorem zK (bs:List UInt8):lay bs.length (fun i=>[Value.int .u8 (bs.getD i 0).toNat])=bs.map fun b:UInt8=>Value.int .u8 (b.toNat:Int):=by
 rw [AO]
 apply List.ext_getElem
 ·simp
 ·intro i h1 h2
  simp only [List.length_map,List.length_range] at h1
  simp [List.getD_eq_getElem?_getD,List.getElem?_eq_getElem h1]
theorem zL (bs:List UInt8):aA (ae bs):=by simp [aA,AV.one,aW,ae]
def wq (T:aN) (E:List (Nat×AV)) (M:List ai) (st xt:TypeId) (x y:Operand):Option Out:=
 match iq T st,cW T xt,jj (aI E y),aI E x with
 | some (e,k,b,_),some .st,some bs,some vx=>bif k.beq 1 then (match oG M e k vx with
  | some (some u,n,rows)=>some ⟨[n=rows.length,(2*(n+bs.length)+192)*b≤281474976710656,n+bs.length<4611686018427387904],.sl u (n+bs.length),(M.map (gb [u])).set u (.rw e k (rows++ae bs)),[u],[u],none⟩
  | some (none,_,_)=>some ⟨[(2*(0+bs.length)+192)*b≤281474976710656,0+bs.length<4611686018427387904],.sl M.length bs.length,M++[.rw e k (ae bs)],[],[],none⟩
  | none=>none) else none
 | _,_,_,_=>none
theorem F8 (hT:aY P T=true) {st xt:TypeId} {x y:Operand} (h:wq T E M st xt x y=some out):aK P ⟨d,.call ⟨.builtin .append,#[x,y],#[st,xt]⟩,ty,pos,aft,gd⟩ E M out:=by
 unfold wq at h
 split at h
 rotate_left
 ·cases h
 rename_i e k b z bs vx he hu hs hx
 cases jU:k.beq 1 with
 | false=>simp [jU] at h
 | true=>
  simp only [jU,cond_true] at h
  obtain rfl:=Nat.eq_of_beq_eq_true jU
  have CF:(ae bs).length=bs.length:=by simp [ae]
  split at h
  ·rename_i u n rows hd
   simp only [Option.some.injEq] at h;subst h
   obtain ⟨rfl,hM⟩:=tF hd
   intro D w0 K0 β F I ρ w C hv
   obtain ⟨hn,h1,h2,-⟩:=hv
   obtain ⟨X1,G1,H0,hF,dM,a1,-⟩:=lI C.rm hM hn (C.ev hx)
   have R1:=C.rm.x.fc hM
   rw [hF,List.nil_append] at R1
   have aM:u<(M.set u .dead).length:=by rw [List.length_set];exact fh hM
   have fO:ka P xt w 1 (ρ y) bs.length (lay bs.length fun i=>[Value.int .u8 (bs.getD i 0).toNat]):=by
    rw [zK,C.str hs];exact ka.str (cH hT hu)
   refine (uu hT he rfl rfl (R1.perm (Y:=(H0++bE n 1 G1)++[]) (by rw [List.append_nil])) aM (by simp [aL]) dM hn CF.symm a1 rfl (Aq _ bs) (by rw [kG]) fO h1 h2 (zL bs)).mono ?_
   rintro v' w' ⟨az,F',R',hE,jt,hr⟩
   rw [ti] at R'
   exact ⟨az,F',I,R',hE,bK.refl _,fun q _ hq=>by have oW:q≠u:=(by simpa using hq);rw [jt q oW];simp only [aL];rw [if_neg oW],hr⟩
  ·rename_i n0 r0 hd
   simp only [Option.some.injEq] at h;subst h
   obtain rfl:=tG hd
   intro D w0 K0 β F I ρ w C hv
   obtain ⟨h1,h2,-⟩:=hv
   have lb:ρ x=.slice none 0 0:=by have:=C.ev hx;generalize ρ x=q at this;cases this with | d r=>cases r;rfl
   have fO:ka P xt w 1 (ρ y) bs.length (lay bs.length fun i=>[Value.int .u8 (bs.getD i 0).toNat]):=by
    rw [zK,C.str hs];exact ka.str (cH hT hu)
   refine (uv hT he lb rfl C.rm.x CF.symm (Aq _ bs) (by rw [kG]) fO h1 h2 (zL bs)).mono ?_
   rintro v' w' ⟨az,F',R',hE,jt,hr⟩
   exact ⟨az,F',I,R',hE.b _,bK.refl _,fun q hq _=>jt q hq,hr⟩
  ·cases h
def vp (E:List (Nat×AV)) (M:List ai) (r:Value) (c x y:Operand):Option Out:=
 match aI E c,aI E x,aI E y with
 | some (.d (.v vc)),some (.d (.v vx)),some (.d (.v vy))=>some (lk [∃ b:Bool,vc=.bool b∧(bif b then vx else vy)=r] (.d (.v r)) M)
 | _,_,_=>none
theorem Ctx.val (C:Ctx D w0 K0 E M β F I ρ w) {x:Operand} {v:Value} (h:aI E x=some (.d (.v v))):ρ x=v:=by
 obtain ⟨y,hy,r⟩:=C.bR h
 cases r with | d r=>cases r;exact hy
theorem EK {r:Value} {c x y:Operand} (h:vp E M r c x y=some out):aK P ⟨d,.pick c x y,ty,pos,aft,gd⟩ E M out:=by
 unfold vp at h
 split at h
 ·rename_i vc vx vy hc hx hy
  simp only [Option.some.injEq] at h;subst h
  refine jF rq fun C dt=>?_
  obtain ⟨⟨b,rfl,rfl⟩,-⟩:=dt
  refine ⟨_,.d (.v _),fun w Φ aE=>IL (C.val hc) (C.val hx) (C.val hy) ?_⟩
  cases b<;>exact aE
 ·cases h
def l0 (P:Program) (t t':TypeId):Bool:=match P.underlying t,P.underlying t' with
 | some (.pointer s),some .unsafePointer=>(match P.info? s with | some j=>!(j.size==0) | none=>false)
 | _,_=>false
def l3 (P:Program) (t t' T n:Nat):Bool:=match P.underlying t,P.underlying t' with
 | some .unsafePointer,some (.pointer u)=>(P.info? u).isSome&&liesAt P P.depth T (n / P.cellsOf T) 0 u 1
 | _,_=>false
def vq (P:Program) (E:List (Nat×AV)) (M:List ai) (oc:Option aU) (t t':TypeId) (x:Operand):Option Out:=
 match aI E x,oc with
 | some (.pt u 0),some (.b c)=>(match M[u]? with
  | some (.bx Tb cells)=>some ⟨[(bif c then l0 P t t' else l3 P t t' Tb cells.length)=true,0<cells.length],.pt u 0,M,[],[],some [u]⟩
  | _=>none)
 | _,_=>none
theorem zM {w:World} {b:Nat} {c:Array Value} {t:TypeId} {fr:Nat×Nat} (h:w.heap[b]?=some (.cells c t fr)):w.shape? b=some (t,c.size):=by
 unfold World.shape?;rw [h]
theorem EL {t t':TypeId} {x:Operand} (h:vq P E M oc t t' x=some out):aK P ⟨d,.convert t t' x,ty,pos,aft,gd⟩ E M out:=by
 unfold vq at h
 split at h
 rotate_left
 ·cases h
 rename_i u c hx
 split at h
 rotate_left
 ·cases h
 rename_i Tb cells hM
 simp only [Option.some.injEq] at h;subst h
 refine aK.look ?_ (by simpa using fh hM)
 intro D w0 K0 β F I ρ w C hv
 obtain ⟨hc,h0,-⟩:=hv
 obtain ⟨y,hy,r⟩:=C.bR hx
 cases r with
 | @pt _ _ b cc hb=>
  refine ⟨_,.pt hb,fun w' hs=>?_⟩
  obtain ⟨H,hF,hB,-⟩:=C.rm.at hM
  have hH:Holds w' (F u):=hs.2 u (by simp)
  rw [hF] at hH
  cases hB with
  | bx aQ ys hl hr=>
   rw [hb] at aQ;cases aQ
   have np:=zM hH.one
   have bu:ys.toArray.size=cells.length:=by simp [hl]
   rw [bu] at np
   have key:(convert t t' (.pointer (some ⟨b,0,none⟩))).run P w'=.ok (.pointer (some ⟨b,0,none⟩)) w':=by
    cases c with
    | true=>
     simp only [cond_true] at hc
     unfold l0 at hc
     split at hc
     ·rename_i s h1 h2
      split at hc
      ·rename_i j hj
       exact Go.Lib.run_to_unsafe w' ⟨b,0,none⟩ h1 h2 hj (by simpa using hc) np h0
      ·cases hc
     ·cases hc
    | false=>
     simp only [cond_false] at hc
     unfold l3 at hc
     split at hc
     ·rename_i s h1 h2
      rw [Bool.and_eq_true] at hc
      obtain ⟨j,hj⟩:=Option.isSome_iff_exists.1 hc.1
      exact Go.Lib.run_from_unsafe w' ⟨b,0,none⟩ h1 h2 hj np hc.2
     ·cases hc
   simp only [execOp,hy,Sem.run_bind,key,Result.andThen_ok,Sem.run_pure]
def iN (P:Program) (t:TypeId):Bool:=match P.underlying t with | some (.pointer te)=>(P.info? te).isSome | _=>false
def xi (P:Program) (E:List (Nat×AV)) (M:List ai) (op:BinOp) (t:TypeId) (x y:Operand):Option Out:=
 match op,aI E x,aI E y with
 | .eql,some (.pt u o),some (.pt v q)=>bif Nat.beq u v&&Nat.beq o q then some (lk [iN P t=true] (.b true) M) else none
 | .neq,some (.pt u o),some (.pt v q)=>bif Nat.beq u v&&Nat.beq o q then some (lk [iN P t=true] (.b false) M) else none
 | _,_,_=>none
theorem Ar {t:TypeId} (h:iN P t=true):∃ te j,P.underlying t=some (.pointer te)∧P.info? te=some j:=by
 unfold iN at h
 split at h
 ·rename_i te h1
  obtain ⟨j,hj⟩:=Option.isSome_iff_exists.1 h
  exact ⟨te,j,h1,hj⟩
 ·cases h
theorem Hz {op:BinOp} {t t':TypeId} {x y:Operand} (h:xi P E M op t x y=some out):aK P ⟨d,.binOp op t x y t',ty,pos,aft,gd⟩ E M out:=by
 unfold xi at h
 split at h
 ·rename_i u o v q hx hy
  cases hc:(Nat.beq u v&&Nat.beq o q) with
  | false=>simp [hc] at h
  | true=>
   simp only [hc,cond_true,Option.some.injEq] at h;subst h
   rw [Bool.and_eq_true] at hc
   obtain rfl:=Nat.eq_of_beq_eq_true hc.1
   obtain rfl:=Nat.eq_of_beq_eq_true hc.2
   refine aK.same fun C hv=>?_
   obtain ⟨te,j,h1,h2⟩:=Ar hv.1
   obtain ⟨y1,e1,r1⟩:=C.bR hx
   obtain ⟨y2,e2,r2⟩:=C.bR hy
   cases r1 with
   | pt hb=>
    cases r2 with
    | pt gP=>
     rw [hb] at gP;cases gP
     refine ⟨_,fun w' _=>?_,.d (.v _)⟩
     simp only [execOp,e1,e2,eqGuard,Sem.run_bind,Sem.run_pure,Result.andThen_ok,run_eql_ptr_same w' _ h1 h2,Bool.not_true,Bool.false_eq_true,if_false]
 ·rename_i u o v q hx hy
  cases hc:(Nat.beq u v&&Nat.beq o q) with
  | false=>simp [hc] at h
  | true=>
   simp only [hc,cond_true,Option.some.injEq] at h;subst h
   rw [Bool.and_eq_true] at hc
   obtain rfl:=Nat.eq_of_beq_eq_true hc.1
   obtain rfl:=Nat.eq_of_beq_eq_true hc.2
   refine aK.same fun C hv=>?_
   obtain ⟨te,j,h1,h2⟩:=Ar hv.1
   obtain ⟨y1,e1,r1⟩:=C.bR hx
   obtain ⟨y2,e2,r2⟩:=C.bR hy
   cases r1 with
   | pt hb=>
    cases r2 with
    | pt gP=>
     rw [hb] at gP;cases gP
     refine ⟨_,fun w' _=>?_,.d (.v _)⟩
     simp only [execOp,e1,e2,eqGuard,Sem.run_bind,Sem.run_pure,Result.andThen_ok,Go.Lib.run_neq_ptr_same w' _ h1 h2,Bool.not_true,Bool.false_eq_true,if_false]
 ·cases h
def p3 (P:Program) (f:FuncId):Prop:=∃ fn,P.funcs[f]?=some fn∧(fn.name == "runtime.NumGoroutine")=false∧fn.body.isNone=true∧Extern.findNext fn=none∧Extern.find fn=some Extern.AbiNoEscape.same
def vr (P:Program) (E:List (Nat×AV)) (M:List ai) (g:Operand) (args:Array Operand):Option Out:=
 match aI E g,args with
 | some (.fn f []),⟨[x]⟩=>(match aI E x with | some (.pt u o)=>some (lk [p3 P f] (.pt u o) M) | _=>none)
 | _,_=>none
theorem EM {g:Operand} {args:Array Operand} {eJ:Array TypeId} (h:vr P E M g args=some out):aK P ⟨d,.call ⟨.value g,args,eJ⟩,ty,pos,aft,gd⟩ E M out:=by
 unfold vr at h
 split at h
 ·rename_i f x hg
  split at h
  ·rename_i u o hx
   simp only [Option.some.injEq] at h;subst h
   refine aK.same fun C hv=>?_
   obtain ⟨⟨fn,h1,h2,h3,h4,h5⟩,-⟩:=hv
   obtain ⟨yg,eg,rg⟩:=C.bR hg
   obtain ⟨yx,ex,rx⟩:=C.bR hx
   refine ⟨yx,fun w' _=>?_,rx⟩
   cases rg with
   | fn cs hl hr=>
    have cJ:cs=[]:=List.eq_nil_of_length_eq_zero (by simpa using hl)
    subst cJ
    have:=run_callFunc_extern h1 h2 h3 h4 h5 #[yx] w'
    simp only [Go.Lib.run_noEscape,Result.andThen_ok] at this
    simp [execOp,resolve,eg,ex,Deferred.ofValue,invoke,this]
  ·cases h
 ·cases h
def vt (E:List (Nat×AV)) (M:List ai) (x:Operand):Option Out:=
 match aI E x with
 | some (.sl u n)=>(match M[u]? with | some (.rw _ k rows)=>bif k.beq 1 then some ⟨[n=rows.length,0<n],.ep u 1 0 0,M,[],[],some [u]⟩ else none | _=>none)
 | _=>none
theorem EN {t:TypeId} {x:Operand} (h:vt E M x=some out):aK P ⟨d,.call ⟨.builtin .unsafeSliceData,#[x],#[t]⟩,ty,pos,aft,gd⟩ E M out:=by
 unfold vt at h
 split at h
 rotate_left
 ·cases h
 rename_i u n hx
 split at h
 rotate_left
 ·cases h
 rename_i Tr k rows hM
 cases jU:k.beq 1 with
 | false=>simp [jU] at h
 | true=>
  simp only [jU,cond_true,Option.some.injEq] at h;subst h
  obtain rfl:=Nat.eq_of_beq_eq_true jU
  refine aK.look ?_ (by simpa using fh hM)
  intro D w0 K0 β F I ρ w C hv
  obtain ⟨hn,h0,-⟩:=hv
  obtain ⟨y,hy,r⟩:=C.bR hx
  cases r with
  | @sl _ _ cc a hb=>
   obtain ⟨H,hF,hB,-⟩:=C.rm.at hM
   cases hB with
   | rw aQ X G hl hs hr=>
    rw [hb] at aQ;cases aQ
    obtain ⟨b',cap,cs,he,rfl,cJ,dP,lf⟩:=hs.block (by omega)
    simp only [Value.slice.injEq] at he;obtain ⟨rfl,-,rfl⟩:=he
    refine ⟨.pointer (some ⟨b',0,none⟩),by simpa using aw.ep (k:=1) (i:=0) (o:=0) hb,fun w' _=>?_⟩
    have:=Go.Lib.run_unsafeSliceData_row (P:=P) w' #[t] ty ⟨b',0,none⟩ n cc (by omega)
    simp only [execOp,resolve,List.map_toArray,List.map,hy,Sem.run_bind,Sem.run_pure,Result.andThen_ok,invoke,builtin,this]
theorem HA {w:World} {b n:Nat} {c:Array Value} {e:TypeId} (hb:w.heap[b]?=some (.cells c e (0,0))) (hn:n≠0):w.freeze ⟨b,0,none⟩ n=cd w b (.cells c e (0,n)):=by
 unfold World.freeze cd
 rw [if_neg hn]
 congr 1
 apply Array.ext_getElem?
 intro j
 have aM:=j7 hb
 rw [Array.getElem?_modify,Array.getElem?_setIfInBounds]
 by_cases e':b=j
 ·subst e'
  have hg:w.heap[b]=.cells c e (0,0):=by rw [Array.getElem?_eq_getElem aM] at hb;exact Option.some.inj hb
  simp [aM,hg]
 ·simp [e']
def qj (P:Program) (t T:TypeId):Bool:=match P.underlying t with | some (.pointer e)=>Nat.beq e T&&Nat.beq (P.cellsOf e) 1 | _=>false
def wv (P:Program) (E:List (Nat×AV)) (M:List ai) (oc:Option aU) (t:TypeId) (x y:Operand):Option Out:=
 match aI E x,cF (aI E y),oc with
 | some (.ep u 1 0 0),some (.i64,z),some (.res (.v (.string s)))=>(match M[u]? with
  | some (.rw Tr k rows)=>bif k.beq 1 then some ⟨[z=(rows.length:Int),0<rows.length,rows=ae s.data.toList,qj P t Tr=true,rows.length≤9223372036854775807],.d (.v (.string s)),M.set u .dead,[u],[],none⟩ else none
  | _=>none)
 | _,_,_=>none
theorem F9 {t t2:TypeId} {x y:Operand} (h:wv P E M oc t x y=some out):aK P ⟨d,.call ⟨.builtin .unsafeString,#[x,y],#[t,t2]⟩,ty,pos,aft,gd⟩ E M out:=by
 unfold wv at h
 split at h
 rotate_left
 ·cases h
 rename_i u z s hx hz
 split at h
 rotate_left
 ·cases h
 rename_i Tr k rows hM
 cases jU:k.beq 1 with
 | false=>simp [jU] at h
 | true=>
  simp only [jU,cond_true,Option.some.injEq] at h;subst h
  obtain rfl:=Nat.eq_of_beq_eq_true jU
  intro D w0 K0 β F I ρ w C hv
  obtain ⟨rfl,h0,x8,mr,Ox,-⟩:=hv
  generalize hl:s.data.toList=bs at x8
  have hs:s=⟨bs.toArray⟩:=by rw [← hl]
  subst hs
  have hlen:rows.length=bs.length:=by rw [x8];simp [ae]
  obtain ⟨yx,ex,rx⟩:=C.bR hx
  have CG:=C.int hz
  cases rx with
  | @ep _ _ _ _ b cc hb=>
   have R1:=C.rm.x.fc hM
   have hB:=C.rm.blk u _ hM
   have hH:=C.rm.iB hM
   generalize ju:F u=Fu at hB R1 hH
   cases hB with
   | @rw _ _ _ _ _ H0 aQ X G cX M4 hr=>
    rw [hb] at aQ;cases aQ
    obtain ⟨b',cap,cs,he,rfl,cJ,dP,lf⟩:=M4.block (by omega)
    simp only [Value.slice.injEq,Option.some.injEq,Addr.mk.injEq] at he;obtain ⟨⟨rfl,-⟩,-,rfl⟩:=he
    have hw:w.heap[b]?=some (.cells cs Tr (0,0)):=(Holds.app.1 hH).1.one
    have fF:(Builtin.unsafeString_ #[t,t2] ty #[.pointer (some ⟨b,0,none⟩),.int .i64 bs.length]).run P w=.ok (.string ⟨bs.toArray⟩) (w.freeze ⟨b,0,none⟩ bs.length):=by
     unfold qj at mr
     split at mr
     ·rename_i e he
      rw [Bool.and_eq_true] at mr
      obtain rfl:=Nat.eq_of_beq_eq_true mr.1
      refine Go.Lib.run_unsafeString_row w t t2 ty e he (Nat.eq_of_beq_eq_true mr.2) b cs.size (zM hw) bs (by intro hn;rw [hn,List.length_nil] at hlen;omega) (by rw [cJ,← hlen];omega) (by omega) fun j q hj=>?_
      rw [add_eq,Nat.zero_add,cell_of hw]
      have sZ:=(List.getElem?_eq_some_iff.1 hj).1
      have e1:(cs.toList.take (rows.length*1))[j]?=cs[j]?:=by rw [List.getElem?_take,if_pos (by omega),Array.getElem?_toList]
      rw [← e1,lf]
      have cg:(ae bs)[j]?=some [.v (.int .u8 (q.toNat:Int))]:=by simp [ae,hj]
      rw [← x8] at cg
      obtain ⟨Ci,Cj⟩:=cX j _ cg
      have hg:=j8 (n:=rows.length) (k:=1) (X:=X) (fun i hi=>(cX i _ (List.getElem?_eq_getElem hi)).2) (i:=j) (j:=0) (by omega) (by omega)
      rw [Nat.mul_one,Nat.add_zero] at hg
      obtain ⟨v0,aq⟩:∃ v0,(X j)[0]?=some v0:=⟨(X j)[0]'(by omega),List.getElem?_eq_getElem _⟩
      have hd:=hr j _ 0 _ _ cg rfl aq
      generalize G j 0=GG at hd
      cases hd
      rw [hg,aq]
     ·cases mr
    rw [HA hw (by omega)] at fF
    have hex:(execOp ρ ⟨d,.call ⟨.builtin .unsafeString,#[x,y],#[t,t2]⟩,ty,pos,aft,gd⟩).run P w=.ok (.value (.string ⟨bs.toArray⟩)) (cd w b (.cells cs Tr (0,bs.length))):=by
     rw [hlen] at CG
     simp only [execOp,resolve,List.map_toArray,List.map,ex,CG,Nat.zero_mul,Nat.zero_add,Sem.run_bind,Sem.run_pure,Result.andThen_ok,invoke,builtin,fF]
    refine aT.pure hex ?_
    have R2:=(R1.perm (Y:=[(b,.cells cs Tr (0,0))]++bE rows.length 1 G) (by rw [List.nil_append])).drop
    have bq:=(R2.st.perm (K:=(b,.cells cs Tr (0,0))::((List.range (M.set u .dead).length).flatMap (aL F u [])++I)) (by classical rw [List.perm_iff_count];intro z;simp only [List.count_append,List.count_cons,List.count_nil];omega)).set (.cells cs Tr (0,bs.length))
    refine ⟨β,aL F u [],[(b,.cells cs Tr (0,bs.length))]++I,⟨R2.len,fun v bl hv=>(R2.blk v bl hv).mono (fun w hw=>⟨hw.1,(Holds.app.1 hw.2).2⟩) (Ext.refl _),?_⟩,(Ext.refl β).b _,⟨_,rfl⟩,fun v hv hn=>by simp only [aL];rw [if_neg (by simpa using hn)],.d (.v _)⟩
    exact bq.perm (by classical rw [List.perm_iff_count];intro z;simp only [List.count_append,List.count_cons,List.count_nil];omega)
end Go.Proofs.YtcnpikbbmbombaaGreatDoor
namespace Go.Proofs.YtcnpikbbmbombaaGreatDoor
open Go.RowKit
variable {P:Program} {T:aN} {D:List Nat} {w0:World} {K0:World→Prop} {E:List (Nat×AV)} {M:List ai} {β:Beta} {F:Nat→ak} {I X:ak} {ρ:Operand→Value} {w:World}
variable {d:Option Tmp} {ty:TypeId} {pos:String} {aft:Array Edge} {gd:Option (Nat×Bool)} {oc:Option aU} {out:Out}
def wx (T:aN) (E:List (Nat×AV)) (M:List ai) (t:TypeId) (x:Operand):Option Out:=
 match cW T t,aI E x with
 | some (.sl _),some (.d (.v (.slice none 0 0)))=>some (lk [] (.n 0) M)
 | _,_=>none
theorem Ga {x:Operand} {t e n c:Nat} {a:Option Addr} (ht:P.underlying t=some (.slice e)) (hx:ρ x=.slice a n c) (w:World):(execOp ρ ⟨d,.call ⟨.builtin .cap,#[x],#[t]⟩,ty,pos,aft,gd⟩).run P w=.ok (.value (.int .i64 (c:Int))) w:=by
 have:(Builtin.cap_ #[t] ty #[.slice a n c]).run P w=.ok (.int .i64 (c:Int)) w:=by
  unfold Builtin.cap_
  simp only [List.getElem?_toArray,List.getElem?_cons_zero,Sem.run_bind,run_underlying ht,Result.andThen_ok,Sem.run_pure];rfl
 simp only [execOp,resolve,List.map_toArray,List.map,hx,Sem.run_bind,Sem.run_pure,Result.andThen_ok,invoke,builtin,this]
theorem Gb (hT:aY P T=true) {t:TypeId} {x:Operand} (h:wx T E M t x=some out):aK P ⟨d,.call ⟨.builtin .cap,#[x],#[t]⟩,ty,pos,aft,gd⟩ E M out:=by
 unfold wx at h
 split at h
 ·rename_i e ht hx
  simp only [Option.some.injEq] at h;subst h
  have nz:=cH hT ht
  refine aK.same fun C dt=>?_
  obtain ⟨y,hy,r⟩:=C.bR hx
  cases r with
  | d hd=>cases hd;exact ⟨_,fun w' _=>Ga nz hy w',.d (.v _)⟩
 ·cases h
def sF (P:Program) (f e:Nat):Prop:=∃ fn t,P.funcs[f]?=some fn∧(fn.name == "runtime.NumGoroutine")=false∧fn.body.isNone=true∧Extern.findNext fn=none∧Extern.find fn=some (Extern.BytealgMakeNoZero.makeNoZero fn.params fn.resultTypes)∧fn.resultTypes=#[t]∧P.underlying t=some (.slice e)
def wy (P:Program) (E:List (Nat×AV)) (M:List ai) (oc:Option aU) (g:Operand) (args:Array Operand):Option Out:=
 match aI E g,args,oc with
 | some (.fn f []),⟨[x]⟩,some (.n2 m e)=>(match cF (aI E x) with
  | some (.i64,z)=>some ⟨[sF P f e,z=(m:Int),m≤281474976710656],.sl M.length m,M++[.rw e 1 (List.replicate m [.jk])],[],[],none⟩
  | _=>none)
 | _,_,_=>none
theorem Gc {f e m:Nat} (h:sF P f e) (hm:m≤281474976710656) (w:World):∃ (c:Nat) (cs:Array Value),m≤c∧cs.size=c∧(callFunc f #[.int .i64 (m:Int)]).run P w=.ok (.value (.slice (some ⟨w.heap.size,0,none⟩) m c)) (w.drew.drew.alloc (.cells cs e (0,0))):=by
 obtain ⟨fn,t,h1,h2,h3,h4,h5,h6,h7⟩:=h
 obtain ⟨cs,hr,hc,-⟩:=Go.Lib.run_makeNoZero (P:=P) (w:=w) fn.params t e h7 m hm
 refine ⟨cs.size,cs,hc,rfl,?_⟩
 rw [run_callFunc_extern h1 h2 h3 h4 h5,h6,hr];rfl
theorem Gd {g:Operand} {args:Array Operand} {eJ:Array TypeId} (h:wy P E M oc g args=some out):aK P ⟨d,.call ⟨.value g,args,eJ⟩,ty,pos,aft,gd⟩ E M out:=by
 unfold wy at h
 split at h
 ·rename_i f x m e hg
  split at h
  ·rename_i z hx
   simp only [Option.some.injEq] at h;subst h
   intro D w0 K0 β F I ρ w C hv
   obtain ⟨hN,rfl,hm,-⟩:=hv
   obtain ⟨yg,eg,rg⟩:=C.bR hg
   have ex:=C.int hx
   cases rg with
   | fn cs hl hr=>
    have cJ:cs=[]:=List.eq_nil_of_length_eq_zero (by simpa using hl)
    subst cJ
    obtain ⟨c,cs,h1,h2,h3⟩:=Gc hN hm w
    refine aT.pure (v:=.slice (some ⟨w.heap.size,0,none⟩) m c) (w':=w.drew.drew.alloc (.cells cs e (0,0))) (by simp [execOp,resolve,eg,ex,Deferred.ofValue,invoke,h3]) ?_
    have gr:Gr w (w.drew.drew.alloc (.cells cs e (0,0))):=((Gr.drew w).trans (Gr.drew w.drew)).trans (Gr.alloc w.drew.drew _)
    have nf:dh w (w.drew.drew.alloc (.cells cs e (0,0))) [(w.heap.size,.cells cs e (0,0))]:=(dh.alloc w.drew.drew (.cells cs e (0,0))).ahead ((Gr.drew w).trans (Gr.drew w.drew))
    refine ⟨_,_,I,C.rm.new (q:=(some ⟨w.heap.size,0,none⟩,c)) gr nf ?_,(Ext.app _ _).b _,bK.refl _,lK _ _,.sl (hC C.rm _)⟩
    have hX:∀ i,i<m→([cs[i]!]:List Value).length=1:=fun _ _=>rfl
    have lZ:lay m (fun i=>[cs[i]!])=cs.toList.take m:=by
     have key:∀ k,k≤cs.size→lay k (fun i=>[cs[i]!])=cs.toList.take k:=by
      intro k
      induction k with
      | zero=>intro _;simp [lay]
      | succ k ih=>
       intro hk
       have:=ih (by omega)
       simp only [lay] at this ⊢
       rw [List.range_succ,List.flatMap_append,this,List.take_add_one,Array.getElem?_toList,Array.getElem?_eq_getElem (by omega)]
       simp [getElem!_pos cs k (by omega)]
     exact key m (by omega)
    have:=bw.rw (K:=fun w=>K0 w∧Holds w I) (β:=β++[(some ⟨w.heap.size,0,none⟩,c)]) (u:=M.length) (T:=e) (k:=1) (rows:=List.replicate m [.jk]) (H0:=[(w.heap.size,.cells cs e (0,0))]) (hC C.rm _) (fun i=>[cs[i]!]) (fun _ _=>[]) (fun i r hi=>by
     rw [List.getElem?_replicate] at hi
     split at hi
     ·simp only [Option.some.injEq] at hi;subst hi;exact ⟨rfl,rfl⟩
     ·simp at hi) (by
     rw [List.length_replicate]
     exact ⟨by rw [lZ];simp;omega,Or.inr ⟨w.heap.size,c,_,rfl,rfl,by rw [h2];omega,h1,by rw [lZ];simp⟩⟩) (fun i r j q x hi h1 h2=>by
     rw [List.getElem?_replicate] at hi
     split at hi
     ·simp only [Option.some.injEq] at hi;subst hi
      cases j with
      | succ j=>simp at h1
      | zero=>simp at h1;subst h1;exact .jk _
     ·simp at hi)
    rw [kG,List.append_nil] at this
    exact this
  ·cases h
 ·cases h
end Go.Proofs.YtcnpikbbmbombaaGreatDoor
namespace Go.Proofs.YtcnpikbbmbombaaGreatDoor
open Go.RowKit
variable {P:Program} {T:aN} {D:List Nat} {w0:World} {K0:World→Prop} {E:List (Nat×AV)} {M:List ai} {β:Beta} {F:Nat→ak} {I:ak} {ρ:Operand→Value} {w:World}
variable {d:Option Tmp} {ty:TypeId} {pos:String} {aft:Array Edge} {gd:Option (Nat×Bool)} {oc:Option aU} {out:Out}
theorem I5 {K:World→Prop} {u b c e k m m2 o:Nat} {cells l:List AV} {ys zs:List Value} (hb:β[u]?=some (some ⟨b,0,none⟩,c)) (hl:ys.length=c*k) (hm:cells.length=m*k) (hr:∀ (j:Nat) c y,cells[j]?=some c→ys[j]?=some y→aw K β c y)
  (en:zs.length=l.length) (hz:∀ (j:Nat) c y,l[j]?=some c→zs[j]?=some y→aw K β c y) (ho:o≤cells.length) (CH:m2≤c) (hlen:(cells.take o++(l++cells.drop (o+l.length))).length=m2*k):
  bw K β u (.fl e k m2 (cells.take o++(l++cells.drop (o+l.length)))) [(b,.cells (cu ys.toArray o zs) e (0,0))]:=by
 have MT:m2*k≤c*k:=Nat.mul_le_mul_right _ CH
 have vY:=hlen
 simp only [List.length_append,List.length_take,List.length_drop] at vY
 have hle:o+zs.length≤ys.toArray.size:=by simp;omega
 have he:(cu ys.toArray o zs)=(cu ys.toArray o zs).toList.toArray:=by simp
 rw [he]
 refine .fl hb _ (by rw [Array.length_toList,lC];simpa using hl) hlen CH ?_
 intro j c z e1 e2
 rw [Array.getElem?_toList,nR _ _ _ _ hle] at e2
 by_cases hj:o≤j∧j<o+zs.length
 ·rw [if_pos hj] at e2
  rw [List.getElem?_append_right (by simp;omega),List.getElem?_append_left (by simp;omega)] at e1
  refine hz (j-o) c z ?_ e2
  rw [← e1];congr 1;simp;omega
 ·rw [if_neg hj] at e2
  rw [List.getElem?_toArray] at e2
  refine hr j c z ?_ e2
  rcases Nat.lt_or_ge j o with mg | mg
  ·rw [List.getElem?_append_left (by simp;omega),List.getElem?_take,if_pos mg] at e1;exact e1
  ·rw [List.getElem?_append_right (by simp;omega),List.getElem?_append_right (by simp;omega),List.getElem?_drop] at e1
   rw [← e1];congr 1;simp;omega
theorem As {α:Type} {k:Nat}:∀ {rows:List (List α)},(∀ r ∈ rows,r.length=k)→rows.flatten.length=rows.length*k∧∀ (i j:Nat) r,rows[i]?=some r→j<k→rows.flatten[i*k+j]?=r[j]?
 | [],_=>⟨by simp,by simp⟩
 | r::rs,h=>by
  have hr:=h r (by simp)
  obtain ⟨h1,h2⟩:=As (rows:=rs) (fun x hx=>h x (by simp [hx]))
  refine ⟨by simp [h1,hr,Nat.succ_mul,Nat.add_comm],fun i j q hq hj=>?_⟩
  cases i with
  | zero=>simp at hq;subst hq;rw [Nat.zero_mul,Nat.zero_add,List.flatten_cons,List.getElem?_append_left (by omega)]
  | succ i=>
   simp at hq
   rw [List.flatten_cons,List.getElem?_append_right (by rw [Nat.succ_mul];omega),← h2 i j q hq hj]
   congr 1;rw [Nat.succ_mul];omega
theorem HB {K:World→Prop} {l:List AV} {X:List Value} (h:l.all AV.one=true) (hl:X.length=l.length) (hr:∀ (j:Nat) c z,l[j]?=some c→X[j]?=some z→aw K β c z):∀ q ∈ X,aW q=true:=by
 intro q hq
 obtain ⟨j,hj,rfl⟩:=List.getElem_of_mem hq
 have iR:j<l.length:=by omega
 exact AV.uY (hr j _ _ (List.getElem?_eq_getElem iR) (List.getElem?_eq_getElem hj)) (List.all_eq_true.1 h _ (List.getElem_mem iR))
def vu (T:aN) (E:List (Nat×AV)) (M:List ai) (oc:Option aU) (st:TypeId) (x y:Operand):Option Out:=
 match iq T st,aI E x,aI E y,oc with
 | some (_,k,_,_),some (.sf u k' 0 n _),some (.d (.ro k3 rows)),some (.res (.ag ds))=>(match M[u]? with
  | some (.fl e2 k2 m cells)=>bif k.beq k'&&(k.beq k2&&(k.beq k3&&n.ble m)) then some ⟨[aA rows,(rows.flatten.map AV.d).take (min rows.length n*k)++cells.drop ((rows.flatten.map AV.d).take (min rows.length n*k)).length=ds.map AV.d],.d (.v (.int .i64 ((min rows.length n:Nat):Int))),M.set u (.fl e2 k2 m (ds.map .d)),[u],[],none⟩ else none
  | _=>none)
 | _,_,_,_=>none
theorem EO (hT:aY P T=true) {st xt:TypeId} {x y:Operand} (h:vu T E M oc st x y=some out):aK P ⟨d,.call ⟨.builtin .copy,#[x,y],#[st,xt]⟩,ty,pos,aft,gd⟩ E M out:=by
 unfold vu at h
 split at h
 rotate_left
 ·simp at h
 rename_i e k b z u k' n q k3 rows ds he hx hy
 obtain ⟨zv,ok,-,-⟩:=kb hT he
 split at h
 rotate_left
 ·simp at h
 rename_i e2 k2 m cells hM
 cases hc:(k.beq k'&&(k.beq k2&&(k.beq k3&&n.ble m))) with
 | false=>simp [hc] at h
 | true=>
 simp only [hc,cond_true,Option.some.injEq] at h;subst h
 simp only [Bool.and_eq_true] at hc
 obtain ⟨c1,c2,c4,c3⟩:=hc
 obtain rfl:=Nat.eq_of_beq_eq_true c1
 obtain rfl:=Nat.eq_of_beq_eq_true c2
 obtain rfl:=Nat.eq_of_beq_eq_true c4
 have sW:=Nat.le_of_ble_eq_true c3
 intro D w0 K0 β F I ρ w C hv
 obtain ⟨dz,M5,-⟩:=hv
 obtain ⟨yx,jr,rx⟩:=C.bR hx
 obtain ⟨yy,qq,ry⟩:=C.bR hy
 obtain ⟨X,ra,hs⟩:=Al C.now ry
 have hX:∀ i,i<rows.length→(X i).length=k:=fun i hi=>(ra.hl i _ (List.getElem?_eq_getElem hi)).2
 have gh:∀ r ∈ rows,r.length=k:=fun r hr=>by
  obtain ⟨i,hi,rfl⟩:=List.getElem_of_mem hr
  exact (ra.hl i _ (List.getElem?_eq_getElem hi)).1
 obtain ⟨f1,f2⟩:=As gh
 have gl:=ei hX
 have s2:(lay rows.length X).length=(rows.flatten.map AV.d).length:=by rw [gl,List.length_map,f1]
 have s3:∀ (j:Nat) c z,(rows.flatten.map AV.d)[j]?=some c→(lay rows.length X)[j]?=some z→aw (fun w=>K0 w∧Holds w I) β c z:=fun j c z e1 e2=>by
  have sZ:j<rows.length*k:=by rw [← gl];exact (List.getElem?_eq_some_iff.1 e2).1
  have hk:0<k:=by
   rcases Nat.eq_zero_or_pos k with h0 | h0
   ·subst h0;simp at sZ
   ·exact h0
  have hd:j / k<rows.length:=Nat.div_lt_of_lt_mul (by rw [Nat.mul_comm];exact sZ)
  have hm:j%k<k:=Nat.mod_lt _ hk
  have e:j / k*k+j%k=j:=by rw [Nat.mul_comm,Nat.div_add_mod]
  have cg:rows[j / k]?=some rows[j / k]:=List.getElem?_eq_getElem hd
  have g1:=j8 hX hd hm
  have g2:=f2 _ _ _ cg hm
  rw [e] at g1 g2
  rw [g1] at e2
  rw [List.getElem?_map,g2,Option.map_eq_some_iff] at e1
  obtain ⟨c',e1,rfl⟩:=e1
  exact .d (ra.hr _ _ _ c' z cg e1 e2)
 have Ku:(rows.flatten.map AV.d).all AV.one=true:=by
  unfold aA at dz
  rw [List.all_eq_true] at dz ⊢
  intro c hc
  obtain ⟨c',h1,rfl⟩:=List.mem_map.1 hc
  obtain ⟨r,h2,h3⟩:=List.mem_flatten.1 h1
  exact List.all_eq_true.1 (dz r h2) c' h3
 have wc:=HB Ku s2 s3
 have oJ:min rows.length n≤rows.length:=Nat.min_le_left _ _
 obtain ⟨hlen,ob⟩:=hs.pre (P:=P) oJ
 have bu:∀ w:World,(sizeOf e).run P w=.ok k w:=fun w=>by obtain ⟨i,hi,h1,-⟩:=ok.info;simp [sizeOf,typeInfo,Sem.run_bind,hi,h1]
 cases rx with
 | @sf _ _ _ _ bb cc cap _ hb dP hn hq=>
 obtain ⟨H,hF,hB,hH⟩:=C.rm.at hM
 cases hB with
 | fl aQ ys hl hm mn hr=>
 rw [hb] at aQ;cases aQ
 have hw:=hH.one
 have a1:n*k≤m*k:=Nat.mul_le_mul_right _ sW
 have a2:m*k≤ys.length:=by rw [hl];exact Nat.mul_le_mul_right _ mn
 have a4:min rows.length n*k≤n*k:=Nat.mul_le_mul_right _ (Nat.min_le_right _ _)
 have a5:min rows.length n*k≤rows.length*k:=Nat.mul_le_mul_right _ oJ
 have nc:=nN (P:=P) ((lay rows.length X).take (min rows.length n*k)) w ys.toArray (0*k) 0 hw (by simp;omega) (fun q hq=>wc q (List.mem_of_mem_take hq))
 simp only [Nat.add_zero] at nc
 refine aT.pure (v:=.int .i64 ((min rows.length n:Nat):Int)) (w':=cd w bb (.cells (cu ys.toArray (0*k) ((lay rows.length X).take (min rows.length n*k))) e2 (0,0))) ?_ ?_
 ·have we:Nat.min rows.length n=min rows.length n:=rfl
  simp only [execOp,resolve,List.map_toArray,List.map,jr,qq,Sem.run_bind,Sem.run_pure,Result.andThen_ok,invoke,builtin,Builtin.copy_,List.getElem?_toArray,List.getElem?_cons_zero,List.getElem?_cons_succ,run_underlying ok.bq,hlen,we,bu,ob,nc]
  rfl
 ·have x9:=I5 (K:=fun w=>K0 w∧Holds w I) (e:=e2) (m2:=m) (o:=0*k) (l:=(rows.flatten.map AV.d).take (min rows.length n*k)) (zs:=(lay rows.length X).take (min rows.length n*k)) hb hl hm hr (by rw [List.length_take,List.length_take,s2]) (fun j c z e1 e2=>by
    rw [List.getElem?_take] at e1 e2
    split at e1
    ·rename_i hj;rw [if_pos hj] at e2;exact s3 j c z e1 e2
    ·simp at e1) (by omega) mn (by
    simp only [List.length_append,List.length_take,List.length_drop]
    omega)
  rw [Nat.zero_mul,List.take_zero,List.nil_append,Nat.zero_add,M5] at x9
  rw [Nat.zero_mul]
  exact ⟨β,_,I,C.rm.set hM hF x9,(Ext.refl β).b _,bK.refl _,fun v hv hn=>by simp only [aL];rw [if_neg (by simpa using hn)],.d (.v _)⟩
def wz (T:aN) (E:List (Nat×AV)) (M:List ai) (oc:Option aU) (t:TypeId) (x ix:Operand):Option Out:=
 match cW T t,aI E x,cF (aI E ix),oc with
 | some (.ar n e),some (.ag l),some (_,z),some (.ix i [c])=>(match fE T e with
  | some k=>some (lk [z=(i:Int),i<n,nu T e l (i*k)=some (.d c)] (.d c) M)
  | none=>none)
 | _,_,_,_=>none
theorem Ge (hT:aY P T=true) {t:TypeId} {x ix:Operand} (h:wz T E M oc t x ix=some out):aK P ⟨d,.index t x ix,ty,pos,aft,gd⟩ E M out:=by
 unfold wz at h
 split at h
 ·rename_i n e l _ z i c hu hx hz
  split at h
  ·rename_i k hk
   simp only [Option.some.injEq] at h;subst h
   have bu:∀ w:World,(sizeOf e).run P w=.ok k w:=fun w=>by
    have:=gU hT hk
    cases hi:P.info? e with
    | none=>simp [hi] at this
    | some inf=>simp only [hi,Option.map_some,Option.some.injEq] at this;simp [sizeOf,typeInfo,Sem.run_bind,hi,this]
   refine aK.same ?_
   intro D w0 K0 β F I ρ w C hv
   obtain ⟨rfl,aM,hp,-⟩:=hv
   have r:=C.ev hx
   have hi:=C.int hz
   generalize hy:ρ x=y at r
   cases r with
   | ag ys hl hr=>
    obtain ⟨y,h1,h2⟩:=vj hT hp hl hr
    refine ⟨y,fun w' _=>?_,h1⟩
    have fR:=cH hT hu
    have hc:(0:Int)≤(i:Int)∧(i:Int)<(n:Int):=by omega
    simp only [execOp,hy,hi,Instr.index,asIntOf,Sem.run_bind,Sem.run_pure,run_underlying fR,Result.andThen_ok]
    rw [if_pos hc]
    simp only [Sem.run_bind,bu,Result.andThen_ok,Int.toNat_natCast,h2,Sem.run_pure]
  ·simp at h
 ·simp at h
def vv (T:aN) (E:List (Nat×AV)) (M:List ai) (t:TypeId) (x:Operand):Option Out:=
 match aI E x with
 | some (.pt u o)=>(match M[u]? with
  | some (.fl _ _ _ cells)=>(match la T t cells o with | some v=>some ⟨[],v,M,[],[],some [u]⟩ | none=>none)
  | _=>none)
 | _=>none
theorem EP (hT:aY P T=true) {t:TypeId} {x:Operand} (h:vv T E M t x=some out):aK P ⟨d,.load t x,ty,pos,aft,gd⟩ E M out:=by
 unfold vv at h
 split at h
 ·rename_i u o hv
  split at h
  ·rename_i Tt k m cells hM
   split at h
   ·rename_i v jR
    simp only [Option.some.injEq] at h;subst h
    refine aK.look (fun C _=>?_) (by simpa using fh hM)
    obtain ⟨y,hy,r⟩:=C.bR hv
    cases r with
    | pt hb=>
     obtain ⟨H,hF,hB,hH⟩:=C.rm.at hM
     cases hB with
     | fl aQ ys hl hm hc hr=>
      rw [hb] at aQ;cases aQ
      have hlen:cells.length≤ys.length:=by rw [hl,hm];exact Nat.mul_le_mul_right _ hc
      obtain ⟨y',h1,h2⟩:=pO hT (a:=⟨_,0,none⟩) (ys:=ys.take cells.length) (fun l ys=>aw.ag ys) jR (hy.trans (by rw [add_eq,Nat.zero_add])) (by simp;omega) (fun j c z e1 e2=>hr j c z e1 (by
       rw [List.getElem?_take] at e2
       split at e2
       ·exact e2
       ·simp at e2))
      refine ⟨y',h1,fun w' hs=>h2 w' fun j z hj=>?_⟩
      have hw:Holds w' _:=hs.2 u (by simp)
      rw [hF] at hw
      rw [List.getElem?_take] at hj
      split at hj
      ·rw [add_eq,cell_of hw.one,Nat.zero_add];simpa using hj
      ·simp at hj
   ·simp at h
  ·simp at h
 ·simp at h
def BW:List Value→Bool
 | .nilFunc::_=>true
 | _=>false
def uG (T:aN) (M:List ai) (t:TypeId):Option Out:=
 match cW T t,ow T t with
 | some (.ar n e),some l=>(match fE T e with
  | some k=>bif l.length.beq (n*k)&&!BW l then some ⟨[],.pt M.length 0,M++[.fl t k n (kL l)],[],[],none⟩ else none
  | none=>none)
 | _,_=>none
theorem D8 (hT:aY P T=true) {t:TypeId} (h:uG T M t=some out):aK P ⟨d,.alloc t,ty,pos,aft,gd⟩ E M out:=by
 unfold uG at h
 split at h
 rotate_left
 ·simp at h
 rename_i n e l ht hz
 split at h
 rotate_left
 ·simp at h
 rename_i k hk
 cases hc:(l.length.beq (n*k)&&!BW l) with
 | false=>simp [hc] at h
 | true=>
  simp only [hc,cond_true,Option.some.injEq] at h;subst h
  have gl:=Nat.eq_of_beq_eq_true (Bool.and_eq_true_iff.1 hc).1
  obtain ⟨z,ns,nt⟩:=rl hT hz
  intro D w0 K0 β F I ρ w C _
  refine zy (nt w) fun b w' g n'=>?_
  rw [ns] at n'
  obtain ⟨h1,h2⟩:=pv (K:=fun w=>K0 w∧Holds w I) (β:=β++[(some ⟨b,0,none⟩,n)]) l
  exact ⟨_,_,I,C.rm.new (q:=(some ⟨b,0,none⟩,n)) g n' (.fl (hC C.rm _) l gl (by rw [← h1,gl]) (Nat.le_refl _) h2),(Ext.app _ _).b _,bK.refl _,lK _ _,.pt (hC C.rm _)⟩
def xj (T:aN) (E:List (Nat×AV)) (M:List ai) (t:TypeId) (x:Operand) (lo hi mx:Option Operand):Option Out:=
 match cW T t,aI E x,lo,hi,mx with
 | some (.ar n e),some (.pt u 0),none,none,none=>(match fE T e,M[u]? with
  | some k,some (.fl _ k2 m _)=>bif k.beq k2&&(n.ble m&&Nat.blt 0 n) then some (lk [] (.sf u k 0 n (some n)) M) else none
  | _,_=>none)
 | _,_,_,_,_=>none
theorem HC (hT:aY P T=true) {t:TypeId} {x:Operand} {lo hi mx:Option Operand} (h:xj T E M t x lo hi mx=some out):aK P ⟨d,.slice t x lo hi mx,ty,pos,aft,gd⟩ E M out:=by
 unfold xj at h
 split at h
 rotate_left
 ·simp at h
 rename_i n e u ht hx
 split at h
 rotate_left
 ·simp at h
 rename_i k T2 k2 m cells hk hM
 cases hc:(k.beq k2&&(n.ble m&&Nat.blt 0 n)) with
 | false=>simp [hc] at h
 | true=>
  simp only [hc,cond_true,Option.some.injEq] at h;subst h
  simp only [Bool.and_eq_true] at hc
  obtain ⟨c1,c2,c3⟩:=hc
  obtain rfl:=Nat.eq_of_beq_eq_true c1
  have CI:=Nat.le_of_ble_eq_true c2
  have na:0<n:=by simpa [Nat.blt_eq] using c3
  have nz:=cH hT ht
  refine aK.same fun {D w0 K0 β F I ρ w} C _=>?_
  obtain ⟨y,hy,r⟩:=C.bR hx
  cases r with
  | @pt _ _ b c hb=>
   obtain ⟨H,hF,hB,hH⟩:=C.rm.at hM
   cases hB with
   | fl aQ ys hl hm mn hr=>
    rw [hb] at aQ;cases aQ
    have hs:=aw.sf (K:=fun w=>K0 w∧Holds w I) (u:=u) (k:=k) (o:=0) (n:=n) (cap:=n) (q:=some n) hb (by omega) (Nat.le_refl _) rfl
    rw [Nat.zero_mul] at hs
    refine ⟨_,fun w' _=>?_,hs⟩
    have bu:(sizeOf e).run P w'=.ok k w':=by
     have:=gU hT hk
     cases eI:P.info? e with
     | none=>simp [eI] at this
     | some inf=>simp only [eI,Option.map_some,Option.some.injEq] at this;simp [sizeOf,typeInfo,Sem.run_bind,eI,this]
    have qB:¬ n=0:=by omega
    simp [execOp,hy,Instr.sliceAt,Instr.sureAddr,Instr.sliceBounds,Sem.run_bind,run_underlying nz,bu,qB,add_eq]
end Go.Proofs.YtcnpikbbmbombaaGreatDoor
namespace Go.Proofs.YtcnpikbbmbombaaGreatDoor
open Go.RowKit
variable {P:Program} {T:aN} {E:List (Nat×AV)} {M:List ai}
variable {d:Option Tmp} {ty:TypeId} {pos:String} {aft:Array Edge} {gd:Option (Nat×Bool)} {oc:Option aU} {out:Out}
inductive M6 where
 | fn (f:FuncId)
 | yl (u:Nat)
abbrev fi:=M6→List AV→List ai→aU→Option Out
def AQ (P:Program) (f:FuncId) (args:List AV) (M:List ai) (out:Out):Prop:=
 gv P f=true∧∀ {D:List Nat} {w0:World} {K0:World→Prop} {β:Beta} {F:Nat→ak} {I:ak} {w:World} (ys:List Value),RM D w0 K0 M β F I w→(∀ w,Kp D w0 w→K0 w)→a8 out.vc→ys.length=args.length→(∀ (j:Nat) c y,args[j]?=some c→ys[j]?=some y→aw (fun w=>K0 w∧Holds w I) β c y)→
  Calls P f ys.toArray w fun e w'=>∃ v,e=.returned v∧∃ az F' I',RM D w0 K0 out.M az F' I' w'∧fM out.mv β az∧bK I I'∧(∀ u,u<M.length→u ∉ out.tc→F' u=F u)∧aw (fun w=>K0 w∧Holds w I') az out.av v
def At (P:Program) (u:Nat) (args:List AV) (M:List ai) (out:Out):Prop:=
 ∀ {D:List Nat} {w0:World} {K0:World→Prop} {β:Beta} {F:Nat→ak} {I:ak} {w:World} (ys:List Value) (l c:Nat),RM D w0 K0 M β F I w→(∀ w,Kp D w0 w→K0 w)→a8 out.vc→ys.length=args.length→(∀ (j:Nat) c y,args[j]?=some c→ys[j]?=some y→aw (fun w=>K0 w∧Holds w I) β c y)→β[u]?=some (some ⟨l,0,none⟩,c)→
  ∃ fn tmps cP body,(Instr.yield l ys.toArray).run P w=.ok (.round l fn tmps cP body) w∧RoundIn Fence.wide 0 P l fn tmps cP body w fun e w'=>∃ v,e=.returned v∧∃ az F' I',RM D w0 K0 out.M az F' I' w'∧fM out.mv β az∧bK I I'∧(∀ u,u<M.length→u ∉ out.tc→F' u=F u)∧aw (fun w=>K0 w∧Holds w I') az out.av v
def iO (P:Program) (cl:fi):Prop:=∀ c args M o out,cl c args M o=some out→out.rd=none∧match c with | .fn f=>AQ P f args M out | .yl u=>At P u args M out
def wA (cl:fi) (E:List (Nat×AV)) (M:List ai) (o:aU) (g:Operand) (args:Array Operand):Option Out:=
 match aI E g,kq E args.toList with
 | some (.fn f cf),some l=>cl (.fn f) (l++cf) M o
 | some (.yl u),some l=>cl (.yl u) l M o
 | _,_=>none
theorem Gf {cl:fi} (cx:iO P cl) {o:aU} {g:Operand} {args:Array Operand} {eJ:Array TypeId} (h:wA cl E M o g args=some out):aK P ⟨d,.call ⟨.value g,args,eJ⟩,ty,pos,aft,gd⟩ E M out:=by
 unfold wA at h
 split at h
 ·rename_i f cf l hg hl
  obtain ⟨du,jK,hc⟩:=cx _ _ _ _ _ h
  unfold aK
  rw [du]
  intro D w0 K0 β F I ρ w C hv
  obtain ⟨y,hy,r⟩:=C.bR hg
  cases r with
  | fn cs LO fT=>
   obtain ⟨dA,jS⟩:=C.mh hl
   have hm:args.map ρ=(args.toList.map ρ).toArray:=by rw [← Array.toList_map]
   refine pr hy jK hm ?_
   have kU:((args.toList.map ρ).toArray++cs.toArray:Array Value)=(args.toList.map ρ++cs).toArray:=by simp
   rw [kU]
   refine hc _ C.rm C.k hv (by rw [List.length_append,List.length_append,dA,LO]) ?_
   intro j c y h1 h2
   rcases Nat.lt_or_ge j l.length with hj | hj
   ·rw [List.getElem?_append_left hj] at h1
    rw [List.getElem?_append_left (by omega)] at h2
    exact jS j c y h1 h2
   ·rw [List.getElem?_append_right hj] at h1
    rw [List.getElem?_append_right (by omega),dA] at h2
    exact fT _ c y h1 h2
 ·rename_i u l hg hl
  obtain ⟨du,hc⟩:=cx _ _ _ _ _ h
  unfold aK
  rw [du]
  intro D w0 K0 β F I ρ w C hv
  obtain ⟨y,hy,r⟩:=C.bR hg
  cases r with
  | @yl _ bb cc hb=>
   obtain ⟨dA,jS⟩:=C.mh hl
   obtain ⟨fn,tmps,cP,body,h1,h2⟩:=hc _ _ _ C.rm C.k hv dA jS hb
   have hm:args.map ρ=(args.toList.map ρ).toArray:=by rw [← Array.toList_map]
   unfold aT
   have hr:(execOp ρ ⟨d,.call ⟨.value g,args,eJ⟩,ty,pos,aft,gd⟩).run P w=.ok (.round bb fn tmps cP body) w:=by
    simp [execOp,resolve,hy,hm,Deferred.ofValue,invoke,h1]
   rw [hr]
   exact h2
 ·simp at h
def xk (P:Program) (T:aN) (E:List (Nat×AV)) (M:List ai) (oc:Option aU) (op:BinOp) (t:TypeId) (x y:Operand):Option Out:=
 match vN E M oc op x y with
 | some o=>some o
 | none=>(match vP E M oc op x y with
  | some o=>some o
  | none=>(match w5 P E M oc op t x y with
   | some o=>some o
   | none=>(match vZ P E M oc op t x y with
    | some o=>some o
    | none=>v7 T E M oc op t x y)))
theorem HD (hT:aY P T=true) {op:BinOp} {t t':TypeId} {x y:Operand} (h:xk P T E M oc op t x y=some out):aK P ⟨d,.binOp op t x y t',ty,pos,aft,gd⟩ E M out:=by
 unfold xk at h
 split at h
 ·rename_i hh;simp only [Option.some.injEq] at h;subst h;exact FG hh
 ·split at h
  ·rename_i hh;simp only [Option.some.injEq] at h;subst h;exact FI hh
  ·split at h
   ·rename_i hh;simp only [Option.some.injEq] at h;subst h;exact Hl hh
   ·split at h
    ·rename_i hh;simp only [Option.some.injEq] at h;subst h;exact FP hh
    ·exact FQ hT h
def wB (T:aN) (E:List (Nat×AV)) (M:List ai) (oc:Option aU) (t t':TypeId) (x:Operand):Option Out:=
 match va T E M oc t t' x with
 | some o=>some o
 | none=>(match xb T E M oc t t' x with
  | some o=>some o
  | none=>vi T E M t t' x)
theorem Gg (hT:aY P T=true) {t t':TypeId} {x:Operand} (h:wB T E M oc t t' x=some out):aK P ⟨d,.convert t t' x,ty,pos,aft,gd⟩ E M out:=by
 unfold wB at h
 split at h
 ·rename_i hh;simp only [Option.some.injEq] at h;subst h;exact Ex hT hh
 ·split at h
  ·rename_i hh;simp only [Option.some.injEq] at h;subst h;exact Hr hT hh
  ·exact EC hT h
def step (P:Program) (T:aN) (cl:fi) (E:List (Nat×AV)) (M:List ai) (oc:Option aU):Op→Option Out
 | .move x=>sc E M x
 | .assign x=>sc E M x
 | .nilCheck x=>wR E M x
 | .extract x i=>tP E M x i
 | .fieldAddr s x f=>uW T E M s x f
 | .indexAddr t x i=>(match uX T E M oc t x i with | some o=>some o | none=>(match uz T E M oc t x i with | some o=>some o | none=>(match uA T E M oc t x i with | some o=>some o | none=>(match uF T E M oc t x i with | some o=>some o | none=>wo T E M oc t x i))))
 | .load t x=>(match vM T E M oc t x with | some o=>some o | none=>(match wa T E M oc t x with | some o=>some o | none=>vv T E M t x))
 | .store t x y=>(match uq T E M t x y with | some o=>some o | none=>uy T E M oc t x y)
 | .box t x=>wV E M t x
 | .alloc t=>(match oc with | some (.b _)=>uG T M t | _=>uZ T M t)
 | .pick c x y=>(match oc with | some (.res (.v r))=>vp E M r c x y | _=>vO E M oc c x y)
 | .unOp .not _ x=>wW E M oc x
 | .unOp .xor _ x=>wX E M oc x
 | .binOp op t x y _=>(match xk P T E M oc op t x y with | some o=>some o | none=>(match wj P E M op t x y with | some o=>some o | none=>(match xg E M op x y with | some o=>some o | none=>xi P E M op t x y)))
 | .convert t t' x=>(match wB T E M oc t t' x with | some o=>some o | none=>(match wk T E M t t' x with | some o=>some o | none=>vq P E M oc t t' x))
 | .build t parts=>(match vf T E M t parts with | some o=>some o | none=>ux T E M t parts)
 | .field t x f=>xc T E M t x f
 | .index t x i=>(match xd T E M oc t x i with | some o=>some o | none=>(match wg T E M oc t x i with | some o=>some o | none=>(match wm T E M oc t x i with | some o=>some o | none=>wz T E M oc t x i)))
 | .slice t x lo hi mx=>(match x5 T E M oc t x lo hi mx with | some o=>some o | none=>(match xe T E M oc t x lo hi mx with | some o=>some o | none=>(match xh T E M oc t x lo hi mx with | some o=>some o | none=>xj T E M t x lo hi mx)))
 | .buildSlice t len parts=>xa T E M t len parts
 | .makeSlice t x y=>(match vX T E M oc t x y with | some o=>some o | none=>vk T E M oc t x y)
 | .makeFunc fn first cf=>vQ E M fn first cf
 | .call ⟨.builtin bi,⟨[x]⟩,⟨[t]⟩⟩=>(match bi with | .len=>wZ T E M oc t x | .clear=>vn T E M t x | .unsafeSliceData=>vt E M x | .cap=>wx T E M t x | _=>none)
 | .call ⟨.builtin bi,⟨[x,y]⟩,⟨[st,xt]⟩⟩=>(match bi with | .append=>(match w6 T E M st xt x y with | some o=>some o | none=>wq T E M st xt x y) | .copy=>(match wb T E M oc st x y with | some o=>some o | none=>vu T E M oc st x y) | .unsafeString=>wv P E M oc st x y | _=>xO E M oc bi x y)
 | .call ⟨.value g,args,_⟩=>(match oc with | some (.bP n tb)=>wA cl E M (.bP n tb) g args | some (.ax x)=>oF P E M (some (.ax x)) g args | some (.mem l x M')=>wh P E M (some (.mem l x M')) g args | some (.stay l x)=>vo P E M (some (.stay l x)) g args | some (.b _)=>vr P E M g args | some (.n2 m e)=>wy P E M (some (.n2 m e)) g args | _=>vS P E M oc g args)
 | _=>none
theorem n5 (hT:aY P T=true) {cl:fi} (cx:iO P cl) {op:Op} (h:step P T cl E M oc op=some out):aK P ⟨d,op,ty,pos,aft,gd⟩ E M out:=by
 unfold step at h
 split at h
 ·exact (zB h).1
 ·exact (zB h).2
 ·exact He h
 ·exact DG h
 ·exact Et hT h
 ·split at h
  ·rename_i hh;simp only [Option.some.injEq] at h;subst h;exact Eu hT hh
  ·split at h
   ·rename_i hh;simp only [Option.some.injEq] at h;subst h;exact D3 hT hh
   ·split at h
    ·rename_i hh;simp only [Option.some.injEq] at h;subst h;exact D4 hT hh
    ·split at h
     ·rename_i hh;simp only [Option.some.injEq] at h;subst h;exact D6 hT hh
     ·exact F7 hT h
 ·split at h
  ·rename_i hh;simp only [Option.some.injEq] at h;subst h;exact FF hT hh
  ·split at h
   ·rename_i hh;simp only [Option.some.injEq] at h;subst h;exact FR hT hh
   ·exact EP hT h
 ·split at h
  ·rename_i hh;simp only [Option.some.injEq] at h;subst h;exact D0 hT hh
  ·exact D2 hT h
 ·exact Hf h
 ·split at h
  ·exact D8 hT h
  ·exact Ew hT h
 ·split at h
  ·exact EK h
  ·exact FH h
 ·exact Hg h
 ·exact Hh h
 ·split at h
  ·rename_i hh;simp only [Option.some.injEq] at h;subst h;exact HD hT hh
  ·split at h
   ·rename_i hh;simp only [Option.some.injEq] at h;subst h;exact FZ hh
   ·split at h
    ·rename_i hh;simp only [Option.some.injEq] at h;subst h;exact Hx hh
    ·exact Hz h
 ·split at h
  ·rename_i hh;simp only [Option.some.injEq] at h;subst h;exact Gg hT hh
  ·split at h
   ·rename_i hh;simp only [Option.some.injEq] at h;subst h;exact F5 hT hh
   ·exact EL h
 ·split at h
  ·rename_i hh;simp only [Option.some.injEq] at h;subst h;exact Ez hT hh
  ·exact D1 hT h
 ·exact Hs hT h
 ·split at h
  ·rename_i hh;simp only [Option.some.injEq] at h;subst h;exact Ht hT hh
  ·split at h
   ·rename_i hh;simp only [Option.some.injEq] at h;subst h;exact FW hT hh
   ·split at h
    ·rename_i hh;simp only [Option.some.injEq] at h;subst h;exact F6 hT hh
    ·exact Ge hT h
 ·split at h
  ·rename_i hh;simp only [Option.some.injEq] at h;subst h;exact IY hT hh
  ·split at h
   ·rename_i hh;simp only [Option.some.injEq] at h;subst h;exact Hv hT hh
   ·split at h
    ·rename_i hh;simp only [Option.some.injEq] at h;subst h;exact Hy hT hh
    ·exact HC hT h
 ·exact Hq hT h
 ·split at h
  ·rename_i hh;simp only [Option.some.injEq] at h;subst h;exact FO hT hh
  ·exact EF hT h
 ·exact FJ h
 ·split at h
  ·exact Hj hT h
  ·exact EH hT h
  ·exact EN h
  ·exact Gb hT h
  ·simp at h
 ·split at h
  ·split at h
   ·rename_i hh;simp only [Option.some.injEq] at h;subst h;exact Hm hT hh
   ·exact F8 hT h
  ·split at h
   ·rename_i hh;simp only [Option.some.injEq] at h;subst h;exact FT hT hh
   ·exact EO hT h
  ·exact F9 h
  ·exact IT h
 ·split at h
  ·exact Gf cx h
  ·exact Ak h
  ·exact FY h
  ·exact EI h
  ·exact EM h
  ·exact Gd h
  ·exact FM h
 ·simp at h
end Go.Proofs.YtcnpikbbmbombaaGreatDoor
namespace Go.Proofs.YtcnpikbbmbombaaGreatDoor
open Go.RowKit
def l4:List (Nat×aU)→Nat→Option aU
 | [],_=>none
 | (k,v)::r,s=>bif k.beq s then some v else l4 r s
def gF (E:List (Nat×AV)) (dst:Option Nat) (v:AV):List (Nat×AV):=match dst with | some d=>(d,v)::E | none=>E
def oA (mv:List Nat):List (Nat×AV)→List (Nat×AV)
 | []=>[]
 | (k,v)::r=>(k,bif hU mv v then v else .d .jk)::oA mv r
def oB (mv:List Nat) (E:List (Nat×AV)):List (Nat×AV):=match mv with | []=>E | _=>oA mv E
theorem yS {mv:List Nat}:∀ {E:List (Nat×AV)} {t:Nat} {v:AV},bV (oA mv E) t=some v→∃ u,bV E t=some u∧v=bif hU mv u then u else .d .jk
 | [],t,v,h=>by simp [oA,bV] at h
 | (k,u)::r,t,v,h=>by
  unfold oA bV at h
  unfold bV
  cases hk:k.beq t with
  | true=>simp only [hk,cond_true,Option.some.injEq] at h ⊢;exact ⟨u,rfl,h.symm⟩
  | false=>simp only [hk,cond_false] at h ⊢;exact yS h
theorem Gh {K:World→Prop} {β az:Beta} {mv:List Nat} (e:fM mv β az) {ρ:Operand→Value} {E:List (Nat×AV)} (h:∀ t v,bV E t=some v→aw K β v (ρ (.tmp t))):∀ t v,bV (oA mv E) t=some v→aw K az v (ρ (.tmp t)):=by
 intro t v hv
 obtain ⟨u,h1,h2⟩:=yS hv
 cases hc:hU mv u with
 | true=>simp only [hc,cond_true] at h2;subst h2;exact pw e hc (h t _ h1)
 | false=>simp only [hc,cond_false] at h2;subst h2;exact .d (.jk _)
theorem tZ {K:World→Prop} {β az:Beta} {mv:List Nat} (e:fM mv β az) {E:List (Nat×AV)} {ρ:Operand→Value} (h:∀ t v,bV E t=some v→aw K β v (ρ (.tmp t))):∀ t v,bV (oB mv E) t=some v→aw K az v (ρ (.tmp t)):=by
 intro t v hx
 unfold oB at hx
 split at hx
 ·exact (h t v hx).mono (fun _ h=>h) fun u z hz=>e u z (by simp) hz
 ·exact Gh e h t v hx
def pP:Option AV→Option (Option Bool)
 | some (.d (.v (.bool c)))=>some (some c)
 | some (.d (.v (.tuple _)))=>some none
 | _=>none
def lW (sz:Nat) (ops:Array Oper) (E:List (Nat×AV)):Option (Nat×Bool)→Option Bool
 | none=>some true
 | some (j,want)=>(match pW ops j with
  | some s=>(bif s.blt sz then (match pP (bV E s) with
   | some (some true)=>some want
   | some (some false)=>some (!want)
   | some none=>some false
   | none=>none) else none)
  | none=>none)
def fP (sz:Nat):Option Nat→Bool
 | some d=>d.blt sz
 | none=>true
structure RS where
 vc:List Prop
 E:List (Nat×AV)
 M:List ai
 tc:List Nat
 mv:List Nat
def xl (P:Program) (T:aN) (cl:fi) (E:List (Nat×AV)) (M:List ai) (op:Op) (oc:aU):Option (List Prop×List Nat×Value):=
 match oc,op with
 | .ax (.v x),.call ⟨.value g,args,_⟩=>(match oF P E M (some (.ax (.v x))) g args with | some out=>some (out.vc,out.tc,x) | none=>none)
 | oc,op=>(match step P T cl E M (some oc) op with | some ⟨vc,.d (.v x),_,tc,_,some _⟩=>some (vc,tc,x) | _=>none)
def AR (sz:Nat) (ops:Array Oper) (E:List (Nat×AV)):Option (Nat×Bool)→Option (Value×Bool)
 | some (j,want)=>(match pW ops j with
  | some s=>bif s.blt sz then (match bV E s with | some (.d (.v y))=>some (y,want) | _=>none) else none
  | none=>none)
 | none=>none
def fB (y:Value):Option Bool:=match y with | .bool b=>some b | _=>none
def iC (P:Program) (T:aN) (cl:fi) (sz:Nat) (ops:Array Oper):List Oper→Nat→List (Nat×aU)→RS→Option RS
 | [],_,_,s=>some s
 | o::r,i,oc,⟨vc,E,M,tc,mv⟩=>
  bif fP sz o.dst then (match l4 oc i with
  | some (.may c oo)=>(match xl P T cl E M o.op oo,AR sz ops E o.guard with
   | some (mw,qC,x),some (y,want)=>iC P T cl sz ops r (i+1) oc ⟨vc++[(fB y==some want)=c,c=true→a8 mw],gF E o.dst (.d (.v (bif c then x else undef))),M,qC++tc,mv⟩
   | _,_=>none)
  | _=>(match lW sz ops E o.guard with
   | some true=>(match step P T cl E M (l4 oc i) o.op with
    | some out=>(bif Nat.ble M.length out.M.length then iC P T cl sz ops r (i+1) oc ⟨vc++out.vc,gF (oB out.mv E) o.dst out.av,out.M,out.tc++tc,out.mv++mv⟩ else none)
    | none=>none)
   | some false=>iC P T cl sz ops r (i+1) oc ⟨vc,gF E o.dst (.d (.v undef)),M,tc,mv⟩
   | none=>none))
  else none
structure ek where
 β:Beta
 F:Nat→ak
 I:ak
 m:Nat
def Since (b:ek) (mv tc:List Nat) (β:Beta) (F:Nat→ak) (I:ak):Prop:=fM mv b.β β∧bK b.I I∧∀ u,u<b.m→u ∉ tc→F u=b.F u
theorem Since.step {b:ek} {mv tc mv' qC:List Nat} {β az:Beta} {F F':Nat→ak} {I I':ak} {n:Nat} (h:Since b mv tc β F I) (hn:b.m≤n) (e:fM mv' β az) (hI:bK I I') (hF:∀ u,u<n→u ∉ qC→F' u=F u):Since b (mv'++mv) (qC++tc) az F' I':=
 ⟨fun u x hu hx=>e u x (fun h'=>hu (List.mem_append_left _ h')) (h.1 u x (fun h'=>hu (List.mem_append_right _ h')) hx),h.2.1.trans hI,fun u hu ht=>(hF u (by omega) fun h'=>ht (List.mem_append_left _ h')).trans (h.2.2 u hu fun h'=>ht (List.mem_append_right _ h'))⟩
variable {mk:Bool} {ro:Option Nat} {P:Program} {T:aN} {cl:fi} {D:List Nat} {w0:World} {K0:World→Prop} {E:List (Nat×AV)} {M:List ai} {β:Beta} {F:Nat→ak} {I:ak} {ρ:Operand→Value} {w:World} {a:Act} {sz:Nat} {ops:Array Oper} {Q:Exit→Act→World→Prop}
def Mk (mk:Bool) (ds:List Deferred) (I:ak):Prop:=match mk with
 | false=>ds=[]
 | true=>ds.Nodup∧∀ d ∈ ds,∃ b,d={ target:=.collected b,args:=#[] }∧(b,Obj.deferred (some [])) ∈ I
theorem Mk.grow {ds:List Deferred} {I I':ak} (h:Mk mk ds I) (g:bK I I'):Mk mk ds I':=by
 cases mk with
 | false=>exact h
 | true=>obtain ⟨J,rfl⟩:=g;exact ⟨h.1,fun d hd=>let ⟨b,h1,h2⟩:=h.2 d hd;⟨b,h1,List.mem_append_right _ h2⟩⟩
theorem Mk.nil (I:ak):Mk mk [] I:=by cases mk with | false=>rfl | true=>exact ⟨List.nodup_nil,fun d hd=>by cases hd⟩
theorem RE.put (size:a.tmps.size=sz) {az:Beta} {I':ak} (defers:Mk mk a.defers I') (hs:∀ t v,bV E t=some v→aw (fun w=>K0 w∧Holds w I') az v (a.eval (.tmp t))) {dst:Option Nat} (hd:fP sz dst=true) {v:Value} {av:AV} (hv:aw (fun w=>K0 w∧Holds w I') az av v):
  (a.put dst v).tmps.size=sz∧Mk mk (a.put dst v).defers I'∧∀ t u,bV (gF E dst av) t=some u→aw (fun w=>K0 w∧Holds w I') az u ((a.put dst v).eval (.tmp t)):=by
 refine ⟨by rw [Fw,size],by rw [put_defers];exact defers,?_⟩
 cases dst with
 | none=>exact hs
 | some d=>
  have aM:d<sz:=by simpa [fP,Nat.blt_eq] using hd
  intro t u hx
  unfold gF bV at hx
  cases hk:d.beq t with
  | true=>
   simp only [hk,cond_true,Option.some.injEq] at hx
   subst hx
   rw [← Nat.eq_of_beq_eq_true hk,Ds a d v (by omega)];exact hv
  | false=>
   simp only [hk,cond_false] at hx
   rw [Dn a d t v (fun e=>by subst e;simp at hk)];exact hs t u hx
theorem ER {K:World→Prop} {β:Beta} {av:Option AV} {y:Value} {g:Option Bool} (h:pP av=some g) {v:AV} (hv:av=some v) (r:aw K β v y):fB y=g:=by
 subst hv
 unfold pP at h
 split at h
 ·rename_i hx;cases hx;simp only [Option.some.injEq] at h;subst h
  cases r with | d r=>cases r;rfl
 ·rename_i hx;cases hx;simp only [Option.some.injEq] at h;subst h
  cases r with | d r=>cases r;rfl
 ·simp at h
theorem j5 {o:Oper} {b:Bool} (size:a.tmps.size=sz) {K:World→Prop} (hs:∀ t v,bV E t=some v→aw K β v (a.eval (.tmp t))) (h:lW sz ops E o.guard=some b):Region.wanted o (yielded ops a.tmps)=b:=by
 unfold Region.wanted
 cases hg:o.guard with
 | none=>rw [hg] at h;simp only [lW,Option.some.injEq] at h;exact h
 | some g=>
  obtain ⟨j,want⟩:=g
  rw [hg] at h
  unfold lW at h
  cases hj:pW ops j with
  | none=>simp [hj] at h
  | some s=>
   simp only [hj] at h
   cases bu:s.blt sz with
   | false=>simp [bu] at h
   | true=>
    simp only [bu,cond_true] at h
    have aM:s<a.tmps.size:=by rw [size];simpa [Nat.blt_eq] using bu
    have hy:∀ g,pP (bV E s)=some g→yielded ops a.tmps j=g:=by
     intro g jx
     rw [yN hj aM]
     show fB _=g
     cases hl:bV E s with
     | none=>rw [hl] at jx;simp [pP] at jx
     | some v=>exact ER jx hl (hs _ _ hl)
    split at h
    ·rename_i jx;simp only [Option.some.injEq] at h;subst h;dsimp only;rw [hy _ jx];cases want<;>rfl
    ·rename_i jx;simp only [Option.some.injEq] at h;subst h;dsimp only;rw [hy _ jx];cases want<;>rfl
    ·rename_i jx;simp only [Option.some.injEq] at h;subst h;dsimp only;rw [hy _ jx];cases want<;>rfl
    ·simp at h
theorem vw (l:List Oper):∀ (i:Nat) (oc:List (Nat×aU)) (s:RS) {s':RS},iC P T cl sz ops l i oc s=some s'→a8 s'.vc→a8 s.vc:=by
 induction l with
 | nil=>
  intro i oc s s' h
  simp only [iC,Option.some.injEq] at h
  subst h;exact id
 | cons o r ih=>
  intro i oc s s' h hv
  obtain ⟨vc,E,M,tc,mv⟩:=s
  unfold iC at h
  cases hd:fP sz o.dst with
  | false=>simp [hd] at h
  | true=>
   simp only [hd,cond_true] at h
   split at h
   ·split at h
    ·exact (a8.app.1 (ih _ _ _ h hv)).1
    ·simp at h
   split at h
   ·split at h
    ·rename_i out _
     cases hb:Nat.ble M.length out.M.length with
     | false=>simp [hb] at h
     | true=>simp only [hb,cond_true] at h;exact (a8.app.1 (ih _ _ _ h hv)).1
    ·simp at h
   ·have:=ih _ _ _ h hv;exact this
   ·simp at h
def ct (mk:Bool) (D:List Nat) (w0:World) (K0:World→Prop) (sz:Nat) (E:List (Nat×AV)) (M:List ai) (a:Act) (w:World):Prop:=
 a.tmps.size=sz∧∃ I,Mk mk a.defers I∧∃ β F,RM D w0 K0 M β F I w∧∀ t v,bV E t=some v→aw (fun w=>K0 w∧Holds w I) β v (a.eval (.tmp t))
abbrev cK (D:List Nat) (w0:World) (K0:World→Prop) (sz:Nat) (E:List (Nat×AV)) (M:List ai) (a:Act) (w:World):Prop:=ct false D w0 K0 sz E M a w
def cY (mk:Bool) (D:List Nat) (w0:World) (K0:World→Prop) (sz:Nat) (b:ek) (s:RS) (a:Act) (w:World):Prop:=
 a.tmps.size=sz∧∃ I,Mk mk a.defers I∧b.m≤s.M.length∧∃ β F,RM D w0 K0 s.M β F I w∧Since b s.mv s.tc β F I∧∀ t v,bV s.E t=some v→aw (fun w=>K0 w∧Holds w I) β v (a.eval (.tmp t))
theorem ct.mW (r:ct false D w0 K0 sz E M a w):a.defers=[]:=let ⟨_,_,h,_⟩:=r;h
theorem cY.mW {b:ek} {s:RS} (r:cY false D w0 K0 sz b s a w):a.defers=[]:=let ⟨_,_,h,_⟩:=r;h
theorem cY.re {b:ek} {s:RS} (r:cY mk D w0 K0 sz b s a w):ct mk D w0 K0 sz s.E s.M a w:=let ⟨h1,I,h2,_,β,F,h3,_,h4⟩:=r;⟨h1,I,h2,β,F,h3,h4⟩
theorem ct.b (r:ct mk D w0 K0 sz E M a w) (vc:List Prop):∃ b,cY mk D w0 K0 sz b ⟨vc,E,M,[],[]⟩ a w:=
 let ⟨h1,I,h2,β,F,h3,h4⟩:=r
 ⟨⟨β,F,I,M.length⟩,h1,I,h2,Nat.le_refl _,β,F,h3,⟨fun _ _ _ h=>h,bK.refl _,fun _ _ _=>rfl⟩,h4⟩
theorem I6 {g:Operand} {args:Array Operand} {x:Value} {out:Out} (h:oF P E M (some (.ax (.v x))) g args=some out):out.av=.d (.v x)∧out.M=M∧out.mv=[]∧out.rd=none:=by
 unfold oF at h
 split at h
 ·rename_i f cf l y _ _ ya
  simp only [Option.some.injEq,aU.ax.injEq] at ya;subst ya
  cases dX:(kR (DV.v x)&&(l++cf).all qs) with
  | false=>rw [dX] at h;cases h
  | true=>
   rw [dX] at h
   simp only [cond_true,Option.some.injEq] at h;subst h
   exact ⟨rfl,rfl,rfl,rfl⟩
 ·cases h
theorem HE (hT:aY P T=true) (cx:iO P cl) {d:Option Tmp} {op:Op} {ty:TypeId} {pos:String} {aft:Array Edge} {gd:Option (Nat×Bool)} {oc:aU} {vc:List Prop} {tc:List Nat} {x:Value} (h:xl P T cl E M op oc=some (vc,tc,x)):
  sS P ⟨d,op,ty,pos,aft,gd⟩ E M ⟨vc,.d (.v x),M,tc,[],none⟩:=by
 unfold xl at h
 split at h
 ·split at h
  ·rename_i out hs
   simp only [Option.some.injEq,Prod.mk.injEq] at h
   obtain ⟨rfl,rfl,rfl⟩:=h
   obtain ⟨h1,h2,h3,h4⟩:=I6 hs
   obtain ⟨vc,av,M2,tc,mv,rd⟩:=out
   dsimp only at h1 h2 h3 h4
   subst h1 h2 h3 h4
   intro D w0 K0 β F I ρ w C hv
   exact Ak hs C hv
  ·cases h
 ·split at h
  ·rename_i hs
   simp only [Option.some.injEq,Prod.mk.injEq] at h
   obtain ⟨rfl,rfl,rfl⟩:=h
   have hd:=n5 (P:=P) hT cx (d:=d) (ty:=ty) (pos:=pos) (aft:=aft) (gd:=gd) hs
   have s4:=hd
   obtain ⟨-,h2,h3,-⟩:=s4
   dsimp only at h2 h3
   subst h2 h3
   intro D w0 K0 β F I ρ w C hv
   exact hd.oT C hv
  ·cases h
theorem I7 (hT:aY P T=true) (cx:iO P cl) (hK:∀ w,Kp D w0 w→K0 w) {b:ek}:∀ (l:List Oper) (i:Nat) (oc:List (Nat×aU)) (s:RS) {s':RS} (a:Act) (w:World),iC P T cl sz ops l i oc s=some s'→cY mk D w0 K0 sz b s a w→a8 s'.vc→(∀ a' w',cY mk D w0 K0 sz b s' a' w'→Q .normal a' w')→ik P ops Q (l.map (·,false)) a w:=by
 intro l
 induction l with
 | nil=>
  intro i oc s s' a w h R _ k
  simp only [iC,Option.some.injEq] at h
  subst h
  exact k a w R
 | cons o r ih=>
  intro i oc s s' a w h R hv k
  obtain ⟨vc,E,M,tc,mv⟩:=s
  unfold iC at h
  cases hd:fP sz o.dst with
  | false=>simp [hd] at h
  | true=>
   simp only [hd,cond_true] at h
   obtain ⟨size,I,defers,hm,β,F,Rm,b8,hs⟩:=R
   dsimp only at Rm hs hm b8
   simp only [List.map_cons]
   unfold ik
   simp only [cond_false]
   have Kv:iC P T cl sz ops r (i+1) oc ⟨vc,gF E o.dst (.d (.v undef)),M,tc,mv⟩=some s'→ik P ops Q (r.map (·,false)) (a.put o.dst undef) w:=by
    intro hr
    obtain ⟨e1,e2,e3⟩:=RE.put (E:=E) size defers hs hd (.d (.v undef))
    exact ih _ _ _ _ _ hr ⟨e1,I,e2,hm,β,F,Rm,b8,e3⟩ hv k
   have fF:∀ out:Out,step P T cl E M (l4 oc i) o.op=some out→(bif Nat.ble M.length out.M.length then iC P T cl sz ops r (i+1) oc ⟨vc++out.vc,gF (oB out.mv E) o.dst out.av,out.M,out.tc++tc,out.mv++mv⟩ else none)=some s'→aT P o a.eval w fun v w'=>ik P ops Q (r.map (·,false)) (a.put o.dst v) w':=by
    intro out bq hr
    cases hb:Nat.ble M.length out.M.length with
    | false=>simp [hb] at hr
    | true=>
    simp only [hb,cond_true] at hr
    have hlen:=Nat.le_of_ble_eq_true hb
    have C:Ctx D w0 K0 E M β F I a.eval w:=⟨Rm,hs,fun _=>rfl,fun _=>rfl,fun _=>rfl,hK⟩
    have kY:=(a8.app.1 (vw _ _ _ _ hr hv)).2
    have:=(n5 (P:=P) hT cx (d:=o.dst) (ty:=o.type) (pos:=o.pos) (aft:=o.after) (gd:=o.guard) bq).oT C kY
    refine aT.mono this fun v w' ⟨az,F',I',R',e,hI,hF,my⟩=>?_
    have hk:=tZ (ρ:=a.eval) e hs
    obtain ⟨e1,e2,e3⟩:=RE.put size (defers.grow hI) (fun t v hx=>(hk t v hx).mono (fun w hw=>⟨hw.1,hI.holds w hw.2⟩) (Ext.refl _)) hd my
    exact ih _ _ _ _ _ hr ⟨e1,I',e2,Nat.le_trans hm hlen,az,F',R',b8.step hm e hI hF,e3⟩ hv k
   split at h
   ·rename_i c oo ya
    split at h
    rotate_left
    ·simp at h
    rename_i mw qC x y want LP jV
    have da:=(a8.app.1 (vw _ _ _ _ h hv)).2
    obtain ⟨hc,dt,-⟩:=da
    have C:Ctx D w0 K0 E M β F I a.eval w:=⟨Rm,hs,fun _=>rfl,fun _=>rfl,fun _=>rfl,hK⟩
    unfold AR at jV
    split at jV
    rotate_left
    ·cases jV
    rename_i j N5 hg
    split at jV
    rotate_left
    ·cases jV
    rename_i s0 hj
    cases bu:s0.blt sz with
    | false=>simp [bu] at jV
    | true=>
    simp only [bu,cond_true] at jV
    split at jV
    rotate_left
    ·cases jV
    rename_i y' Kw
    simp only [Option.some.injEq,Prod.mk.injEq] at jV
    obtain ⟨rfl,rfl⟩:=jV
    have aM:s0<a.tmps.size:=by rw [size];simpa [Nat.blt_eq] using bu
    have xN:yielded ops a.tmps j=fB y':=by
     rw [yN hj aM]
     have hr:=hs _ _ Kw
     generalize a.eval (.tmp s0)=z at hr
     cases hr with | d hr=>cases hr;rfl
    split
    ·rename_i qD;rw [hg] at qD;cases qD
    ·rename_i j2 N6 qD
     rw [hg] at qD;cases qD
     refine ⟨fun hn=>?_,fun hn=>?_⟩
     ·have CJ:c=true:=by rw [← hc,beq_iff_eq,← xN];exact hn
      subst CJ
      have:=HE hT cx (d:=o.dst) (ty:=o.type) (pos:=o.pos) (aft:=o.after) (gd:=o.guard) LP C (dt rfl)
      refine aT.mono this fun v w' ⟨az,F',I',R',e,hI,hF,my⟩=>?_
      obtain ⟨e1,e2,e3⟩:=RE.put (E:=E) size (defers.grow hI) (fun t v hx=>(hs t v hx).mono (fun w hw=>⟨hw.1,hI.holds w hw.2⟩) (fun u x hx=>e u x (by simp) hx)) hd my
      exact ih _ _ _ _ _ h ⟨e1,I',e2,hm,az,F',R',b8.step (mv':=[]) hm e hI hF,e3⟩ hv k
     ·have M7:c=false:=by rw [← hc,beq_eq_false_iff_ne,← xN];exact hn
      subst M7
      obtain ⟨e1,e2,e3⟩:=RE.put (E:=E) size defers hs hd (.d (.v undef))
      exact ih _ _ _ _ _ h ⟨e1,I,e2,hm,β,F,Rm,⟨b8.1,b8.2.1,fun u hu ht=>b8.2.2 u hu fun h'=>ht (List.mem_append_right _ h')⟩,e3⟩ hv k
   split at h
   ·rename_i hw
    have eE:=j5 (ops:=ops) size hs hw
    split at h
    ·rename_i out bq
     have CK:=fF out bq h
     split
     ·exact CK
     ·rename_i j want hg
      refine ⟨fun _=>CK,fun hn=>?_⟩
      simp only [Region.wanted,hg,beq_iff_eq] at eE
      exact absurd eE hn
    ·simp at h
   ·rename_i hw
    have eE:=j5 (ops:=ops) size hs hw
    split
    ·rename_i hg;simp [Region.wanted,hg] at eE
    ·rename_i j want hg
     refine ⟨fun hn=>?_,fun _=>Kv h⟩
     simp only [Region.wanted,hg,beq_eq_false_iff_ne] at eE
     exact absurd hn eE
   ·simp at h
theorem LQ (hT:aY P T=true) (cx:iO P cl) (hK:∀ w,Kp D w0 w→K0 w) {b:ek} {s:RS} (R:cY mk D w0 K0 sz b s a w) (oc:List (Nat×aU)) {id:Nat} {s':RS} (h:iC P T cl sz ops ops.toList 0 oc s=some s') (hv:a8 s'.vc) (k:∀ a' w',cY mk D w0 K0 sz b s' a' w'→Q .normal a' w'):(Code.region id ops false).wpIn (Fl ro) 0 P Q a w:=
 DD (I7 hT cx hK _ _ _ _ a w h R hv k)
def lL (P:Program) (ops:Array Oper) (Rk:World→Prop) (o:Oper) (v:Value) (a:Act):Prop:=
 (Region.wanted o (yielded ops a.tmps)=true∧∀ w,Rk w→(execOp a.eval o).run P w=.ok (.value v) w)∨(Region.wanted o (yielded ops a.tmps)=false∧v=undef)
theorem lL.wpOp {Rk:World→Prop} {i:Nat} {o:Oper} {v:Value} (hi:ops[i]?=some o) (hy:lL P ops Rk o v a) {K:Act→World→Prop} (hR:Rk w) (h:K (a.put o.dst v) w):Go.wpOpIn (Fl ro) 0 P ops Q i K a w:=by
 unfold Go.wpOpIn
 simp only [hi]
 rcases hy with hy | ⟨hy,rfl⟩
 ·simp only [hy.1,if_true]
  refine ⟨fun _ _=>trivial,?_⟩
  rw [show (Fl ro).round=ro from rfl,G9 (hy.2 w hR)];exact h
 ·simp only [hy,Bool.false_eq_true,if_false];exact ⟨fun _ _=>trivial,h⟩
theorem yz {Rk:World→Prop} {i:Nat} {oi:Oper} {v:Value} (hi:ops[i]?=some oi) (gG:∀ (j:Nat) (o:Oper) cs b,ops[j]?=some o→o.op≠.select cs b)
  (hQ:∀ c a w,Q (.panic c) (a.put oi.dst v) w→Q (.panic c) a w):
  ∀ (fuel:Nat) (L:Array Bool) (a:Act) (w:World),
   (∀ j oj,ops[j]?=some oj→j≠i→L.getD j true=false→(∀ e ∈ oj.after,Region.binds .any e=true→e.on≠i)→oi.apart ops oj=true)→
   i ∈ Region.ready .any ops L→lL P ops Rk oi v a→
   jE ro P ops Q Rk fuel (L.setIfInBounds i true) (a.put oi.dst v) w→jE ro P ops Q Rk (fuel+1) L a w:=by
 intro fuel
 induction fuel with
 | zero=>
  intro L a w _ hr hy H
  refine ⟨H.rk,fun h=>(by rw [h] at hr;cases hr),fun j hj=>?_⟩
  by_cases fW:j=i
  ·subst fW;exact hy.wpOp hi H.rk H
  ·have:=ready_mono hj fW
   rw [H.2.1] at this
   cases this
 | succ fuel ih=>
  intro L a w kS hr hy H
  refine ⟨H.rk,fun h=>(by rw [h] at hr;cases hr),fun j hj=>?_⟩
  by_cases fW:j=i
  ·subst fW;exact hy.wpOp hi H.rk H
  ·have h1:=H.2.2 j (ready_mono hj fW)
   obtain ⟨qk,oj,mz,gh⟩:=mem_ready.1 hj
   have sG:∀ e ∈ oj.after,Region.binds .any e=true→e.on≠i:=fun e he hb heq=>by
    have h1:=gh e he hb
    have h0:=(mem_ready.1 hr).1
    rw [heq] at h1
    rcases Nat.lt_or_ge i L.size with h' | h'
    ·simp [h'] at h0 h1;rw [h0] at h1;cases h1
    ·simp [Array.getElem?_eq_none h'] at h1
   have k8:=kS j oj mz fW qk sG
   obtain ⟨_,_,h3⟩:=Oper.apart_spec k8
   have h2:=yB (Y:=lL P ops Rk oi v) mz k8 (fun cs b=>gG j oj cs b mz)
    (fun a hy u=>by unfold lL at *;rw [execOp_put oi (fun cs b=>gG i oi cs b hi) a oj.dst u h3,wanted_put oi a oj.dst u h3];exact hy) (fun a d hy=>hy) hQ hy h1
   have vz:∀ k ok,ops[k]?=some ok→k≠i→(L.setIfInBounds j true).getD k true=false→
     (∀ e ∈ ok.after,Region.binds .any e=true→e.on≠i)→oi.apart ops ok=true:=fun k ok hk yb lh iU=>by
    refine kS k ok hk yb ?_ iU
    by_cases mq:j=k
    ·subst mq;exact qk
    ·rw [getD_set_ne true mq] at lh;exact lh
   refine wpOpIn_mono (fun a' w' h3=>ih (L.setIfInBounds j true) a' w' vz (ready_mono hr (Ne.symm fW)) h3.1 ?_) h2
   rw [Array.setIfInBounds_comm _ _ fW]
   exact h3.2
def kN:Op→Bool
 | .move _=>true
 | .assign _=>true
 | .pick _ _ _=>true
 | .load _ _=>true
 | .nilCheck _=>true
 | .binOp _ _ _ _ _=>true
 | .unOp _ _ _=>true
 | .fieldAddr _ _ _=>true
 | .indexAddr _ _ _=>true
 | .extract _ _=>true
 | .makeFunc _ _ _=>true
 | .build _ _=>true
 | .slice _ _ _ _ _=>true
 | .index _ _ _=>true
 | .field _ _ _=>true
 | .convert _ _ _=>true
 | .call ⟨.builtin .len,_,_⟩=>true
 | _=>false
def lG (ops:Array Oper) (L:Array Bool):List Nat→Option Nat
 | []=>none
 | i::r=>(match ops[i]? with | some o=>bif kN o.op&&Region.free .any ops L i then some i else lG ops L r | none=>lG ops L r)
inductive qE where
 | fin
 | look (i:Nat)
 | one (i:Nat)
 | bad
def ql (ops:Array Oper) (L:Array Bool):List Nat→qE
 | []=>.fin
 | [i]=>.one i
 | i::k::r=>(match lG ops L (i::k::r) with
  | some j=>.look j
  | none=>.bad)
def qF (ops:Array Oper) (L:Array Bool):qE:=ql ops L (Region.ready .any ops L)
def xm (rd tc:List Nat):Bool:=rd.all fun u=>!(tc.elem u)
def l5 (ops:Array Oper) (k i:Nat):Bool:=match ops[k]? with
 | some o=>!(kN o.op)&&o.after.any fun e=>Region.binds .any e&&Nat.beq e.on i
 | none=>false
def ia (ops:Array Oper) (i:Nat) (L:Array Bool):Bool:=(List.range ops.size).all fun k=>!(l5 ops k i&&L.getD k true)
theorem yT {i:Nat} {L:Array Bool}:ia ops i L=true↔∀ k,k<ops.size→l5 ops k i=true→L.getD k true=false:=by
 unfold ia
 rw [List.all_eq_true]
 constructor
 ·intro h k hk hd
  have:=h k (List.mem_range.2 hk)
  rw [hd] at this;simpa using this
 ·intro h k hk
  cases hd:l5 ops k i with
  | false=>rfl
  | true=>rw [h k (List.mem_range.1 hk) hd];rfl
theorem px {i j:Nat} {L:Array Bool} (hd:l5 ops j i=false) (h:ia ops i L=true):ia ops i (L.setIfInBounds j true)=true:=by
 rw [yT] at *
 intro k hk eK
 rw [getD_set_ne true (fun e=>by subst e;rw [hd] at eK;cases eK)]
 exact h k hk eK
theorem rF {i j:Nat} {o:Oper} (ho:ops[j]?=some o) (hp:kN o.op=true):l5 ops j i=false:=by unfold l5;rw [ho];simp [hp]
theorem I8 {i j:Nat} {o:Oper} (ho:ops[j]?=some o) (iU:∀ e ∈ o.after,Region.binds .any e=true→e.on≠i):l5 ops j i=false:=by
 unfold l5;rw [ho]
 simp only [Bool.and_eq_false_iff]
 refine .inr ?_
 rw [Array.any_eq_false]
 intro q hq h
 simp only [Bool.and_eq_true] at h
 exact iU _ (Array.getElem_mem hq) h.1 (Nat.eq_of_beq_eq_true h.2)
def Sub (L L':Array Bool):Prop:=∀ k,L.getD k true=true→L'.getD k true=true
theorem Sub.refl (L:Array Bool):Sub L L:=fun _ h=>h
theorem Sub.rV {L L':Array Bool} {j:Nat} (h:Sub (L.setIfInBounds j true) L'):Sub L L':=fun k hk=>h k (by
 by_cases e:j=k
 ·subst e
  rcases Nat.lt_or_ge j L.size with h' | h'
  ·simp [h']
  ·simp [h']
 ·rw [getD_set_ne true e];exact hk)
theorem D9 {i:Nat} {L L':Array Bool} (h:Sub L L') (ha:ia ops i L'=true):ia ops i L=true:=by
 rw [yT] at *
 intro k hk hd
 cases e:L.getD k true with
 | false=>rfl
 | true=>have h1:=ha k hk hd;rw [h k e] at h1;cases h1
def wC (ops:Array Oper) (L:Array Bool) (rd:List (Nat×Nat)) (tc:List Nat):Bool:=rd.all fun q=>!(tc.elem q.2)||!(ia ops q.1 L)
def jG (ro:Option Nat) (P:Program) (ops:Array Oper) (Q:Exit→Act→World→Prop) (Rk:Array Bool→World→Prop):Nat→Array Bool→Act→World→Prop
 | 0,L,a,w=>Rk L w∧Region.ready .any ops L=[]∧Q .normal a w
 | fuel+1,L,a,w=>Rk L w∧(Region.ready .any ops L=[]→Q .normal a w)∧∀ i ∈ Region.ready .any ops L,wpOpIn (Fl ro) 0 P ops Q i (jG ro P ops Q Rk fuel (L.setIfInBounds i true)) a w
theorem jG.rk {Rk:Array Bool→World→Prop} {fuel:Nat} {L:Array Bool} {a:Act} {w:World} (h:jG ro P ops Q Rk fuel L a w):Rk L w:=by cases fuel<;>exact h.1
theorem jG.to {Rk:Array Bool→World→Prop}:∀ {fuel:Nat} {L:Array Bool} {a:Act} {w:World},jG ro P ops Q Rk fuel L a w→wpAnyIn (Fl ro) 0 P .any ops Q fuel L a w
 | 0,_,_,_,h=>h.2
 | _+1,_,_,_,h=>⟨h.2.1,fun i hi=>wpOpIn_mono (fun _ _ h=>jG.to h) (h.2.2 i hi)⟩
theorem yE {Rk qo:Array Bool→World→Prop} (h:∀ L w,qo L w→Rk L w):∀ {fuel:Nat} {L:Array Bool} {a:Act} {w:World},jG ro P ops Q qo fuel L a w→jG ro P ops Q Rk fuel L a w
 | 0,_,_,_,k=>⟨h _ _ k.1,k.2⟩
 | _+1,_,_,_,k=>⟨h _ _ k.1,k.2.1,fun i hi=>wpOpIn_mono (fun _ _ k=>yE h k) (k.2.2 i hi)⟩
theorem yA {Rk:Array Bool→World→Prop} {S:World→Prop} {i:Nat} {oi:Oper} {v:Value} (hi:ops[i]?=some oi) (hp:kN oi.op=true) (gG:∀ (j:Nat) (o:Oper) cs b,ops[j]?=some o→o.op≠.select cs b)
  (hQ:∀ c a w,Q (.panic c) (a.put oi.dst v) w→Q (.panic c) a w) (CL:∀ L w,ia ops i L=true→Rk L w→S w) (Bs:∀ L w,Rk (L.setIfInBounds i true) w→Rk L w):
  ∀ (fuel:Nat) (L:Array Bool) (a:Act) (w:World),
   (∀ j oj,ops[j]?=some oj→j≠i→L.getD j true=false→(∀ e ∈ oj.after,Region.binds .any e=true→e.on≠i)→oi.apart ops oj=true)→
   i ∈ Region.ready .any ops L→ia ops i L=true→lL P ops S oi v a→
   jG ro P ops Q Rk fuel (L.setIfInBounds i true) (a.put oi.dst v) w→jG ro P ops Q Rk (fuel+1) L a w:=by
 intro fuel
 induction fuel with
 | zero=>
  intro L a w _ hr dA hy H
  refine ⟨Bs _ _ H.rk,fun h=>(by rw [h] at hr;cases hr),fun j hj=>?_⟩
  by_cases fW:j=i
  ·subst fW;exact hy.wpOp hi (CL _ _ (px (rF hi hp) dA) H.rk) H
  ·have:=ready_mono hj fW
   rw [H.2.1] at this
   cases this
 | succ fuel ih=>
  intro L a w kS hr dA hy H
  refine ⟨Bs _ _ H.rk,fun h=>(by rw [h] at hr;cases hr),fun j hj=>?_⟩
  by_cases fW:j=i
  ·subst fW;exact hy.wpOp hi (CL _ _ (px (rF hi hp) dA) H.rk) H
  ·have h1:=H.2.2 j (ready_mono hj fW)
   obtain ⟨qk,oj,mz,gh⟩:=mem_ready.1 hj
   have sG:∀ e ∈ oj.after,Region.binds .any e=true→e.on≠i:=fun e he hb heq=>by
    have h1:=gh e he hb
    have h0:=(mem_ready.1 hr).1
    rw [heq] at h1
    rcases Nat.lt_or_ge i L.size with h' | h'
    ·simp [h'] at h0 h1;rw [h0] at h1;cases h1
    ·simp [Array.getElem?_eq_none h'] at h1
   have k8:=kS j oj mz fW qk sG
   obtain ⟨_,_,h3⟩:=Oper.apart_spec k8
   have h2:=yB (Y:=lL P ops S oi v) mz k8 (fun cs b=>gG j oj cs b mz)
    (fun a hy u=>by unfold lL at *;rw [execOp_put oi (fun cs b=>gG i oi cs b hi) a oj.dst u h3,wanted_put oi a oj.dst u h3];exact hy) (fun a d hy=>hy) hQ hy h1
   have vz:∀ k ok,ops[k]?=some ok→k≠i→(L.setIfInBounds j true).getD k true=false→
     (∀ e ∈ ok.after,Region.binds .any e=true→e.on≠i)→oi.apart ops ok=true:=fun k ok hk yb lh iU=>by
    refine kS k ok hk yb ?_ iU
    by_cases mq:j=k
    ·subst mq;exact qk
    ·rw [getD_set_ne true mq] at lh;exact lh
   refine wpOpIn_mono (fun a' w' h3=>ih (L.setIfInBounds j true) a' w' vz (ready_mono hr (Ne.symm fW)) (px (I8 mz sG) dA) h3.1 ?_) h2
   rw [Array.setIfInBounds_comm _ _ fW]
   exact h3.2
def Kx (ops:Array Oper) (K0:World→Prop) (I:ak) (F:Nat→ak) (rd:List (Nat×Nat)) (L:Array Bool) (w:World):Prop:=(K0 w∧Holds w I)∧∀ q ∈ rd,ia ops q.1 L=true→Holds w (F q.2)
def jl (P:Program) (T:aN) (cl:fi) (sz:Nat) (ops:Array Oper) (oc:List (Nat×aU)):Nat→Array Bool→List (Nat×Nat)→RS→Option RS
 | 0,L,_,s=>(match qF ops L with | .fin=>some s | _=>none)
 | fuel+1,L,rd,⟨vc,E,M,tc,mv⟩=>
  match qF ops L with
  | .fin=>some ⟨vc,E,M,tc,mv⟩
  | .bad=>none
  | .look i=>(match ops[i]? with
   | some o=>(bif fP sz o.dst&&(kN o.op&&ia ops i L) then (match lW sz ops E o.guard with
    | some true=>(match step P T cl E M (l4 oc i) o.op with
     | some ⟨mw,av,_,_,_,some jW⟩=>jl P T cl sz ops oc fuel (L.setIfInBounds i true) (jW.map (fun u=>(i,u))++rd) ⟨vc++mw,gF E o.dst av,M,tc,mv⟩
     | _=>none)
    | some false=>jl P T cl sz ops oc fuel (L.setIfInBounds i true) rd ⟨vc,gF E o.dst (.d (.v undef)),M,tc,mv⟩
    | none=>none) else none)
   | none=>none)
  | .one i=>(match ops[i]? with
   | some o=>(bif fP sz o.dst then (match lW sz ops E o.guard with
    | some true=>(match step P T cl E M (l4 oc i) o.op with
     | some out=>(bif wC ops (L.setIfInBounds i true) rd out.tc&&Nat.ble M.length out.M.length then jl P T cl sz ops oc fuel (L.setIfInBounds i true) rd ⟨vc++out.vc,gF (oB out.mv E) o.dst out.av,out.M,out.tc++tc,out.mv++mv⟩ else none)
     | none=>none)
    | some false=>jl P T cl sz ops oc fuel (L.setIfInBounds i true) rd ⟨vc,gF E o.dst (.d (.v undef)),M,tc,mv⟩
    | none=>none) else none)
   | none=>none)
theorem nO {L:Array Bool}:∀ {r:List Nat} {i:Nat},lG ops L r=some i→i ∈ r∧∃ o,ops[i]?=some o∧Region.free .any ops L i=true
 | [],_,h=>by simp [lG] at h
 | j::r,i,h=>by
  unfold lG at h
  split at h
  ·rename_i o ho
   cases hc:(kN o.op&&Region.free .any ops L j) with
   | true=>simp only [hc,cond_true,Option.some.injEq] at h;subst h;simp only [Bool.and_eq_true] at hc;exact ⟨List.mem_cons_self,o,ho,hc.2⟩
   | false=>simp only [hc,cond_false] at h;exact ⟨List.mem_cons_of_mem _ (nO h).1,(nO h).2⟩
  ·exact ⟨List.mem_cons_of_mem _ (nO h).1,(nO h).2⟩
theorem uH {L:Array Bool} {r:List Nat} {n:qE}:ql ops L r=n→match n with | .fin=>r=[] | .look i=>i ∈ r∧∃ o,ops[i]?=some o∧Region.free .any ops L i=true | .one i=>r=[i] | .bad=>True:=by
 intro h
 match r,h with
 | [],h=>simp only [ql] at h;subst h;rfl
 | [i],h=>simp only [ql] at h;subst h;rfl
 | i::k::r,h=>
  rw [ql] at h
  cases hf:lG ops L (i::k::r) with
  | some j=>rw [hf] at h;subst h;exact nO hf
  | none=>rw [hf] at h;subst h;trivial
theorem Au {L:Array Bool} (h:qF ops L=.fin):Region.ready .any ops L=[]:=uH h
theorem Gi {L:Array Bool} {i:Nat} (h:qF ops L=.look i):i ∈ Region.ready .any ops L∧∃ o,ops[i]?=some o∧Region.free .any ops L i=true:=uH h
theorem HF {L:Array Bool} {i:Nat} (h:qF ops L=.one i):Region.ready .any ops L=[i]:=uH h
theorem uI {oc:List (Nat×aU)}:∀ (fuel:Nat) (L:Array Bool) (rd:List (Nat×Nat)) (s:RS) {s':RS},jl P T cl sz ops oc fuel L rd s=some s'→a8 s'.vc→a8 s.vc:=by
 intro fuel
 induction fuel with
 | zero=>
  intro L rd s s' h hv
  unfold jl at h
  split at h
  ·simp only [Option.some.injEq] at h;subst h;exact hv
  ·simp at h
 | succ fuel ih=>
  intro L rd s s' h hv
  obtain ⟨vc,E,M,tc,mv⟩:=s
  unfold jl at h
  split at h
  ·simp only [Option.some.injEq] at h;subst h;exact hv
  ·simp at h
  ·rename_i i _
   split at h
   ·rename_i o ho
    cases hd:(fP sz o.dst&&(kN o.op&&ia ops i L)) with
    | false=>simp [hd] at h
    | true=>
     simp only [hd,cond_true] at h
     split at h
     ·split at h
      ·exact (a8.app.1 (ih _ _ _ h hv)).1
      ·simp at h
     ·have:=ih _ _ _ h hv;exact this
     ·simp at h
   ·simp at h
  ·rename_i i _
   split at h
   ·rename_i o ho
    cases hd:fP sz o.dst with
    | false=>simp [hd] at h
    | true=>
     simp only [hd,cond_true] at h
     split at h
     ·split at h
      ·rename_i out _
       cases hc:(wC ops (L.setIfInBounds i true) rd out.tc&&Nat.ble M.length out.M.length) with
       | false=>simp [hc] at h
       | true=>simp only [hc,cond_true] at h;exact (a8.app.1 (ih _ _ _ h hv)).1
      ·simp at h
     ·have:=ih _ _ _ h hv;exact this
     ·simp at h
   ·simp at h
theorem HG (hT:aY P T=true) (cx:iO P cl) {b:ek} (hK:∀ w,Kp D w0 w→K0 w) (gG:Region.noSelect ops=true) (hQ:∀ d v c a w,Q (.panic c) (Act.put a d v) w→Q (.panic c) a w) {oc:List (Nat×aU)}:
  ∀ (fuel:Nat) (L:Array Bool) (rd:List (Nat×Nat)) (s:RS) {s':RS} (Rk:Array Bool→World→Prop) (β:Beta) (F:Nat→ak) (I:ak) (a:Act) (w:World),jl P T cl sz ops oc fuel L rd s=some s'→a.tmps.size=sz→Mk mk a.defers I→b.m≤s.M.length→RM D w0 K0 s.M β F I w→Since b s.mv s.tc β F I→
   (∀ t v,bV s.E t=some v→aw (fun w=>K0 w∧Holds w I) β v (a.eval (.tmp t)))→(∀ q ∈ rd,q.2<s.M.length)→(∀ L' w,Sub L L'→Kx ops K0 I F rd L' w→Rk L' w)→(∀ (j:Nat) oj,ops[j]?=some oj→kN oj.op=true→∀ L' w,Rk (L'.setIfInBounds j true) w→Rk L' w)→a8 s'.vc→(∀ a' w',cY mk D w0 K0 sz b s' a' w'→Q .normal a' w')→jG ro P ops Q Rk fuel L a w:=by
 intro fuel
 induction fuel with
 | zero=>
  intro L rd s s' Rk β F I a w h size defers hm Rm b8 hs du fH nA hv k
  obtain ⟨vc,E,M,tc,mv⟩:=s
  have C:Ctx D w0 K0 E M β F I a.eval w:=⟨Rm,hs,fun _=>rfl,fun _=>rfl,fun _=>rfl,hK⟩
  have hR:=fH L w (Sub.refl L) ⟨C.now,fun q hq _=>C.rm.iB (List.getElem?_eq_getElem (du q hq))⟩
  unfold jl at h
  split at h
  ·rename_i hn
   simp only [Option.some.injEq] at h;subst h
   exact ⟨hR,Au hn,k a w ⟨size,I,defers,hm,β,F,Rm,b8,hs⟩⟩
  ·simp at h
 | succ fuel ih=>
  intro L rd s s' Rk β F I a w h size defers hm Rm b8 hs du fH nA hv k
  obtain ⟨vc,E,M,tc,mv⟩:=s
  dsimp only at hm Rm b8 hs du fH
  have C:Ctx D w0 K0 E M β F I a.eval w:=⟨Rm,hs,fun _=>rfl,fun _=>rfl,fun _=>rfl,hK⟩
  have hR:=fH L w (Sub.refl L) ⟨C.now,fun q hq _=>C.rm.iB (List.getElem?_eq_getElem (du q hq))⟩
  unfold jl at h
  split at h
  ·rename_i hn
   simp only [Option.some.injEq] at h;subst h
   have hn:=Au hn
   exact ⟨hR,fun _=>k a w ⟨size,I,defers,hm,β,F,Rm,b8,hs⟩,fun i hi=>by rw [hn] at hi;cases hi⟩
  ·simp at h
  ·rename_i i hn
   obtain ⟨qG,o',M8,kS⟩:=Gi hn
   split at h
   ·rename_i o ho
    cases s5:(fP sz o.dst&&(kN o.op&&ia ops i L)) with
    | false=>simp [s5] at h
    | true=>
     simp only [s5,cond_true] at h
     simp only [Bool.and_eq_true] at s5
     obtain ⟨hd,qH,dA⟩:=s5
     have nq:=fun j oj hj jq lh iU=>Region.free_spec ho kS j oj hj jq lh iU
     split at h
     ·rename_i hw
      have eE:=j5 (ops:=ops) size hs hw
      split at h
      ·rename_i mw av _ _ _ jW bq
       have nB:=n5 (P:=P) hT cx (d:=o.dst) (ty:=o.type) (pos:=o.pos) (aft:=o.after) (gd:=o.guard) bq
       obtain ⟨xn,rfl,-,aM⟩:=nB
       have kY:=(a8.app.1 (uI _ _ _ _ h hv)).2
       obtain ⟨v,kW,kT⟩:=xn C kY
       obtain ⟨e1,e2,e3⟩:=RE.put (E:=E) size defers hs hd kW
       have ke:=ih (L.setIfInBounds i true) _ _ (fun L w=>Rk L w∧(ia ops i L=true→ic K0 I F jW w)) β F I (a.put o.dst v) w h e1 e2 hm Rm b8 e3 (fun q hq=>by
         rcases List.mem_append.1 hq with e | e
         ·obtain ⟨u,hu,rfl⟩:=List.mem_map.1 e;exact aM u hu
         ·exact du q e)
        (fun L' w hL hw=>⟨fH L' w hL.rV ⟨hw.1,fun q hq=>hw.2 q (List.mem_append_right _ hq)⟩,fun ha=>⟨hw.1,fun u hu=>hw.2 (i,u) (List.mem_append_left _ (List.mem_map.2 ⟨u,hu,rfl⟩)) ha⟩⟩)
        (fun j oj hj CM L' w hw=>⟨nA j oj hj CM L' w hw.1,fun ha=>hw.2 (px (rF hj CM) ha)⟩) hv k
       exact yE (fun L w hw=>hw.1) (yA ho qH (Region.noSelect_spec gG) (hQ o.dst v) (fun L w ha hw=>hw.2 ha) (fun L w hw=>⟨nA i o ho qH L w hw.1,fun ha=>hw.2 (px (rF ho qH) ha)⟩) _ L a w nq qG dA (Or.inl ⟨eE,fun w' dS=>kT w' dS⟩) ke)
      ·simp at h
     ·rename_i hw
      have eE:=j5 (ops:=ops) size hs hw
      obtain ⟨e1,e2,e3⟩:=RE.put (E:=E) size defers hs hd (.d (.v undef))
      have ke:=ih (L.setIfInBounds i true) _ _ Rk β F I (a.put o.dst undef) w h e1 e2 hm Rm b8 e3 du (fun L' w hL=>fH L' w hL.rV) nA hv k
      exact yA (S:=fun _=>True) ho qH (Region.noSelect_spec gG) (hQ o.dst undef) (fun _ _ _ _=>trivial) (nA i o ho qH) _ L a w nq qG dA (Or.inr ⟨eE,rfl⟩) ke
     ·simp at h
   ·simp at h
  ·rename_i i hn
   have dz:=HF hn
   split at h
   ·rename_i o ho
    cases hd:fP sz o.dst with
    | false=>simp [hd] at h
    | true=>
     simp only [hd,cond_true] at h
     refine ⟨hR,fun h0=>(by rw [dz] at h0;simp at h0),fun j hj=>?_⟩
     rw [dz] at hj
     obtain rfl:=List.mem_singleton.1 hj
     unfold wpOpIn
     simp only [ho]
     split at h
     ·rename_i hw
      have eE:=j5 (ops:=ops) size hs hw
      simp only [eE,if_true]
      split at h
      ·rename_i out bq
       cases hc:(wC ops (L.setIfInBounds j true) rd out.tc&&Nat.ble M.length out.M.length) with
       | false=>simp [hc] at h
       | true=>
        simp only [hc,cond_true] at h
        simp only [Bool.and_eq_true] at hc
        have hlen:=Nat.le_of_ble_eq_true hc.2
        have kY:=(a8.app.1 (uI _ _ _ _ h hv)).2
        have nB:=(n5 (P:=P) hT cx (d:=o.dst) (ty:=o.type) (pos:=o.pos) (aft:=o.after) (gd:=o.guard) bq).oT C kY
        refine aT.wp nB ?_
        rintro v w' ⟨az,F',I',R',e,hI,hF,my⟩
        have hk:=tZ (ρ:=a.eval) e hs
        obtain ⟨e1,e2,e3⟩:=RE.put size (defers.grow hI) (fun t v hx=>(hk t v hx).mono (fun w hw=>⟨hw.1,hI.holds w hw.2⟩) (Ext.refl _)) hd my
        refine ih (L.setIfInBounds j true) _ _ Rk az F' I' (a.put o.dst v) w' h e1 e2 (Nat.le_trans hm hlen) R' (b8.step hm e hI hF) e3 (fun q hq=>Nat.lt_of_lt_of_le (du q hq) hlen) (fun L' w hL hw=>fH L' w hL.rV ⟨⟨hw.1.1,hI.holds w hw.1.2⟩,fun q hq ha=>?_⟩) nA hv k
        have yc:q.2 ∉ out.tc:=by
         have h1:=List.all_eq_true.1 hc.1 q hq
         rw [D9 hL ha] at h1
         simpa using h1
        rw [← hF q.2 (du q hq) yc];exact hw.2 q hq ha
      ·simp at h
     ·rename_i hw
      have eE:=j5 (ops:=ops) size hs hw
      simp only [eE,Bool.false_eq_true,if_false]
      obtain ⟨e1,e2,e3⟩:=RE.put (E:=E) size defers hs hd (.d (.v undef))
      exact ⟨fun _ _=>trivial,ih (L.setIfInBounds j true) _ _ Rk β F I (a.put o.dst undef) w h e1 e2 hm Rm b8 e3 du (fun L' w hL=>fH L' w hL.rV) nA hv k⟩
     ·simp at h
   ·simp at h
theorem LR (hT:aY P T=true) (cx:iO P cl) (hm:P.follows .mixedOrders=true) (hK:∀ w,Kp D w0 w→K0 w) (hQ:∀ d v c a w,Q (.panic c) (Act.put a d v) w→Q (.panic c) a w) {b:ek} {s:RS} (R:cY mk D w0 K0 sz b s a w) (oc:List (Nat×aU)) {id:Nat} {s':RS} (gG:Region.noSelect ops=true)
  (h:jl P T cl sz ops oc ops.size (Array.replicate ops.size false) [] s=some s') (hv:a8 s'.vc) (k:∀ a' w',cY mk D w0 K0 sz b s' a' w'→Q .normal a' w'):(Code.region id ops true).wpIn (Fl ro) 0 P Q a w:=by
 refine wpIn_region_any hm ?_
 obtain ⟨size,I,defers,hb,β,F,Rm,b8,hs⟩:=R
 have hg:=Gr.drew w
 exact (HG hT cx hK gG hQ ops.size _ [] s (fun _ _=>True) β F I a w.drew h size defers hb (Rm.gr hg) b8 hs (by simp) (fun _ _ _ _=>trivial) (fun _ _ _ _ _ _ _=>trivial) hv k).to
end Go.Proofs.YtcnpikbbmbombaaGreatDoor
namespace Go.Proofs.YtcnpikbbmbombaaGreatDoor
open Go.RowKit
inductive eX where
 | ends (R:Ending→World→Prop)
 | arr (l:Nat) (k:List Item) (Q:Act→World→Prop)
def eX.ro:eX→Option Nat
 | .ends _=>none
 | .arr l _ _=>some l
def eX.met (P:Program) (f:FuncId) (b:Frame) (cs:List Frame):eX→Machine→Prop
 | .ends R,s=>∃ e w' fr,R e w'∧Comes P s (lone fr cs w') e∧fr.fn=f∧fr.leaving P w' e
 | .arr _ k Q,s=>∃ a' w',Q a' w'∧Steps P s (lone (b.atR a' k) cs w')
theorem eX.met.of {P:Program} {f:FuncId} {b:Frame} {cs:List Frame} {G:eX} {s s':Machine} (h:Steps P s s') (g:G.met P f b cs s'):G.met P f b cs s:=by
 cases G with
 | ends R=>obtain ⟨e,w',fr,h1,h2,h3⟩:=g;exact ⟨e,w',fr,h1,.of_steps h h2,h3⟩
 | arr l k Q=>obtain ⟨a',w',h1,h2⟩:=g;exact ⟨a',w',h1,h.trans h2⟩
def aD (P:Program) (f:FuncId) (todo:List Item) (R:eX) (a:Act) (w:World):Prop:=
 ∀ (b:Frame) (cs:List Frame),b.fn=f→b.kind=.normal→b.roundOf=R.ro→R.met P f b cs (lone (b.atR a todo) cs w)
section
variable {mk:Bool} {P:Program} {f:FuncId} {R:eX} {Re:Ending→World→Prop} {a a':Act} {w w':World} {todo todo':List Item}
theorem aD.step (h:∀ (b:Frame) cs,Go.step P (lone (b.atR a todo) cs w)=.next (lone (b.atR a' todo') cs w')) (g:aD P f todo' R a' w'):aD P f todo R a w:=
 fun b cs hb hk hr=>(g b cs hb hk hr).of (.one (h b cs))
theorem aD.code {c:Code} {k:List Item} (h:c.wpIn (Fl R.ro) 0 P (fun e a w=>e=.normal∧aD P f k R a w) a w):aD P f (.code c::k) R a w:=by
 intro b cs hb hk hr
 obtain ⟨e,a1,w1,⟨rfl,hg⟩,LU⟩:=h b k cs hr trivial (fun d hd=>by cases hd)
 exact (hg b cs hb hk hr).of (stepsIn_wide.1 LU)
theorem aD.ret {fn:Func} {k:List Item} (hf:P.funcs[f]?=some fn) (hd:a.defers=[]) {v:Value} (hr:(results fn a.tmps).run P w=.ok v w) (h:Re (.returned v) w):aD P f (.code .ret::k) (.ends Re) a w:=by
 intro b cs hb hk lj
 rw [Frame.atR_of_none lj]
 exact ⟨.returned v,w,{ b.at a (.code .ret::k) with mode:=.returning },h,.of_steps (.one step_ret) (Steps.refl P _),hb,rfl,hd,hk,fn,by rw [← hb] at hf;exact hf,hr⟩
theorem aD.fin {fn:Func} (hf:P.funcs[f]?=some fn) (hd:a.defers=[]) {v:Value} (hr:(results fn a.tmps).run P w=.ok v w) (h:Re (.returned v) w):aD P f [] (.ends Re) a w:=by
 intro b cs hb hk lj
 rw [Frame.atR_of_none lj]
 exact ⟨.returned v,w,{ b.at a [] with mode:=.returning },h,.of_steps (.one step_end) (Steps.refl P _),hb,rfl,hd,hk,fn,by rw [← hb] at hf;exact hf,hr⟩
theorem aD.AT {l:Nat} {k:List Item} {Q:Act→World→Prop} (h:Q a w):aD P f k (.arr l k Q) a w:=fun _ _ _ _ _=>⟨a,w,h,Steps.refl P _⟩
theorem po {fn:Func} {c:Code} {args:Array Value} (hf:P.funcs[f]?=some fn) (hb:fn.body=some c) (h:aD P f [.code c] (.ends Re) { tmps:=args++Array.replicate (fn.ntmps-args.size) undef,defers:=[] } w):Calls P f args w Re:=by
 intro cs
 let b:Frame:={ (default:Frame) with fn:=f,kind:=.normal,roundOf:=none }
 have I9:Frame.enter P f args .normal=b.atR { tmps:=args++Array.replicate (fn.ntmps-args.size) undef,defers:=[] } [.code c]:=by
  simp [Frame.enter,Frame.atR,hf,hb,b]
 rw [I9]
 exact h b cs rfl rfl rfl
theorem aD.loop {c:Code} {k:List Item} (h:aD P f (.code c::.inLoop c::k) R a w):aD P f (.code (.loop c)::k) R a w:=aD.step (fun _ _=>stepR_loop) h
theorem aD.again {c:Code} {k:List Item} (h:aD P f (.code c::.inLoop c::k) R a w):aD P f (.inLoop c::k) R a w:=aD.step (fun _ _=>stepR_inLoop) h
theorem aD.rounds {Φ:Nat→Act→World→Prop} (n:Nat) (h:∀ i,i≤n→(i<n→∀ a w,Φ (i+1) a w→aD P f todo R a w)→∀ a w,Φ i a w→aD P f todo R a w) {i:Nat} (hi:i≤n) (h0:Φ i a w):aD P f todo R a w:=by
 have key:∀ m i,i≤n→n-i=m→∀ a w,Φ i a w→aD P f todo R a w:=by
  intro m
  induction m with
  | zero=>intro i hi hm;exact h i hi fun aM=>by omega
  | succ m ih=>intro i hi hm;exact h i hi fun aM=>ih (i+1) aM (by omega)
 exact key _ i hi rfl a w h0
end
abbrev di:=List (Nat×List (Nat×aU))
def xo:di→Nat→List (Nat×aU)
 | [],_=>[]
 | (k,v)::r,s=>bif k.beq s then v else xo r s
def rW (P:Program) (T:aN) (cl:fi) (sz:Nat) (ops:Array Oper) (draw:Bool) (oc:List (Nat×aU)) (s:RS):Option RS:=
 bif draw then (bif Region.noSelect ops then jl P T cl sz ops oc ops.size (Array.replicate ops.size false) [] s else none)
 else iC P T cl sz ops ops.toList 0 oc s
def dq (P:Program) (T:aN) (cl:fi) (sz:Nat) (tb:di):Nat→List Item→RS→Option (List Item×RS)
 | 0,todo,s=>some (todo,s)
 | n+1,todo,s=>
  match todo with
  | .code .skip::k=>dq P T cl sz tb n k s
  | .code (.label _)::k=>dq P T cl sz tb n k s
  | .inBlock _::k=>dq P T cl sz tb n k s
  | .code (.seq x y)::k=>dq P T cl sz tb n (.code x::.code y::k) s
  | .code (.cond c x y)::k=>(match kO (aI s.E c) with
   | some true=>dq P T cl sz tb n (.code x::k) s
   | some false=>dq P T cl sz tb n (.code y::k) s
   | none=>some (todo,s))
  | .code (.block id c)::k=>dq P T cl sz tb n (.code c::.inBlock id::k) s
  | .code (.exit id)::k=>(match exitTo id k with
   | some k'=>dq P T cl sz tb n k' s
   | none=>none)
  | .code (.region id ops draw)::k=>(match rW P T cl sz ops draw (xo tb id) s with
   | some s'=>dq P T cl sz tb n k s'
   | none=>none)
  | _=>some (todo,s)
variable {mk:Bool} {P:Program} {T:aN} {cl:fi} {f:FuncId} {R:eX} {a:Act} {w:World} {D:List Nat} {w0:World} {K0:World→Prop} {E:List (Nat×AV)} {M:List ai} {sz:Nat} {tb:di} {todo todo':List Item}
theorem ES {ops:Array Oper} {draw:Bool} {oc:List (Nat×aU)} {s s':RS} (h:rW P T cl sz ops draw oc s=some s') (hv:a8 s'.vc):a8 s.vc:=by
 unfold rW at h
 cases draw with
 | false=>simp only [cond_false] at h;exact vw _ _ _ _ h hv
 | true=>
  simp only [cond_true] at h
  cases hs:Region.noSelect ops with
  | false=>simp [hs] at h
  | true=>simp only [hs,cond_true] at h;exact uI _ _ _ _ h hv
theorem Av:∀ (n:Nat) (todo:List Item) (s:RS) {todo':List Item} {s':RS},dq P T cl sz tb n todo s=some (todo',s')→a8 s'.vc→a8 s.vc:=by
 intro n
 induction n with
 | zero=>intro todo s todo' s' h hv;simp only [dq,Option.some.injEq,Prod.mk.injEq] at h;obtain ⟨-,rfl⟩:=h;exact hv
 | succ n ih=>
  intro todo s todo' s' h hv
  unfold dq at h
  split at h
  ·exact ih _ _ h hv
  ·exact ih _ _ h hv
  ·exact ih _ _ h hv
  ·exact ih _ _ h hv
  ·split at h
   ·exact ih _ _ h hv
   ·exact ih _ _ h hv
   ·simp only [Option.some.injEq,Prod.mk.injEq] at h;obtain ⟨-,rfl⟩:=h;exact hv
  ·exact ih _ _ h hv
  ·split at h
   ·exact ih _ _ h hv
   ·simp at h
  ·split at h
   ·rename_i hr;exact ES hr (ih _ _ h hv)
   ·simp at h
  ·simp only [Option.some.injEq,Prod.mk.injEq] at h;obtain ⟨-,rfl⟩:=h;exact hv
theorem ct.bool (R:ct mk D w0 K0 sz E M a w) {c:Operand} {b:Bool} (h:kO (aI E c)=some b):a.eval c=.bool b:=by
 obtain ⟨-,I,-,β,F,Rm,hs⟩:=R
 unfold kO at h
 split at h
 ·rename_i c' hv
  simp only [Option.some.injEq] at h;subst h
  cases c with
  | tmp t=>
   have:=hs _ _ hv
   generalize a.eval (.tmp t)=y at *
   cases this with | d r=>cases r;rfl
  | const v=>simp only [aI,Option.some.injEq,AV.d.injEq,DV.v.injEq] at hv;rw [← hv];rfl
  | global g=>simp [aI] at hv
  | func f=>simp [aI] at hv
 ·simp at h
theorem ks (hT:aY P T=true) (cx:iO P cl) (hm:P.follows .mixedOrders=true) (hK:∀ w,Kp D w0 w→K0 w) {b:ek}:∀ (n:Nat) {todo:List Item} {s:RS} {a:Act} {w:World} {todo':List Item} {s':RS},dq P T cl sz tb n todo s=some (todo',s')→cY mk D w0 K0 sz b s a w→a8 s'.vc→(∀ a' w',cY mk D w0 K0 sz b s' a' w'→aD P f todo' R a' w')→aD P f todo R a w:=by
 intro n
 induction n with
 | zero=>intro todo s a w todo' s' h r hv k;simp only [dq,Option.some.injEq,Prod.mk.injEq] at h;obtain ⟨rfl,rfl⟩:=h;exact k a w r
 | succ n ih=>
  intro todo s a w todo' s' h r hv k
  unfold dq at h
  split at h
  ·exact aD.step (fun _ _=>stepR_skip) (ih h r hv k)
  ·exact aD.step (fun _ _=>stepR_label) (ih h r hv k)
  ·exact aD.step (fun _ _=>stepR_inBlock) (ih h r hv k)
  ·exact aD.step (fun _ _=>stepR_seq) (ih h r hv k)
  ·split at h
   ·rename_i hb;exact aD.step (fun _ _=>stepR_cond (r.re.bool hb)) (ih h r hv k)
   ·rename_i hb;exact aD.step (fun _ _=>stepR_cond (r.re.bool hb)) (ih h r hv k)
   ·simp only [Option.some.injEq,Prod.mk.injEq] at h;obtain ⟨rfl,rfl⟩:=h;exact k a w r
  ·exact aD.step (fun _ _=>stepR_block) (ih h r hv k)
  ·split at h
   ·rename_i hx;exact aD.step (fun _ _=>stepR_exit hx) (ih h r hv k)
   ·simp at h
  ·split at h
   ·rename_i id ops draw k0 _ s1 hr
    refine aD.code ?_
    have cZ:=Av _ _ _ h hv
    unfold rW at hr
    cases draw with
    | false=>
     simp only [cond_false] at hr
     exact LQ hT cx hK r _ hr cZ fun a' w' r'=>⟨rfl,ih h r' hv k⟩
    | true=>
     simp only [cond_true] at hr
     cases hs:Region.noSelect ops with
     | false=>simp [hs] at hr
     | true=>
      simp only [hs,cond_true] at hr
      exact LR hT cx hm hK (by rintro d v c a w ⟨h,-⟩;cases h) r _ hs hr cZ fun a' w' r'=>⟨rfl,ih h r' hv k⟩
   ·simp at h
  ·simp only [Option.some.injEq,Prod.mk.injEq] at h;obtain ⟨rfl,rfl⟩:=h;exact k a w r
theorem nC (hT:aY P T=true) (cx:iO P cl) (hm:P.follows .mixedOrders=true) (hK:∀ w,Kp D w0 w→K0 w) (n:Nat) {vc:List Prop} {s':RS} (h:dq P T cl sz tb n todo ⟨vc,E,M,[],[]⟩=some (todo',s')) (r:ct mk D w0 K0 sz E M a w) (hv:a8 s'.vc) (k:∀ a' w',ct mk D w0 K0 sz s'.E s'.M a' w'→aD P f todo' R a' w'):aD P f todo R a w:=
 let ⟨_,rb⟩:=r.b vc
 ks hT cx hm hK n h rb hv fun a' w' r'=>k a' w' r'.re
end Go.Proofs.YtcnpikbbmbombaaGreatDoor
