/-
  scriptPrints_card, part 2 of 7: merged by program from the texts that it needs.
-/
import Derived.Test.YtcnpikbbmbombaaGreatDoorSrA
set_option linter.unusedSimpArgs false
set_option linter.unusedVariables false
set_option linter.unnecessarySimpa false
namespace Go.Proofs.YtcnpikbbmbombaaGreatDoor
open Go.RowKit
variable {P:Program} {T:aP} {D:List Nat} {w0:World} {K0:World→Prop} {E:List (Nat×AV)} {M:List ai} {β:Beta} {F:Nat→ak} {I X:ak} {ρ:Operand→Value} {w:World}
variable {d:Option Tmp} {ty:TypeId} {pos:String} {aft:Array Edge} {gd:Option (Nat×Bool)} {oc:Option aX} {out:Out}
def ae (l:List UInt8):List (List DV):=l.map fun b=>[.v (.int .u8 (b.toNat:Int))]
theorem zM {K:World→Prop} {l:List UInt8} {X:Nat→List Value} {G:Nat→Nat→ak} (h:dt K 1 (ae l) X G):lay (ae l).length X=l.map fun b:UInt8=>.int .u8 b.toNat:=by
 have hl:(ae l).length=l.length:=by simp [ae]
 have hX:∀ i,i<(ae l).length→(X i).length=1:=fun i hi=>(h.hl i _ (List.getElem?_eq_getElem hi)).2
 apply List.ext_getElem?
 intro p
 have hC:=eu hX
 rcases Nat.lt_or_ge p l.length with hp | hp
 ·have C7:p<(ae l).length:=by omega
  have hg:=j4 hX C7 (show 0<1 by omega)
  rw [Nat.mul_one,Nat.add_zero] at hg
  have b9:(ae l)[p]?=some [.v (.int .u8 (l[p].toNat:Int))]:=by simp [ae,List.getElem?_eq_getElem hp]
  obtain ⟨x,h1⟩:∃ x,(X p)[0]?=some x:=⟨(X p)[0]'(by rw [hX p C7];omega),List.getElem?_eq_getElem _⟩
  have hd:=h.hr p _ 0 _ _ b9 rfl h1
  generalize G p 0=GG at hd
  cases hd
  rw [hg,h1,List.getElem?_map,List.getElem?_eq_getElem hp];rfl
 ·rw [List.getElem?_eq_none (by omega),List.getElem?_eq_none (by simp;omega)]
def xB (T:aP) (E:List (Nat×AV)) (M:List ai) (oc:Option aX) (t t':TypeId) (x:Operand):Option Out:=
 match iX T t,cV T t',oc with
 | some (e,_,_,_),some .st,some (.res (.v (.string s)))=>(match cV T e,aI E x with
  | some (.it .u8),some (.d (.ro k rows))=>bif Nat.beq k 1 then some (lk [rows=ae s.data.toList] (.d (.v (.string s))) M) else none
  | some (.it .u8),some (.sl u n)=>(match M[u]? with | some (.rw _ k rows)=>bif Nat.beq k 1 then some ⟨[n=rows.length,rows=ae s.data.toList],.d (.v (.string s)),M,[],[],some [u]⟩ else none | _=>none)
  | _,_=>none)
 | _,_,_=>none
theorem Ia (hT:aZ P T=true) {t t':TypeId} {x:Operand} (h:xB T E M oc t t' x=some out):aJ P ⟨d,.convert t t' x,ty,pos,aft,gd⟩ E M out:=by
 unfold xB at h
 split at h
 ·rename_i e _ _ _ s he bB
  obtain ⟨zv,ok,-,-⟩:=kF hT he
  split at h
  ·rename_i k rows qW hx
   cases hk:Nat.beq k 1 with
   | false=>simp [hk] at h
   | true=>
    simp only [hk,cond_true,Option.some.injEq] at h;subst h
    obtain rfl:=Nat.eq_of_beq_eq_true hk
    refine aJ.same ?_
    intro D w0 K0 β F I ρ w C hv
    obtain ⟨rfl,-⟩:=hv
    have r:=C.ev hx
    generalize hy:ρ x=y at r
    cases r with | d r=>
    cases r with
    | ro X hl iV hs hr=>
     refine ⟨_,fun w' dC=>rV (.of fun _=>⟨_,rfl⟩) (zi (l:=s.data.toList) ok.bB (cH hT qW) (cH hT bB) hy ?_ ⟨rfl,rfl⟩),.d (.v _)⟩
     have:=hs w' dC
     rw [zM (G:=fun _ _=>[]) ⟨hl,hr⟩] at this
     simpa [ae] using this
  ·rename_i u n qW hx
   split at h
   ·rename_i T2 k rows hM
    cases hk:Nat.beq k 1 with
    | false=>simp [hk] at h
    | true=>
     simp only [hk,cond_true,Option.some.injEq] at h;subst h
     obtain rfl:=Nat.eq_of_beq_eq_true hk
     refine aJ.look ?_ (by simpa using ff hM)
     intro D w0 K0 β F I ρ w C hv
     obtain ⟨rfl,rfl,-⟩:=hv
     obtain ⟨X,G,H0,hF,dO,ra,hH⟩:=mh C.rm hM rfl (C.ev hx)
     refine ⟨_,.d (.v _),fun w' dC=>rV (.of fun _=>⟨_,rfl⟩) (zi (l:=s.data.toList) ok.bB (cH hT qW) (cH hT bB) rfl ?_ ⟨rfl,rfl⟩)⟩
     have C8:Holds w' (F u):=dC.2 u (by simp)
     rw [hF] at C8
     have:=dO.src (Holds.app.1 C8).1
     rw [zM ra] at this
     simpa [ae] using this
   ·simp at h
  ·simp at h
 ·simp at h
def oX (P:Program) (t:TypeId):Bool:=match P.underlying t with | some .bool=>true | _=>false
theorem zk {t:TypeId} (h:oX P t=true) (a b:Bool) (w:World):(Op.equal t (.bool a) (.bool b)).run P w=.ok (a==b) w:=by
 unfold oX at h
 split at h
 ·rename_i hu
  have:∀ m,(Op.equalIn (m+1) t (.bool a) (.bool b)).run P w=.ok (a==b) w:=by intro m;simp [Op.equalIn,Sem.run_bind,run_underlying hu]
  exact this 9999
 ·simp at h
def wF (P:Program) (E:List (Nat×AV)) (M:List ai) (oc:Option aX) (op:BinOp) (t:TypeId) (x y:Operand):Option Out:=
 match ln (aI E x),ln (aI E y),op with
 | some a,some b,.eql=>bif oX P t then some (lq oc (a==b) M) else none
 | some a,some b,.neq=>bif oX P t then some (lq oc (!(a==b)) M) else none
 | _,_,_=>none
theorem GC {op:BinOp} {t t':TypeId} {x y:Operand} (h:wF P E M oc op t x y=some out):aJ P ⟨d,.binOp op t x y t',ty,pos,aft,gd⟩ E M out:=by
 unfold wF at h
 split at h
 ·rename_i a b ha yp
  cases hb:oX P t with
  | false=>simp [hb] at h
  | true=>
   simp only [hb,cond_true,Option.some.injEq] at h;subst h
   exact ns (.of fun _=>⟨_,rfl⟩) fun C w Φ aG=>.pure (v:=.bool (a==b)) (by simp [execOp,C.bool ha,C.bool yp,eqGuard,binOp,zk hb]) aG
 ·rename_i a b ha yp
  cases hb:oX P t with
  | false=>simp [hb] at h
  | true=>
   simp only [hb,cond_true,Option.some.injEq] at h;subst h
   exact ns (.of fun _=>⟨_,rfl⟩) fun C w Φ aG=>.pure (v:=.bool (!(a==b))) (by simp [execOp,C.bool ha,C.bool yp,eqGuard,binOp,zk hb]) aG
 ·simp at h
def wG (T:aP) (E:List (Nat×AV)) (M:List ai) (oc:Option aX) (op:BinOp) (t:TypeId) (x y:Operand):Option Out:=
 match op,cV T t,y,aI E x with
 | .eql,some (.sl _),.const (.slice none 0 0),some (.d (.v (.slice a _ _)))=>some (lq oc a.isNone M)
 | .eql,some (.sl _),.const (.slice none 0 0),some (.d (.ro _ rows))=>some (lk [0<rows.length] (.b false) M)
 | .eql,some (.sl _),.const (.slice none 0 0),some (.sl u n)=>(match M[u]? with | some (.rw _ _ rows)=>some ⟨[n=rows.length,0<n],.b false,M,[],[],some [u]⟩ | _=>none)
 | _,_,_,_=>none
theorem GD (hT:aZ P T=true) {op:BinOp} {t t':TypeId} {x y:Operand} (h:wG T E M oc op t x y=some out):aJ P ⟨d,.binOp op t x y t',ty,pos,aft,gd⟩ E M out:=by
 unfold wG at h
 split at h
 ·rename_i e a n c hu hx
  simp only [Option.some.injEq] at h;subst h
  refine ns (.of fun _=>⟨_,rfl⟩) ?_
  intro D w0 K0 β F I ρ w' C w Φ aG
  have r:=C.ev hx
  generalize hy:ρ x=y at r
  cases r with | d r=>cases r;exact tU (cH hT hu) hy (C.const _) rfl aG
 ·rename_i e k rows hu hx
  simp only [Option.some.injEq] at h;subst h
  refine j7 (.of fun _=>⟨_,rfl⟩) ?_
  intro D w0 K0 β F I ρ w' C hv
  obtain ⟨nK,-⟩:=hv
  have r:=C.ev hx
  generalize hy:ρ x=y at r
  cases r with | d r=>
  cases r with
  | ro X hl iV hs hr=>
   obtain ⟨a,c,tz,-⟩:=(hs _ C.now).row nK
   exact ⟨_,.d (.v _),fun w Φ aG=>tU (cH hT hu) (hy.trans tz) (C.const _) rfl aG⟩
 ·rename_i e u n hu hx
  split at h
  ·rename_i T2 k rows hM
   simp only [Option.some.injEq] at h;subst h
   refine aJ.look ?_ (by simpa using ff hM)
   intro D w0 K0 β F I ρ w C hv
   obtain ⟨hn,nK,-⟩:=hv
   obtain ⟨X,G,H0,hF,dO,ra,hH⟩:=mh C.rm hM hn (C.ev hx)
   obtain ⟨b,cap,cs,fz,yq,-⟩:=dO.block nK
   exact ⟨_,.d (.v _),fun w' _=>rV (.of fun _=>⟨_,rfl⟩) (tU (cH hT hu) yq (C.const _) rfl ⟨rfl,rfl⟩)⟩
  ·simp at h
 ·simp at h
def vD (T:aP) (E:List (Nat×AV)) (M:List ai) (t t':TypeId) (x:Operand):Option Out:=
 bif Nat.beq t t' then (match iX T t with
 | some (e,k,_,_)=>(match cV T e,aI E x with
  | some (.it .u8),some (.sl u n)=>(match M[u]? with
   | some (.rw e' k' rows)=>bif Nat.beq e e'&&Nat.beq k k'&&rows.all (fun r=>r.all DV.cp) then some ⟨[n=rows.length,0<n],.d (.ro k rows),M.set u .dead,[u],[],none⟩ else none
   | _=>none)
  | _,_=>none)
 | none=>none) else none
theorem Fm (hT:aZ P T=true) {t t':TypeId} {x:Operand} (h:vD T E M t t' x=some out):aJ P ⟨d,.convert t t' x,ty,pos,aft,gd⟩ E M out:=by
 unfold vD at h
 cases yr:Nat.beq t t' with
 | false=>simp [yr] at h
 | true=>
  simp only [yr,cond_true] at h
  obtain rfl:=Nat.eq_of_beq_eq_true yr
  split at h
  ·rename_i e k _ _ he
   obtain ⟨zv,ok,-,-⟩:=kF hT he
   split at h
   ·rename_i u n qW hx
    split at h
    ·rename_i e' k' rows hM
     cases hc:(Nat.beq e e'&&Nat.beq k k'&&rows.all fun r=>r.all DV.cp) with
     | false=>simp [hc] at h
     | true=>
      simp only [hc,cond_true,Option.some.injEq] at h;subst h
      simp only [Bool.and_eq_true] at hc
      obtain rfl:=Nat.eq_of_beq_eq_true hc.1.1
      obtain rfl:=Nat.eq_of_beq_eq_true hc.1.2
      intro D w0 K0 β F I ρ w C hv
      obtain ⟨hn,nK,-⟩:=hv
      obtain ⟨X,G,H0,hF,dO,ra,hH⟩:=mh C.rm hM hn (C.ev hx)
      obtain ⟨b,cap,cs,fz,yq,rfl,ey,cF,hle,sH⟩:=dO.block nK
      have R1:=C.rm.x.fo hM
      rw [hF,List.nil_append] at R1
      have hb:=hH.one
      refine Ed ok.bB (cH hT qW) yq hb fun jv=>?_
      have lB:St D w0 w ((b,.cells cs e fz)::(bI n k G++((List.range (M.set u .dead).length).flatMap (aN F u [])++I))):=R1.st.perm (by classical rw [List.perm_iff_count];intro z;simp only [List.count_append,List.count_cons,List.count_nil];omega)
      have lC:=lB.set (.cells cs e jv)
      have R2:RM D w0 K0 (M.set u .dead) β (aN F u []) ([(b,.cells cs e jv)]++I) (cg w b (.cells cs e jv)):=by
       refine ⟨R1.len,fun v bl hv=>(R1.blk v bl hv).mono (fun w hw=>⟨hw.1,(Holds.app.1 hw.2).2⟩) (Ext.refl _),?_⟩
       have:=(lC.perm (K:=bI n k G++((List.range (M.set u .dead).length).flatMap (aN F u [])++([(b,.cells cs e jv)]++I))) (by classical rw [List.perm_iff_count];intro z;simp only [List.count_append,List.count_cons,List.count_nil];omega)).ma
       exact this
      refine ⟨β,_,_,R2,(Ext.refl β).b _,⟨_,rfl⟩,fun q _ hq=>by simp only [aN];rw [if_neg (by simpa using hq)],?_⟩
      refine .d (.ro X ra.hl ⟨_,_,by rw [← hn],by rw [← hn];exact hle⟩ (fun w' dC=>?_) fun i r j c x h1 h2 h3=>?_)
      ·have aS:w'.heap[b]?=some (.cells cs e jv):=(Holds.app.1 dC.2).1.one
       refine ⟨by rw [← hn];exact dO.1,Or.inr ⟨_,cap,by rw [← hn],fun j hj=>?_⟩⟩
       rw [add_eq,Nat.zero_add,cell_of aS]
       have mD:lay rows.length X=cs.toList.take (n*k):=by rw [← hn];exact sH.symm
       have key:∀ q,q=cs.toList.take (n*k)→∀ (hj:j<q.length),cs[j]?=some q[j]:=by
        intro q hq hj
        subst hq
        have gq:=hj
        simp only [List.length_take] at gq
        rw [List.getElem_take,← Array.getElem?_toList]
        exact List.getElem?_eq_getElem _
       exact key _ mD hj
      ·have:=(ra.hr i r j c x h1 h2 h3).cp (List.all_eq_true.1 (List.all_eq_true.1 hc.2 r (List.mem_of_getElem? h1)) c (List.mem_of_getElem? h2))
       exact this.mono fun w hw=>⟨hw.1,(Holds.app.1 hw.2).2⟩
    ·simp at h
   ·simp at h
  ·simp at h
theorem Fo {t:TypeId} {xs:Array Value} {o:Nat} {v:Value} (w:World) (ht:scalar P t=true) (h:xs[o]?=some v):(part t xs o).run P w=.ok v w:=by
 simp [part,Sem.run_bind,yV ht,h]
theorem Fp {t:TypeId} {xs:Array Value} {o n:Nat} (w:World) (ht:mn P t n=true):(part t xs o).run P w=.ok (.agg (xs.extract o (o+n))) w:=by
 unfold mn at ht
 simp only [Bool.and_eq_true] at ht
 obtain ⟨h1,h2⟩:=ht
 cases hu:P.underlying t with
 | none=>simp [hu] at h1
 | some u=>
  cases hi:P.info? t with
  | none=>simp [hi] at h2
  | some i=>
   simp only [hi,beq_iff_eq] at h2
   have ha:(isAgg t).run P w=.ok true w:=by cases u<;>simp [hu] at h1<;>simp [isAgg,Sem.run_bind,run_underlying hu]
   simp [part,Sem.run_bind,ha,sizeOf,typeInfo,hi,h2]
def nX (T:aP) (e:TypeId) (l:List AV) (o:Nat):Option AV:=kW T e l o
theorem vE (hT:aZ P T=true) {K:World→Prop} {e:TypeId} {l:List AV} {o:Nat} {v:AV} (h:nX T e l o=some v) {ys:List Value} (hl:ys.length=l.length) (hr:∀ (j:Nat) c y,l[j]?=some c→ys[j]?=some y→ax K β c y):
  ∃ y,ax K β v y∧∀ w:World,(part e ys.toArray o).run P w=.ok y w:=by
 unfold nX kW at h
 split at h
 ·rename_i ht
  obtain ⟨y,h1,h2⟩:=vp hl hr h
  exact ⟨y,h2,fun w=>Fo w (uP hT ht) (by simpa using h1)⟩
 ·rename_i n ht
  simp only [xm] at h
  cases hb:(o+n).ble l.length with
  | false=>simp [hb] at h
  | true=>
   simp only [hb,cond_true,Option.some.injEq] at h
   have hle:o+n≤l.length:=Nat.le_of_ble_eq_true hb
   subst h
   have he:(ys.toArray.extract o (o+n))=((ys.drop o).take n).toArray:=by
    simp [List.extract_eq_take_drop]
   refine ⟨.agg ((ys.drop o).take n).toArray,.ag _ (by simp;omega) ?_,fun w=>by rw [Fp w (zZ hT ht),he]⟩
   intro j c y h1 h2
   rw [List.getElem?_take,List.getElem?_drop] at h1 h2
   split at h1
   ·rename_i hj;rw [if_pos hj] at h2;exact hr _ _ _ h1 h2
   ·simp at h1
 ·simp at h
def xC (T:aP) (E:List (Nat×AV)) (M:List ai) (t:TypeId) (x:Operand) (f:Nat):Option Out:=
 match x5 T t f,aI E x with
 | some (o,ty),some (.ag l)=>(match nX T ty l o with | some v=>some (lk [] v M) | none=>none)
 | _,_=>none
theorem Ib (hT:aZ P T=true) {t:TypeId} {x:Operand} {f:Nat} (h:xC T E M t x f=some out):aJ P ⟨d,.field t x f,ty,pos,aft,gd⟩ E M out:=by
 unfold xC at h
 split at h
 ·rename_i o e l hf hx
  split at h
  ·rename_i v hp
   simp only [Option.some.injEq] at h;subst h
   obtain ⟨fs,q,hu,hq,rfl,rfl⟩:=Jz hT hf
   refine aJ.same ?_
   intro D w0 K0 β F I ρ w C _
   have r:=C.ev hx
   generalize hy:ρ x=y at r
   cases r with
   | ag ys hl hr=>
    obtain ⟨y,h1,h2⟩:=vE hT hp hl hr
    exact ⟨y,fun w' _=>by simp only [execOp,hy,Instr.field,Sem.run_bind,run_underlying hu,Result.andThen_ok,hq,asAgg,Sem.run_pure,h2],h1⟩
  ·simp at h
 ·simp at h
def xD (T:aP) (E:List (Nat×AV)) (M:List ai) (oc:Option aX) (t:TypeId) (x ix:Operand):Option Out:=
 match cV T t,aI E x,cL (aI E ix),oc with
 | some (.ar n e),some (.ag l),some (_,z),some (.n i)=>(match fA T e with
  | some k=>(match nX T e l (i*k) with | some v=>some (lk [z=(i:Int),i<n] v M) | none=>none)
  | none=>none)
 | _,_,_,_=>none
theorem Ic (hT:aZ P T=true) {t:TypeId} {x ix:Operand} (h:xD T E M oc t x ix=some out):aJ P ⟨d,.index t x ix,ty,pos,aft,gd⟩ E M out:=by
 unfold xD at h
 split at h
 ·rename_i n e l _ z i hu hx hz
  split at h
  ·rename_i k hk
   split at h
   ·rename_i v hp
    simp only [Option.some.injEq] at h;subst h
    have bA:∀ w:World,(sizeOf e).run P w=.ok k w:=fun w=>by
     have:=gO hT hk
     cases hi:P.info? e with
     | none=>simp [hi] at this
     | some inf=>simp only [hi,Option.map_some,Option.some.injEq] at this;simp [sizeOf,typeInfo,Sem.run_bind,hi,this]
    refine aJ.same ?_
    intro D w0 K0 β F I ρ w C hv
    obtain ⟨rfl,aO,-⟩:=hv
    have r:=C.ev hx
    have hi:=C.int hz
    generalize hy:ρ x=y at r
    cases r with
    | ag ys hl hr=>
     obtain ⟨y,h1,h2⟩:=vE hT hp hl hr
     refine ⟨y,fun w' _=>?_,h1⟩
     have gu:=cH hT hu
     have hc:(0:Int)≤(i:Int)∧(i:Int)<(n:Int):=by omega
     simp only [execOp,hy,hi,Instr.index,asIntOf,Sem.run_bind,Sem.run_pure,run_underlying gu,Result.andThen_ok]
     rw [if_pos hc]
     simp only [Sem.run_bind,bA,Result.andThen_ok,Int.toNat_natCast,h2,Sem.run_pure]
   ·simp at h
  ·simp at h
 ·simp at h
def uU (T:aP) (E:List (Nat×AV)) (M:List ai) (t:TypeId) (parts:Array (Nat×Operand)):Option Out:=
 match cV T t,oV T t with
 | some (.ar _ e),some z=>(match fA T e with
  | some k=>(match kK E (fun i=>some (i*k,k)) (lg z) parts.toList with
   | some l=>some (lk [] (.ag l) M)
   | none=>none)
  | none=>none)
 | _,_=>none
theorem EE (hT:aZ P T=true) {t:TypeId} {parts:Array (Nat×Operand)} (h:uU T E M t parts=some out):aJ P ⟨d,.build t parts,ty,pos,aft,gd⟩ E M out:=by
 unfold uU at h
 split at h
 ·rename_i n e z hu hz
  split at h
  ·rename_i k hk
   split at h
   ·rename_i l hl
    simp only [Option.some.injEq] at h;subst h
    obtain ⟨zv,nU,nV⟩:=rS hT hz
    have bA:∀ w:World,(sizeOf e).run P w=.ok k w:=fun w=>by
     have:=gO hT hk
     cases hi:P.info? e with
     | none=>simp [hi] at this
     | some inf=>simp only [hi,Option.map_some,Option.some.injEq] at this;simp [sizeOf,typeInfo,Sem.run_bind,hi,this]
    refine aJ.same ?_
    intro D w0 K0 β F I ρ w C _
    obtain ⟨p1,p2⟩:=pZ (K:=fun w=>K0 w∧Holds w I) (β:=β) z
    obtain ⟨bW,g1,g2,g3⟩:=rY C (cs:=z.toArray) hl (by simpa using p1) (by intro j c y e1 e2;exact p2 j c y e1 (by simpa using e2))
    refine ⟨.agg bW,fun w' _=>?_,?_⟩
    ·have pq:(parts.map fun (p:Nat×Operand)=>(p.1,ρ p.2)).toList=parts.toList.map fun p=>(p.1,ρ p.2):=by simp
     have hb:(Instr.build t (parts.map fun (p:Nat×Operand)=>(p.1,ρ p.2))).run P w'=.ok (.agg bW) w':=by
      simp only [Instr.build,Sem.run_bind,nV,Result.andThen_ok,run_underlying (cH hT hu),bA,nU,pq,g1,Sem.run_pure]
     simp only [execOp,Sem.run_bind]
     have:(parts.map fun (i,x)=>(i,ρ x))=parts.map fun (p:Nat×Operand)=>(p.1,ρ p.2):=rfl
     rw [this,hb];rfl
    ·have:(ax (fun w=>K0 w∧Holds w I) β (.ag l) (.agg bW.toList.toArray)):=.ag bW.toList (by simpa using g2) (by intro j c y e1 e2;exact g3 j c y e1 (by simpa using e2))
     simpa using this
   ·simp at h
  ·simp at h
 ·simp at h
end Go.Proofs.YtcnpikbbmbombaaGreatDoor
namespace Go.Proofs.YtcnpikbbmbombaaGreatDoor
open Go.RowKit
variable {P:Program} {T:aP} {D:List Nat} {w0:World} {K0:World→Prop} {E:List (Nat×AV)} {M:List ai} {β:Beta} {F:Nat→ak} {I X:ak} {ρ:Operand→Value} {w:World}
variable {d:Option Tmp} {ty:TypeId} {pos:String} {aft:Array Edge} {gd:Option (Nat×Bool)} {oc:Option aX} {out:Out}
theorem bK.iK (R:bK D w0 K0 M β F I X w) {u:Nat} {blk:ai} (h:M[u]?=some blk):Holds w (F u):=by
 intro x hx
 obtain ⟨hu,-⟩:=List.getElem?_eq_some_iff.1 h
 exact R.st.holds x (List.mem_append_left _ (List.mem_flatMap.2 ⟨u,List.mem_range.2 hu,hx⟩))
theorem bK.back {X Y:ak} (R:bK D w0 K0 M β F I (X++Y) w) {u:Nat} (hu:u<M.length) (hF:F u=[]) {blk:ai} (hb:bF (fun w=>K0 w∧Holds w I) β u blk X):
  bK D w0 K0 (M.set u blk) β (aN F u X) I Y w where
 len:=by rw [List.length_set];exact R.len
 blk:=by
  intro v bl hv
  rw [List.getElem?_set] at hv
  by_cases e:u=v
  ·subst e
   simp only [hu,if_pos,Option.some.injEq] at hv;subst hv
   simpa [aN] using hb
  ·rw [if_neg e] at hv
   have:aN F u X v=F v:=by simp only [aN];rw [if_neg (fun h=>e h.symm)]
   rw [this];exact R.blk v bl hv
 st:=by
  have hs:=R.st
  rw [List.length_set,range_split hu]
  rw [range_split hu,hF] at hs
  have c1:(List.range u).flatMap (aN F u X)=(List.range u).flatMap F:=fh fun a ha=>by have:=List.mem_range.1 ha;simp [aN];omega
  have c2:(List.range' (u+1) (M.length-(u+1))).flatMap (aN F u X)=(List.range' (u+1) (M.length-(u+1))).flatMap F:=fh fun a ha=>by have:=(List.mem_range'_1.1 ha).1;simp [aN];omega
  have gu:aN F u X u=X:=by simp [aN]
  rw [c1,c2,gu]
  exact hs.perm (by classical rw [List.perm_iff_count];intro z;simp only [List.count_append,List.count_nil];omega)
theorem y7 {k o m:Nat} (h:o+m≤k) (f:Nat→ak):(List.range k).flatMap f=(List.range o).flatMap f++((List.range' o m).flatMap f++(List.range' (o+m) (k-(o+m))).flatMap f):=by
 have:List.range k=List.range o++(List.range' o m++List.range' (o+m) (k-(o+m))):=by
  rw [List.range_eq_range',List.range_eq_range']
  have h1:k=o+(m+(k-(o+m))):=by omega
  conv=>lhs;rw [h1]
  rw [← List.range'_append_1,← List.range'_append_1]
  simp
 rw [this,List.flatMap_append,List.flatMap_append]
def dL (G:Nat→Nat→ak) (i o m:Nat) (Gx:Nat→ak):Nat→Nat→ak:=fun a j=>if a=i∧o≤j∧j<o+m then Gx (j-o) else G a j
theorem uz {n k i o m:Nat} (hi:i<n) (ho:o+m≤k) (G:Nat→Nat→ak) (Gx:Nat→ak):(bI n k G++(List.range m).flatMap Gx).Perm (bI n k (dL G i o m Gx)++(List.range' o m).flatMap (G i)):=by
 unfold bI
 have c1:(List.range i).flatMap (fun a=>(List.range k).flatMap (dL G i o m Gx a))=(List.range i).flatMap (fun a=>(List.range k).flatMap (G a)):=fh fun a ha=>fh fun j _=>by have:=List.mem_range.1 ha;simp only [dL];rw [if_neg (by omega)]
 have c2:(List.range' (i+1) (n-(i+1))).flatMap (fun a=>(List.range k).flatMap (dL G i o m Gx a))=(List.range' (i+1) (n-(i+1))).flatMap (fun a=>(List.range k).flatMap (G a)):=fh fun a ha=>fh fun j _=>by have:=(List.mem_range'_1.1 ha).1;simp only [dL];rw [if_neg (by omega)]
 have c3:(List.range o).flatMap (dL G i o m Gx i)=(List.range o).flatMap (G i):=fh fun j hj=>by have:=List.mem_range.1 hj;simp only [dL];rw [if_neg (by omega)]
 have c4:(List.range' o m).flatMap (dL G i o m Gx i)=(List.range m).flatMap Gx:=by
  rw [List.range'_eq_map_range,List.flatMap_map]
  exact fh fun j hj=>by
   have:=List.mem_range.1 hj
   show dL G i o m Gx i (o+j)=Gx j
   unfold dL;rw [if_pos ⟨rfl,by omega,by omega⟩,Nat.add_sub_cancel_left]
 have c5:(List.range' (o+m) (k-(o+m))).flatMap (dL G i o m Gx i)=(List.range' (o+m) (k-(o+m))).flatMap (G i):=fh fun j hj=>by have:=(List.mem_range'_1.1 hj).1;simp only [dL];rw [if_neg (by omega)]
 rw [range_split hi (fun a=>(List.range k).flatMap (G a)),range_split hi (fun a=>(List.range k).flatMap (dL G i o m Gx a)),c1,c2]
 rw [y7 ho (G i),y7 ho (dL G i o m Gx i),c3,c4,c5]
 classical rw [List.perm_iff_count];intro z;simp only [List.count_append];omega
def iP (X:Nat→List Value) (i o:Nat) (zs:List Value):Nat→List Value:=fun a=>if a=i then (X i).take o++(zs++(X i).drop (o+zs.length)) else X a
theorem nt {α:Type} {l zs:List α} {o j:Nat} (h:o+zs.length≤l.length):(l.take o++(zs++l.drop (o+zs.length)))[j]?=if o≤j∧j<o+zs.length then zs[j-o]? else l[j]?:=by
 by_cases h1:o≤j∧j<o+zs.length
 ·rw [if_pos h1,List.getElem?_append_right (by simp;omega),List.getElem?_append_left (by simp;omega)]
  congr 1;simp;omega
 ·rw [if_neg h1]
  rcases Nat.lt_or_ge j o with hj | hj
  ·rw [List.getElem?_append_left (by simp;omega),List.getElem?_take,if_pos hj]
  ·rw [List.getElem?_append_right (by simp;omega),List.getElem?_append_right (by simp;omega),List.getElem?_drop]
   congr 1;simp;omega
theorem qa {X:Nat→List Value} {i o k:Nat} {zs:List Value} (ho:o+zs.length≤k) {a:Nat} (h:(X a).length=k):(iP X i o zs a).length=k:=by
 unfold iP;split
 ·rename_i e;subst e;simp;omega
 ·exact h
theorem AL {n k i o:Nat} {X:Nat→List Value} {zs:List Value} {cs:Array Value} (hX:∀ a,a<n→(X a).length=k) (hi:i<n) (ho:o+zs.length≤k) (ht:cs.toList.take (n*k)=lay n X) (bA:n*k≤cs.size):
  (cm cs (i*k+o) zs).toList.take (n*k)=lay n (iP X i o zs):=by
 have C9:∀ a,a<n→(iP X i o zs a).length=k:=fun a ha=>qa ho (hX a ha)
 have hC:=eu C9
 have yt:i*k+k≤n*k:=by have:=Nat.mul_le_mul_right k (show i+1≤n from hi);rw [Nat.succ_mul] at this;exact this
 apply List.ext_getElem?
 intro p
 rcases Nat.lt_or_ge p (n*k) with hp | hp
 ·have hk:0<k:=by
   rcases Nat.eq_zero_or_pos k with h0 | h0
   ·subst h0;simp at hp
   ·exact h0
  have hd:p / k<n:=Nat.div_lt_of_lt_mul (by rw [Nat.mul_comm];exact hp)
  have hm:p%k<k:=Nat.mod_lt _ hk
  have hg:=j4 C9 hd hm
  have Da:=j4 hX hd hm
  have e:p / k*k+p%k=p:=by rw [Nat.mul_comm,Nat.div_add_mod]
  rw [e] at hg Da
  rw [hg,List.getElem?_take,if_pos hp,Array.getElem?_toList,ox _ _ _ _ (by omega)]
  have hc:cs[p]?=(X (p / k))[p%k]?:=by rw [← Da,← ht,List.getElem?_take,if_pos hp,Array.getElem?_toList]
  generalize hA:p / k=a at *
  generalize hJ:p%k=j at *
  by_cases ha:a=i
  ·subst ha
   unfold iP
   rw [if_pos rfl,nt (by rw [hX a hd];exact ho)]
   by_cases h1:o≤j∧j<o+zs.length
   ·rw [if_pos h1,if_pos (by omega)];congr 1;omega
   ·rw [if_neg h1,if_neg (by omega)];exact hc
  ·unfold iP
   rw [if_neg ha,if_neg ?_]
   ·exact hc
   ·intro h1
    rcases Nat.lt_or_gt_of_ne ha with h2 | h2
    ·have:=Nat.mul_le_mul_right k (show a+1≤i from h2);rw [Nat.succ_mul] at this;omega
    ·have:=Nat.mul_le_mul_right k (show i+1≤a from h2);rw [Nat.succ_mul] at this;omega
 ·rw [List.getElem?_eq_none (by simp [iE];omega),List.getElem?_eq_none (by omega)]
theorem dt.put {K:World→Prop} {k i o:Nat} {rows:List (List DV)} {X:Nat→List Value} {G:Nat→Nat→ak} {row xs:List DV} {zs:List Value} {Gx:Nat→ak} (h:dt K k rows X G) (b9:rows[i]?=some row) (ho:o+zs.length≤k) (hx:zs.length=xs.length) (hd:∀ (j:Nat) c y,xs[j]?=some c→zs[j]?=some y→bM K c y (Gx j)):
  dt K k (rows.set i (row.take o++(xs++row.drop (o+xs.length)))) (iP X i o zs) (dL G i o zs.length Gx):=by
 have kZ:=h.hl i row b9
 constructor
 ·intro a r ha
  rw [List.getElem?_set] at ha
  by_cases e:i=a
  ·subst e
   rw [if_pos rfl] at ha
   split at ha
   ·simp only [Option.some.injEq] at ha;subst ha
    exact ⟨by simp;omega,qa ho kZ.2⟩
   ·simp at ha
  ·rw [if_neg e] at ha
   have:=h.hl a r ha
   exact ⟨this.1,qa ho this.2⟩
 ·intro a r j c x ha hj lT
  rw [List.getElem?_set] at ha
  by_cases e:i=a
  ·subst e
   rw [if_pos rfl] at ha
   split at ha
   ·simp only [Option.some.injEq] at ha;subst ha
    rw [nt (by omega)] at hj
    unfold iP at lT
    rw [if_pos rfl,nt (by omega)] at lT
    unfold dL
    by_cases h1:o≤j∧j<o+zs.length
    ·rw [if_pos (by omega)] at hj
     rw [if_pos h1] at lT
     rw [if_pos ⟨rfl,h1⟩]
     exact hd _ c x hj lT
    ·rw [if_neg (by omega)] at hj
     rw [if_neg h1] at lT
     rw [if_neg (fun q=>h1 q.2)]
     exact h.hr i row j c x b9 hj lT
   ·simp at ha
  ·rw [if_neg e] at ha
   unfold iP at lT
   rw [if_neg (fun q=>e q.symm)] at lT
   unfold dL
   rw [if_neg (fun q=>e q.1.symm)]
   exact h.hr a r j c x ha hj lT
def uV (T:aP) (E:List (Nat×AV)) (M:List ai) (oc:Option aX) (t:TypeId) (x y:Operand):Option Out:=
 match aI E x,aI E y,fA T t,oc with
 | some (.ep u k i o),some v,some n,some (.ix _ row)=>(match ny v with
  | some l=>(match kb M l with
   | some (vc,xs,M')=>(match M'[u]? with
    | some (.rw e k' rows)=>bif k.beq k'&&l.length.beq n&&(o+n).ble k then some ⟨(rows[i]?=some row)::vc,.d .jk,M'.set u (.rw e k (rows.set i (row.take o++(xs++row.drop (o+xs.length))))),u::o7 l,[],none⟩ else none
    | _=>none)
   | none=>none)
  | none=>none)
 | _,_,_,_=>none
theorem EF (hT:aZ P T=true) {t:TypeId} {x y:Operand} (h:uV T E M oc t x y=some out):aJ P ⟨d,.store t x y,ty,pos,aft,gd⟩ E M out:=by
 unfold uV at h
 split at h
 rotate_left
 ·simp at h
 rename_i u k i o v n i0 row hx hy hn
 split at h
 rotate_left
 ·simp at h
 rename_i l hl
 split at h
 rotate_left
 ·simp at h
 rename_i vc xs M' hp
 split at h
 rotate_left
 ·simp at h
 rename_i e k' rows hM
 cases hc:(k.beq k'&&l.length.beq n&&(o+n).ble k) with
 | false=>simp [hc] at h
 | true=>
  simp only [hc,cond_true,Option.some.injEq] at h;subst h
  simp only [Bool.and_eq_true] at hc
  obtain rfl:=Nat.eq_of_beq_eq_true hc.1.1
  have qQ:=Nat.eq_of_beq_eq_true hc.1.2
  have hle:=Nat.le_of_ble_eq_true hc.2
  intro D w0 K0 β F I ρ w C hv
  obtain ⟨b9,hv⟩:=hv
  obtain ⟨yx,iW,rx⟩:=C.bR hx
  obtain ⟨yy,nW,ry⟩:=C.bR hy
  obtain ⟨zs,h1,h2,h3,h4⟩:=pY hl ry
  obtain ⟨lM,F',Hp,R',dd,yu⟩:=sd C.rm.x hp hv (ys:=zs) h2 h3
  rw [List.nil_append] at R'
  cases rx with
  | @ep _ _ _ _ b0 c0 hb=>
   have aO:u<M'.length:=ff hM
   have hB:=R'.blk u _ hM
   have hH:=R'.iK hM
   have R1:=R'.fo hM
   have dl:=dd.len
   obtain ⟨Gx,yv,qV⟩:=dd.to
   generalize jy:F' u=Fu at hB hH R1
   cases hB with
   | rw aS X G cS hs hr=>
    rw [hb] at aS;cases aS
    obtain ⟨hi,-⟩:=List.getElem?_eq_some_iff.1 b9
    obtain ⟨b',cap,cs,fz,he,rfl,ey,cF,dA,ht⟩:=hs.block (by omega)
    cases he
    have hw:=(Holds.app.1 hH).1.one
    have hX:∀ a,a<rows.length→(X a).length=k:=fun a ha=>(cS a _ (List.getElem?_eq_getElem ha)).2
    have yt:i*k+k≤rows.length*k:=by have:=Nat.mul_le_mul_right k (show i+1≤rows.length from hi);rw [Nat.succ_mul] at this;exact this
    have bA:rows.length*k≤cs.size:=by rw [cF];exact Nat.mul_le_mul_right _ dA
    refine uN n (gO hT hn) iW nW hw (by rw [h1];simp;omega) (by omega) (by rw [h1];simpa using h4) ?_
    rw [h1]
    have ra:dt (fun w=>K0 w∧Holds w I) k rows X G:=⟨cS,hr⟩
    have ia:=ra.put (o:=o) (zs:=zs) (xs:=xs) (Gx:=Gx) b9 (by omega) dl qV
    have bB:=R1.st
    have lB:St D w0 w ((b0,.cells cs e fz)::(bI rows.length k G++(Hp++((List.range (M'.set u .dead).length).flatMap (aN F' u [])++I)))):=bB.perm (by classical rw [List.perm_iff_count];intro z;simp only [List.count_append,List.count_cons,List.cons_append,List.nil_append];omega)
    have lC:=lB.set (.cells (cm cs (i*k+o) zs) e fz)
    have lD:=uz (n:=rows.length) (k:=k) (i:=i) (o:=o) (m:=zs.length) hi (by omega) G Gx
    rw [yv,← dl] at lC
    have R2:bK D w0 K0 (M'.set u .dead) β (aN F' u []) I (([(b0,.cells (cm cs (i*k+o) zs) e fz)]++bI rows.length k (dL G i o zs.length Gx))++(List.range' o zs.length).flatMap (G i)) _:=R1.move (lC.perm (by
     classical
     have hc:=List.perm_iff_count.1 lD
     rw [List.perm_iff_count];intro z
     have:=hc z
     simp only [List.count_append,List.count_cons,List.cons_append,List.nil_append] at this ⊢
     omega))
    have fW:bF (fun w=>K0 w∧Holds w I) β u (.rw e k (rows.set i (row.take o++(xs++row.drop (o+xs.length))))) ([(b0,.cells (cm cs (i*k+o) zs) e fz)]++bI rows.length k (dL G i o zs.length Gx)):=by
     have:=bF.rw (K:=fun w=>K0 w∧Holds w I) (u:=u) (T:=e) (k:=k) (rows:=rows.set i (row.take o++(xs++row.drop (o+xs.length)))) (H0:=[(b0,.cells (cm cs (i*k+o) zs) e fz)]) hb (iP X i o zs) (dL G i o zs.length Gx) ia.hl (by
      rw [List.length_set]
      exact ⟨eu fun a ha=>qa (by omega) (hX a ha),Or.inr ⟨_,_,_,fz,rfl,rfl,by rw [iE];exact ey,by rw [iE];exact cF,dA,AL hX hi (by omega) ht bA⟩⟩) ia.hr
     rw [List.length_set] at this;exact this
    have R3:=((R2.drop.perm (Y:=([(b0,.cells (cm cs (i*k+o) zs) e fz)]++bI rows.length k (dL G i o zs.length Gx))++[]) (by rw [List.append_nil])).back (by rw [List.length_set];exact aO) (by simp [aN]) fW).nil rfl
    rw [List.set_set] at R3
    refine ⟨β,_,I,R3,(Ext.refl β).b _,bS.refl _,fun q hq gB=>?_,.d (.jk _)⟩
    simp only [List.mem_cons,not_or] at gB
    simp only [aN];rw [if_neg gB.1,if_neg gB.1]
    exact yu q gB.2
def wH (T:aP) (E:List (Nat×AV)) (M:List ai) (oc:Option aX) (t:TypeId) (x:Operand):Option Out:=
 match aI E x,oc,pk T t with
 | some (.ep u k i o),some (.ix _ row),some .one=>(match M[u]?,row[o]? with
  | some (.rw e k' rows),some (.em T2 k2 b3)=>bif k.beq k' then some ⟨[rows[i]?=some row],.sl M.length b3.length,M.set u (.rw e k (rows.set i (row.take o++([.jk]++row.drop (o+1)))))++[.rw T2 k2 b3],[u],[],none⟩ else none
  | _,_=>none)
 | _,_,_=>none
theorem GF (hT:aZ P T=true) {t:TypeId} {x:Operand} (h:wH T E M oc t x=some out):aJ P ⟨d,.load t x,ty,pos,aft,gd⟩ E M out:=by
 unfold wH at h
 split at h
 rotate_left
 ·simp at h
 rename_i u k i o i0 row hx jw
 split at h
 rotate_left
 ·simp at h
 rename_i e k' rows T2 k2 b3 hM ka
 cases hk:k.beq k' with
 | false=>simp [hk] at h
 | true=>
  simp only [hk,cond_true,Option.some.injEq] at h;subst h
  obtain rfl:=Nat.eq_of_beq_eq_true hk
  intro D w0 K0 β F I ρ w C hv
  obtain ⟨b9,-⟩:=hv
  obtain ⟨yx,iW,rx⟩:=C.bR hx
  have R:=C.rm.x
  have hB:=R.blk u _ hM
  have hH:=R.iK hM
  have R1:=R.fo hM
  have aO:=ff hM
  cases rx with
  | @ep _ _ _ _ b0 c0 hb=>
   generalize jy:F u=Fu at hB hH R1
   cases hB with
   | rw aS X G cS hs hr=>
    rw [hb] at aS;cases aS
    obtain ⟨hi,-⟩:=List.getElem?_eq_some_iff.1 b9
    obtain ⟨ho,-⟩:=List.getElem?_eq_some_iff.1 ka
    obtain ⟨x7,x8⟩:=cS i row b9
    obtain ⟨b',cap,cs,fz,he,rfl,ey,cF,dA,ht⟩:=hs.block (by omega)
    cases he
    have hw:=(Holds.app.1 hH).1.one
    have hX:∀ a,a<rows.length→(X a).length=k:=fun a ha=>(cS a _ (List.getElem?_eq_getElem ha)).2
    have yt:i*k+k≤rows.length*k:=by have:=Nat.mul_le_mul_right k (show i+1≤rows.length from hi);rw [Nat.succ_mul] at this;exact this
    have bA:rows.length*k≤cs.size:=by rw [cF];exact Nat.mul_le_mul_right _ dA
    obtain ⟨y,hy⟩:∃ y,(X i)[o]?=some y:=⟨_,List.getElem?_eq_getElem (by omega)⟩
    have hd:=hr i row o _ y b9 ka hy
    have JE:w.cell? ⟨b0,i*k+o,none⟩=some y:=by
     rw [cell_of hw,← hy,← j4 hX hi (by omega),← ht,List.getElem?_take,if_pos (by omega),Array.getElem?_toList]
    refine aY.pure (Bh (uP hT jw) iW JE) ?_
    have ra:dt (fun w=>K0 w∧Holds w I) k rows X G:=⟨cS,hr⟩
    have ia:=ra.put (o:=o) (zs:=[y]) (xs:=[.jk]) (Gx:=fun _=>[]) b9 (by simp;omega) rfl (fun j c z h1 h2=>by
     cases j with
     | zero=>simp at h1;subst h1;exact .jk _
     | succ j=>simp at h1)
    have lD:=uz (n:=rows.length) (k:=k) (i:=i) (o:=o) (m:=1) hi (by omega) G (fun _=>[])
    have dK:(List.range 1).flatMap (fun _=>([]:ak))=[]:=by simp
    have La:(List.range' o 1).flatMap (G i)=G i o:=by simp
    rw [dK,La,List.append_nil] at lD
    have R2:=R1.perm (Y:=([(b0,.cells cs e fz)]++bI rows.length k (dL G i o 1 fun _=>[]))++G i o) (by
     classical
     have hc:=List.perm_iff_count.1 lD
     rw [List.perm_iff_count];intro z
     have:=hc z
     simp only [List.count_append,List.count_nil] at this ⊢
     omega)
    have JF:lay rows.length (iP X i o [y])=lay rows.length X:=by
     refine uR fun a ha=>?_
     unfold iP;split
     ·rename_i e;subst e
      apply List.ext_getElem?;intro j
      rw [nt (by simp;omega)]
      split
      ·rename_i h1;simp at h1
       obtain rfl:j=o:=by omega
       rw [hy];simp
      ·rfl
     ·rfl
    have fW:bF (fun w=>K0 w∧Holds w I) β u (.rw e k (rows.set i (row.take o++([.jk]++row.drop (o+1))))) ([(b0,.cells cs e fz)]++bI rows.length k (dL G i o 1 fun _=>[])):=by
     have:=bF.rw (K:=fun w=>K0 w∧Holds w I) (u:=u) (T:=e) (k:=k) (rows:=rows.set i (row.take o++([.jk]++row.drop (o+1)))) (H0:=[(b0,.cells cs e fz)]) hb (iP X i o [y]) (dL G i o 1 fun _=>[]) ia.hl (by
      rw [List.length_set,JF]
      exact ⟨eu hX,Or.inr ⟨_,_,_,fz,rfl,rfl,ey,cF,dA,ht⟩⟩) ia.hr
     rw [List.length_set] at this;exact this
    have R3:=R2.back (by rw [List.length_set];exact aO) (by simp [aN]) fW
    rw [List.set_set] at R3
    have Db:(M.set u (ai.rw e k (rows.set i (row.take o++([.jk]++row.drop (o+1)))))).length=M.length:=by rw [List.length_set]
    generalize G i o=Pd at hd R3
    cases hd with
    | em X2 F2 mX kX jW=>
     obtain ⟨a2,c2,rfl⟩:=kX.len
     have hq:(β++[(a2,c2)])[M.length]?=some (a2,c2):=by rw [← R.len];simp
     have iz:=bF.rw (K:=fun w=>K0 w∧Holds w I) (T:=T2) (k:=k2) (rows:=b3) hq X2 F2 mX kX jW
     rw [← Db] at iz
     have R4:=((R3.perm (Y:=_++[]) (by rw [List.append_nil])).take iz).nil rfl
     rw [Db] at R4
     refine ⟨_,_,I,R4,(Ext.app _ _).b _,bS.refl _,fun q pr gB=>?_,.sl hq⟩
     have kn:q≠u:=by simpa using gB
     simp only [aN]
     rw [if_neg (by omega),if_neg kn,if_neg kn]
def wI (T:aP) (E:List (Nat×AV)) (M:List ai) (oc:Option aX) (st:TypeId) (x y:Operand):Option Out:=
 match iX T st,aI E x,aI E y,oc with
 | some (_,k,_,_),some (.sl u n),some vy,some (.n c)=>(match M[u]?,o6 M k vy with
  | some (.rw e' k' rows),some (none,_,b3)=>bif k.beq k' then some ⟨[n=rows.length,min b3.length n=c,aD b3],.d (.v (.int .i64 (c:Int))),M.set u (.rw e' k (b3.take c++rows.drop c)),[u],[],none⟩ else none
  | _,_=>none)
 | _,_,_,_=>none
theorem dt.take {K:World→Prop} {k c:Nat} {rows:List (List DV)} {X:Nat→List Value} {G:Nat→Nat→ak} (h:dt K k rows X G):dt K k (rows.take c) X G:=by
 constructor
 ·intro i r hi
  rw [List.getElem?_take] at hi
  split at hi
  ·exact h.hl i r hi
  ·simp at hi
 ·intro i r j c' x hi
  rw [List.getElem?_take] at hi
  split at hi
  ·exact h.hr i r j c' x hi
  ·simp at hi
theorem dt.drop {K:World→Prop} {k c:Nat} {rows:List (List DV)} {X:Nat→List Value} {G:Nat→Nat→ak} (h:dt K k rows X G):dt K k (rows.drop c) (fun i=>X (c+i)) (fun i=>G (c+i)):=by
 constructor
 ·intro i r hi;rw [List.getElem?_drop] at hi;exact h.hl _ r hi
 ·intro i r j c' x hi;rw [List.getElem?_drop] at hi;exact h.hr _ r j c' x hi
theorem oz {n c k:Nat} {X:Nat→List Value} (hX:∀ a,a<n→(X a).length=k) (hc:c≤n):lay c X=(lay n X).take (c*k):=by
 have h1:=oH c (n-c) X (fun i=>X (c+i))
 rw [show c+(n-c)=n by omega] at h1
 have h2:lay n (fun i=>if i<c then X i else X (c+(i-c)))=lay n X:=uR fun i hi=>by
  split
  ·rfl
  ·congr 1;omega
 rw [h2] at h1
 rw [h1,List.take_append_of_le_length (by rw [eu fun a ha=>hX a (by omega)];exact Nat.le_refl _),List.take_of_length_le (by rw [eu fun a ha=>hX a (by omega)];exact Nat.le_refl _)]
theorem uA {n c k:Nat} {X:Nat→List Value} (hX:∀ a,a<n→(X a).length=k) (hc:c≤n):lay (n-c) (fun i=>X (c+i))=(lay n X).drop (c*k):=by
 have h1:=oH c (n-c) X (fun i=>X (c+i))
 rw [show c+(n-c)=n by omega] at h1
 have h2:lay n (fun i=>if i<c then X i else X (c+(i-c)))=lay n X:=uR fun i hi=>by
  split
  ·rfl
  ·congr 1;omega
 rw [h2] at h1
 have hl:=eu (n:=c) (k:=k) (X:=X) (fun a ha=>hX a (by omega))
 rw [h1,List.drop_append_of_le_length (by omega),List.drop_of_length_le (by omega),List.nil_append]
theorem rH {n c k:Nat} (G:Nat→Nat→ak) (hc:c≤n):bI n k G=bI c k G++bI (n-c) k (fun i=>G (c+i)):=by
 have h1:=p9 c (n-c) k G (fun i=>G (c+i))
 rw [show c+(n-c)=n by omega] at h1
 rw [← h1]
 simp only [bI]
 refine fh fun i hi=>fh fun j _=>?_
 show G i j=(if i<c then G i else G (c+(i-c))) j
 split
 ·rfl
 ·congr 2;omega
theorem El (cs:Array Value) (zs:List Value) (h:zs.length≤cs.size):(cm cs 0 zs).toList=zs++cs.toList.drop zs.length:=by
 apply List.ext_getElem?
 intro p
 rw [Array.getElem?_toList,ox _ _ _ _ (by omega)]
 by_cases hp:p<zs.length
 ·rw [if_pos (by omega),List.getElem?_append_left hp,Nat.sub_zero]
 ·rw [if_neg (by omega),List.getElem?_append_right (by omega),List.getElem?_drop,Array.getElem?_toList]
  congr 1;omega
theorem Src.pre {size:Nat} {x:Value} {m c:Nat} {X:List Value} (h:Src w size x m X) (hc:c≤m):(Builtin.lenOf x).run P w=.ok m w∧(Builtin.firstCells size c x).run P w=.ok (X.take (c*size)).toArray w:=by
 obtain ⟨hl,hh⟩:=h
 refine ⟨(Src.first (P:=P) ⟨hl,hh⟩).1,?_⟩
 rcases hh with ⟨rfl,a,c',rfl⟩ | ⟨a,c',rfl,h⟩
 ·obtain rfl:c=0:=by omega
  have:X=[]:=List.eq_nil_of_length_eq_zero (by simpa using hl)
  subst this
  cases a with
  | none=>simp [Builtin.firstCells]
  | some a=>simp [Builtin.firstCells,loadCells,loadCellsFrom]
 ·have hlen:(X.take (c*size)).length=c*size:=by rw [List.length_take,hl];exact Nat.min_eq_left (Nat.mul_le_mul_right _ hc)
  simp only [Builtin.firstCells]
  have:=run_loadCells (P:=P) (w:=w) (a:=a) (X:=X.take (c*size)) (fun j hj=>by
   rw [h j (by simp at hj;omega),List.getElem_take])
  rw [hlen] at this;exact this
theorem GH (hT:aZ P T=true) {st xt:TypeId} {x y:Operand} (h:wI T E M oc st x y=some out):aJ P ⟨d,.call ⟨.builtin .copy,#[x,y],#[st,xt]⟩,ty,pos,aft,gd⟩ E M out:=by
 unfold wI at h
 split at h
 rotate_left
 ·simp at h
 rename_i e k b z u n vy c he hx hy
 obtain ⟨zv,ok,-,-⟩:=kF hT he
 split at h
 rotate_left
 ·simp at h
 rename_i e' k' rows m b3 hM hs
 cases hk:k.beq k' with
 | false=>simp [hk] at h
 | true=>
  simp only [hk,cond_true,Option.some.injEq] at h;subst h
  obtain rfl:=Nat.eq_of_beq_eq_true hk
  obtain ⟨qS,hm⟩:=uf hs
  intro D w0 K0 β F I ρ w C hv
  obtain ⟨hn,o8,dK,-⟩:=hv
  subst hn
  obtain ⟨X2,a2,gm⟩:=ux C.now qS (C.ev hy)
  have nY:c≤b3.length:=by omega
  have qX:c≤rows.length:=by omega
  have bA:∀ w:World,(sizeOf e).run P w=.ok k w:=fun w=>by obtain ⟨i,hi,h1,-⟩:=ok.info;simp [sizeOf,typeInfo,Sem.run_bind,hi,h1]
  obtain ⟨hlen,oN⟩:=gm.pre (P:=P) nY
  have yw:∀ a,a<b3.length→(X2 a).length=k:=fun a ha=>(a2.hl a _ (List.getElem?_eq_getElem ha)).2
  rw [← oz yw nY] at oN
  have Dc:(lay c X2).length=c*k:=eu fun a ha=>yw a (by omega)
  have wJ:∀ q ∈ lay c X2,bf q=true:=fun q hq=>a2.one dK q (by rw [oz yw nY] at hq;exact List.mem_of_mem_take hq)
  obtain ⟨yx,iW,rx⟩:=C.bR hx
  cases rx with
  | @sl _ _ c0 q0 hb=>
   have R:=C.rm.x
   have hB:=R.blk u _ hM
   have hH:=R.iK hM
   have R1:=R.fo hM
   have aO:=ff hM
   generalize jy:F u=Fu at hB hH R1
   cases hB with
   | rw aS X G cS hs hr=>
    rw [hb] at aS;cases aS
    have hX:∀ a,a<rows.length→(X a).length=k:=fun a ha=>(cS a _ (List.getElem?_eq_getElem ha)).2
    have kZ:(b3.take c++rows.drop c).length=rows.length:=by simp;omega
    have ra:dt (fun w=>K0 w∧Holds w I) k rows X G:=⟨cS,hr⟩
    have ND:min c b3.length=c:=by omega
    have ia:=(a2.take (c:=c)).app (ra.drop (c:=c))
    rw [List.length_take,ND] at ia
    have nC:∀ (a0:Option Addr) (c0:Nat) w',ρ x=.slice a0 rows.length c0→(∀ a:Addr,a0=some a→(storeCells a (lay c X2)).run P w=.ok () w')→(a0=none→w'=w)→(execOp ρ ⟨d,.call ⟨.builtin .copy,#[x,y],#[st,xt]⟩,ty,pos,aft,gd⟩).run P w=.ok (.value (.int .i64 (c:Int))) w':=by
     intro a0 c0 w' iW bB jz
     have wK:Nat.min b3.length rows.length=c:=o8
     simp only [execOp,resolve,List.map_toArray,List.map,iW,Sem.run_bind,Sem.run_pure,Result.andThen_ok,invoke,builtin,Builtin.copy_,List.getElem?_toArray,List.getElem?_cons_zero,List.getElem?_cons_succ,run_underlying ok.bB,hlen,wK,bA,oN]
     cases a0 with
     | some a=>simp only [Sem.run_bind,bB _ rfl,Result.andThen_ok,Sem.run_pure];rfl
     | none=>rw [jz rfl];simp only [Sem.run_pure,Result.andThen_ok];rfl
    have eY:∀ {w':World} {H0':ak},St D w0 w' (H0'++(bI rows.length k G++((List.range (M.set u .dead).length).flatMap (aN F u [])++I)))→(∀ a0 c0,β[u]?=some (a0,c0)→dY e' k (.slice a0 rows.length c0) rows.length (lay c X2++(lay rows.length X).drop (c*k)) H0')→∃ aB F' I',RM D w0 K0 (M.set u (.rw e' k (b3.take c++rows.drop c))) aB F' I' w'∧gk [] β aB∧bS I I'∧(∀ v,v<M.length→v ∉ [u]→F' v=F v)∧ax (fun w=>K0 w∧Holds w I') aB (.d (.v (.int .i64 (c:Int)))) (.int .i64 (c:Int)):=by
     intro w' H0' bB dO
     rw [rH G qX] at bB
     have R2:bK D w0 K0 (M.set u .dead) β (aN F u []) I ((H0'++bI (rows.length-c) k (fun i=>G (c+i)))++bI c k G) w':=R1.move (bB.perm (by classical rw [List.perm_iff_count];intro z;simp only [List.count_append];omega))
     have fW:bF (fun w=>K0 w∧Holds w I) β u (.rw e' k (b3.take c++rows.drop c)) (H0'++bI (rows.length-c) k (fun i=>G (c+i))):=by
      have mD:lay rows.length (fun i=>if i<c then X2 i else X (c+(i-c)))=lay c X2++(lay rows.length X).drop (c*k):=by
       have:=oH c (rows.length-c) X2 (fun i=>X (c+i))
       rw [show c+(rows.length-c)=rows.length by omega,uA hX qX] at this
       exact this
      have Lb:bI rows.length k (fun i=>if i<c then (fun _=>[]) else G (c+(i-c)))=bI (rows.length-c) k (fun i=>G (c+i)):=by
       have:=p9 c (rows.length-c) k (fun _ _=>[]) (fun i=>G (c+i))
       rw [show c+(rows.length-c)=rows.length by omega,ky,List.nil_append] at this
       exact this
      have:=bF.rw (K:=fun w=>K0 w∧Holds w I) (u:=u) (T:=e') (k:=k) (rows:=b3.take c++rows.drop c) (H0:=H0') hb _ _ ia.hl (by
       rw [kZ,mD];exact dO _ _ hb) ia.hr
      rw [kZ,Lb] at this;exact this
     have R3:=((R2.drop.perm (Y:=(H0'++bI (rows.length-c) k (fun i=>G (c+i)))++[]) (by rw [List.append_nil])).back (by rw [List.length_set];exact aO) (by simp [aN]) fW).nil rfl
     rw [List.set_set] at R3
     refine ⟨β,_,I,R3,(Ext.refl β).b _,bS.refl _,fun q hq gB=>?_,.d (.v _)⟩
     have kn:q≠u:=by simpa using gB
     simp only [aN];rw [if_neg kn,if_neg kn]
    have Cq:=R1.st
    rcases hs.2 with ⟨h0,rfl,a,Dd⟩ | ⟨b',cap,cs,fz,De,rfl,ey,cF,dA,ht⟩
    ·have yf:c=0:=by omega
     simp only [Value.slice.injEq] at Dd
     obtain ⟨-,-,rfl⟩:=Dd
     have qQ:lay c X2=[]:=by subst yf;simp [lay]
     refine aY.pure (nC _ _ w iW (fun a _=>by rw [qQ];simp [storeCells]) (fun _=>rfl)) (eY (H0':=[]) (Cq.perm (by classical rw [List.perm_iff_count];intro z;simp only [List.count_append,List.count_nil];omega)) fun a0 c0 eo=>?_)
     rw [hb] at eo;cases eo
     have:lay rows.length X=[]:=by rw [h0];simp [lay]
     rw [qQ,this,List.drop_nil,List.append_nil]
     rw [h0];exact dY.nil _ _ _
    ·simp only [Value.slice.injEq] at De
     obtain ⟨rfl,-,rfl⟩:=De
     have hw:=(Holds.app.1 hH).1.one
     have NF:c*k≤rows.length*k:=Nat.mul_le_mul_right _ qX
     have sX:rows.length*k≤cs.size:=by rw [cF];exact Nat.mul_le_mul_right _ dA
     have Bj:=pR (P:=P) (lay c X2) w cs 0 0 hw (by omega) wJ
     rw [Nat.add_zero] at Bj
     refine aY.pure (nC _ _ _ iW (fun a ha=>by simp only [Option.some.injEq] at ha;subst ha;exact Bj) (fun jz=>by simp at jz)) (eY (H0':=[(b',.cells (cm cs 0 (lay c X2)) e' fz)]) ?_ fun a0 c0 eo=>?_)
     ·have lB:St D w0 w ((b',.cells cs e' fz)::(bI rows.length k G++((List.range (M.set u .dead).length).flatMap (aN F u [])++I))):=Cq.perm (by classical rw [List.perm_iff_count];intro z;simp only [List.count_append,List.count_cons,List.cons_append,List.nil_append];omega)
      exact lB.set _
     ·rw [hb] at eo;cases eo
      refine ⟨by rw [List.length_append,List.length_drop,Dc,eu hX];omega,Or.inr ⟨b',_,_,fz,rfl,rfl,by rw [iE];exact ey,by rw [iE];exact cF,dA,?_⟩⟩
      rw [El cs _ (by omega),List.take_append,Dc,List.take_of_length_le (by omega),← ht,List.drop_take]
def vF (T:aP) (E:List (Nat×AV)) (M:List ai) (oc:Option aX) (t:TypeId) (x y:Operand):Option Out:=
 match iX T t,cL (aI E x),cL (aI E y),oc with
 | some (e,k,b,z),some (.i64,n),some (.i64,n'),some (.n2 m c)=>some ⟨[n=(m:Int),n'=(c:Int),m≤c,b*c≤281474976710656,c<4611686018427387904],.sl M.length m,M++[.rw e k (List.replicate m (z.map .v))],[],[],none⟩
 | _,_,_,_=>none
set_option maxRecDepth 20000 in
theorem D6 {t e k b:Nat} {z:List Value} {zv:Value} (ok:oU P t e k b zv) (hz:zv.cells=z.toArray) (eI:z.length=k) {m c:Nat} (mY:m≤c) (hb:b*c≤281474976710656) (hm:c<4611686018427387904):
  (Instr.makeSlice t (.int .i64 m) (.int .i64 c)).run P w=.ok (.slice (some ⟨w.heap.size,0,none⟩) m c) (w.alloc (.cells (lay c fun _=>z).toArray e)):=by
 obtain ⟨i,hi,h1,h2,h3⟩:=ok.info
 have hw:∀ m:Nat,m<4611686018427387904→IntKind.i64.wrap (m:Int)=m:=by
  intro m hm;simp [IntKind.wrap,IntKind.signed,IntKind.bits];omega
 have bA:∀ w:World,(sizeOf e).run P w=.ok k w:=fun w=>by simp [sizeOf,typeInfo,Sem.run_bind,hi,h1]
 have kI:∀ w:World,(typeInfo e).run P w=.ok i w:=fun w=>by simp [typeInfo,Sem.run_bind,hi]
 have hzero:∀ w:World,(zeroValue e).run P w=.ok zv w:=fun w=>by simp [zeroValue,Sem.run_bind,kI,h3]
 have qC:∀ (k:Nat) (w:World),(askRoom k).run P w=.ok () w:=by
  intro k w;unfold askRoom;split<;>simp [mark,Sem.run]
 have ye:∀ n:Int,asInt (.int .i64 n)=pure n:=fun n=>rfl
 have b9:∀ (cs:Array Value) (w:World),(newRow e cs).run P w=.ok ⟨w.heap.size,0,none⟩ (w.alloc (.cells cs e)):=by
  intro cs w;simp [newRow,newObj,Sem.run]
 have C4:∀ m:Nat,b*m≤281474976710656→¬ ((i.bytes:Int)*(m:Int)>2 ^ 48):=by
  intro m hb
  rw [h2]
  have e:((b*m:Nat):Int)=(b:Int)*(m:Int):=Int.natCast_mul b m
  rw [← e]
  generalize b*m=q at hb
  omega
 have vC:∀ n,n=c*k→(if n=0 then ((Array.range n).map fun i=>(#[]:Array Value)[i%(#[]:Array Value).size]!) else ((Array.range n).map fun i=>z.toArray[i%z.toArray.size]!))=(lay c fun _=>z).toArray:=by
  intro n hn
  subst hn
  rw [← rZ z c k eI]
  by_cases h0:c*k=0
  ·rw [if_pos h0,h0];simp
  ·rw [if_neg h0]
 unfold Instr.makeSlice
 simp only [Sem.run_bind,run_underlying ok.bB,Result.andThen_ok,ye,Sem.run_pure,kI,hw c hm,hw m (by omega)]
 have n2:=C4 c hb
 have wC:¬ ((((m:Int)<0:Bool)||decide ((i.bytes:Int)*(c:Int)>2 ^ 48))=true∨(m:Int)<0∨(m:Int)>c):=by
  simp only [Bool.or_eq_true,decide_eq_true_eq]
  omega
 rw [if_neg (by simpa using wC)]
 simp only [Sem.run_bind,Result.andThen_ok,qC,bA,Int.toNat_natCast]
 have:=vC (c*k) rfl
 by_cases h0:c*k=0
 ·rw [if_pos h0] at this ⊢
  simp only [Sem.run_pure,Result.andThen_ok,Sem.run_bind,b9,this]
 ·rw [if_neg h0] at this ⊢
  simp only [Sem.run_pure,Result.andThen_ok,Sem.run_bind,hzero,hz,b9,this]
theorem Fq (hT:aZ P T=true) {t:TypeId} {x y:Operand} (h:vF T E M oc t x y=some out):aJ P ⟨d,.makeSlice t x y,ty,pos,aft,gd⟩ E M out:=by
 unfold vF at h
 split at h
 ·rename_i e k b z n n' m c he hx hy
  simp only [Option.some.injEq] at h;subst h
  obtain ⟨zv,ok,hz,eI⟩:=kF hT he
  intro D w0 K0 β F I ρ w C hv
  obtain ⟨rfl,rfl,mY,hb,hm,-⟩:=hv
  refine aY.pure (v:=.slice (some ⟨w.heap.size,0,none⟩) m c) (w':=w.alloc (.cells (lay c fun _=>z).toArray e)) (by simp only [execOp,C.int hx,C.int hy,Sem.run_bind,D6 ok hz eI mY hb hm,Result.andThen_ok,Sem.run_pure]) ?_
  have hC:=eu (n:=c) (k:=k) (X:=fun _=>z) (fun _ _=>eI)
  have NG:=eu (n:=m) (k:=k) (X:=fun _=>z) (fun _ _=>eI)
  refine ⟨_,_,I,C.rm.new (q:=(some ⟨w.heap.size,0,none⟩,c)) (Gr.alloc w _) (du.alloc w _) ?_,(Ext.app _ _).b _,bS.refl _,lb _ _,.sl (gQ C.rm _)⟩
  have:=bF.rw (K:=fun w=>K0 w∧Holds w I) (β:=β++[(some ⟨w.heap.size,0,none⟩,c)]) (u:=M.length) (T:=e) (k:=k) (rows:=List.replicate m (z.map .v)) (H0:=[(w.heap.size,.cells (lay c fun _=>z).toArray e (0,0))]) (gQ C.rm _) (fun _=>z) (fun _ _=>[]) (fun i r hi=>by
   rw [List.getElem?_replicate] at hi
   split at hi
   ·simp only [Option.some.injEq] at hi;subst hi;rw [List.length_map];exact ⟨eI,eI⟩
   ·simp at hi) (by
    rw [List.length_replicate]
    exact ⟨NG,Or.inr ⟨w.heap.size,c,_,(0,0),rfl,rfl,kl _,by simpa using hC,mY,(oz (n:=c) (k:=k) (X:=fun _=>z) (fun _ _=>eI) mY).symm⟩⟩) (fun i r j c x hi h1 h2=>by
    rw [List.getElem?_replicate] at hi
    split at hi
    ·simp only [Option.some.injEq] at hi;subst hi;exact tV h1 h2
    ·simp at hi)
  rw [ky,List.append_nil] at this
  exact this
 ·simp at h
end Go.Proofs.YtcnpikbbmbombaaGreatDoor
namespace Go.Proofs.YtcnpikbbmbombaaGreatDoor
open Go.RowKit
variable {P:Program} {T:aP} {D:List Nat} {w0:World} {K0:World→Prop} {E:List (Nat×AV)} {M:List ai} {β:Beta} {F:Nat→ak} {I X:ak} {ρ:Operand→Value} {w:World}
variable {d:Option Tmp} {ty:TypeId} {pos:String} {aft:Array Edge} {gd:Option (Nat×Bool)} {oc:Option aX} {out:Out}
theorem nu {t e size n c l h m:Nat} {a:Option Addr} (ht:P.underlying t=some (.slice e)) (hs:(P.info? e).map (·.size)=some size) {vl vh vm:Option Value} (hb:(Instr.sliceBounds true n c vl vh vm).run P w=.ok (l,h,m) w):
  (Instr.sliceAt t (.slice a n c) vl vh vm).run P w=.ok (.slice (if m=l then a else a.map (·.add (l*size))) (h-l) (m-l)) w:=by
 cases hi:P.info? e with
 | none=>simp [hi] at hs
 | some inf=>
  simp only [hi,Option.map_some,Option.some.injEq] at hs
  have bA:(sizeOf e).run P w=.ok size w:=by simp [sizeOf,typeInfo,Sem.run_bind,hi,hs]
  simp only [Instr.sliceAt,Instr.slice,Sem.run_bind,run_underlying ht,Result.andThen_ok,hb,bA,Sem.run_pure]
def yz (T:aP) (E:List (Nat×AV)) (M:List ai) (oc:Option aX) (t:TypeId) (x:Operand) (lo hi mx:Option Operand):Option Out:=
 match cV T t,aI E x,oc with
 | some (.sl e),some (.sl u n),some o=>(match fA T e,M[u]? with
  | some k,some (.rw Te k' rows)=>(match lo,hi,mx,o with
   | some l,none,none,.n c=>(match cL (aI E l) with
    | some (.i64,z)=>bif k.beq k' then some ⟨[z=(c:Int),c<n,n=rows.length],.sb u k c (n-c),M,[],[],some [u]⟩ else none
    | _=>none)
   | none,some h,none,.n c=>(match cL (aI E h) with
    | some (.i64,z)=>some ⟨[z=(c:Int),c≤n,n=rows.length],.sl u c,M.set u (.rw Te k' (rows.take c)),[u],[],none⟩
    | _=>none)
   | none,some h,some m,.res (.ro k2 b3)=>(match cL (aI E h),cL (aI E m) with
    | some (.i64,z),some (.i64,z')=>some ⟨[z=(n:Int),z'=(n:Int),n=rows.length,k'=k2,c6 rows=b3],.d (.ro k2 b3),M.set u .dead,[u],[],none⟩
    | _,_=>none)
   | _,_,_,_=>none)
  | _,_=>none)
 | _,_,_=>none
theorem Src.cap {size n c c':Nat} {a:Option Addr} {xs:List Value} (h:Src w size (.slice a n c) n xs):Src w size (.slice a n c') n xs:=by
 refine ⟨h.1,?_⟩
 rcases h.2 with ⟨rfl,_,_,_⟩ | ⟨a',_,e,h2⟩
 ·exact Or.inl ⟨rfl,_,_,rfl⟩
 ·simp only [Value.slice.injEq] at e;obtain ⟨rfl,-,rfl⟩:=e
  exact Or.inr ⟨a',c',rfl,h2⟩
theorem bM.cap {K:World→Prop} {k n c c':Nat} {a:Option Addr} {rows:List (List DV)} {H:ak} (h:bM K (.ro k rows) (.slice a n c) H) (hc:n≤c'):bM K (.ro k rows) (.slice a n c') H:=by
 cases h with
 | ro X hl hy hs hr=>
  obtain ⟨a',NH,e,-⟩:=hy
  simp only [Value.slice.injEq] at e;obtain ⟨rfl,rfl,rfl⟩:=e
  exact .ro X hl ⟨_,_,rfl,hc⟩ (fun w hw=>(hs w hw).cap) hr
theorem JG (hT:aZ P T=true) {t:TypeId} {x:Operand} {lo hi mx:Option Operand} (h:yz T E M oc t x lo hi mx=some out):aJ P ⟨d,.slice t x lo hi mx,ty,pos,aft,gd⟩ E M out:=by
 unfold yz at h
 split at h
 rotate_left
 ·simp at h
 rename_i e u n o ht hx
 split at h
 rotate_left
 ·simp at h
 rename_i k Te k' rows hk hM
 replace ht:=cH hT ht
 replace hk:=gO hT hk
 split at h
 ·rename_i l c
  split at h
  rotate_left
  ·simp at h
  rename_i z hz
  cases cn:k.beq k' with
  | false=>simp [cn] at h
  | true=>
   simp only [cn,cond_true,Option.some.injEq] at h;subst h
   obtain rfl:=Nat.eq_of_beq_eq_true cn
   refine aJ.look ?_ (by simpa using ff hM)
   intro D w0 K0 β F I ρ w C hv
   obtain ⟨rfl,hc,hn,-⟩:=hv
   obtain ⟨y,hy,r⟩:=C.bR hx
   cases r with
   | @sl _ _ cc a hb=>
    obtain ⟨H,hF,hB,hH⟩:=C.rm.at hM
    cases hB with
    | rw aS X G hl hs hr=>
     rw [hb] at aS;cases aS
     obtain ⟨b',cap,cs,fz,he,rfl,ey,cF,dA,lU⟩:=hs.block (by omega)
     simp only [Value.slice.injEq] at he;obtain ⟨rfl,-,rfl⟩:=he
     refine ⟨_,ax.sb (k:=k) (o:=c) (n:=n-c) (c':=cc-c) hb,fun w' _=>?_⟩
     have:=nu (P:=P) (w:=w') (a:=some ⟨b',0,none⟩) ht hk (n:=n) (c:=cc) (l:=c) (h:=n) (m:=cc) (vl:=some (.int .i64 c)) (vh:=none) (vm:=none) (by simp [Instr.sliceBounds,iF (show c≤n by omega)])
     rw [if_neg (by omega)] at this
     simp only [execOp,hy,C.int hz,Option.map_some,Option.map_none,Sem.run_bind,this,Result.andThen_ok,Sem.run_pure,add_eq,Nat.zero_add]
 ·rename_i hh c
  split at h
  rotate_left
  ·simp at h
  rename_i z hz
  simp only [Option.some.injEq] at h;subst h
  intro D w0 K0 β F I ρ w C hv
  obtain ⟨rfl,hc,hn,-⟩:=hv
  obtain ⟨y,hy,r⟩:=C.bR hx
  cases r with
  | @sl _ _ cc a hb=>
   have R:=C.rm.x
   have hB:=R.blk u _ hM
   have R1:=R.fo hM
   have aO:=ff hM
   generalize jy:F u=Fu at hB R1
   cases hB with
   | @rw _ _ _ _ _ H0 aS X G hl hs hr=>
    rw [hb] at aS;cases aS
    have jU:n≤cc:=by
     rcases hs.2 with ⟨h0,-,a,hq⟩ | ⟨b',cap,cs,fz,hq,-,-,-,dA,-⟩
     ·omega
     ·simp only [Value.slice.injEq] at hq;omega
    have fk:=nu (P:=P) (w:=w) (a:=a) ht hk (n:=n) (c:=cc) (l:=0) (h:=c) (m:=cc) (vl:=none) (vh:=some (.int .i64 c)) (vm:=none) (by simp [Instr.sliceBounds,iF (show c≤cc by omega)])
    have jx:(if cc=0 then a else a.map (·.add (0*k)))=a:=by
     split
     ·rfl
     ·cases a with
      | none=>rfl
      | some a=>simp [add_zero']
    rw [jx] at fk
    refine aY.pure (v:=.slice a c cc) (w':=w) (by simp only [execOp,hy,C.int hz,Option.map_some,Option.map_none,Sem.run_bind,fk,Result.andThen_ok,Sem.run_pure,Nat.sub_zero]) ?_
    have hX:∀ a,a<rows.length→(X a).length=k':=fun a ha=>(hl a _ (List.getElem?_eq_getElem ha)).2
    have gx:c≤rows.length:=by omega
    have hlen:(rows.take c).length=c:=by simp;omega
    have ra:dt (fun w=>K0 w∧Holds w I) k' rows X G:=⟨hl,hr⟩
    have dO:dY Te k' (.slice a c cc) c (lay c X) H0:=by
     refine ⟨eu fun i hi=>hX i (by omega),?_⟩
     rcases hs.2 with ⟨h0,e0,a',hq⟩ | ⟨b',cap,cs,fz,hq,e0,ey,h1,dA,lU⟩
     ·simp only [Value.slice.injEq] at hq
      obtain ⟨rfl,-,rfl⟩:=hq
      obtain rfl:c=0:=by omega
      exact Or.inl ⟨rfl,e0,_,rfl⟩
     ·simp only [Value.slice.injEq] at hq
      obtain ⟨rfl,-,rfl⟩:=hq
      refine Or.inr ⟨b',cc,cs,fz,rfl,e0,ey,h1,by omega,?_⟩
      rw [oz hX gx,← lU,List.take_take,Nat.min_eq_left (Nat.mul_le_mul_right _ gx)]
    have fW:bF (fun w=>K0 w∧Holds w I) β u (.rw Te k' (rows.take c)) (H0++bI c k' G):=by
     have:=bF.rw (K:=fun w=>K0 w∧Holds w I) (u:=u) (T:=Te) (k:=k') (rows:=rows.take c) hb X G (ra.take (c:=c)).hl (by rw [hlen];exact dO) (ra.take (c:=c)).hr
     rw [hlen] at this;exact this
    rw [List.nil_append,rH G gx,← List.append_assoc] at R1
    have R3:=((R1.drop.perm (Y:=(H0++bI c k' G)++[]) (by rw [List.append_nil])).back (by rw [List.length_set];exact aO) (by simp [aN]) fW).nil rfl
    rw [List.set_set] at R3
    refine ⟨β,_,I,R3,(Ext.refl β).b _,bS.refl _,fun q hq gB=>?_,.sl hb⟩
    have kn:q≠u:=by simpa using gB
    simp only [aN];rw [if_neg kn,if_neg kn]
 ·rename_i hh m k2 b3
  split at h
  rotate_left
  ·simp at h
  rename_i z z' hz jx
  simp only [Option.some.injEq] at h;subst h
  intro D w0 K0 β F I ρ w C hv
  obtain ⟨rfl,rfl,hn,rfl,rfl,-⟩:=hv
  obtain ⟨y,hy,r⟩:=C.bR hx
  cases r with
  | @sl _ _ cc a hb=>
   have R:=C.rm.x
   have hB:=R.blk u _ hM
   have R1:=R.fo hM
   generalize jy:F u=Fu at hB R1
   have hd:bM (fun w=>K0 w∧Holds w I) (.em Te k' rows) (.slice a n cc) Fu∧n≤cc:=by
    cases hB with
    | rw aS X G hl hs hr=>
     rw [hb] at aS;cases aS
     refine ⟨by rw [hn];exact .em X G hl hs hr,?_⟩
     rcases hs.2 with ⟨h0,-,a,hq⟩ | ⟨b',cap,cs,fz,hq,-,-,-,dA,-⟩
     ·omega
     ·simp only [Value.slice.injEq] at hq;omega
   obtain ⟨hd,jU⟩:=hd
   have fk:=nu (P:=P) (w:=w) (a:=a) ht hk (n:=n) (c:=cc) (l:=0) (h:=n) (m:=n) (vl:=none) (vh:=some (.int .i64 n)) (vm:=some (.int .i64 n)) (by simp [Instr.sliceBounds,iF jU,iF (Nat.le_refl n)])
   have NI:(if n=0 then a else a.map (·.add (0*k)))=a:=by
    split
    ·rfl
    ·cases a with
     | none=>rfl
     | some a=>simp [add_zero']
   rw [NI] at fk
   refine aY.pure (v:=.slice a n n) (w':=w) (by simp only [execOp,hy,C.int hz,C.int jx,Option.map_some,Option.map_none,Sem.run_bind,fk,Result.andThen_ok,Sem.run_pure,Nat.sub_zero]) ?_
   rw [List.nil_append] at R1
   have R2:RM D w0 K0 (M.set u .dead) β (aN F u []) (Fu++I) w:=by
    refine ⟨R1.len,fun v bl hv=>(R1.blk v bl hv).mono (fun w hw=>⟨hw.1,(Holds.app.1 hw.2).2⟩) (Ext.refl _),?_⟩
    exact R1.st.perm (List.Perm.append_left _ List.perm_append_comm)
   refine ⟨β,_,_,R2,(Ext.refl β).b _,⟨_,rfl⟩,fun q _ hq=>by simp only [aN];rw [if_neg (by simpa using hq)],?_⟩
   have:=sc (K':=fun w=>K0 w∧Holds w (Fu++I)) hd fun w hw=>⟨⟨hw.1,(Holds.app.1 hw.2).2⟩,(Holds.app.1 hw.2).1⟩
   rw [ew] at this
   exact .d (this.cap (Nat.le_refl _))
 ·simp at h
def uW (T:aP) (E:List (Nat×AV)) (M:List ai) (oc:Option aX) (t:TypeId) (x ix:Operand):Option Out:=
 match cL (aI E ix),cV T t,aI E x,oc with
 | some (_,z),some (.sl e),some (.sb u k o n),some (.n i)=>(match fA T e,M[u]? with
  | some k',some (.rw _ _ rows)=>bif k.beq k' then some ⟨[z=(i:Int),i<n,o+n≤rows.length],.ep u k (o+i) 0,M,[],[],some []⟩ else none
  | _,_=>none)
 | _,_,_,_=>none
theorem EG (hT:aZ P T=true) {t:TypeId} {x ix:Operand} (h:uW T E M oc t x ix=some out):aJ P ⟨d,.indexAddr t x ix,ty,pos,aft,gd⟩ E M out:=by
 unfold uW at h
 split at h
 rotate_left
 ·simp at h
 rename_i kk z e u k o n i hz ht hx
 split at h
 rotate_left
 ·simp at h
 rename_i k' Tt k2 rows hk hM
 cases cn:k.beq k' with
 | false=>simp [cn] at h
 | true=>
  simp only [cn,cond_true,Option.some.injEq] at h;subst h
  obtain rfl:=Nat.eq_of_beq_eq_true cn
  replace ht:=cH hT ht
  replace hk:=gO hT hk
  refine aJ.look ?_ (by simp)
  intro D w0 K0 β F I ρ w C da
  obtain ⟨rfl,hi,CY,-⟩:=da
  obtain ⟨y,hy,r⟩:=C.bR hx
  cases r with
  | sb hb=>
   refine ⟨_,?_,fun _ _=>rT ht hk hy (C.int hz) (by omega) (by omega)⟩
   rw [add_eq]
   have:=ax.ep (K:=fun w=>K0 w∧Holds w I) (k:=k) (i:=o+i) (o:=0) hb
   rw [Nat.add_mul,Nat.add_zero] at this
   simpa using this
def vG (T:aP) (E:List (Nat×AV)) (M:List ai) (t:TypeId) (x:Operand):Option Out:=
 match iX T t,aI E x with
 | some (_,k,_,z),some (.sb u k' o n)=>(match M[u]? with
  | some (.rw Te k2 rows)=>bif k.beq k'&&k.beq k2&&z.all bf then some ⟨[0<n,o+n≤rows.length],.d (.v (.tuple #[])),M.set u (.rw Te k2 (rows.take o++(List.replicate n (z.map .v)++rows.drop (o+n)))),[u],[],none⟩ else none
  | _=>none)
 | _,_=>none
theorem Fs (cs:Array Value) (i:Nat) (zs:List Value) (h:i+zs.length≤cs.size):(cm cs i zs).toList=cs.toList.take i++(zs++cs.toList.drop (i+zs.length)):=by
 apply List.ext_getElem?;intro p
 rw [Array.getElem?_toList,ox _ _ _ _ h,nt (by simpa using h)]
 split
 ·rfl
 ·simp
theorem GI {l z:List Value} {i n N:Nat} (hz:z.length=n) (h1:i+n≤N) (h2:N≤l.length):(l.take i++(z++l.drop (i+n))).take N=(l.take N).take i++(z++(l.take N).drop (i+n)):=by
 subst hz
 apply List.ext_getElem?;intro p
 rw [List.getElem?_take,nt (by omega),nt (by simp;omega),List.getElem?_take]
 by_cases hp:p<N
 ·rw [if_pos hp,if_pos hp]
 ·rw [if_neg hp,if_neg hp,if_neg (by omega)]
theorem GJ {z:List Value} {zv:Value} (hz:zv.cells=z.toArray) (n:Nat):(Builtin.zeroCells zv.cells n).toList=lay n fun _=>z:=by
 rw [hz];unfold Builtin.zeroCells
 have:=rZ z n z.length rfl
 simpa using this
theorem Ft (hT:aZ P T=true) {t:TypeId} {x:Operand} (h:vG T E M t x=some out):aJ P ⟨d,.call ⟨.builtin .clear,#[x],#[t]⟩,ty,pos,aft,gd⟩ E M out:=by
 unfold vG at h
 split at h
 rotate_left
 ·simp at h
 rename_i e k b z u k' o n he hx
 split at h
 rotate_left
 ·simp at h
 rename_i Te k2 rows hM
 cases hc:(k.beq k'&&k.beq k2&&z.all bf) with
 | false=>simp [hc] at h
 | true=>
  simp only [hc,cond_true,Option.some.injEq] at h;subst h
  simp only [Bool.and_eq_true] at hc
  obtain rfl:=Nat.eq_of_beq_eq_true hc.1.1
  obtain rfl:=Nat.eq_of_beq_eq_true hc.1.2
  obtain ⟨zv,ok,hz,eI⟩:=kF hT he
  intro D w0 K0 β F I ρ w C hv
  obtain ⟨nK,tB,-⟩:=hv
  obtain ⟨y,hy,r⟩:=C.bR hx
  have hzero:∀ w:World,(zeroValue e).run P w=.ok zv w:=fun w=>by obtain ⟨i,hi,-,-,h3⟩:=ok.info;simp [zeroValue,typeInfo,Sem.run_bind,hi,h3]
  cases r with
  | @sb _ _ _ _ b0 c0 c1 hb=>
   have R:=C.rm.x
   have hB:=R.blk u _ hM
   have hH:=R.iK hM
   have R1:=R.fo hM
   have aO:=ff hM
   generalize jy:F u=Fu at hB hH R1
   cases hB with
   | rw aS X G hl hs hr=>
    rw [hb] at aS;cases aS
    obtain ⟨b',cap,cs,fz,hq,rfl,ey,cF,dA,lU⟩:=hs.block (by omega)
    simp only [Value.slice.injEq,Option.some.injEq,Addr.mk.injEq] at hq
    obtain ⟨⟨rfl,-⟩,-,rfl⟩:=hq
    have hw:=(Holds.app.1 hH).1.one
    have hX:∀ a,a<rows.length→(X a).length=k:=fun a ha=>(hl a _ (List.getElem?_eq_getElem ha)).2
    have yA:(lay n fun _=>z).length=n*k:=eu fun _ _=>eI
    have hmul:o*k+n*k≤rows.length*k:=by rw [← Nat.add_mul];exact Nat.mul_le_mul_right _ tB
    have bA:rows.length*k≤cs.size:=by rw [cF];exact Nat.mul_le_mul_right _ dA
    obtain ⟨n',rfl⟩:∃ n',n=n'+1:=⟨n-1,by omega⟩
    refine Gj (Z:=lay (n'+1) fun _=>z) ok.bB (hzero w) hy hw (GJ hz _) (by omega) (fun q hq=>?_) ?_
    ·simp only [lay,List.mem_flatMap] at hq
     obtain ⟨_,-,hq⟩:=hq
     exact List.all_eq_true.1 hc.2 q hq
    have ra:dt (fun w=>K0 w∧Holds w I) k rows X G:=⟨hl,hr⟩
    have rz:dt (fun w=>K0 w∧Holds w I) k (List.replicate (n'+1) (z.map DV.v)) (fun _=>z) (fun _ _=>[]):=⟨fun i r hi=>by
     rw [List.getElem?_replicate] at hi
     split at hi
     ·simp only [Option.some.injEq] at hi;subst hi;rw [List.length_map];exact ⟨eI,eI⟩
     ·simp at hi,fun i r j c x hi h1 h2=>by
     rw [List.getElem?_replicate] at hi
     split at hi
     ·simp only [Option.some.injEq] at hi;subst hi;exact tV h1 h2
     ·simp at hi⟩
    have ia:=(ra.take (c:=o)).app (rz.app (ra.drop (c:=o+(n'+1))))
    have ho:(rows.take o).length=o:=by simp;omega
    have kZ:(rows.take o++(List.replicate (n'+1) (z.map DV.v)++rows.drop (o+(n'+1)))).length=rows.length:=by simp;omega
    rw [ho,List.length_replicate] at ia
    have e1:=oH o ((n'+1)+(rows.length-(o+(n'+1)))) X (fun i=>if i<n'+1 then z else X (o+(n'+1)+(i-(n'+1))))
    rw [oH (n'+1) (rows.length-(o+(n'+1))) (fun _=>z) (fun i=>X (o+(n'+1)+i)),uA hX tB,show o+((n'+1)+(rows.length-(o+(n'+1))))=rows.length by omega] at e1
    have e2:=p9 o ((n'+1)+(rows.length-(o+(n'+1)))) k G (fun i=>if i<n'+1 then (fun _=>[]) else G (o+(n'+1)+(i-(n'+1))))
    rw [p9 (n'+1) (rows.length-(o+(n'+1))) k (fun _ _=>[]) (fun i=>G (o+(n'+1)+i)),ky,List.nil_append,show o+((n'+1)+(rows.length-(o+(n'+1))))=rows.length by omega] at e2
    have e3:=rH (k:=k) G (show o+(n'+1)≤rows.length by omega)
    have e4:=rH (n:=o+(n'+1)) (k:=k) G (show o≤o+(n'+1) by omega)
    have bB:=R1.st
    rw [e3,e4] at bB
    have lB:St D w0 w ((b0,.cells cs Te fz)::((bI o k G++bI (rows.length-(o+(n'+1))) k fun i=>G (o+(n'+1)+i))++(((bI (o+(n'+1)-o) k fun i=>G (o+i)))++((List.range (M.set u .dead).length).flatMap (aN F u [])++I)))):=bB.perm (by classical rw [List.perm_iff_count];intro z;simp only [List.count_append,List.count_cons,List.cons_append,List.nil_append];omega)
    have lC:=lB.set (.cells (cm cs (o*k) (lay (n'+1) fun _=>z)) Te fz)
    have R2:bK D w0 K0 (M.set u .dead) β (aN F u []) I (([(b0,.cells (cm cs (o*k) (lay (n'+1) fun _=>z)) Te fz)]++(bI o k G++bI (rows.length-(o+(n'+1))) k fun i=>G (o+(n'+1)+i)))++(bI (o+(n'+1)-o) k fun i=>G (o+i))) _:=R1.move (lC.perm (by classical rw [List.perm_iff_count];intro z;simp only [List.count_append,List.count_cons,List.cons_append,List.nil_append];omega))
    have fW:bF (fun w=>K0 w∧Holds w I) β u (.rw Te k (rows.take o++(List.replicate (n'+1) (z.map DV.v)++rows.drop (o+(n'+1))))) ([(b0,.cells (cm cs (o*k) (lay (n'+1) fun _=>z)) Te fz)]++(bI o k G++bI (rows.length-(o+(n'+1))) k fun i=>G (o+(n'+1)+i))):=by
     have:=bF.rw (K:=fun w=>K0 w∧Holds w I) (u:=u) (T:=Te) (k:=k) (rows:=rows.take o++(List.replicate (n'+1) (z.map DV.v)++rows.drop (o+(n'+1)))) (H0:=[(b0,.cells (cm cs (o*k) (lay (n'+1) fun _=>z)) Te fz)]) hb _ _ ia.hl (by
      rw [kZ,e1]
      refine ⟨by rw [List.length_append,List.length_append,yA,List.length_drop,eu hX,eu (n:=o) fun a ha=>hX a (by omega),Nat.add_mul o];omega,Or.inr ⟨_,_,_,fz,rfl,rfl,by rw [iE];exact ey,by rw [iE];exact cF,dA,?_⟩⟩
      rw [Fs _ _ _ (by omega),yA,GI yA (by omega) (by simpa using bA),lU,oz (c:=o) hX (by omega),Nat.add_mul o]) ia.hr
     rw [kZ,e2] at this;exact this
    have R3:=((R2.drop.perm (Y:=([(b0,.cells (cm cs (o*k) (lay (n'+1) fun _=>z)) Te fz)]++(bI o k G++bI (rows.length-(o+(n'+1))) k fun i=>G (o+(n'+1)+i)))++[]) (by rw [List.append_nil])).back (by rw [List.length_set];exact aO) (by simp [aN]) fW).nil rfl
    rw [List.set_set] at R3
    refine ⟨β,_,I,R3,(Ext.refl β).b _,bS.refl _,fun q hq gB=>?_,.d (.v _)⟩
    have kn:q≠u:=by simpa using gB
    simp only [aN];rw [if_neg kn,if_neg kn]
def wL (T:aP) (E:List (Nat×AV)) (M:List ai) (oc:Option aX) (t:TypeId) (x ix:Operand):Option Out:=
 match cV T t,jn (aI E x),cL (aI E ix),oc with
 | some .st,some l,some (_,z),some (.n i)=>(match l[i]? with | some b=>some (lk [z=(i:Int)] (.d (.v (.int .u8 (b.toNat:Int)))) M) | none=>none)
 | _,_,_,_=>none
theorem GK (hT:aZ P T=true) {t:TypeId} {x ix:Operand} (h:wL T E M oc t x ix=some out):aJ P ⟨d,.index t x ix,ty,pos,aft,gd⟩ E M out:=by
 unfold wL at h
 split at h
 ·rename_i l k z i hu hx hz
  split at h
  ·rename_i b hb
   simp only [Option.some.injEq] at h;subst h
   refine aJ.same ?_
   intro D w0 K0 β F I ρ w C hv
   obtain ⟨rfl,-⟩:=hv
   refine ⟨_,fun w' _=>?_,.d (.v _)⟩
   have h1:=C.str hx
   have h2:=C.int hz
   have h3:=cH hT hu
   have h4:(⟨l.toArray⟩:ByteArray)[i]?=some b:=by
    obtain ⟨hi,rfl⟩:=List.getElem?_eq_some_iff.1 hb
    exact getElem?_pos (⟨l.toArray⟩:ByteArray) i (by show i<l.toArray.size;simpa using hi)
   simp [execOp,h1,h2,Instr.index,asIntOf,Sem.run_bind,run_underlying h3,h4]
  ·simp at h
 ·simp at h
def uX (T:aP) (E:List (Nat×AV)) (M:List ai) (oc:Option aX) (t:TypeId) (x ix:Operand):Option Out:=
 match cL (aI E ix),cV T t,aI E x,oc with
 | some (_,z),some (.ar n e),some (.ep u k j o),some (.n2 i _)=>(match fA T e with
  | some sz=>bif Nat.beq k 1&&Nat.beq o 0 then some (lk [z=(i:Int),i<n] (.ep u 1 (j+i*sz) 0) M) else none
  | none=>none)
 | _,_,_,_=>none
theorem EH (hT:aZ P T=true) {t:TypeId} {x ix:Operand} (h:uX T E M oc t x ix=some out):aJ P ⟨d,.indexAddr t x ix,ty,pos,aft,gd⟩ E M out:=by
 unfold uX at h
 split at h
 rotate_left
 ·simp at h
 rename_i kk z n e u k j o i _ hz ht hx
 split at h
 rotate_left
 ·simp at h
 rename_i sz hk
 cases cn:(Nat.beq k 1&&Nat.beq o 0) with
 | false=>simp [cn] at h
 | true=>
  simp only [cn,cond_true,Option.some.injEq] at h;subst h
  simp only [Bool.and_eq_true] at cn
  obtain rfl:=Nat.eq_of_beq_eq_true cn.1
  obtain rfl:=Nat.eq_of_beq_eq_true cn.2
  replace ht:=cH hT ht
  replace hk:=gO hT hk
  refine aJ.same fun C da=>?_
  obtain ⟨rfl,hi,-⟩:=da
  obtain ⟨y,hy,r⟩:=C.bR hx
  cases r with
  | ep hb=>
   refine ⟨_,fun _ _=>ow ht hk hy (C.int hz) (by omega) (by omega),?_⟩
   rw [add_eq,Int.toNat_natCast,show j*1+0+i*sz=(j+i*sz)*1+0 by omega]
   exact .ep hb
def nL:List ai→List Nat→List ai
 | M,[]=>M
 | M,u::r=>nL (M.set u .dead) r
theorem Ad:∀ (b:List Nat) (M:List ai),(nL M b).length=M.length
 | [],_=>rfl
 | u::r,M=>by rw [nL,Ad r,List.length_set]
theorem RM.die:∀ {b:List Nat} {M:List ai} {F:Nat→ak} {I:ak},RM D w0 K0 M β F I w→(∀ u ∈ b,u<M.length)→∃ F' I',RM D w0 K0 (nL M b) β F' I' w∧bS I I'∧(∀ w,Holds w I'→∀ u ∈ b,Holds w (F u))∧∀ u,u ∉ b→F' u=F u
 | [],M,F,I,R,_=>⟨F,I,R,bS.refl I,fun _ _ u hu=>by simp at hu,fun _ _=>rfl⟩
 | u::r,M,F,I,R,hb=>by
  have hu:=hb u (by simp)
  have R1:=R.x.fo (List.getElem?_eq_getElem hu)
  rw [List.nil_append] at R1
  have R2:RM D w0 K0 (M.set u .dead) β (aN F u []) (F u++I) w:=
   ⟨R1.len,fun v bl hv=>(R1.blk v bl hv).mono (fun w hw=>⟨hw.1,(Holds.app.1 hw.2).2⟩) (Ext.refl _),R1.st.perm (List.Perm.append_left _ List.perm_append_comm)⟩
  obtain ⟨F',I',R3,g,h1,h2⟩:=R2.die (b:=r) (fun v hv=>by rw [List.length_set];exact hb v (by simp [hv]))
  refine ⟨F',I',R3,(show bS I (F u++I) from ⟨F u,rfl⟩).trans g,fun w hw v hv=>?_,fun v hv=>?_⟩
  ·by_cases e:v=u
   ·subst e;exact (Holds.app.1 (g.holds w hw)).1
   ·have:=h1 w hw v ((List.mem_cons.1 hv).resolve_left e)
    simpa [aN,e] using this
  ·simp only [List.mem_cons,not_or] at hv
   rw [h2 v hv.2];simp only [aN];rw [if_neg hv.1]
def vH (P:Program) (E:List (Nat×AV)) (M:List ai) (oc:Option aX) (g:Operand) (args:Array Operand):Option Out:=
 match aI E g,kR E args.toList,oc with
 | some (.fn f cu),some l,some (.stay told x)=>(match nz M (l++cu) told with
  | some (vc,b)=>bif lu x&&nE M b then some ⟨al P f told x::vc,(mV (nL M b) x).1,(mV (nL M b) x).2,b,[],none⟩ else none
  | none=>none)
 | _,_,_=>none
theorem Fw {g:Operand} {args:Array Operand} {e7:Array TypeId} (h:vH P E M oc g args=some out):aJ P ⟨d,.call ⟨.value g,args,e7⟩,ty,pos,aft,gd⟩ E M out:=by
 unfold vH at h
 split at h
 ·rename_i f cu l told x hg hl
  split at h
  ·rename_i vc b wA
   cases en:(lu x&&nE M b) with
   | false=>simp [en] at h
   | true=>
    simp only [en,cond_true,Option.some.injEq] at h;subst h
    simp only [Bool.and_eq_true] at en
    have hb:=uw en.2
    intro D w0 K0 β F I ρ w C hv
    obtain ⟨gl,hv⟩:=hv
    obtain ⟨y,hy,r⟩:=C.bR hg
    cases r with
    | fn cs cG gx=>
     obtain ⟨dN,km⟩:=C.mU hl
     have gS:(args.toList.map ρ++cs).length=(l++cu).length:=by rw [List.length_append,List.length_append,dN,cG]
     have nJ:∀ (j:Nat) c y,(l++cu)[j]?=some c→(args.toList.map ρ++cs)[j]?=some y→ax (fun w=>K0 w∧Holds w I) β c y:=by
      intro j c y h1 h2
      rcases Nat.lt_or_ge j l.length with hj | hj
      ·rw [List.getElem?_append_left hj] at h1
       rw [List.getElem?_append_left (by omega)] at h2
       exact km j c y h1 h2
      ·rw [List.getElem?_append_right hj] at h1
       rw [List.getElem?_append_right (by omega),dN] at h2
       exact gx _ c y h1 h2
     obtain ⟨F1,I1,R1,g1,bB,qY⟩:=C.rm.die hb
     obtain ⟨e1,e2⟩:=ub C.rm (K':=iO K0 I1 F1 []) wA hv (fun w hw=>⟨⟨hw.1.1,g1.holds w hw.1.2⟩,bB w hw.1.2⟩) gS nJ
     have hm:args.map ρ=(args.toList.map ρ).toArray:=by rw [← Array.toList_map]
     refine pX hy gl.1 hm ?_
     have lA:((args.toList.map ρ).toArray++cs.toArray:Array Value)=(args.toList.map ρ++cs).toArray:=by simp
     rw [lA]
     refine (gl.now R1 C.k (b:=[]) (by simp) e1 e2 (fun h=>absurd rfl h)).mono ?_
     rintro e w' ⟨v,rfl,I',X,R,hI,hd⟩
     refine ⟨v,rfl,?_⟩
     have R':bK D w0 K0 (nL M b) β F1 I' (X++[]) w':=by rw [List.append_nil];exact R
     obtain ⟨aB,F',R2,e,f2,-,a2⟩:=vz en.1 R' hd
     exact ⟨aB,F',I',R2.nil rfl,e.b _,g1.trans hI,fun u hu yB=>(f2 u (by rw [Ad];exact hu)).trans (qY u yB),a2⟩
  ·simp at h
 ·simp at h
end Go.Proofs.YtcnpikbbmbombaaGreatDoor
namespace Go.Proofs.YtcnpikbbmbombaaGreatDoor
open Go.RowKit
variable {mk:Bool} {P:Program} {T:aP} {f:FuncId} {w:World} {D:List Nat} {w0:World} {K0:World→Prop} {E:List (Nat×AV)} {M:List ai} {β:Beta} {F:Nat→ak} {I X:ak} {ρ:Operand→Value}
variable {d:Option Tmp} {ty:TypeId} {pos:String} {aft:Array Edge} {gd:Option (Nat×Bool)} {oc:Option aX} {out:Out}
def jq:List Nat→Nat→Option Nat
 | [],_=>none
 | k::r,u=>bif k.beq u then some 0 else (match jq r u with | some i=>some (i+1) | none=>none)
theorem kD:∀ {l:List Nat} {u i:Nat},jq l u=some i→l[i]?=some u
 | [],u,i,h=>by simp [jq] at h
 | k::r,u,i,h=>by
  unfold jq at h
  cases hk:k.beq u with
  | true=>simp only [hk,cond_true,Option.some.injEq] at h;subst h;simp [Nat.eq_of_beq_eq_true hk]
  | false=>
   simp only [hk,cond_false] at h
   split at h
   ·rename_i j hj;simp only [Option.some.injEq] at h;subst h;simpa using kD hj
   ·simp at h
def s5 (l:List Nat):AV→Option AV
 | .d x=>some (.d x)
 | .sl u n=>(match jq l u with | some v=>some (.sl v n) | none=>none)
 | .pt u o=>(match jq l u with | some v=>some (.pt v o) | none=>none)
 | .mv u=>(match jq l u with | some v=>some (.mv v) | none=>none)
 | .yl u=>(match jq l u with | some v=>some (.yl v) | none=>none)
 | .sb u k o n=>(match jq l u with | some v=>some (.sb v k o n) | none=>none)
 | .ep u k i o=>(match jq l u with | some v=>some (.ep v k i o) | none=>none)
 | .sf u k o n q=>(match jq l u with | some v=>some (.sf v k o n q) | none=>none)
 | .rp r o=>some (.rp r o)
 | .bt bs=>some (.bt bs)
 | .uk=>some .uk
 | _=>none
def nF (l:List Nat):List AV→Option (List AV)
 | []=>some []
 | c::r=>(match s5 l c,nF l r with | some c',some r'=>some (c'::r') | _,_=>none)
def qE (l:List Nat):AV→Option AV
 | .fn f cs=>(match nF l cs with | some bW=>some (.fn f bW) | none=>none)
 | .ag cs=>(match nF l cs with | some bW=>some (.ag bW) | none=>none)
 | .tu cs=>(match nF l cs with | some bW=>some (.tu bW) | none=>none)
 | c=>s5 l c
def kc (l:List Nat):List AV→Option (List AV)
 | []=>some []
 | c::r=>(match qE l c,kc l r with | some c',some r'=>some (c'::r') | _,_=>none)
def qF (l:List Nat):List (Nat×AV)→Option (List (Nat×AV))
 | []=>some []
 | (t,c)::r=>(match qE l c,qF l r with | some c',some r'=>some ((t,c')::r') | _,_=>none)
def s6 (l:List Nat):ai→Option ai
 | .bx T cs=>(match kc l cs with | some bW=>some (.bx T bW) | none=>none)
 | .rw T k rows=>some (.rw T k rows)
 | .tw a c T k rows=>some (.tw a c T k rows)
 | .nm v b=>(match jq l v with | some i=>some (.nm i b) | none=>none)
 | .gw g row=>some (.gw g row)
 | .fl T k m cs=>(match kc l cs with | some bW=>some (.fl T k m bW) | none=>none)
 | .mf _ _ _=>none
 | .il _ _ _ _=>none
 | .mp T c es=>some (.mp T c es)
 | .mu T c es=>some (.mu T c es)
 | .it (some v) a s c=>(match jq l v with | some i=>some (.it (some i) a s c) | none=>none)
 | .it none a s c=>some (.it none a s c)
 | .lp b f sz E rf=>(match qF l E with | some E'=>some (.lp b f sz E' rf) | none=>none)
 | .dead=>some .dead
def fX (l:List Nat) (M:List ai):List Nat→Option (List ai)
 | []=>some []
 | u::r=>(match M[u]? with
  | some b=>(match s6 l b,fX l M r with | some b',some r'=>some (b'::r') | _,_=>none)
  | none=>none)
def s7 (l:List Nat):AV→Option AV
 | .ag cs=>(match kc l cs with | some bW=>some (.ag bW) | none=>none)
 | .tu cs=>(match kc l cs with | some bW=>some (.tu bW) | none=>none)
 | c=>qE l c
def jr (l:List Nat) (E:List (Nat×AV)):List Nat→Option (List (Nat×AV))
 | []=>some []
 | t::r=>(match b5 E t with
  | some v=>(match s7 l v,jr l E r with | some v',some r'=>some ((t,v')::r') | _,_=>none)
  | none=>none)
def eU (β:Beta):List Nat→Beta
 | []=>[]
 | u::r=>(match β[u]? with | some x=>x | none=>(none,0))::eU β r
theorem fg:∀ {l:List Nat} {i u:Nat} {x:Option Addr×Nat},l[i]?=some u→β[u]?=some x→(eU β l)[i]?=some x
 | [],i,u,x,h,_=>by simp at h
 | v::r,i,u,x,h,hx=>by
  cases i with
  | zero=>simp at h;subst h;simp [eU,hx]
  | succ i=>simp at h;simpa [eU] using fg h hx
theorem tP (β:Beta) (l:List Nat):(eU β l).length=l.length:=by induction l with | nil=>rfl | cons u r ih=>simp [eU,ih]
theorem AM {K:World→Prop} {l:List Nat} {c c':AV} (h:s5 l c=some c') {y:Value} (r:ax K β c y):ax K (eU β l) c' y:=by
 unfold s5 at h
 split at h
 ·simp only [Option.some.injEq] at h;subst h;cases r with | d r=>exact .d r
 ·split at h
  ·rename_i hv;simp only [Option.some.injEq] at h;subst h;cases r with | sl hb=>exact .sl (fg (kD hv) hb)
  ·simp at h
 ·split at h
  ·rename_i hv;simp only [Option.some.injEq] at h;subst h;cases r with | pt hb=>exact .pt (fg (kD hv) hb)
  ·simp at h
 ·split at h
  ·rename_i hv;simp only [Option.some.injEq] at h;subst h;cases r with | mv hb=>exact .mv (fg (kD hv) hb)
  ·simp at h
 ·split at h
  ·rename_i hv;simp only [Option.some.injEq] at h;subst h;cases r with | yl hb=>exact .yl (fg (kD hv) hb)
  ·simp at h
 ·split at h
  ·rename_i hv;simp only [Option.some.injEq] at h;subst h;cases r with | sb hb=>exact .sb (fg (kD hv) hb)
  ·simp at h
 ·split at h
  ·rename_i hv;simp only [Option.some.injEq] at h;subst h;cases r with | ep hb=>exact .ep (fg (kD hv) hb)
  ·simp at h
 ·split at h
  ·rename_i hv;simp only [Option.some.injEq] at h;subst h;cases r with | sf hb h1 h2 h3=>exact .sf (fg (kD hv) hb) h1 h2 h3
  ·simp at h
 ·simp only [Option.some.injEq] at h;subst h;cases r with | rp a X hl hc hr=>exact .rp a X hl hc hr
 ·simp only [Option.some.injEq] at h;subst h;cases r with | bt hd hn=>exact .bt hd hn
 ·simp only [Option.some.injEq] at h;subst h;cases r with | uk hu=>exact .uk hu
 ·simp at h
theorem r3 {K:World→Prop} {l:List Nat}:∀ {cs bW:List AV},nF l cs=some bW→bW.length=cs.length∧∀ {ys:List Value},(∀ (j:Nat) c y,cs[j]?=some c→ys[j]?=some y→ax K β c y)→∀ (j:Nat) c y,bW[j]?=some c→ys[j]?=some y→ax K (eU β l) c y
 | [],bW,h=>by simp only [nF,Option.some.injEq] at h;subst h;simp
 | c::r,bW,h=>by
  unfold nF at h
  split at h
  ·rename_i c1 r1 h1 h2
   simp only [Option.some.injEq] at h;subst h
   obtain ⟨e1,e2⟩:=r3 (K:=K) h2
   refine ⟨by simp [e1],fun {ys} hr j d y h3 h4=>?_⟩
   cases ys with
   | nil=>simp at h4
   | cons z zs=>
    cases j with
    | zero=>simp at h3 h4;subst h3 h4;exact AM h1 (hr 0 _ _ rfl rfl)
    | succ j=>simp at h3 h4;exact e2 (ys:=zs) (fun j c y h5 h6=>hr (j+1) c y (by simpa using h5) (by simpa using h6)) j d y h3 h4
  ·simp at h
theorem uY {K:World→Prop} {l:List Nat} {c c':AV} (h:qE l c=some c') {y:Value} (r:ax K β c y):ax K (eU β l) c' y:=by
 unfold qE at h
 split at h
 ·split at h
  ·rename_i hl;simp only [Option.some.injEq] at h;subst h
   cases r with | fn ys cS hr=>obtain ⟨e1,e2⟩:=r3 (β:=β) (K:=K) hl;exact .fn ys (by omega) (e2 hr)
  ·simp at h
 ·split at h
  ·rename_i hl;simp only [Option.some.injEq] at h;subst h
   cases r with | ag ys cS hr=>obtain ⟨e1,e2⟩:=r3 (β:=β) (K:=K) hl;exact .ag ys (by omega) (e2 hr)
  ·simp at h
 ·split at h
  ·rename_i hl;simp only [Option.some.injEq] at h;subst h
   cases r with | tu ys cS hr=>obtain ⟨e1,e2⟩:=r3 (β:=β) (K:=K) hl;exact .tu ys (by omega) (e2 hr)
  ·simp at h
 ·exact AM h r
theorem oA {K:World→Prop} {l:List Nat}:∀ {cs bW:List AV},kc l cs=some bW→bW.length=cs.length∧∀ {ys:List Value},(∀ (j:Nat) c y,cs[j]?=some c→ys[j]?=some y→ax K β c y)→∀ (j:Nat) c y,bW[j]?=some c→ys[j]?=some y→ax K (eU β l) c y
 | [],bW,h=>by simp only [kc,Option.some.injEq] at h;subst h;simp
 | c::r,bW,h=>by
  unfold kc at h
  split at h
  ·rename_i c1 r1 h1 h2
   simp only [Option.some.injEq] at h;subst h
   obtain ⟨e1,e2⟩:=oA (K:=K) h2
   refine ⟨by simp [e1],fun {ys} hr j d y h3 h4=>?_⟩
   cases ys with
   | nil=>simp at h4
   | cons z zs=>
    cases j with
    | zero=>simp at h3 h4;subst h3 h4;exact uY h1 (hr 0 _ _ rfl rfl)
    | succ j=>simp at h3 h4;exact e2 (ys:=zs) (fun j c y h5 h6=>hr (j+1) c y (by simpa using h5) (by simpa using h6)) j d y h3 h4
  ·simp at h
theorem AN {K:World→Prop} {l:List Nat} {c c':AV} (h:s7 l c=some c') {y:Value} (r:ax K β c y):ax K (eU β l) c' y:=by
 unfold s7 at h
 split at h
 ·split at h
  ·rename_i hl;simp only [Option.some.injEq] at h;subst h
   cases r with | ag ys cS hr=>obtain ⟨e1,e2⟩:=oA (β:=β) (K:=K) hl;exact .ag ys (by omega) (e2 hr)
  ·simp at h
 ·split at h
  ·rename_i hl;simp only [Option.some.injEq] at h;subst h
   cases r with | tu ys cS hr=>obtain ⟨e1,e2⟩:=oA (β:=β) (K:=K) hl;exact .tu ys (by omega) (e2 hr)
  ·simp at h
 ·exact uY h r
theorem AO {K:World→Prop} {l:List Nat} {g:Nat→Value}:∀ {E E':List (Nat×AV)},qF l E=some E'→(∀ x ∈ E,ax K β x.2 (g x.1))→∀ x ∈ E',ax K (eU β l) x.2 (g x.1)
 | [],E',h,_,x,hx=>by simp only [qF,Option.some.injEq] at h;subst h;cases hx
 | (t,c)::r,E',h,hr,x,hx=>by
  unfold qF at h
  split at h
  ·rename_i c1 r1 h1 h2
   simp only [Option.some.injEq] at h;subst h
   rcases List.mem_cons.1 hx with rfl | hx
   ·exact uY h1 (hr (t,c) List.mem_cons_self)
   ·exact AO h2 (fun y hy=>hr y (List.mem_cons_of_mem _ hy)) x hx
  ·simp at h
theorem uZ {K:World→Prop} {l:List Nat} {u i:Nat} {b b':ai} {H:ak} (hi:l[i]?=some u) (h:s6 l b=some b') (r:bF K β u b H):bF K (eU β l) i b' H:=by
 unfold s6 at h
 split at h
 ·split at h
  ·rename_i hl;simp only [Option.some.injEq] at h;subst h
   cases r with
   | bx hb ys cS hr=>obtain ⟨e1,e2⟩:=oA (β:=β) (K:=K) hl;exact .bx (fg hi hb) ys (by omega) (e2 hr)
  ·simp at h
 ·simp only [Option.some.injEq] at h;subst h
  cases r with | rw hb X G hl hs hr=>exact .rw (fg hi hb) X G hl hs hr
 ·simp only [Option.some.injEq] at h;subst h
  cases r with | tw hb X G hl hs hr=>exact .tw (fg hi hb) X G hl hs hr
 ·split at h
  ·rename_i hv;simp only [Option.some.injEq] at h;subst h
   cases r with | nm hb=>exact .nm (fg (kD hv) hb)
  ·simp at h
 ·simp only [Option.some.injEq] at h;subst h
  cases r with | gw X hl hc hr=>exact .gw X hl hc hr
 ·split at h
  ·rename_i hl;simp only [Option.some.injEq] at h;subst h
   cases r with
   | fl hb ys cS hm hc hr=>obtain ⟨e1,e2⟩:=oA (β:=β) (K:=K) hl;exact .fl (fg hi hb) ys cS (by omega) hc (e2 hr)
  ·simp at h
 ·simp at h
 ·simp at h
 ·simp only [Option.some.injEq] at h;subst h
  cases r with | mp hb vs G hl hr=>exact .mp (fg hi hb) vs G hl hr
 ·simp only [Option.some.injEq] at h;subst h
  cases r with | mu iy hp hn aO hb vs G hl hr=>exact .mu iy hp hn aO (fg hi hb) vs G hl hr
 ·split at h
  ·rename_i hv;simp only [Option.some.injEq] at h;subst h
   cases r with
   | @it b bm c since ck um seen hb hm=>
    obtain ⟨c',h'⟩:=hm _ rfl
    exact .it (bm:=bm) (fg hi hb) (fun v' hU=>by cases hU;exact ⟨c',fg (kD hv) h'⟩)
  ·simp at h
 ·simp only [Option.some.injEq] at h;subst h
  cases r with
  | @it b bm c since ck um seen hb hm=>exact .it (bm:=bm) (fg hi hb) (fun v' hU=>by cases hU)
 ·split at h
  ·rename_i hp;simp only [Option.some.injEq] at h;subst h
   cases r with | @lp b c f sz nR bz E rf tmps hb bA hr=>exact .lp (fg hi hb) bA (AO (g:=fun t=>tmps.getD t undef) hp hr)
  ·simp at h
 ·simp only [Option.some.injEq] at h;subst h
  cases r with | dead=>exact .dead i
theorem qg {l:List Nat}:∀ {k:List Nat} {M':List ai},fX l M k=some M'→M'.length=k.length∧∀ (i:Nat) b,M'[i]?=some b→∃ u b0,k[i]?=some u∧M[u]?=some b0∧s6 l b0=some b
 | [],M',h=>by simp only [fX,Option.some.injEq] at h;subst h;simp
 | u::r,M',h=>by
  unfold fX at h
  split at h
  ·rename_i b hb
   split at h
   ·rename_i b' r' h1 h2
    simp only [Option.some.injEq] at h;subst h
    obtain ⟨e1,e2⟩:=qg h2
    refine ⟨by simp [e1],fun i c hc=>?_⟩
    cases i with
    | zero=>simp at hc;subst hc;exact ⟨u,b,rfl,hb,h1⟩
    | succ i=>simp at hc;simpa using e2 i c hc
   ·simp at h
  ·simp at h
theorem u1 {K:World→Prop} {l:List Nat} {ρ:Operand→Value} (hs:∀ t v,b5 E t=some v→ax K β v (ρ (.tmp t))):∀ {ts:List Nat} {E':List (Nat×AV)},jr l E ts=some E'→∀ t v,b5 E' t=some v→ax K (eU β l) v (ρ (.tmp t))
 | [],E',h,t,v,hv=>by simp only [jr,Option.some.injEq] at h;subst h;simp [b5] at hv
 | s::r,E',h,t,v,hv=>by
  unfold jr at h
  split at h
  ·rename_i u hu
   split at h
   ·rename_i u' r' h1 h2
    simp only [Option.some.injEq] at h;subst h
    unfold b5 at hv
    cases hk:s.beq t with
    | true=>
     simp only [hk,cond_true,Option.some.injEq] at hv;subst hv
     rw [← Nat.eq_of_beq_eq_true hk];exact AN h1 (hs s u hu)
    | false=>simp only [hk,cond_false] at hv;exact u1 hs h2 t v hv
   ·simp at h
  ·simp at h
theorem uB:∀ {l:List Nat} {M:List ai} {F:Nat→ak} {X:ak},l.Nodup→(∀ u ∈ l,u<M.length)→bK D w0 K0 M β F I X w→∃ rest,St D w0 w (rest++(I++(X++l.flatMap F)))
 | [],M,F,X,_,_,R=>⟨_,by simpa using R.st⟩
 | u::r,M,F,X,hn,hl,R=>by
  have hu:=hl u (by simp)
  have R':=R.fo (List.getElem?_eq_getElem hu)
  simp only [List.nodup_cons] at hn
  obtain ⟨rest,h⟩:=uB hn.2 (fun v hv=>by rw [List.length_set];exact hl v (by simp [hv])) R'
  refine ⟨rest,?_⟩
  have:r.flatMap (aN F u [])=r.flatMap F:=fh fun v hv=>by
   simp only [aN];rw [if_neg (fun e=>hn.1 (by rw [← e];exact hv))]
  rw [this] at h
  rw [List.flatMap_cons]
  simpa [List.append_assoc] using h
def mz (F:Nat→ak) (l:List Nat) (i:Nat):ak:=match l[i]? with | some u=>F u | none=>[]
theorem uC {F:Nat→ak} {l:List Nat} {i u:Nat} (h:l[i]?=some u):mz F l i=F u:=by simp [mz,h]
theorem r4 (F:Nat→ak):∀ (l:List Nat),(List.range l.length).flatMap (mz F l)=l.flatMap F
 | []=>by simp
 | u::r=>by
  rw [List.length_cons,rG,List.flatMap_cons]
  congr 1
  have:=r4 F r
  exact this
def nodupB:List Nat→Bool
 | []=>true
 | u::r=>!(r.elem u)&&nodupB r
theorem oy:∀ {l:List Nat},nodupB l=true→l.Nodup
 | [],_=>by simp
 | u::r,h=>by
  simp only [nodupB,Bool.and_eq_true,Bool.not_eq_true'] at h
  rw [List.nodup_cons]
  refine ⟨?_,oy h.2⟩
  intro hu;have:=h.1;simp [hu] at this
mutual
def mapA (σ:Nat→Nat):AV→AV
 | .d x=>.d x
 | .sl u n=>.sl (σ u) n
 | .pt u o=>.pt (σ u) o
 | .mv u=>.mv (σ u)
 | .yl u=>.yl (σ u)
 | .sb u k o n=>.sb (σ u) k o n
 | .sf u k o n q=>.sf (σ u) k o n q
 | .ep u k i o=>.ep (σ u) k i o
 | .rp r o=>.rp r o
 | .bt bs=>.bt bs
 | .uk=>.uk
 | .fn f l=>.fn f (kS σ l)
 | .fm f l=>.fm f (kS σ l)
 | .ag l=>.ag (kS σ l)
 | .tu l=>.tu (kS σ l)
def kS (σ:Nat→Nat):List AV→List AV
 | []=>[]
 | c::r=>mapA σ c::kS σ r
end
theorem k9 (σ:Nat→Nat) (l:List AV):kS σ l=l.map (mapA σ):=by induction l with | nil=>rfl | cons c r ih=>rw [kS,ih];rfl
theorem nv {K:World→Prop} {β aB:Beta} {σ:Nat→Nat} (h:∀ (u:Nat) x,β[u]?=some x→aB[σ u]?=some x) {v:AV} {y:Value} (r:ax K β v y):ax K aB (mapA σ v) y:=by
 have key:∀ {l:List AV} {ys:List Value},(∀ (j:Nat) c y,l[j]?=some c→ys[j]?=some y→ax K aB (mapA σ c) y)→∀ (j:Nat) c y,(kS σ l)[j]?=some c→ys[j]?=some y→ax K aB c y:=by
  intro l ys hh j c y h1 h2
  rw [k9,List.getElem?_map,Option.map_eq_some_iff] at h1
  obtain ⟨c',h1,rfl⟩:=h1
  exact hh j c' y h1 h2
 induction r with
 | d h=>exact .d h
 | sl hb=>exact .sl (h _ _ hb)
 | pt hb=>exact .pt (h _ _ hb)
 | mv hb=>exact .mv (h _ _ hb)
 | yl hb=>exact .yl (h _ _ hb)
 | sb hb=>exact .sb (h _ _ hb)
 | sf hb h1 h2 h3=>exact .sf (h _ _ hb) h1 h2 h3
 | ep hb=>exact .ep (h _ _ hb)
 | rp a X hl hc hr=>exact .rp a X hl hc hr
 | bt hd hn=>exact .bt hd hn
 | uk hu=>exact .uk hu
 | fn ys hl hr ih=>exact .fn ys (by rw [k9,List.length_map];exact hl) (key ih)
 | fm ys hl hr ih=>exact .fm ys (by rw [k9,List.length_map];exact hl) (key ih)
 | ag ys hl hr ih=>exact .ag ys (by rw [k9,List.length_map];exact hl) (key ih)
 | tu ys hl hr ih=>exact .tu ys (by rw [k9,List.length_map];exact hl) (key ih)
def fp (σ:Nat→Nat):ai→ai
 | .bx T cs=>.bx T (kS σ cs)
 | .rw T k rows=>.rw T k rows
 | .tw a c T k rows=>.tw a c T k rows
 | .nm v b=>.nm (σ v) b
 | .gw g row=>.gw g row
 | .fl T k m cs=>.fl T k m (kS σ cs)
 | .mf T c es=>.mf T c (es.map fun e=>(e.1,e.2.1,mapA σ e.2.2))
 | .il um s l c=>.il (um.map σ) s l c
 | .mp T c es=>.mp T c es
 | .mu T c es=>.mu T c es
 | .it um a s c=>.it (um.map σ) a s c
 | .lp b f sz E rf=>.lp b f sz (E.map fun x=>(x.1,mapA σ x.2)) rf
 | .dead=>.dead
theorem se {K:World→Prop} {β aB:Beta} {σ:Nat→Nat} (h:∀ (u:Nat) x,β[u]?=some x→aB[σ u]?=some x) {u:Nat} {b:ai} {H:ak} (r:bF K β u b H):bF K aB (σ u) (fp σ b) H:=by
 cases r with
 | dead=>exact .dead _
 | bx hb ys hl hr=>
  refine .bx (h _ _ hb) ys (by rw [k9,List.length_map];exact hl) fun j c y h1 h2=>?_
  rw [k9,List.getElem?_map,Option.map_eq_some_iff] at h1
  obtain ⟨c',h1,rfl⟩:=h1
  exact nv h (hr j c' y h1 h2)
 | rw hb X G hl hs hr=>exact .rw (h _ _ hb) X G hl hs hr
 | tw hb X G hl hs hr=>exact .tw (h _ _ hb) X G hl hs hr
 | nm hb=>exact .nm (h _ _ hb)
 | gw X hl hc hr=>exact .gw X hl hc hr
 | fl hb ys hl hm hc hr=>
  refine .fl (h _ _ hb) ys hl (by rw [k9,List.length_map];exact hm) hc fun j c y h1 h2=>?_
  rw [k9,List.getElem?_map,Option.map_eq_some_iff] at h1
  obtain ⟨c',h1,rfl⟩:=h1
  exact nv h (hr j c' y h1 h2)
 | @mf _ _ Tm yh yi hb vs hl hr=>
  have hh:=bF.mf (K:=K) (T:=Tm) (ck:=yh) (u:=σ u) (h _ _ hb) vs (by rw [List.length_map];exact hl) (es:=List.map (fun (e:Nat×MK×AV)=>(e.1,e.2.1,mapA σ e.2.2)) yi) (fun j c y h1 h2=>by
   rw [List.getElem?_map,Option.map_eq_some_iff] at h1
   obtain ⟨c',h1,rfl⟩:=h1
   exact nv h (hr j c' y h1 h2))
  rw [ur (fun (e:Nat×MK×AV)=>(e.1,e.2.1,mapA σ e.2.2)) (fun _=>⟨rfl,rfl⟩)] at hh
  exact hh
 | mp hb vs G hl hr=>exact .mp (h _ _ hb) vs G hl hr
 | mu iy hp hn aO hb vs G hl hr=>exact .mu iy hp hn aO (h _ _ hb) vs G hl hr
 | lp hb bA hr=>
  refine .lp (h _ _ hb) bA fun x hx=>?_
  obtain ⟨x0,tA,rfl⟩:=List.mem_map.1 hx
  exact nv h (hr x0 tA)
 | @il b bm c since last ck um seen hb hm=>
  refine .il (bm:=bm) (seen:=seen) (h _ _ hb) (fun v hv=>?_)
  cases um with
  | none=>cases hv
  | some v0=>cases hv;obtain ⟨c',h'⟩:=hm v0 rfl;exact ⟨c',h _ _ h'⟩
 | @it b bm c since ck um seen hb hm=>
  refine .it (bm:=bm) (h _ _ hb) (fun v hv=>?_)
  cases um with
  | none=>cases hv
  | some v0=>cases hv;obtain ⟨c',h'⟩:=hm v0 rfl;exact ⟨c',h _ _ h'⟩
def jg (M:List ai):List Nat→List ai
 | []=>M
 | u::r=>jg (M.set u .dead) r
theorem zN:∀ (l:List Nat) (M:List ai),(jg M l).length=M.length
 | [],_=>rfl
 | u::r,M=>by rw [jg,zN r,List.length_set]
theorem zO:∀ {l:List Nat} {M:List ai} {F:Nat→ak} {X:ak},l.Nodup→(∀ u ∈ l,u<M.length)→bK D w0 K0 M β F I X w→
  ∃ F0,bK D w0 K0 (jg M l) β F0 I (X++l.flatMap F) w∧(∀ u ∈ l,F0 u=[])∧∀ u,u ∉ l→F0 u=F u
 | [],M,F,X,_,_,R=>⟨F,by simpa [jg] using R,by simp,fun _ _=>rfl⟩
 | u::r,M,F,X,hn,hl,R=>by
  have hu:=hl u (by simp)
  have R':=R.fo (List.getElem?_eq_getElem hu)
  simp only [List.nodup_cons] at hn
  obtain ⟨F0,h1,h2,h3⟩:=zO hn.2 (fun v hv=>by rw [List.length_set];exact hl v (by simp [hv])) R'
  have:r.flatMap (aN F u [])=r.flatMap F:=fh fun v hv=>by
   simp only [aN];rw [if_neg (fun e=>hn.1 (by rw [← e];exact hv))]
  rw [this] at h1
  refine ⟨F0,by rw [List.flatMap_cons,← List.append_assoc];exact h1,fun v hv=>?_,fun v hv=>?_⟩
  ·rcases List.mem_cons.1 hv with e | e
   ·subst e;rw [h3 v hn.1];simp [aN]
   ·exact h2 v e
  ·simp only [List.mem_cons,not_or] at hv
   rw [h3 v hv.2];simp only [aN];rw [if_neg hv.1]
theorem bK.put {X Y:ak} (R:bK D w0 K0 M β F I (X++Y) w) {u:Nat} (hu:u<M.length) (hF:F u=[]) {blk:ai} (hb:bF (fun w=>K0 w∧Holds w I) β u blk X):
  bK D w0 K0 (M.set u blk) β (aN F u X) I Y w where
 len:=by rw [List.length_set];exact R.len
 blk:=by
  intro v bl hv
  rw [List.getElem?_set] at hv
  by_cases e:u=v
  ·subst e
   simp only [hu,if_pos,Option.some.injEq] at hv;subst hv
   simpa [aN] using hb
  ·rw [if_neg e] at hv
   have:aN F u X v=F v:=by simp only [aN];rw [if_neg (fun h=>e h.symm)]
   rw [this];exact R.blk v bl hv
 st:=by
  have hs:=R.st
  rw [List.length_set,range_split hu]
  rw [range_split hu,hF] at hs
  have c1:(List.range u).flatMap (aN F u X)=(List.range u).flatMap F:=fh fun a ha=>by have:=List.mem_range.1 ha;simp [aN];omega
  have c2:(List.range' (u+1) (M.length-(u+1))).flatMap (aN F u X)=(List.range' (u+1) (M.length-(u+1))).flatMap F:=fh fun a ha=>by have:=(List.mem_range'_1.1 ha).1;simp [aN];omega
  have gu:aN F u X u=X:=by simp [aN]
  rw [c1,c2,gu]
  exact hs.perm (by classical rw [List.perm_iff_count];intro z;simp only [List.count_append,List.count_nil];omega)
def lE (M:List ai):List Nat→List ai→List ai
 | u::r,b::bs=>lE (M.set u b) r bs
 | _,_=>M
theorem Ae:∀ {l:List Nat} {bs:List ai} {M:List ai} {F:Nat→ak} {G:Nat→ak} {Y:ak},l.Nodup→bs.length=l.length→(∀ u ∈ l,u<M.length)→(∀ u ∈ l,F u=[])→
  bK D w0 K0 M β F I ((List.range l.length).flatMap G++Y) w→(∀ (i u:Nat) b,l[i]?=some u→bs[i]?=some b→bF (fun w=>K0 w∧Holds w I) β u b (G i))→
  ∃ F',bK D w0 K0 (lE M l bs) β F' I Y w∧∀ u,u ∉ l→F' u=F u
 | [],[],M,F,G,Y,_,_,_,_,R,_=>⟨F,by simpa [lE] using R,fun _ _=>rfl⟩
 | [],_::_,_,_,_,_,_,h,_,_,_,_=>by simp at h
 | _::_,[],_,_,_,_,_,h,_,_,_,_=>by simp at h
 | u::r,b::bs,M,F,G,Y,hn,hl,aO,hF,R,hb=>by
  simp only [List.nodup_cons] at hn
  rw [List.length_cons,rG,List.append_assoc] at R
  have R1:=R.put (aO u (by simp)) (hF u (by simp)) (hb 0 u b rfl rfl)
  obtain ⟨F',h1,h2⟩:=Ae (l:=r) (bs:=bs) (G:=fun i=>G (i+1)) hn.2 (by simpa using hl) (fun v hv=>by rw [List.length_set];exact aO v (by simp [hv])) (fun v hv=>by
   simp only [aN];rw [if_neg (fun e=>hn.1 (by rw [← e];exact hv))];exact hF v (by simp [hv])) R1 (fun i v c h3 h4=>hb (i+1) v c (by simpa using h3) (by simpa using h4))
  refine ⟨F',h1,fun v hv=>?_⟩
  simp only [List.mem_cons,not_or] at hv
  rw [h2 v hv.2];simp only [aN];rw [if_neg hv.1]
theorem GL {bs:List ai} {γ:Beta} {G:Nat→ak} {Y:ak} (hl:γ.length=bs.length) (R:bK D w0 K0 M β F I ((List.range bs.length).flatMap G++Y) w) (hb:∀ (i:Nat) b,bs[i]?=some b→bF (fun w=>K0 w∧Holds w I) (β++γ) (M.length+i) b (G i)):
  ∃ F',bK D w0 K0 (M++bs) (β++γ) F' I Y w∧∀ u,u<M.length→F' u=F u:=by
 refine ⟨fun u=>if u<M.length then F u else G (u-M.length),⟨by simp [R.len,hl],fun u b hu=>?_,?_⟩,fun u hu=>by simp [hu]⟩
 ·rcases Nat.lt_or_ge u M.length with h | h
  ·rw [List.getElem?_append_left h] at hu
   simp only [h,if_true]
   exact (R.blk u b hu).mono (fun _ h=>h) (Ext.app _ _)
  ·rw [List.getElem?_append_right h] at hu
   have hn:¬ u<M.length:=by omega
   simp only [hn,if_false]
   have:=hb (u-M.length) b hu
   rwa [show M.length+(u-M.length)=u by omega] at this
 ·rw [List.length_append,List.range_add,List.flatMap_append,List.flatMap_map]
  have e1:(List.range M.length).flatMap (fun u=>if u<M.length then F u else G (u-M.length))=(List.range M.length).flatMap F:=fh fun u hu=>by have:=List.mem_range.1 hu;simp [this]
  have e2:(List.range bs.length).flatMap (fun i=>if M.length+i<M.length then F (M.length+i) else G (M.length+i-M.length))=(List.range bs.length).flatMap G:=fh fun i hi=>by
   rw [if_neg (by omega),Nat.add_sub_cancel_left]
  rw [e1,e2]
  exact R.st.perm (by classical rw [List.perm_iff_count];intro z;simp only [List.count_append];omega)
def aE (P:Program) (f:FuncId) (args:List AV) (M:List ai) (x:AV) (M':List ai):Prop:=
 ig P f=true∧∀ {D:List Nat} {w0:World} {K0:World→Prop} {β:Beta} {F:Nat→ak} {I:ak} {w:World} (ys:List Value),RM D w0 K0 M β F I w→(∀ w,Kp D w0 w→K0 w)→ys.length=args.length→(∀ (j:Nat) c y,args[j]?=some c→ys[j]?=some y→ax (fun w=>K0 w∧Holds w I) β c y)→
  Calls P f ys.toArray w fun e w'=>∃ v,e=.returned v∧∃ aB F' I',RM D w0 K0 M' aB F' I' w'∧Ext β aB∧bS I I'∧ax (fun w=>K0 w∧Holds w I') aB x v
def outer (l:List Nat) (n:Nat) (i:Nat):Nat:=match l[i]? with | some u=>u | none=>n+(i-l.length)
def wM (P:Program) (E:List (Nat×AV)) (M:List ai) (oc:Option aX) (g:Operand) (args:Array Operand):Option Out:=
 match aI E g,kR E args.toList,oc with
 | some (.fn f cu),some vs,some (.mem l x M')=>(match kc l (vs++cu),fX l M l with
  | some told,some Ms=>bif nodupB l&&Nat.ble l.length M'.length then some ⟨[aE P f told Ms x M'],mapA (outer l M.length) x,lE (jg M l++(M'.drop l.length).map (fp (outer l M.length))) l ((M'.take l.length).map (fp (outer l M.length))),l,[],none⟩ else none
  | _,_=>none)
 | _,_,_=>none
theorem Em (R:RM D w0 K0 M β F I w) (hK:∀ w,Kp D w0 w→K0 w) {f:FuncId} {vs:List AV} {ys:List Value} {l:List Nat} {told:List AV} {Ms M':List ai} {x:AV} (gS:ys.length=vs.length)
  (e1:told.length=vs.length) (e2:∀ (j:Nat) c y,told[j]?=some c→ys[j]?=some y→ax (fun w=>K0 w∧Holds w I) (eU β l) c y) (m1:Ms.length=l.length) (m2:∀ (i:Nat) b,Ms[i]?=some b→∃ u b0,l[i]?=some u∧M[u]?=some b0∧bF (fun w=>K0 w∧Holds w I) (eU β l) i b (F u)) (gD:l.Nodup) (hle:l.length≤M'.length) (gl:aE P f told Ms x M'):
  Calls P f ys.toArray w fun e w'=>∃ v,e=.returned v∧∃ aB F' I',RM D w0 K0 (lE (jg M l++(M'.drop l.length).map (fp (outer l M.length))) l ((M'.take l.length).map (fp (outer l M.length)))) aB F' I' w'∧gk [] β aB∧bS I I'∧(∀ u,u<M.length→u ∉ l→F' u=F u)∧ax (fun w=>K0 w∧Holds w I') aB (mapA (outer l M.length) x) v:=by
 have aO:∀ u ∈ l,u<M.length:=by
  intro u hu
  obtain ⟨i,hi,rfl⟩:=List.getElem_of_mem hu
  obtain ⟨u',b0,g1,g2,-⟩:=m2 i Ms[i] (List.getElem?_eq_getElem (by omega))
  rw [List.getElem?_eq_getElem hi,Option.some.injEq] at g1
  rw [g1];exact ff g2
 obtain ⟨F0,R0,pv,qY⟩:=zO gD aO R.x
 rw [List.nil_append] at R0
 have tC:=zN l M
 have Df:=r4 F l
 have tD:St D w0 w (l.flatMap F++((List.range (jg M l).length).flatMap F0++I)):=R0.st.perm (by classical rw [List.perm_iff_count];intro z;simp only [List.count_append];omega)
 have qZ:∀ w',Kp (keys (l.flatMap F)) w w'→K0 w'∧Holds w' I:=fun w' k=>by
  have t:St (keys (l.flatMap F)) w w' []:=⟨k,by simp [keys],by simp [keys],Holds.nil _⟩
  have s':=St.call tD rfl t
  rw [List.nil_append] at s'
  exact ⟨hK _ s'.kp,(Holds.app.1 s'.holds).2⟩
 have NJ:RM (keys (l.flatMap F)) w (fun w=>K0 w∧Holds w I) Ms (eU β l) (mz F l) [] w:=by
  refine ⟨by rw [tP,m1],fun i b hb=>?_,?_⟩
  ·obtain ⟨u,b0,g1,g2,g3⟩:=m2 i b hb
   rw [uC g1]
   exact g3.mono (fun w hw=>hw.1) (Ext.refl _)
  ·rw [m1,Df,List.append_nil]
   exact St.start tD.uj.nd tD.uj.holds
 refine (gl.2 _ NJ qZ (by omega) (fun j c y h1 h2=>(e2 j c y h1 h2).mono (fun w hw=>hw.1) (Ext.refl _))).mono ?_
 rintro e w' ⟨v,rfl,aB,F',I',R',hE,-,hr⟩
 refine ⟨v,rfl,?_⟩
 have s2:=St.call tD rfl R'.st
 have Pe:l.length≤aB.length:=by rw [R'.len];exact hle
 have l9:∀ (i:Nat) q,aB[i]?=some q→(β++aB.drop l.length)[outer l M.length i]?=some q:=by
  intro i q hq
  unfold outer
  rcases Nat.lt_or_ge i l.length with hi | hi
  ·have Dg:l[i]?=some l[i]:=List.getElem?_eq_getElem hi
   rw [Dg]
   have hu:=aO l[i] (List.getElem_mem hi)
   have yB:l[i]<β.length:=by rw [R.len];exact hu
   obtain ⟨q',Dh⟩:∃ q',β[l[i]]?=some q':=⟨_,List.getElem?_eq_getElem yB⟩
   have:=hE i _ (fg Dg Dh)
   rw [hq,Option.some.injEq] at this
   rw [List.getElem?_append_left (by rw [R.len];exact hu),Dh,this]
  ·rw [List.getElem?_eq_none hi]
   dsimp only
   rw [List.getElem?_append_right (by rw [R.len];omega),R.len,Nat.add_sub_cancel_left,List.getElem?_drop,show l.length+(i-l.length)=i by omega];exact hq
 have cn:∀ w,K0 w∧Holds w (I'++I)→(K0 w∧Holds w I)∧Holds w I':=fun w hw=>⟨⟨hw.1,(Holds.app.1 hw.2).2⟩,(Holds.app.1 hw.2).1⟩
 have JH:(List.range M'.length).flatMap F'=(List.range l.length).flatMap F'++(List.range ((M'.drop l.length).map (fp (outer l M.length))).length).flatMap fun i=>F' (l.length+i):=by
  rw [List.length_map,List.length_drop]
  conv=>lhs;rw [show M'.length=l.length+(M'.length-l.length) by omega,List.range_add,List.flatMap_append,List.flatMap_map]
 have R2:bK D w0 K0 (jg M l) β F0 (I'++I) ((List.range ((M'.drop l.length).map (fp (outer l M.length))).length).flatMap (fun i=>F' (l.length+i))++(List.range l.length).flatMap F') w':=by
  refine ⟨R0.len,fun u b hb=>(R0.blk u b hb).mono (fun w hw=>(cn w hw).1) (Ext.refl _),?_⟩
  rw [JH] at s2
  exact s2.perm (by classical rw [List.perm_iff_count];intro z;simp only [List.count_append];omega)
 obtain ⟨F2,R3,kY⟩:=GL (γ:=aB.drop l.length) (by rw [List.length_drop,R'.len,List.length_map,List.length_drop]) R2 (fun i b hb=>by
  rw [List.getElem?_map,Option.map_eq_some_iff] at hb
  obtain ⟨b0,hb,rfl⟩:=hb
  rw [List.getElem?_drop] at hb
  have:=(se l9 (R'.blk _ b0 hb)).mono cn (Ext.refl _)
  have ho:outer l M.length (l.length+i)=M.length+i:=by unfold outer;rw [List.getElem?_eq_none (by omega)];dsimp only;omega
  rw [ho] at this
  rw [tC];exact this)
 have NK:=R3.perm (Y:=(List.range l.length).flatMap F'++[]) (by rw [List.append_nil])
 obtain ⟨F3,R4,NL⟩:=Ae (bs:=(M'.take l.length).map (fp (outer l M.length))) gD (by simp;omega) (fun u hu=>by have:=aO u hu;rw [List.length_append];omega) (fun u hu=>by rw [kY u (by rw [tC];exact aO u hu)];exact pv u hu) NK (fun i u b h1 h2=>by
  rw [List.getElem?_map,Option.map_eq_some_iff] at h2
  obtain ⟨b0,h2,rfl⟩:=h2
  rw [List.getElem?_take] at h2
  split at h2
  ·have:=(se l9 (R'.blk i b0 h2)).mono cn (Ext.refl _)
   have ho:outer l M.length i=u:=by unfold outer;rw [h1]
   rw [ho] at this;exact this
  ·simp at h2)
 refine ⟨_,F3,I'++I,R4.nil rfl,(Ext.app _ _).b _,⟨I',rfl⟩,fun u hu Di=>?_,(nv l9 hr).mono cn (Ext.refl _)⟩
 rw [NL u Di,kY u (by rw [tC];exact hu),qY u Di]
theorem zl (R:RM D w0 K0 M β F I w) (hK:∀ w,Kp D w0 w→K0 w) {f:FuncId} {vs:List AV} {ys:List Value} {l:List Nat} {told:List AV} {Ms M':List ai} {x:AV} (gS:ys.length=vs.length) (lF:∀ (j:Nat) c y,vs[j]?=some c→ys[j]?=some y→ax (fun w=>K0 w∧Holds w I) β c y)
  (oY:kc l vs=some told) (nZ:fX l M l=some Ms) (gD:l.Nodup) (hle:l.length≤M'.length) (gl:aE P f told Ms x M'):
  Calls P f ys.toArray w fun e w'=>∃ v,e=.returned v∧∃ aB F' I',RM D w0 K0 (lE (jg M l++(M'.drop l.length).map (fp (outer l M.length))) l ((M'.take l.length).map (fp (outer l M.length)))) aB F' I' w'∧gk [] β aB∧bS I I'∧(∀ u,u<M.length→u ∉ l→F' u=F u)∧ax (fun w=>K0 w∧Holds w I') aB (mapA (outer l M.length) x) v:=by
 obtain ⟨e1,e2⟩:=oA (β:=β) (K:=fun w=>K0 w∧Holds w I) oY
 obtain ⟨m1,m2⟩:=qg nZ
 refine Em R hK gS e1 (e2 lF) m1 (fun i b hb=>?_) gD hle gl
 obtain ⟨u,b0,g1,g2,g3⟩:=m2 i b hb
 exact ⟨u,b0,g1,g2,uZ g1 g3 (R.blk u b0 g2)⟩
theorem GM {g:Operand} {args:Array Operand} {e7:Array TypeId} (h:wM P E M oc g args=some out):aJ P ⟨d,.call ⟨.value g,args,e7⟩,ty,pos,aft,gd⟩ E M out:=by
 unfold wM at h
 split at h
 ·rename_i f cu vs l x M' hg q4
  split at h
  ·rename_i told Ms oY nZ
   cases hc:(nodupB l&&Nat.ble l.length M'.length) with
   | false=>simp only [hc,cond_false,reduceCtorEq] at h
   | true=>
    simp only [hc,cond_true,Option.some.injEq] at h;subst h
    simp only [Bool.and_eq_true] at hc
    have gD:=oy hc.1
    have hle:=Nat.le_of_ble_eq_true hc.2
    intro D w0 K0 β F I ρ w C hv
    obtain ⟨gl,-⟩:=hv
    obtain ⟨y,hy,r⟩:=C.bR hg
    cases r with
    | fn cs cG gx=>
     obtain ⟨dN,km⟩:=C.mU q4
     have gS:(args.toList.map ρ++cs).length=(vs++cu).length:=by rw [List.length_append,List.length_append,dN,cG]
     have nJ:∀ (j:Nat) c y,(vs++cu)[j]?=some c→(args.toList.map ρ++cs)[j]?=some y→ax (fun w=>K0 w∧Holds w I) β c y:=by
      intro j c y h1 h2
      rcases Nat.lt_or_ge j vs.length with hj | hj
      ·rw [List.getElem?_append_left hj] at h1
       rw [List.getElem?_append_left (by omega)] at h2
       exact km j c y h1 h2
      ·rw [List.getElem?_append_right hj] at h1
       rw [List.getElem?_append_right (by omega),dN] at h2
       exact gx _ c y h1 h2
     have hm:args.map ρ=(args.toList.map ρ).toArray:=by rw [← Array.toList_map]
     refine pX hy gl.1 hm ?_
     have lA:((args.toList.map ρ).toArray++cs.toArray:Array Value)=(args.toList.map ρ++cs).toArray:=by simp
     rw [lA]
     exact zl C.rm C.k gS nJ oY nZ gD hle gl
  ·simp at h
 ·simp at h
end Go.Proofs.YtcnpikbbmbombaaGreatDoor
namespace Go.Proofs.YtcnpikbbmbombaaGreatDoor
open Go.RowKit
section
variable {P:Program} {ρ:Operand→Value} {w:World} {Φ:Value→World→Prop} {d:Option Tmp} {ty t k e:TypeId} {pos:String} {aft:Array Edge} {gd:Option (Nat×Bool)} {x:Operand}
def r5:Obj→Bool
 | .cells _ _ _=>false
 | _=>true
theorem qb {r:Nat} {o:Obj} (h:w.heap[r]?=some o) (ho:r5 o=true):(getObj r).run P w=.ok o w:=by
 cases o<;>simp [r5] at ho<;>simp [getObj,Sem.run,h]
theorem r6 {r:Nat} {o:Obj} (h:w.heap[r]?=some o) (ho:r5 o=true) (o':Obj):(setObj r o').run P w=.ok () (cg w r o'):=by
 cases o<;>simp [r5] at ho<;>simp [setObj,Sem.run,h,cg]
end
end Go.Proofs.YtcnpikbbmbombaaGreatDoor
namespace Go.Proofs.YtcnpikbbmbombaaGreatDoor
open Go.RowKit
variable {P:Program} {T:aP} {E:List (Nat×AV)} {M:List ai}
variable {d:Option Tmp} {ty:TypeId} {pos:String} {aft:Array Edge} {gd:Option (Nat×Bool)} {oc:Option aX} {out:Out}
def OU (T:aP) (E:List (Nat×AV)) (M:List ai) (oc:Option aX) (t:TypeId) (x:Operand) (lo hi mx:Option Operand):Option Out:=
 match cV T t,aI E x,oc with
 | some (.sl e),some (.sl u n),some o=>(match fA T e,M[u]? with
  | some k,some (.rw _ k' rows)=>(match lo,hi,mx,o with
   | none,some h,none,.n2 c _=>(match cL (aI E h) with
    | some (.i64,z)=>bif k.beq k' then some ⟨[z=(c:Int),0<c,c≤n,n=rows.length],.sb u k 0 c,M,[],[],some []⟩ else none
    | _=>none)
   | none,some h,none,.res (.ro k2 [])=>(match cL (aI E h) with
    | some (.i64,z)=>some ⟨[z=0,n=rows.length],.d (.ro k2 []),M,[],[],some []⟩
    | _=>none)
   | some l,none,none,.res (.ro k2 [])=>(match cL (aI E l) with
    | some (.i64,z)=>some ⟨[z=(n:Int),n=rows.length],.d (.ro k2 []),M,[],[],some []⟩
    | _=>none)
   | _,_,_,_=>none)
  | _,_=>none)
 | _,_,_=>none
theorem sg {K:World→Prop} {k n c o c':Nat} {a:Option Addr} {rows:List (List DV)} (h:bM K (.ro k rows) (.slice a n c) []) (ho:o≤c') (hc:c'≤rows.length):bM K (.ro k ((rows.take c').drop o)) (.slice (if c=o then a else a.map (·.add (o*k))) (c'-o) (c-o)) []:=by
 cases h with
 | ro X hl hy hs hr=>
  obtain ⟨a',NH,e,dA⟩:=hy
  simp only [Value.slice.injEq] at e;obtain ⟨rfl,rfl,rfl⟩:=e
  have hX:∀ i,i<rows.length→(X i).length=k:=fun i hi=>(hl i _ (List.getElem?_eq_getElem hi)).2
  have hlen:((rows.take c').drop o).length=c'-o:=by simp;omega
  have Dj:∀ (i:Nat) r,((rows.take c').drop o)[i]?=some r→rows[o+i]?=some r:=fun i r hi=>by
   rw [List.getElem?_drop,List.getElem?_take] at hi
   split at hi
   ·exact hi
   ·cases hi
  refine .ro (fun i=>X (o+i)) (fun i r hi=>hl (o+i) r (Dj i r hi)) ⟨_,_,by rw [hlen],by rw [hlen];omega⟩ (fun w hw=>?_) fun i r j x y h1 h2 h3=>hr (o+i) r j x y (Dj i r h1) h2 h3
  rw [hlen]
  refine ⟨eu fun i hi=>hX (o+i) (by omega),?_⟩
  rcases Nat.eq_zero_or_pos (c'-o) with h0 | hm
  ·exact Or.inl ⟨h0,_,_,by rw [h0]⟩
  rcases (hs w hw).2 with ⟨h0,-⟩ | ⟨a0,c0,e,ka⟩
  ·omega
  simp only [Value.slice.injEq] at e;obtain ⟨rfl,-,rfl⟩:=e
  refine Or.inr ⟨a0.add (o*k),_,by rw [if_neg (by omega)];rfl,fun j hj=>?_⟩
  have hC:(lay (c'-o) fun i=>X (o+i)).length=(c'-o)*k:=eu fun i hi=>hX (o+i) (by omega)
  have e1:lay (c'-o) (fun i=>X (o+i))=((lay rows.length X).drop (o*k)).take ((c'-o)*k):=by
   rw [← uA (n:=rows.length) (c:=o) hX (by omega)]
   exact oz (n:=rows.length-o) (c:=c'-o) (X:=fun i=>X (o+i)) (fun i hi=>hX (o+i) (by omega)) (by omega)
  have lV:(o+(c'-o))*k≤rows.length*k:=Nat.mul_le_mul_right k (by omega)
  rw [Nat.add_mul] at lV
  have hN:(lay rows.length X).length=rows.length*k:=eu hX
  have mZ:o*k+j<(lay rows.length X).length:=by omega
  rw [Addr.nr,ka (o*k+j) mZ,← List.getElem?_eq_getElem mZ,← List.getElem?_eq_getElem hj,e1,List.getElem?_take,if_pos (by omega),List.getElem?_drop]
def xE (T:aP) (E:List (Nat×AV)) (M:List ai) (oc:Option aX) (t:TypeId) (x:Operand) (lo hi mx:Option Operand):Option Out:=
 match cV T t,aI E x,oc with
 | some (.sl e),some (.d (.ro k' rows)),some (.n2 c o)=>(match fA T e with
  | some k=>(match lo,hi,mx with
   | none,some h,none=>(match cL (aI E h) with
    | some (.i64,z)=>bif k.beq k' then some ⟨[z=(c:Int),c≤rows.length],.d (.ro k (rows.take c)),M,[],[],some []⟩ else none
    | _=>none)
   | none,some h,some m=>(match cL (aI E h),cL (aI E m) with
    | some (.i64,z),some (.i64,z')=>bif k.beq k' then some ⟨[z=(c:Int),z'=(c:Int),c≤rows.length],.d (.ro k (rows.take c)),M,[],[],some []⟩ else none
    | _,_=>none)
   | some l,none,none=>(match cL (aI E l) with
    | some (.i64,z)=>bif k.beq k' then some ⟨[z=(o:Int),o≤rows.length],.d (.ro k (rows.drop o)),M,[],[],some []⟩ else none
    | _=>none)
   | some l,some h,none=>(match cL (aI E l),cL (aI E h) with
    | some (.i64,z),some (.i64,z')=>bif k.beq k' then some ⟨[z=(o:Int),z'=(c:Int),o≤c,c≤rows.length],.d (.ro k ((rows.take c).drop o)),M,[],[],some []⟩ else none
    | _,_=>none)
   | _,_,_=>none)
  | _=>none)
 | _,_,_=>none
theorem Ie (hT:aZ P T=true) {t:TypeId} {x:Operand} {lo hi mx:Option Operand} (h:xE T E M oc t x lo hi mx=some out):aJ P ⟨d,.slice t x lo hi mx,ty,pos,aft,gd⟩ E M out:=by
 unfold xE at h
 split at h
 rotate_left
 ·simp at h
 rename_i e k' rows c o ht hx
 split at h
 rotate_left
 ·simp at h
 rename_i k hk
 replace ht:=cH hT ht
 replace hk:=gO hT hk
 split at h
 ·rename_i hh
  split at h
  rotate_left
  ·simp at h
  rename_i z hz
  cases cn:k.beq k' with
  | false=>simp [cn] at h
  | true=>
   simp only [cn,cond_true,Option.some.injEq] at h;subst h
   obtain rfl:=Nat.eq_of_beq_eq_true cn
   refine aJ.look ?_ (by simp)
   intro D w0 K0 β F I ρ w C hv
   obtain ⟨rfl,hc,-⟩:=hv
   obtain ⟨y,hy,r⟩:=C.bR hx
   cases r with | d r=>
   obtain ⟨a,n,cc,rfl,hle,dA⟩:∃ a n cc,y=.slice a n cc∧n=rows.length∧rows.length≤cc:=by
    cases r with | ro X hl n3 hs hr=>obtain ⟨a,cc,rfl,h2⟩:=n3;exact ⟨_,_,_,rfl,rfl,h2⟩
   subst hle
   have p:=sg r (o:=0) (c':=c) (Nat.zero_le _) hc
   rw [List.drop_zero] at p
   refine ⟨_,.d p,fun w' _=>?_⟩
   have:=nu (P:=P) (w:=w') (a:=a) ht hk (n:=rows.length) (c:=cc) (l:=0) (h:=c) (m:=cc) (vl:=none) (vh:=some (.int .i64 c)) (vm:=none) (by simp [Instr.sliceBounds,iF (show c≤cc by omega)])
   simp only [execOp,hy,C.int hz,Option.map_some,Option.map_none,Sem.run_bind,this,Result.andThen_ok,Sem.run_pure]
 ·rename_i hh mm
  split at h
  rotate_left
  ·simp at h
  rename_i z z' hz jx
  cases cn:k.beq k' with
  | false=>simp [cn] at h
  | true=>
   simp only [cn,cond_true,Option.some.injEq] at h;subst h
   obtain rfl:=Nat.eq_of_beq_eq_true cn
   refine aJ.look ?_ (by simp)
   intro D w0 K0 β F I ρ w C hv
   obtain ⟨rfl,rfl,hc,-⟩:=hv
   obtain ⟨y,hy,r⟩:=C.bR hx
   cases r with | d r=>
   obtain ⟨a,n,cc,rfl,hle,dA⟩:∃ a n cc,y=.slice a n cc∧n=rows.length∧rows.length≤cc:=by
    cases r with | ro X hl n3 hs hr=>obtain ⟨a,cc,rfl,h2⟩:=n3;exact ⟨_,_,_,rfl,rfl,h2⟩
   subst hle
   have p:=sg r (o:=0) (c':=c) (Nat.zero_le _) hc
   rw [List.drop_zero] at p
   have hb:∀ q:Nat,(if q=0 then a else a.map (·.add (0*k)))=a:=by
    intro q
    rw [Nat.zero_mul]
    split
    ·rfl
    ·cases a with
     | none=>rfl
     | some a=>simp [add_zero']
   rw [hb cc] at p
   refine ⟨_,.d (p.cap (c':=c-0) (Nat.le_refl _)),fun w' _=>?_⟩
   have:=nu (P:=P) (w:=w') (a:=a) ht hk (n:=rows.length) (c:=cc) (l:=0) (h:=c) (m:=c) (vl:=none) (vh:=some (.int .i64 c)) (vm:=some (.int .i64 c)) (by simp [Instr.sliceBounds,iF (show c≤cc by omega),iF (Nat.le_refl c)])
   rw [hb c] at this
   simp only [execOp,hy,C.int hz,C.int jx,Option.map_some,Option.map_none,Sem.run_bind,this,Result.andThen_ok,Sem.run_pure]
 ·rename_i l
  split at h
  rotate_left
  ·simp at h
  rename_i z hz
  cases cn:k.beq k' with
  | false=>simp [cn] at h
  | true=>
   simp only [cn,cond_true,Option.some.injEq] at h;subst h
   obtain rfl:=Nat.eq_of_beq_eq_true cn
   refine aJ.look ?_ (by simp)
   intro D w0 K0 β F I ρ w C hv
   obtain ⟨rfl,hc,-⟩:=hv
   obtain ⟨y,hy,r⟩:=C.bR hx
   cases r with | d r=>
   obtain ⟨a,n,cc,rfl,hle,dA⟩:∃ a n cc,y=.slice a n cc∧n=rows.length∧rows.length≤cc:=by
    cases r with | ro X hl n3 hs hr=>obtain ⟨a,cc,rfl,h2⟩:=n3;exact ⟨_,_,_,rfl,rfl,h2⟩
   subst hle
   have p:=sg r (o:=o) (c':=rows.length) hc (Nat.le_refl _)
   rw [List.take_length] at p
   refine ⟨_,.d p,fun w' _=>?_⟩
   have:=nu (P:=P) (w:=w') (a:=a) ht hk (n:=rows.length) (c:=cc) (l:=o) (h:=rows.length) (m:=cc) (vl:=some (.int .i64 o)) (vh:=none) (vm:=none) (by simp [Instr.sliceBounds,iF hc])
   simp only [execOp,hy,C.int hz,Option.map_some,Option.map_none,Sem.run_bind,this,Result.andThen_ok,Sem.run_pure]
 ·rename_i l hh
  split at h
  rotate_left
  ·simp at h
  rename_i z z' hz jx
  cases cn:k.beq k' with
  | false=>simp [cn] at h
  | true=>
   simp only [cn,cond_true,Option.some.injEq] at h;subst h
   obtain rfl:=Nat.eq_of_beq_eq_true cn
   refine aJ.look ?_ (by simp)
   intro D w0 K0 β F I ρ w C hv
   obtain ⟨rfl,rfl,ho,hc,-⟩:=hv
   obtain ⟨y,hy,r⟩:=C.bR hx
   cases r with | d r=>
   obtain ⟨a,n,cc,rfl,hle,dA⟩:∃ a n cc,y=.slice a n cc∧n=rows.length∧rows.length≤cc:=by
    cases r with | ro X hl n3 hs hr=>obtain ⟨a,cc,rfl,h2⟩:=n3;exact ⟨_,_,_,rfl,rfl,h2⟩
   subst hle
   have p:=sg r (o:=o) (c':=c) ho hc
   refine ⟨_,.d p,fun w' _=>?_⟩
   have:=nu (P:=P) (w:=w') (a:=a) ht hk (n:=rows.length) (c:=cc) (l:=o) (h:=c) (m:=cc) (vl:=some (.int .i64 o)) (vh:=some (.int .i64 c)) (vm:=none) (by simp [Instr.sliceBounds,iF (show c≤cc by omega),iF ho])
   simp only [execOp,hy,C.int hz,C.int jx,Option.map_some,Option.map_none,Sem.run_bind,this,Result.andThen_ok,Sem.run_pure]
 ·simp at h
end Go.Proofs.YtcnpikbbmbombaaGreatDoor
namespace Go.Proofs.YtcnpikbbmbombaaGreatDoor
open Go.RowKit
variable {P:Program} {T:aP} {D:List Nat} {w0:World} {K0:World→Prop} {E:List (Nat×AV)} {M:List ai} {β:Beta} {F:Nat→ak} {I X:ak} {ρ:Operand→Value} {w:World}
variable {d:Option Tmp} {ty:TypeId} {pos:String} {aft:Array Edge} {gd:Option (Nat×Bool)} {oc:Option aX} {out:Out}
def u2 (T:aP) (E:List (Nat×AV)) (M:List ai) (oc:Option aX) (t:TypeId) (x ix:Operand):Option Out:=
 match cV T t,aI E x,cL (aI E ix),oc with
 | some (.sl e),some (.d (.v (.slice a n _))),some (_,z),some (.n2 i v)=>(match fA T e,M[v]? with
  | some k,some (.tw a' _ _ k' rows)=>bif k.beq k' then some ⟨[z=(i:Int),a=a',i<n,n=rows.length],.ep v k i 0,M,[],[],some []⟩ else none
  | _,_=>none)
 | _,_,_,_=>none
theorem EI (hT:aZ P T=true) {t:TypeId} {x ix:Operand} (h:u2 T E M oc t x ix=some out):aJ P ⟨d,.indexAddr t x ix,ty,pos,aft,gd⟩ E M out:=by
 unfold u2 at h
 split at h
 rotate_left
 ·simp at h
 rename_i e a n ca kk z i v ht hv hz
 replace ht:=cH hT ht
 split at h
 rotate_left
 ·simp at h
 rename_i k a' c' T' k' rows hk hM
 replace hk:=gO hT hk
 cases cn:k.beq k' with
 | false=>simp [cn] at h
 | true=>
  simp only [cn,cond_true,Option.some.injEq] at h;subst h
  obtain rfl:=Nat.eq_of_beq_eq_true cn
  refine aJ.look (fun C da=>?_) (by simp)
  obtain ⟨rfl,rfl,hi,CY,-⟩:=da
  obtain ⟨y,hy,r⟩:=C.bR hv
  cases r with | d r=>
  cases r with | v=>
  obtain ⟨H,-,hB,-⟩:=C.rm.at hM
  cases hB with
  | tw hb X G hl hs hr=>
   obtain ⟨b',cap,cs,fz,he,-⟩:=hs.block (by omega)
   cases he
   exact ⟨_,by rw [add_eq];simpa using ax.ep (k:=k) (i:=i) (o:=0) hb,fun _ _=>rT ht hk hy (C.int hz) (by omega) (by omega)⟩
def u3 (T:aP) (E:List (Nat×AV)) (M:List ai) (oc:Option aX) (t:TypeId) (x y:Operand):Option Out:=
 match aI E x,aI E y,fA T t,oc with
 | some (.ep u k i o),some v,some n,some (.ix _ row)=>(match ny v with
  | some l=>(match kb M l with
   | some (vc,xs,M')=>(match M'[u]? with
    | some (.tw a c e k' rows)=>bif k.beq k'&&l.length.beq n&&(o+n).ble k then some ⟨(rows[i]?=some row)::vc,.d .jk,M'.set u (.tw a c e k (rows.set i (row.take o++(xs++row.drop (o+xs.length))))),u::o7 l,[],none⟩ else none
    | _=>none)
   | none=>none)
  | none=>none)
 | _,_,_,_=>none
theorem EJ (hT:aZ P T=true) {t:TypeId} {x y:Operand} (h:u3 T E M oc t x y=some out):aJ P ⟨d,.store t x y,ty,pos,aft,gd⟩ E M out:=by
 unfold u3 at h
 split at h
 rotate_left
 ·simp at h
 rename_i u k i o v n i0 row hx hy hn
 split at h
 rotate_left
 ·simp at h
 rename_i l hl
 split at h
 rotate_left
 ·simp at h
 rename_i vc xs M' hp
 split at h
 rotate_left
 ·simp at h
 rename_i aa ca e k' rows hM
 cases hc:(k.beq k'&&l.length.beq n&&(o+n).ble k) with
 | false=>simp [hc] at h
 | true=>
  simp only [hc,cond_true,Option.some.injEq] at h;subst h
  simp only [Bool.and_eq_true] at hc
  obtain rfl:=Nat.eq_of_beq_eq_true hc.1.1
  have qQ:=Nat.eq_of_beq_eq_true hc.1.2
  have hle:=Nat.le_of_ble_eq_true hc.2
  intro D w0 K0 β F I ρ w C hv
  obtain ⟨b9,hv⟩:=hv
  obtain ⟨yx,iW,rx⟩:=C.bR hx
  obtain ⟨yy,nW,ry⟩:=C.bR hy
  obtain ⟨zs,h1,h2,h3,h4⟩:=pY hl ry
  obtain ⟨lM,F',Hp,R',dd,yu⟩:=sd C.rm.x hp hv (ys:=zs) h2 h3
  rw [List.nil_append] at R'
  cases rx with
  | @ep _ _ _ _ b0 c0 hb=>
   have aO:u<M'.length:=ff hM
   have hB:=R'.blk u _ hM
   have hH:=R'.iK hM
   have R1:=R'.fo hM
   have dl:=dd.len
   obtain ⟨Gx,yv,qV⟩:=dd.to
   generalize jy:F' u=Fu at hB hH R1
   cases hB with
   | tw aS X G cS hs hr=>
    rw [hb] at aS;cases aS
    obtain ⟨hi,-⟩:=List.getElem?_eq_some_iff.1 b9
    obtain ⟨b',cap,cs,fz,he,rfl,ey,cF,dA,ht⟩:=hs.block (by omega)
    cases he
    have hw:=(Holds.app.1 hH).1.one
    have hX:∀ a,a<rows.length→(X a).length=k:=fun a ha=>(cS a _ (List.getElem?_eq_getElem ha)).2
    have yt:i*k+k≤rows.length*k:=by have:=Nat.mul_le_mul_right k (show i+1≤rows.length from hi);rw [Nat.succ_mul] at this;exact this
    have bA:rows.length*k≤cs.size:=by rw [cF];exact Nat.mul_le_mul_right _ dA
    refine uN n (gO hT hn) iW nW hw (by rw [h1];simp;omega) (by omega) (by rw [h1];simpa using h4) ?_
    rw [h1]
    have ra:dt (fun w=>K0 w∧Holds w I) k rows X G:=⟨cS,hr⟩
    have ia:=ra.put (o:=o) (zs:=zs) (xs:=xs) (Gx:=Gx) b9 (by omega) dl qV
    have bB:=R1.st
    have lB:St D w0 w ((b0,.cells cs e fz)::(bI rows.length k G++(Hp++((List.range (M'.set u .dead).length).flatMap (aN F' u [])++I)))):=bB.perm (by classical rw [List.perm_iff_count];intro z;simp only [List.count_append,List.count_cons,List.cons_append,List.nil_append];omega)
    have lC:=lB.set (.cells (cm cs (i*k+o) zs) e fz)
    have lD:=uz (n:=rows.length) (k:=k) (i:=i) (o:=o) (m:=zs.length) hi (by omega) G Gx
    rw [yv,← dl] at lC
    have R2:bK D w0 K0 (M'.set u .dead) β (aN F' u []) I (([(b0,.cells (cm cs (i*k+o) zs) e fz)]++bI rows.length k (dL G i o zs.length Gx))++(List.range' o zs.length).flatMap (G i)) _:=R1.move (lC.perm (by
     classical
     have hc:=List.perm_iff_count.1 lD
     rw [List.perm_iff_count];intro z
     have:=hc z
     simp only [List.count_append,List.count_cons,List.cons_append,List.nil_append] at this ⊢
     omega))
    have fW:bF (fun w=>K0 w∧Holds w I) β u (.tw (some ⟨b0,0,none⟩) ca e k (rows.set i (row.take o++(xs++row.drop (o+xs.length))))) ([(b0,.cells (cm cs (i*k+o) zs) e fz)]++bI rows.length k (dL G i o zs.length Gx)):=by
     have:=bF.tw (K:=fun w=>K0 w∧Holds w I) (u:=u) (T:=e) (k:=k) (rows:=rows.set i (row.take o++(xs++row.drop (o+xs.length)))) (H0:=[(b0,.cells (cm cs (i*k+o) zs) e fz)]) hb (iP X i o zs) (dL G i o zs.length Gx) ia.hl (by
      rw [List.length_set]
      exact ⟨eu fun a ha=>qa (by omega) (hX a ha),Or.inr ⟨_,_,_,fz,rfl,rfl,by rw [iE];exact ey,by rw [iE];exact cF,dA,AL hX hi (by omega) ht bA⟩⟩) ia.hr
     rw [List.length_set] at this;exact this
    have R3:=((R2.drop.perm (Y:=([(b0,.cells (cm cs (i*k+o) zs) e fz)]++bI rows.length k (dL G i o zs.length Gx))++[]) (by rw [List.append_nil])).back (by rw [List.length_set];exact aO) (by simp [aN]) fW).nil rfl
    rw [List.set_set] at R3
    refine ⟨β,_,I,R3,(Ext.refl β).b _,bS.refl _,fun q hq gB=>?_,.d (.jk _)⟩
    simp only [List.mem_cons,not_or] at gB
    simp only [aN];rw [if_neg gB.1,if_neg gB.1]
    exact yu q gB.2
def vI (T:aP) (E:List (Nat×AV)) (M:List ai) (oc:Option aX) (t:TypeId) (x:Operand):Option Out:=
 match aI E x with
 | some (.ep u k i o)=>(match oc with
  | some (.ix _ row)=>(match M[u]? with | some (.tw _ _ _ k' rows)=>bif k.beq k'&&row.all DV.cp then (match kW T t (row.map .d) o with | some v=>some ⟨[rows[i]?=some row],v,M,[],[],some [u]⟩ | none=>none) else none | _=>none)
  | _=>none)
 | _=>none
theorem Fx (hT:aZ P T=true) {t:TypeId} {x:Operand} (h:vI T E M oc t x=some out):aJ P ⟨d,.load t x,ty,pos,aft,gd⟩ E M out:=by
 unfold vI at h
 split at h
 ·rename_i u k i o hv
  split at h
  ·rename_i i0 row
   split at h
   rotate_left
   ·simp at h
   rename_i aw cw Tt k' rows hM
   cases hk:(k.beq k'&&row.all DV.cp) with
   | false=>simp [hk] at h
   | true=>
    simp only [hk,cond_true] at h
    simp only [Bool.and_eq_true] at hk
    obtain ⟨hk,qP⟩:=hk
    obtain rfl:=Nat.eq_of_beq_eq_true hk
    split at h
    ·rename_i v jw
     simp only [Option.some.injEq] at h;subst h
     refine aJ.look ?_ (by simpa using ff hM)
     intro D w0 K0 β F I ρ w C da
     obtain ⟨b9,-⟩:=da
     obtain ⟨y,hy,r⟩:=C.bR hv
     cases r with
     | ep hb=>
      obtain ⟨H,hF,hB,hH⟩:=C.rm.at hM
      cases hB with
      | tw aS X G hl hs hr=>
       rw [hb] at aS;cases aS
       obtain ⟨x7,x8⟩:=hl i row b9
       obtain ⟨hi,-⟩:=List.getElem?_eq_some_iff.1 b9
       obtain ⟨b',cap,cs,fz,he,rfl,ey,cF,hn,ht⟩:=hs.block (by omega)
       cases he
       have cS:(X i).length=(row.map AV.d).length:=by rw [List.length_map];omega
       obtain ⟨y',h1,h2⟩:=oQ hT (a:=⟨_,i*k,none⟩) (R:=ax (fun w=>K0 w∧Holds w I) β) (fun l ys=>ax.ag ys) jw (hy.trans (by rw [add_eq])) cS (fun j c z h1 h2=>by
        simp only [List.getElem?_map,Option.map_eq_some_iff] at h1
        obtain ⟨c',h1,rfl⟩:=h1
        exact .d ((hr i row j c' z b9 h1 h2).cp (List.all_eq_true.1 qP c' (List.mem_of_getElem? h1))))
       refine ⟨y',h1,fun w' x9=>h2 w' fun j z hj=>?_⟩
       have dC:Holds w' _:=x9.2 u (by simp)
       rw [hF] at dC
       have hw:=(Holds.app.1 dC).1.one
       obtain ⟨gq,-⟩:=List.getElem?_eq_some_iff.1 hj
       rw [add_eq,cell_of hw,← hj,← j4 (fun i hi=>(hl i _ (List.getElem?_eq_getElem hi)).2) hi (by omega),← ht,List.getElem?_take,if_pos,Array.getElem?_toList]
       have:=Nat.mul_le_mul_right k (show i+1≤rows.length from hi);rw [Nat.succ_mul] at this;omega
    ·simp at h
  ·simp at h
 ·simp at h
end Go.Proofs.YtcnpikbbmbombaaGreatDoor
namespace Go.Proofs.YtcnpikbbmbombaaGreatDoor
open Go.RowKit
variable {P:Program} {T:aP} {E:List (Nat×AV)} {M:List ai} {d:Option Tmp} {ty:TypeId} {pos:String} {aft:Array Edge} {gd:Option (Nat×Bool)} {oc:Option aX} {out:Out}
def c9 (P:Program) (t:TypeId):Prop:=P.underlying t=some (.pointer (P.pointee t))
theorem EK {ρ:Operand→Value} {w:World} {Φ:Value→World→Prop} {x:Operand} {t t':TypeId} {o:Option Addr} {c:Bool} (ht:c9 P t) (h:ρ x=.pointer o) (hn:ρ (.const (.pointer none))=.pointer none) (hc:(!o.isNone)=c) (aG:Φ (.bool c) w):aY P ⟨d,.binOp .neq t x (.const (.pointer none)) t',ty,pos,aft,gd⟩ ρ w Φ:=by
 subst hc
 exact .pure (v:=.bool !o.isNone) (by simp [execOp,h,hn,eqGuard,binOp,Op.equal,Op.maxDepth,run_equalIn_pointer_nil w 9999 t o ht]) aG
def qG:Option AV→Option Bool
 | some (.pt _ _)=>some false
 | some (.ep _ _ _ _)=>some false
 | some (.rp _ _)=>some false
 | some (.d (.v (.pointer none)))=>some true
 | _=>none
def wN (P:Program) (E:List (Nat×AV)) (M:List ai) (op:BinOp) (t:TypeId) (x y:Operand):Option Out:=
 match op,y,qG (aI E x) with
 | .eql,.const (.pointer none),some c=>some (lk [c9 P t] (.b c) M)
 | .neq,.const (.pointer none),some c=>some (lk [c9 P t] (.b (!c)) M)
 | _,_,_=>none
theorem AP {K:World→Prop} {β:Beta} {v:Option AV} {a:AV} {c:Bool} {y:Value} (h:qG v=some c) (hv:v=some a) (r:ax K β a y):∃ o,y=.pointer o∧o.isNone=c:=by
 subst hv
 unfold qG at h
 split at h
 ·rename_i hx;cases hx;simp only [Option.some.injEq] at h;subst h
  cases r with | pt hb=>exact ⟨_,rfl,rfl⟩
 ·rename_i hx;cases hx;simp only [Option.some.injEq] at h;subst h
  cases r with | ep hb=>exact ⟨_,rfl,rfl⟩
 ·rename_i hx;cases hx;simp only [Option.some.injEq] at h;subst h
  cases r with | rp a X hl hc hr=>exact ⟨_,rfl,rfl⟩
 ·rename_i hx;cases hx;simp only [Option.some.injEq] at h;subst h
  cases r with | d r=>cases r;exact ⟨_,rfl,rfl⟩
 ·simp at h
theorem GN {op:BinOp} {t t':TypeId} {x y:Operand} (h:wN P E M op t x y=some out):aJ P ⟨d,.binOp op t x y t',ty,pos,aft,gd⟩ E M out:=by
 unfold wN at h
 split at h
 ·rename_i c hx
  simp only [Option.some.injEq] at h;subst h
  refine j7 (.of fun _=>⟨_,rfl⟩) ?_
  intro D w0 K0 β F I ρ w' C hv
  obtain ⟨hp,-⟩:=hv
  cases n4:aI E x with
  | none=>rw [n4] at hx;simp [qG] at hx
  | some a=>
   obtain ⟨o,ho,hc⟩:=AP hx n4 (C.ev n4)
   exact ⟨_,.d (.v _),fun w Φ aG=>Gi hp ho (C.const _) hc aG⟩
 ·rename_i c hx
  simp only [Option.some.injEq] at h;subst h
  refine j7 (.of fun _=>⟨_,rfl⟩) ?_
  intro D w0 K0 β F I ρ w' C hv
  obtain ⟨hp,-⟩:=hv
  cases n4:aI E x with
  | none=>rw [n4] at hx;simp [qG] at hx
  | some a=>
   obtain ⟨o,ho,hc⟩:=AP hx n4 (C.ev n4)
   exact ⟨_,.d (.v _),fun w Φ aG=>EK hp ho (C.const _) (by rw [hc]) aG⟩
 ·simp at h
def lG (g:Nat):List ai→Option (List DV)
 | []=>none
 | .gw g' row::r=>bif g'.beq g then some row else lG g r
 | _::r=>lG g r
theorem u4 {g:Nat} {row:List DV}:∀ {M:List ai},lG g M=some row→∃ u:Nat,M[u]?=some (ai.gw g row)
 | [],h=>by simp [lG] at h
 | b::r,h=>by
  have next:lG g r=some row→∃ u:Nat,(b::r)[u]?=some (ai.gw g row):=fun h=>by
   obtain ⟨u,hu⟩:=u4 h
   exact ⟨u+1,by simpa using hu⟩
  cases b with
  | gw g' xF=>
   simp only [lG] at h
   cases hc:g'.beq g with
   | true=>
    simp only [hc,cond_true,Option.some.injEq] at h;subst h
    obtain rfl:=Nat.eq_of_beq_eq_true hc
    exact ⟨0,rfl⟩
   | false=>
    simp only [hc,cond_false] at h
    exact next h
  | _=>simp only [lG] at h;exact next h
def u5 (T:aP) (E:List (Nat×AV)) (M:List ai) (oc:Option aX) (t:TypeId) (x ix:Operand):Option Out:=
 match x,cL (aI E ix),cV T t,oc with
 | .global g,some (_,z),some (.ar n e),some (.ix i [c])=>(match fA T e,lG g M with
  | some k,some row=>bif k.beq 1 then some (lk [z=(i:Int),i<n,row[i]?=some c] (.rp [c] 0) M) else none
  | _,_=>none)
 | _,_,_,_=>none
theorem EL (hT:aZ P T=true) {t:TypeId} {x ix:Operand} (h:u5 T E M oc t x ix=some out):aJ P ⟨d,.indexAddr t x ix,ty,pos,aft,gd⟩ E M out:=by
 unfold u5 at h
 split at h
 rotate_left
 ·simp at h
 rename_i g kk z n e i c hz ht
 split at h
 rotate_left
 ·simp at h
 rename_i k row hk hg
 cases hc:k.beq 1 with
 | false=>simp [hc] at h
 | true=>
  simp only [hc,cond_true,Option.some.injEq] at h;subst h
  obtain rfl:=Nat.eq_of_beq_eq_true hc
  refine aJ.same fun C da=>?_
  obtain ⟨rfl,hi,b9,-⟩:=da
  obtain ⟨u,hu⟩:=u4 hg
  obtain ⟨H,-,hB,-⟩:=C.rm.at hu
  cases hB with
  | gw X hl jU hr=>
   have aO:i<X.length:=by have:=(List.getElem?_eq_some_iff.1 b9).1;omega
   have hx:X[i]?=some X[i]:=List.getElem?_eq_getElem aO
   have e0:(⟨g,0,none⟩:Addr).add (((i:Nat):Int).toNat*1)=((⟨g,0,none⟩:Addr).add i).add 0:=by rw [add_zero'];simp
   refine ⟨_,fun _ _=>ow (cH hT ht) (gO hT hk) (C.Co g) (C.int hz) (by simp) (by simp;omega),?_⟩
   rw [e0]
   refine .rp _ [X[i]] rfl (fun w' dC j y hj=>?_) (fun j c' y h1 h2=>?_)
   ·cases j with
    | zero=>simp at hj;subst hj;rw [add_zero'];exact jU w' dC i _ hx
    | succ j=>simp at hj
   ·cases j with
    | zero=>simp at h1 h2;subst h1;subst h2;exact hr i _ _ b9 hx
    | succ j=>simp at h1
section
variable {ρ:Operand→Value} {w:World}
theorem Fy {w:World} {b:Nat} {c:Array Value} {e:TypeId} (hb:w.heap[b]?=some (.cells c e (0,0))):w.freeze ⟨b,c.size,none⟩ 1=cg w b (.cells c e (c.size,c.size+1)):=by
 unfold World.freeze cg
 rw [if_neg (by decide)]
 congr 1
 apply Array.ext_getElem?
 intro j
 have aO:=kC hb
 rw [Array.getElem?_modify,Array.getElem?_setIfInBounds]
 by_cases e':b=j
 ·subst e'
  have hg:w.heap[b]=.cells c e (0,0):=by rw [Array.getElem?_eq_getElem aO] at hb;exact Option.some.inj hb
  simp [aO,hg]
 ·simp [e']
theorem Bk {t t' e:TypeId} {x:Operand} {bs:List UInt8} (ht:P.underlying t=some .string) (lW:P.underlying t'=some (.slice e)) (he:P.underlying e=some (.int .u8)) (hx:ρ x=.string ⟨bs.toArray⟩):
  ∃ (k:Nat) (c:Array Value),bs.length≤k∧c=(bs.map fun b:UInt8=>Value.int .u8 b.toNat).toArray++Array.replicate (k-bs.length) (Value.int .u8 0)∧
   (execOp ρ ⟨d,.convert t t' x,ty,pos,aft,gd⟩).run P w=.ok (.value (.slice (some ⟨w.heap.size,0,none⟩) bs.length k)) (cg (w.drew.alloc (.cells c e (0,0))) w.heap.size (.cells c e (c.size,c.size+1))):=by
 refine ⟨(Question.appendCap bs.length 0 e).cut (w.tape w.drawn (.appendCap bs.length 0 e)),_,by simp [Question.cut],rfl,?_⟩
 generalize hk:(Question.appendCap bs.length 0 e).cut (w.tape w.drawn (.appendCap bs.length 0 e))=k
 generalize jU:(bs.map fun b:UInt8=>Value.int .u8 b.toNat).toArray++Array.replicate (k-bs.length) (Value.int .u8 0)=c
 have x3:(choose (.appendCap bs.length 0 e)).run P w=.ok k w.drew:=by
  rw [← hk];simp [choose,Sem.run,Question.forced]
 have b9:∀ (cs:Array Value) (w:World),(newRow e cs).run P w=.ok ⟨w.heap.size,0,none⟩ (w.alloc (.cells cs e)):=by
  intro cs w;simp [newRow,newObj,Sem.run]
 have lV:(markStringish ⟨w.heap.size,0,none⟩).run P (w.drew.alloc (.cells c e (0,0)))=.ok () (cg (w.drew.alloc (.cells c e (0,0))) w.heap.size (.cells c e (c.size,c.size+1))):=by
  have hb:(w.drew.alloc (.cells c e (0,0))).heap[w.heap.size]?=some (.cells c e (0,0)):=zW w.drew _
  have nS:(w.drew.alloc (.cells c e (0,0))).shape? w.heap.size=some (e,c.size):=by unfold World.shape?;rw [hb]
  have:=Fy hb
  unfold markStringish
  simp only [Sem.run_bind]
  have h1:(shape w.heap.size).run P (w.drew.alloc (.cells c e (0,0)))=.ok (some (e,c.size)) (w.drew.alloc (.cells c e (0,0))):=by
   simp [shape,Sem.run,nS]
  rw [h1]
  simp only [Result.andThen_ok]
  simp [freeze,Sem.run,this]
 have Lc:(Conv.stringToBytes e ⟨bs.toArray⟩).run P w=.ok (.slice (some ⟨w.heap.size,0,none⟩) bs.length k) (cg (w.drew.alloc (.cells c e (0,0))) w.heap.size (.cells c e (c.size,c.size+1))):=by
  have bA:(⟨bs.toArray⟩:ByteArray).size=bs.length:=by simp [ByteArray.size]
  unfold Conv.stringToBytes
  simp only [bA,Sem.run_bind,x3,Result.andThen_ok,b9,Sem.run_pure]
  have cF:((Array.map (fun b:UInt8=>Value.int .u8 (b.toNat:Int)) bs.toArray)++Array.replicate (k-bs.length) (Value.int .u8 0))=c:=by rw [← jU];simp
  rw [cF]
  have hd:w.drew.heap.size=w.heap.size:=rfl
  rw [hd,lV]
  rfl
 simp only [execOp,hx,convert,Sem.run_bind,run_underlying ht,run_underlying lW,run_underlying he,Result.andThen_ok,Lc,Sem.run_pure]
theorem vJ {n:Nat} (f:Nat→Value):lay n (fun i=>[f i])=(List.range n).map f:=by
 unfold lay
 induction n with
 | zero=>rfl
 | succ n ih=>rw [List.range_succ,List.flatMap_append,List.map_append,ih];rfl
end
theorem vK (w:World) (o:Obj):Gr w (w.drew.alloc o)∧du w (w.drew.alloc o) [(w.heap.size,o)]:=⟨(Gr.drew w).trans (Gr.alloc w.drew o),(du.alloc w.drew o).ahead (Gr.drew w)⟩
def wO (T:aP) (E:List (Nat×AV)) (M:List ai) (t t':TypeId) (x:Operand):Option Out:=
 match cV T t,cV T t',jn (aI E x) with
 | some .st,some (.sl e),some bs=>(match cV T e with
  | some (.it .u8)=>some ⟨[],.d (.ro 1 (ae bs)),M,[],[],none⟩
  | _=>none)
 | _,_,_=>none
theorem GO (hT:aZ P T=true) {t t':TypeId} {x:Operand} (h:wO T E M t t' x=some out):aJ P ⟨d,.convert t t' x,ty,pos,aft,gd⟩ E M out:=by
 unfold wO at h
 split at h
 rotate_left
 ·cases h
 rename_i e bs ht lW hs
 split at h
 rotate_left
 ·cases h
 rename_i he
 simp only [Option.some.injEq] at h;subst h
 intro D w0 K0 β F I ρ w C _
 have xG:=C.str (x:=x) (l:=bs) hs
 obtain ⟨k,c,hk,hc,fk⟩:=Bk (d:=d) (ty:=ty) (pos:=pos) (aft:=aft) (gd:=gd) (w:=w) (cH hT ht) (cH hT lW) (cH hT he) xG
 refine aY.pure fk ?_
 have s1:St D w0 (w.drew.alloc (.cells c e (0,0))) ((w.heap.size,.cells c e (0,0))::((List.range M.length).flatMap F++I)):=C.rm.st.new (vK w (.cells c e (0,0))).1 (vK w (.cells c e (0,0))).2
 have s2:=s1.set (.cells c e (c.size,c.size+1))
 have R2:RM D w0 K0 M β F ([(w.heap.size,.cells c e (c.size,c.size+1))]++I) (cg (w.drew.alloc (.cells c e (0,0))) w.heap.size (.cells c e (c.size,c.size+1))):=by
  refine ⟨C.rm.len,fun v bl hv=>(C.rm.blk v bl hv).mono (fun w hw=>⟨hw.1,(Holds.app.1 hw.2).2⟩) (Ext.refl _),?_⟩
  exact s2.perm (by classical rw [List.perm_iff_count];intro z;simp only [List.count_append,List.count_cons,List.count_nil];omega)
 refine ⟨β,F,_,R2,(Ext.refl β).b _,⟨_,rfl⟩,fun _ _ _=>rfl,?_⟩
 have hlen:(ae bs).length=bs.length:=by simp [ae]
 refine .d (.ro (fun i=>[Value.int .u8 (bs.getD i 0).toNat]) (fun i r hi=>?_) ⟨_,_,by rw [hlen],by rw [hlen];exact hk⟩ (fun w' dC=>?_) fun i r j cc z h1 h2 h3=>?_)
 ·simp only [ae,List.getElem?_map,Option.map_eq_some_iff] at hi
  obtain ⟨b,-,rfl⟩:=hi;exact ⟨rfl,rfl⟩
 ·have aS:w'.heap[w.heap.size]?=some (.cells c e (c.size,c.size+1)):=(Holds.app.1 dC.2).1.one
  rw [hlen,vJ]
  refine ⟨by simp,Or.inr ⟨_,k,rfl,fun j hj=>?_⟩⟩
  rw [add_eq,Nat.zero_add,cell_of aS,hc]
  have gq:j<bs.length:=by simpa using hj
  rw [Array.getElem?_append_left (by simpa using gq)]
  simp [gq,List.getD_eq_getElem?_getD]
 ·simp only [ae,List.getElem?_map,Option.map_eq_some_iff] at h1
  obtain ⟨b,hb,rfl⟩:=h1
  cases j with
  | succ j=>simp at h2
  | zero=>
   simp at h2 h3;subst h2;subst h3
   simp only [List.getD_eq_getElem?_getD,hb,Option.getD_some]
   exact .v _
theorem FA (w:World) (o o':Obj):cg (w.alloc o) w.heap.size o'=w.alloc o':=by
 unfold cg World.alloc
 congr 1
 apply Array.ext_getElem?
 intro j
 rw [Array.getElem?_setIfInBounds,Array.getElem?_push,Array.getElem?_push]
 by_cases h:w.heap.size=j
 ·subst h;simp
 ·rw [if_neg h,if_neg (fun e=>h e.symm),if_neg (fun e=>h e.symm)]
def wP (T:aP) (E:List (Nat×AV)) (M:List ai) (t t':TypeId) (x:Operand):Option Out:=
 match cV T t,cV T t',jn (aI E x) with
 | some .st,some (.sl e),some bs=>(match cV T e with
  | some (.it .u8)=>some ⟨[],.sl M.length bs.length,M++[.rw e 1 (ae bs)],[],[],none⟩
  | _=>none)
 | _,_,_=>none
theorem GP (hT:aZ P T=true) {t t':TypeId} {x:Operand} (h:wP T E M t t' x=some out):aJ P ⟨d,.convert t t' x,ty,pos,aft,gd⟩ E M out:=by
 unfold wP at h
 split at h
 rotate_left
 ·cases h
 rename_i e bs ht lW hs
 split at h
 rotate_left
 ·cases h
 rename_i he
 simp only [Option.some.injEq] at h;subst h
 intro D w0 K0 β F I ρ w C _
 have xG:=C.str (x:=x) (l:=bs) hs
 obtain ⟨k,c,hk,hc,fk⟩:=Bk (d:=d) (ty:=ty) (pos:=pos) (aft:=aft) (gd:=gd) (w:=w) (cH hT ht) (cH hT lW) (cH hT he) xG
 have Dk:=FA w.drew (.cells c e (0,0)) (.cells c e (c.size,c.size+1))
 have bA:w.drew.heap.size=w.heap.size:=rfl
 rw [bA] at Dk
 rw [Dk] at fk
 refine aY.pure fk ?_
 obtain ⟨gr,nf⟩:=vK w (.cells c e (c.size,c.size+1))
 have hlen:(ae bs).length=bs.length:=by simp [ae]
 refine ⟨_,_,I,C.rm.new (q:=(some ⟨w.heap.size,0,none⟩,k)) gr nf ?_,(Ext.app _ _).b _,bS.refl _,lb _ _,.sl (gQ C.rm _)⟩
 have cF:c.size=k:=by rw [hc];simp;omega
 have:=bF.rw (K:=fun w=>K0 w∧Holds w I) (β:=β++[(some ⟨w.heap.size,0,none⟩,k)]) (u:=M.length) (T:=e) (k:=1) (rows:=ae bs) (H0:=[(w.heap.size,.cells c e (c.size,c.size+1))]) (gQ C.rm _) (fun i=>[Value.int .u8 (bs.getD i 0).toNat]) (fun _ _=>[]) (fun i r hi=>by
  simp only [ae,List.getElem?_map,Option.map_eq_some_iff] at hi
  obtain ⟨b,-,rfl⟩:=hi;exact ⟨rfl,rfl⟩) (by
  rw [hlen,vJ]
  refine ⟨by simp,Or.inr ⟨w.heap.size,k,_,_,rfl,rfl,fun i hi h=>by have:=h.1;simp at this;omega,by omega,hk,?_⟩⟩
  rw [hc]
  apply List.ext_getElem?
  intro j
  rw [List.getElem?_take]
  split
  ·rename_i hj
   have gq:j<bs.length:=by omega
   rw [Array.getElem?_toList,Array.getElem?_append_left (by simpa using gq)]
   simp [gq,List.getD_eq_getElem?_getD]
  ·rename_i hj
   symm;simp;omega) (fun i r j q x hi h1 h2=>by
  simp only [ae,List.getElem?_map,Option.map_eq_some_iff] at hi
  obtain ⟨b,hb,rfl⟩:=hi
  cases j with
  | succ j=>simp at h1
  | zero=>
   simp at h1 h2;subst h1;subst h2
   simp only [List.getD_eq_getElem?_getD,hb,Option.getD_some]
   exact .v _)
 rw [ky,List.append_nil] at this
 exact this
end Go.Proofs.YtcnpikbbmbombaaGreatDoor
namespace Go.Proofs.YtcnpikbbmbombaaGreatDoor
open Go.RowKit
variable {P:Program} {T:aP} {D:List Nat} {w0:World} {K0:World→Prop} {E:List (Nat×AV)} {M:List ai} {β:Beta} {F:Nat→ak} {I X:ak} {ρ:Operand→Value} {w:World}
variable {d:Option Tmp} {ty:TypeId} {pos:String} {aft:Array Edge} {gd:Option (Nat×Bool)} {oc:Option aX} {out:Out}
def s8 (l:List UInt8):AV:=.d (.v (.string ⟨l.toArray⟩))
theorem AQ (l:List UInt8):(⟨l.toArray⟩:ByteArray).size=l.length:=by simp [ByteArray.size]
theorem Ig {op:BinOp} {t t':TypeId} {x y:Operand} {a b:List UInt8} (NM:op=.add) (hx:ρ x=.string ⟨a.toArray⟩) (hy:ρ y=.string ⟨b.toArray⟩) (hle:a.length+b.length≤9223372036854775807):
  (execOp ρ ⟨d,.binOp op t x y t',ty,pos,aft,gd⟩).run P w=.ok (.value (.string ⟨(a++b).toArray⟩)) w:=by
 subst NM
 have hn:¬ (((a.length+b.length:Nat):Int)>IntKind.i64.max):=by simp [IntKind.max,IntKind.signed,IntKind.bits];omega
 have lP:(⟨a.toArray⟩:ByteArray)++⟨b.toArray⟩=⟨(a++b).toArray⟩:=by
  apply ByteArray.ext;simp
 simp only [execOp,hx,hy,eqGuard,binOp,Op.stringOp,Sem.run_bind,Sem.run_pure,Result.andThen_ok,AQ]
 rw [if_neg hn,lP]
 simp
def xH (E:List (Nat×AV)) (M:List ai) (op:BinOp) (x y:Operand):Option Out:=
 match op,jn (aI E x),jn (aI E y) with
 | .add,some a,some b=>some (lk [a.length+b.length≤9223372036854775807] (s8 (a++b)) M)
 | _,_,_=>none
theorem Ih {op:BinOp} {t t':TypeId} {x y:Operand} (h:xH E M op x y=some out):aJ P ⟨d,.binOp op t x y t',ty,pos,aft,gd⟩ E M out:=by
 unfold xH at h
 split at h
 ·rename_i a b ha hb
  simp only [Option.some.injEq] at h;subst h
  exact aJ.same fun C hv=>⟨_,fun w' _=>Ig rfl (C.str ha) (C.str hb) hv.1,.d (.v _)⟩
 ·cases h
theorem EM {t:TypeId} {x ix:Operand} {l:List UInt8} {k:IntKind} {i:Nat} {u:UInt8} (ht:P.underlying t=some .string) (hx:ρ x=.string ⟨l.toArray⟩) (hi:ρ ix=.int k (i:Int)) (hu:l[i]?=some u):
  (execOp ρ ⟨d,.index t x ix,ty,pos,aft,gd⟩).run P w=.ok (.value (.int .u8 (u.toNat:Int))) w:=by
 have h4:(⟨l.toArray⟩:ByteArray)[i]?=some u:=by
  obtain ⟨hi,rfl⟩:=List.getElem?_eq_some_iff.1 hu
  exact getElem?_pos (⟨l.toArray⟩:ByteArray) i (by show i<l.toArray.size;simpa using hi)
 simp [execOp,hx,hi,Instr.index,asIntOf,Sem.run_bind,run_underlying ht,h4]
def wQ (T:aP) (E:List (Nat×AV)) (M:List ai) (oc:Option aX) (t:TypeId) (x ix:Operand):Option Out:=
 match cV T t,jn (aI E x),cL (aI E ix),oc with
 | some .st,some l,some (_,z),some (.ix i [c])=>some (lk [z=(i:Int),∃ u:UInt8,l[i]?=some u∧c=.v (.int .u8 (u.toNat:Int))] (.d c) M)
 | _,_,_,_=>none
theorem GQ (hT:aZ P T=true) {t:TypeId} {x ix:Operand} (h:wQ T E M oc t x ix=some out):aJ P ⟨d,.index t x ix,ty,pos,aft,gd⟩ E M out:=by
 unfold wQ at h
 split at h
 ·rename_i l k z i c hu hx hz
  simp only [Option.some.injEq] at h;subst h
  refine aJ.same fun C hv=>?_
  obtain ⟨rfl,⟨u,h1,rfl⟩,-⟩:=hv
  exact ⟨_,fun w' _=>EM (cH hT hu) (C.str hx) (C.int hz) h1,.d (.v _)⟩
 ·cases h
theorem MD (l:List UInt8) (o c:Nat):(⟨l.toArray⟩:ByteArray).extract o c=⟨((l.take c).drop o).toArray⟩:=by
 apply ByteArray.ext
 rw [ByteArray.data_extract]
 apply Array.toList_inj.1
 simp [Array.toList_extract,List.extract_eq_take_drop,List.drop_take]
theorem uD {t:TypeId} {x:Operand} {lo hi:Option Operand} {l:List UInt8} {o c:Nat} (ht:P.underlying t=some .string) (hx:ρ x=.string ⟨l.toArray⟩)
  (hb:(Instr.sliceBounds false l.length l.length (lo.map ρ) (hi.map ρ) none).run P w=.ok (o,c,l.length) w):
  (execOp ρ ⟨d,.slice t x lo hi none,ty,pos,aft,gd⟩).run P w=.ok (.value (.string ⟨((l.take c).drop o).toArray⟩)) w:=by
 simp only [execOp,hx,Option.map_none,Instr.sliceAt,Instr.slice,Sem.run_bind,run_underlying ht,Result.andThen_ok,Option.isSome_none,Bool.false_eq_true,if_false,AQ,hb,Sem.run_pure,MD]
def xI (T:aP) (E:List (Nat×AV)) (M:List ai) (oc:Option aX) (t:TypeId) (x:Operand) (lo hi mx:Option Operand):Option Out:=
 match cV T t,jn (aI E x),oc,mx with
 | some .st,some l,some (.n2 c o),none=>(match lo,hi with
  | none,some h=>(match cL (aI E h) with
   | some (.i64,z)=>some (lk [z=(c:Int),c≤l.length] (s8 (l.take c)) M)
   | _=>none)
  | some lo,none=>(match cL (aI E lo) with
   | some (.i64,z)=>some (lk [z=(o:Int),o≤l.length] (s8 (l.drop o)) M)
   | _=>none)
  | some lo,some h=>(match cL (aI E lo),cL (aI E h) with
   | some (.i64,z),some (.i64,z')=>some (lk [z=(o:Int),z'=(c:Int),o≤c,c≤l.length] (s8 ((l.take c).drop o)) M)
   | _,_=>none)
  | _,_=>none)
 | _,_,_,_=>none
theorem Ii (hT:aZ P T=true) {t:TypeId} {x:Operand} {lo hi mx:Option Operand} (h:xI T E M oc t x lo hi mx=some out):aJ P ⟨d,.slice t x lo hi mx,ty,pos,aft,gd⟩ E M out:=by
 unfold xI at h
 split at h
 rotate_left
 ·cases h
 rename_i l c o hu hx
 replace hu:=cH hT hu
 split at h
 ·rename_i hh
  split at h
  rotate_left
  ·cases h
  rename_i z hz
  simp only [Option.some.injEq] at h;subst h
  refine aJ.same ?_
  intro D w0 K0 β F I ρ w C hv
  obtain ⟨rfl,hc,-⟩:=hv
  refine ⟨.string ⟨(l.take c).toArray⟩,fun w' _=>?_,.d (.v _)⟩
  have:=uD (P:=P) (ρ:=ρ) (w:=w') (d:=d) (ty:=ty) (pos:=pos) (aft:=aft) (gd:=gd) (lo:=none) (hi:=some hh) (o:=0) (c:=c) hu (C.str hx) (by simp [Instr.sliceBounds,C.int hz,iF hc])
  simpa using this
 ·rename_i ll
  split at h
  rotate_left
  ·cases h
  rename_i z hz
  simp only [Option.some.injEq] at h;subst h
  refine aJ.same ?_
  intro D w0 K0 β F I ρ w C hv
  obtain ⟨rfl,ho,-⟩:=hv
  refine ⟨.string ⟨(l.drop o).toArray⟩,fun w' _=>?_,.d (.v _)⟩
  have:=uD (P:=P) (ρ:=ρ) (w:=w') (d:=d) (ty:=ty) (pos:=pos) (aft:=aft) (gd:=gd) (lo:=some ll) (hi:=none) (o:=o) (c:=l.length) hu (C.str hx) (by simp [Instr.sliceBounds,C.int hz,iF ho])
  simpa using this
 ·rename_i ll hh
  split at h
  rotate_left
  ·cases h
  rename_i z z' hz jx
  simp only [Option.some.injEq] at h;subst h
  refine aJ.same fun C hv=>?_
  obtain ⟨rfl,rfl,ho,hc,-⟩:=hv
  refine ⟨.string ⟨((l.take c).drop o).toArray⟩,fun w' _=>?_,.d (.v _)⟩
  exact uD hu (C.str hx) (by simp [Instr.sliceBounds,C.int hz,C.int jx,iF hc,iF ho])
 ·cases h
def wR (T:aP) (E:List (Nat×AV)) (M:List ai) (oc:Option aX) (t:TypeId) (x ix:Operand):Option Out:=
 match x,cL (aI E ix),cV T t,oc with
 | .global g,some (_,z),some (.ar n e),some (.ix i row)=>(match fA T e,lG g M with
  | some k,some qH=>some (lk [z=(i:Int),i<n,(qH.drop (i*k)).take k=row] (.rp row 0) M)
  | _,_=>none)
 | _,_,_,_=>none
theorem GR (hT:aZ P T=true) {t:TypeId} {x ix:Operand} (h:wR T E M oc t x ix=some out):aJ P ⟨d,.indexAddr t x ix,ty,pos,aft,gd⟩ E M out:=by
 unfold wR at h
 split at h
 rotate_left
 ·cases h
 rename_i g kk z n e i row hz ht
 split at h
 rotate_left
 ·cases h
 rename_i k qH hk hg
 simp only [Option.some.injEq] at h;subst h
 refine aJ.same fun C da=>?_
 obtain ⟨rfl,hi,rfl,-⟩:=da
 obtain ⟨u,hu⟩:=u4 hg
 obtain ⟨H,-,hB,-⟩:=C.rm.at hu
 cases hB with
 | gw X hl jU hr=>
  have e0:(⟨g,0,none⟩:Addr).add (((i:Nat):Int).toNat*k)=((⟨g,0,none⟩:Addr).add (i*k)).add 0:=by rw [add_zero'];simp
  refine ⟨_,fun _ _=>ow (cH hT ht) (gO hT hk) (C.Co g) (C.int hz) (by simp) (by simp;omega),?_⟩
  rw [e0]
  refine .rp _ ((X.drop (i*k)).take k) (by simp [hl]) (fun w' dC j y hj=>?_) (fun j c' y h1 h2=>?_)
  ·rw [List.getElem?_take] at hj
   split at hj
   ·rw [List.getElem?_drop] at hj
    rw [Addr.nr];exact jU w' dC _ y hj
   ·cases hj
  ·rw [List.getElem?_take] at h1 h2
   split at h1
   ·rename_i hj
    rw [if_pos hj] at h2
    rw [List.getElem?_drop] at h1 h2
    exact hr _ _ _ h1 h2
   ·cases h1
theorem AR (K:World→Prop) (bs:List UInt8):dt K 1 (ae bs) (fun i=>[Value.int .u8 (bs.getD i 0).toNat]) (fun _ _=>[]):=by
 refine ⟨fun i r hi=>?_,fun i r j cc z h1 h2 h3=>?_⟩
 ·simp only [ae,List.getElem?_map,Option.map_eq_some_iff] at hi
  obtain ⟨b,-,rfl⟩:=hi;exact ⟨rfl,rfl⟩
 ·simp only [ae,List.getElem?_map,Option.map_eq_some_iff] at h1
  obtain ⟨b,hb,rfl⟩:=h1
  cases j with
  | succ j=>simp at h2
  | zero=>
   simp at h2 h3;subst h2;subst h3
   simp only [List.getD_eq_getElem?_getD,hb,Option.getD_some]
   exact .v _
theorem Af (bs:List UInt8):lay bs.length (fun i=>[Value.int .u8 (bs.getD i 0).toNat])=bs.map fun b:UInt8=>Value.int .u8 (b.toNat:Int):=by
 rw [vJ]
 apply List.ext_getElem
 ·simp
 ·intro i h1 h2
  simp only [List.length_map,List.length_range] at h1
  simp [List.getD_eq_getElem?_getD,List.getElem?_eq_getElem h1]
theorem Ag (bs:List UInt8):aD (ae bs):=by simp [aD,AV.one,bf,ae]
def wS (T:aP) (E:List (Nat×AV)) (M:List ai) (st xt:TypeId) (x y:Operand):Option Out:=
 match iX T st,cV T xt,jn (aI E y),aI E x with
 | some (e,k,b,_),some .st,some bs,some vx=>bif k.beq 1 then (match o5 M e k vx with
  | some (some u,n,rows)=>some ⟨[n=rows.length,(2*(n+bs.length)+192)*b≤281474976710656,n+bs.length<4611686018427387904],.sl u (n+bs.length),(M.map (gR [u])).set u (.rw e k (rows++ae bs)),[u],[u],none⟩
  | some (none,_,_)=>some ⟨[(2*(0+bs.length)+192)*b≤281474976710656,0+bs.length<4611686018427387904],.sl M.length bs.length,M++[.rw e k (ae bs)],[],[],none⟩
  | none=>none) else none
 | _,_,_,_=>none
theorem GS (hT:aZ P T=true) {st xt:TypeId} {x y:Operand} (h:wS T E M st xt x y=some out):aJ P ⟨d,.call ⟨.builtin .append,#[x,y],#[st,xt]⟩,ty,pos,aft,gd⟩ E M out:=by
 unfold wS at h
 split at h
 rotate_left
 ·cases h
 rename_i e k b z bs vx he hu hs hx
 cases ko:k.beq 1 with
 | false=>simp [ko] at h
 | true=>
  simp only [ko,cond_true] at h
  obtain rfl:=Nat.eq_of_beq_eq_true ko
  have Dl:(ae bs).length=bs.length:=by simp [ae]
  split at h
  ·rename_i u n rows hd
   simp only [Option.some.injEq] at h;subst h
   obtain ⟨rfl,hM⟩:=uc hd
   intro D w0 K0 β F I ρ w C hv
   obtain ⟨hn,h1,h2,-⟩:=hv
   obtain ⟨X1,G1,H0,hF,dO,a1,-⟩:=mh C.rm hM hn (C.ev hx)
   have R1:=C.rm.x.fo hM
   rw [hF,List.nil_append] at R1
   have aO:u<(M.set u .dead).length:=by rw [List.length_set];exact ff hM
   have gm:kE P xt w 1 (ρ y) bs.length (lay bs.length fun i=>[Value.int .u8 (bs.getD i 0).toNat]):=by
    rw [Af,C.str hs];exact kE.str (cH hT hu)
   refine (uS hT he rfl rfl (R1.perm (Y:=(H0++bI n 1 G1)++[]) (by rw [List.append_nil])) aO (by simp [aN]) dO hn Dl.symm a1 rfl (AR _ bs) (by rw [ky]) gm h1 h2 (Ag bs)).mono ?_
   rintro v' w' ⟨aB,F',R',hE,jV,hr⟩
   rw [tO] at R'
   exact ⟨aB,F',I,R',hE,bS.refl _,fun q _ hq=>by have pr:q≠u:=(by simpa using hq);rw [jV q pr];simp only [aN];rw [if_neg pr],hr⟩
  ·rename_i n0 r0 hd
   simp only [Option.some.injEq] at h;subst h
   obtain rfl:=ud hd
   intro D w0 K0 β F I ρ w C hv
   obtain ⟨h1,h2,-⟩:=hv
   have lS:ρ x=.slice none 0 0:=by have:=C.ev hx;generalize ρ x=q at this;cases this with | d r=>cases r;rfl
   have gm:kE P xt w 1 (ρ y) bs.length (lay bs.length fun i=>[Value.int .u8 (bs.getD i 0).toNat]):=by
    rw [Af,C.str hs];exact kE.str (cH hT hu)
   refine (uT hT he lS rfl C.rm.x Dl.symm (AR _ bs) (by rw [ky]) gm h1 h2 (Ag bs)).mono ?_
   rintro v' w' ⟨aB,F',R',hE,jV,hr⟩
   exact ⟨aB,F',I,R',hE.b _,bS.refl _,fun q hq _=>jV q hq,hr⟩
  ·cases h
def vL (E:List (Nat×AV)) (M:List ai) (r:Value) (c x y:Operand):Option Out:=
 match aI E c,aI E x,aI E y with
 | some (.d (.v vc)),some (.d (.v vx)),some (.d (.v vy))=>some (lk [∃ b:Bool,vc=.bool b∧(bif b then vx else vy)=r] (.d (.v r)) M)
 | _,_,_=>none
theorem Ctx.val (C:Ctx D w0 K0 E M β F I ρ w) {x:Operand} {v:Value} (h:aI E x=some (.d (.v v))):ρ x=v:=by
 obtain ⟨y,hy,r⟩:=C.bR h
 cases r with | d r=>cases r;exact hy
theorem FB {r:Value} {c x y:Operand} (h:vL E M r c x y=some out):aJ P ⟨d,.pick c x y,ty,pos,aft,gd⟩ E M out:=by
 unfold vL at h
 split at h
 ·rename_i vc vx vy hc hx hy
  simp only [Option.some.injEq] at h;subst h
  refine j7 rW fun C da=>?_
  obtain ⟨⟨b,rfl,rfl⟩,-⟩:=da
  refine ⟨_,.d (.v _),fun w Φ aG=>Jv (C.val hc) (C.val hx) (C.val hy) ?_⟩
  cases b<;>exact aG
 ·cases h
def mE (P:Program) (t t':TypeId):Bool:=match P.underlying t,P.underlying t' with
 | some (.pointer s),some .unsafePointer=>(match P.info? s with | some j=>!(j.size==0) | none=>false)
 | _,_=>false
def mF (P:Program) (t t' T n:Nat):Bool:=match P.underlying t,P.underlying t' with
 | some .unsafePointer,some (.pointer u)=>(P.info? u).isSome&&liesAt P P.depth T (n / P.cellsOf T) 0 u 1
 | _,_=>false
def vM (P:Program) (E:List (Nat×AV)) (M:List ai) (oc:Option aX) (t t':TypeId) (x:Operand):Option Out:=
 match aI E x,oc with
 | some (.pt u 0),some (.b c)=>(match M[u]? with
  | some (.bx Tb cells)=>some ⟨[(bif c then mE P t t' else mF P t t' Tb cells.length)=true,0<cells.length],.pt u 0,M,[],[],some [u]⟩
  | _=>none)
 | _,_=>none
theorem Ah {w:World} {b:Nat} {c:Array Value} {t:TypeId} {fr:Nat×Nat} (h:w.heap[b]?=some (.cells c t fr)):w.shape? b=some (t,c.size):=by
 unfold World.shape?;rw [h]
theorem FC {t t':TypeId} {x:Operand} (h:vM P E M oc t t' x=some out):aJ P ⟨d,.convert t t' x,ty,pos,aft,gd⟩ E M out:=by
 unfold vM at h
 split at h
 rotate_left
 ·cases h
 rename_i u c hx
 split at h
 rotate_left
 ·cases h
 rename_i Tb cells hM
 simp only [Option.some.injEq] at h;subst h
 refine aJ.look ?_ (by simpa using ff hM)
 intro D w0 K0 β F I ρ w C hv
 obtain ⟨hc,h0,-⟩:=hv
 obtain ⟨y,hy,r⟩:=C.bR hx
 cases r with
 | @pt _ _ b cc hb=>
  refine ⟨_,.pt hb,fun w' hs=>?_⟩
  obtain ⟨H,hF,hB,-⟩:=C.rm.at hM
  have hH:Holds w' (F u):=hs.2 u (by simp)
  rw [hF] at hH
  cases hB with
  | bx aS ys hl hr=>
   rw [hb] at aS;cases aS
   have nS:=Ah hH.one
   have bA:ys.toArray.size=cells.length:=by simp [hl]
   rw [bA] at nS
   have key:(convert t t' (.pointer (some ⟨b,0,none⟩))).run P w'=.ok (.pointer (some ⟨b,0,none⟩)) w':=by
    cases c with
    | true=>
     simp only [cond_true] at hc
     unfold mE at hc
     split at hc
     ·rename_i s h1 h2
      split at hc
      ·rename_i j hj
       exact Go.Lib.run_to_unsafe w' ⟨b,0,none⟩ h1 h2 hj (by simpa using hc) nS h0
      ·cases hc
     ·cases hc
    | false=>
     simp only [cond_false] at hc
     unfold mF at hc
     split at hc
     ·rename_i s h1 h2
      rw [Bool.and_eq_true] at hc
      obtain ⟨j,hj⟩:=Option.isSome_iff_exists.1 hc.1
      exact Go.Lib.run_from_unsafe w' ⟨b,0,none⟩ h1 h2 hj nS hc.2
     ·cases hc
   simp only [execOp,hy,Sem.run_bind,key,Result.andThen_ok,Sem.run_pure]
def js (P:Program) (t:TypeId):Bool:=match P.underlying t with | some (.pointer te)=>(P.info? te).isSome | _=>false
def xJ (P:Program) (E:List (Nat×AV)) (M:List ai) (op:BinOp) (t:TypeId) (x y:Operand):Option Out:=
 match op,aI E x,aI E y with
 | .eql,some (.pt u o),some (.pt v q)=>bif Nat.beq u v&&Nat.beq o q then some (lk [js P t=true] (.b true) M) else none
 | .neq,some (.pt u o),some (.pt v q)=>bif Nat.beq u v&&Nat.beq o q then some (lk [js P t=true] (.b false) M) else none
 | _,_,_=>none
theorem AT {t:TypeId} (h:js P t=true):∃ te j,P.underlying t=some (.pointer te)∧P.info? te=some j:=by
 unfold js at h
 split at h
 ·rename_i te h1
  obtain ⟨j,hj⟩:=Option.isSome_iff_exists.1 h
  exact ⟨te,j,h1,hj⟩
 ·cases h
theorem Ij {op:BinOp} {t t':TypeId} {x y:Operand} (h:xJ P E M op t x y=some out):aJ P ⟨d,.binOp op t x y t',ty,pos,aft,gd⟩ E M out:=by
 unfold xJ at h
 split at h
 ·rename_i u o v q hx hy
  cases hc:(Nat.beq u v&&Nat.beq o q) with
  | false=>simp [hc] at h
  | true=>
   simp only [hc,cond_true,Option.some.injEq] at h;subst h
   rw [Bool.and_eq_true] at hc
   obtain rfl:=Nat.eq_of_beq_eq_true hc.1
   obtain rfl:=Nat.eq_of_beq_eq_true hc.2
   refine aJ.same fun C hv=>?_
   obtain ⟨te,j,h1,h2⟩:=AT hv.1
   obtain ⟨y1,e1,r1⟩:=C.bR hx
   obtain ⟨y2,e2,r2⟩:=C.bR hy
   cases r1 with
   | pt hb=>
    cases r2 with
    | pt iz=>
     rw [hb] at iz;cases iz
     refine ⟨_,fun w' _=>?_,.d (.v _)⟩
     simp only [execOp,e1,e2,eqGuard,Sem.run_bind,Sem.run_pure,Result.andThen_ok,run_eql_ptr_same w' _ h1 h2,Bool.not_true,Bool.false_eq_true,if_false]
 ·rename_i u o v q hx hy
  cases hc:(Nat.beq u v&&Nat.beq o q) with
  | false=>simp [hc] at h
  | true=>
   simp only [hc,cond_true,Option.some.injEq] at h;subst h
   rw [Bool.and_eq_true] at hc
   obtain rfl:=Nat.eq_of_beq_eq_true hc.1
   obtain rfl:=Nat.eq_of_beq_eq_true hc.2
   refine aJ.same fun C hv=>?_
   obtain ⟨te,j,h1,h2⟩:=AT hv.1
   obtain ⟨y1,e1,r1⟩:=C.bR hx
   obtain ⟨y2,e2,r2⟩:=C.bR hy
   cases r1 with
   | pt hb=>
    cases r2 with
    | pt iz=>
     rw [hb] at iz;cases iz
     refine ⟨_,fun w' _=>?_,.d (.v _)⟩
     simp only [execOp,e1,e2,eqGuard,Sem.run_bind,Sem.run_pure,Result.andThen_ok,Go.Lib.run_neq_ptr_same w' _ h1 h2,Bool.not_true,Bool.false_eq_true,if_false]
 ·cases h
def qu (P:Program) (f:FuncId):Prop:=∃ fn,P.funcs[f]?=some fn∧(fn.name == "runtime.NumGoroutine")=false∧fn.body.isNone=true∧Extern.findNext fn=none∧Extern.find fn=some Extern.AbiNoEscape.same
def vN (P:Program) (E:List (Nat×AV)) (M:List ai) (g:Operand) (args:Array Operand):Option Out:=
 match aI E g,args with
 | some (.fn f []),⟨[x]⟩=>(match aI E x with | some (.pt u o)=>some (lk [qu P f] (.pt u o) M) | _=>none)
 | _,_=>none
theorem FD {g:Operand} {args:Array Operand} {e7:Array TypeId} (h:vN P E M g args=some out):aJ P ⟨d,.call ⟨.value g,args,e7⟩,ty,pos,aft,gd⟩ E M out:=by
 unfold vN at h
 split at h
 ·rename_i f x hg
  split at h
  ·rename_i u o hx
   simp only [Option.some.injEq] at h;subst h
   refine aJ.same fun C hv=>?_
   obtain ⟨⟨fn,h1,h2,h3,h4,h5⟩,-⟩:=hv
   obtain ⟨yg,eg,rg⟩:=C.bR hg
   obtain ⟨yx,ex,rx⟩:=C.bR hx
   refine ⟨yx,fun w' _=>?_,rx⟩
   cases rg with
   | fn cs hl hr=>
    have cF:cs=[]:=List.eq_nil_of_length_eq_zero (by simpa using hl)
    subst cF
    have:=run_callFunc_extern h1 h2 h3 h4 h5 #[yx] w'
    simp only [Go.Lib.run_noEscape,Result.andThen_ok] at this
    simp [execOp,resolve,eg,ex,Deferred.ofValue,invoke,this]
  ·cases h
 ·cases h
def vO (E:List (Nat×AV)) (M:List ai) (x:Operand):Option Out:=
 match aI E x with
 | some (.sl u n)=>(match M[u]? with | some (.rw _ k rows)=>bif k.beq 1 then some ⟨[n=rows.length,0<n],.ep u 1 0 0,M,[],[],some [u]⟩ else none | _=>none)
 | _=>none
theorem FE {t:TypeId} {x:Operand} (h:vO E M x=some out):aJ P ⟨d,.call ⟨.builtin .unsafeSliceData,#[x],#[t]⟩,ty,pos,aft,gd⟩ E M out:=by
 unfold vO at h
 split at h
 rotate_left
 ·cases h
 rename_i u n hx
 split at h
 rotate_left
 ·cases h
 rename_i Tr k rows hM
 cases ko:k.beq 1 with
 | false=>simp [ko] at h
 | true=>
  simp only [ko,cond_true,Option.some.injEq] at h;subst h
  obtain rfl:=Nat.eq_of_beq_eq_true ko
  refine aJ.look ?_ (by simpa using ff hM)
  intro D w0 K0 β F I ρ w C hv
  obtain ⟨hn,h0,-⟩:=hv
  obtain ⟨y,hy,r⟩:=C.bR hx
  cases r with
  | @sl _ _ cc a hb=>
   obtain ⟨H,hF,hB,-⟩:=C.rm.at hM
   cases hB with
   | rw aS X G hl hs hr=>
    rw [hb] at aS;cases aS
    obtain ⟨b',cap,cs,fz,he,rfl,ey,cF,dA,lU⟩:=hs.block (by omega)
    simp only [Value.slice.injEq] at he;obtain ⟨rfl,-,rfl⟩:=he
    refine ⟨.pointer (some ⟨b',0,none⟩),by simpa using ax.ep (k:=1) (i:=0) (o:=0) hb,fun w' _=>?_⟩
    have:=Go.Lib.run_unsafeSliceData_row (P:=P) w' #[t] ty ⟨b',0,none⟩ n cc (by omega)
    simp only [execOp,resolve,List.map_toArray,List.map,hy,Sem.run_bind,Sem.run_pure,Result.andThen_ok,invoke,builtin,this]
theorem Ik {w:World} {b n:Nat} {c:Array Value} {e:TypeId} {fz:Nat×Nat} (hb:w.heap[b]?=some (.cells c e fz)) (hn:n≠0):∃ jv,w.freeze ⟨b,0,none⟩ n=cg w b (.cells c e jv):=by
 obtain ⟨lo,hi⟩:=fz
 refine ⟨if lo==hi then (0,0+n) else (min lo 0,max hi (0+n)),?_⟩
 unfold World.freeze cg
 rw [if_neg hn]
 congr 1
 apply Array.ext_getElem?
 intro j
 have aO:=kC hb
 rw [Array.getElem?_modify,Array.getElem?_setIfInBounds]
 by_cases e':b=j
 ·subst e'
  have hg:w.heap[b]=.cells c e (lo,hi):=by rw [Array.getElem?_eq_getElem aO] at hb;exact Option.some.inj hb
  simp [aO,hg]
 ·simp [e']
def qI (P:Program) (t T:TypeId):Bool:=match P.underlying t with | some (.pointer e)=>Nat.beq e T&&Nat.beq (P.cellsOf e) 1 | _=>false
def wT (P:Program) (E:List (Nat×AV)) (M:List ai) (oc:Option aX) (t:TypeId) (x y:Operand):Option Out:=
 match aI E x,cL (aI E y),oc with
 | some (.ep u 1 0 0),some (.i64,z),some (.res (.v (.string s)))=>(match M[u]? with
  | some (.rw Tr k rows)=>bif k.beq 1 then some ⟨[z=(rows.length:Int),0<rows.length,rows=ae s.data.toList,qI P t Tr=true,rows.length≤9223372036854775807],.d (.v (.string s)),M.set u .dead,[u],[],none⟩ else none
  | _=>none)
 | _,_,_=>none
theorem GU {t t2:TypeId} {x y:Operand} (h:wT P E M oc t x y=some out):aJ P ⟨d,.call ⟨.builtin .unsafeString,#[x,y],#[t,t2]⟩,ty,pos,aft,gd⟩ E M out:=by
 unfold wT at h
 split at h
 rotate_left
 ·cases h
 rename_i u z s hx hz
 split at h
 rotate_left
 ·cases h
 rename_i Tr k rows hM
 cases ko:k.beq 1 with
 | false=>simp [ko] at h
 | true=>
  simp only [ko,cond_true,Option.some.injEq] at h;subst h
  obtain rfl:=Nat.eq_of_beq_eq_true ko
  intro D w0 K0 β F I ρ w C hv
  obtain ⟨rfl,h0,yC,lX,Pf,-⟩:=hv
  generalize hl:s.data.toList=bs at yC
  have hs:s=⟨bs.toArray⟩:=by rw [← hl]
  subst hs
  have hlen:rows.length=bs.length:=by rw [yC];simp [ae]
  obtain ⟨yx,ex,rx⟩:=C.bR hx
  have Dm:=C.int hz
  cases rx with
  | @ep _ _ _ _ b cc hb=>
   have R1:=C.rm.x.fo hM
   have hB:=C.rm.blk u _ hM
   have hH:=C.rm.iK hM
   generalize jy:F u=Fu at hB R1 hH
   cases hB with
   | @rw _ _ _ _ _ H0 aS X G cS NN hr=>
    rw [hb] at aS;cases aS
    obtain ⟨b',cap,cs,fz,he,rfl,ey,cF,dA,lU⟩:=NN.block (by omega)
    simp only [Value.slice.injEq,Option.some.injEq,Addr.mk.injEq] at he;obtain ⟨⟨rfl,-⟩,-,rfl⟩:=he
    have hw:w.heap[b]?=some (.cells cs Tr fz):=(Holds.app.1 hH).1.one
    have fk:(Builtin.unsafeString_ #[t,t2] ty #[.pointer (some ⟨b,0,none⟩),.int .i64 bs.length]).run P w=.ok (.string ⟨bs.toArray⟩) (w.freeze ⟨b,0,none⟩ bs.length):=by
     unfold qI at lX
     split at lX
     ·rename_i e he
      rw [Bool.and_eq_true] at lX
      obtain rfl:=Nat.eq_of_beq_eq_true lX.1
      refine Go.Lib.run_unsafeString_row w t t2 ty e he (Nat.eq_of_beq_eq_true lX.2) b cs.size (Ah hw) bs (by intro hn;rw [hn,List.length_nil] at hlen;omega) (by rw [cF,← hlen];omega) (by omega) fun j q hj=>?_
      rw [add_eq,Nat.zero_add,cell_of hw]
      have q5:=(List.getElem?_eq_some_iff.1 hj).1
      have e1:(cs.toList.take (rows.length*1))[j]?=cs[j]?:=by rw [List.getElem?_take,if_pos (by omega),Array.getElem?_toList]
      rw [← e1,lU]
      have b9:(ae bs)[j]?=some [.v (.int .u8 (q.toNat:Int))]:=by simp [ae,hj]
      rw [← yC] at b9
      obtain ⟨x7,x8⟩:=cS j _ b9
      have hg:=j4 (n:=rows.length) (k:=1) (X:=X) (fun i hi=>(cS i _ (List.getElem?_eq_getElem hi)).2) (i:=j) (j:=0) (by omega) (by omega)
      rw [Nat.mul_one,Nat.add_zero] at hg
      obtain ⟨v0,aq⟩:∃ v0,(X j)[0]?=some v0:=⟨(X j)[0]'(by omega),List.getElem?_eq_getElem _⟩
      have hd:=hr j _ 0 _ _ b9 rfl aq
      generalize G j 0=GG at hd
      cases hd
      rw [hg,aq]
     ·cases lX
    obtain ⟨jv,lR⟩:=Ik (n:=bs.length) hw (by omega)
    rw [lR] at fk
    have hex:(execOp ρ ⟨d,.call ⟨.builtin .unsafeString,#[x,y],#[t,t2]⟩,ty,pos,aft,gd⟩).run P w=.ok (.value (.string ⟨bs.toArray⟩)) (cg w b (.cells cs Tr jv)):=by
     rw [hlen] at Dm
     simp only [execOp,resolve,List.map_toArray,List.map,ex,Dm,Nat.zero_mul,Nat.zero_add,Sem.run_bind,Sem.run_pure,Result.andThen_ok,invoke,builtin,fk]
    refine aY.pure hex ?_
    have R2:=(R1.perm (Y:=[(b,.cells cs Tr fz)]++bI rows.length 1 G) (by rw [List.nil_append])).drop
    have bB:=(R2.st.perm (K:=(b,.cells cs Tr fz)::((List.range (M.set u .dead).length).flatMap (aN F u [])++I)) (by classical rw [List.perm_iff_count];intro z;simp only [List.count_append,List.count_cons,List.count_nil];omega)).set (.cells cs Tr jv)
    refine ⟨β,aN F u [],[(b,.cells cs Tr jv)]++I,⟨R2.len,fun v bl hv=>(R2.blk v bl hv).mono (fun w hw=>⟨hw.1,(Holds.app.1 hw.2).2⟩) (Ext.refl _),?_⟩,(Ext.refl β).b _,⟨_,rfl⟩,fun v hv hn=>by simp only [aN];rw [if_neg (by simpa using hn)],.d (.v _)⟩
    exact bB.perm (by classical rw [List.perm_iff_count];intro z;simp only [List.count_append,List.count_cons,List.count_nil];omega)
end Go.Proofs.YtcnpikbbmbombaaGreatDoor
namespace Go.Proofs.YtcnpikbbmbombaaGreatDoor
open Go.RowKit
variable {P:Program} {T:aP} {D:List Nat} {w0:World} {K0:World→Prop} {E:List (Nat×AV)} {M:List ai} {β:Beta} {F:Nat→ak} {I X:ak} {ρ:Operand→Value} {w:World}
variable {d:Option Tmp} {ty:TypeId} {pos:String} {aft:Array Edge} {gd:Option (Nat×Bool)} {oc:Option aX} {out:Out}
def wU (T:aP) (E:List (Nat×AV)) (M:List ai) (t:TypeId) (x:Operand):Option Out:=
 match cV T t,aI E x with
 | some (.sl _),some (.d (.v (.slice none 0 0)))=>some (lk [] (.n 0) M)
 | _,_=>none
theorem GV {x:Operand} {t e n c:Nat} {a:Option Addr} (ht:P.underlying t=some (.slice e)) (hx:ρ x=.slice a n c) (w:World):(execOp ρ ⟨d,.call ⟨.builtin .cap,#[x],#[t]⟩,ty,pos,aft,gd⟩).run P w=.ok (.value (.int .i64 (c:Int))) w:=by
 have:(Builtin.cap_ #[t] ty #[.slice a n c]).run P w=.ok (.int .i64 (c:Int)) w:=by
  unfold Builtin.cap_
  simp only [List.getElem?_toArray,List.getElem?_cons_zero,Sem.run_bind,run_underlying ht,Result.andThen_ok,Sem.run_pure];rfl
 simp only [execOp,resolve,List.map_toArray,List.map,hx,Sem.run_bind,Sem.run_pure,Result.andThen_ok,invoke,builtin,this]
theorem GW (hT:aZ P T=true) {t:TypeId} {x:Operand} (h:wU T E M t x=some out):aJ P ⟨d,.call ⟨.builtin .cap,#[x],#[t]⟩,ty,pos,aft,gd⟩ E M out:=by
 unfold wU at h
 split at h
 ·rename_i e ht hx
  simp only [Option.some.injEq] at h;subst h
  have lW:=cH hT ht
  refine aJ.same fun C da=>?_
  obtain ⟨y,hy,r⟩:=C.bR hx
  cases r with
  | d hd=>cases hd;exact ⟨_,fun w' _=>GV lW hy w',.d (.v _)⟩
 ·cases h
def s9 (P:Program) (f e:Nat):Prop:=∃ fn t,P.funcs[f]?=some fn∧(fn.name == "runtime.NumGoroutine")=false∧fn.body.isNone=true∧Extern.findNext fn=none∧Extern.find fn=some (Extern.BytealgMakeNoZero.makeNoZero fn.params fn.resultTypes)∧fn.resultTypes=#[t]∧P.underlying t=some (.slice e)
def wV (P:Program) (E:List (Nat×AV)) (M:List ai) (oc:Option aX) (g:Operand) (args:Array Operand):Option Out:=
 match aI E g,args,oc with
 | some (.fn f []),⟨[x]⟩,some (.n2 m e)=>(match cL (aI E x) with
  | some (.i64,z)=>some ⟨[s9 P f e,z=(m:Int),m≤281474976710656],.sl M.length m,M++[.rw e 1 (List.replicate m [.jk])],[],[],none⟩
  | _=>none)
 | _,_,_=>none
theorem GX {f e m:Nat} (h:s9 P f e) (hm:m≤281474976710656) (w:World):∃ (c:Nat) (cs:Array Value),m≤c∧cs.size=c∧(callFunc f #[.int .i64 (m:Int)]).run P w=.ok (.value (.slice (some ⟨w.heap.size,0,none⟩) m c)) (w.drew.drew.alloc (.cells cs e (0,0))):=by
 obtain ⟨fn,t,h1,h2,h3,h4,h5,h6,h7⟩:=h
 obtain ⟨cs,hr,hc,-⟩:=Go.Lib.run_makeNoZero (P:=P) (w:=w) fn.params t e h7 m hm
 refine ⟨cs.size,cs,hc,rfl,?_⟩
 rw [run_callFunc_extern h1 h2 h3 h4 h5,h6,hr];rfl
theorem GY {g:Operand} {args:Array Operand} {e7:Array TypeId} (h:wV P E M oc g args=some out):aJ P ⟨d,.call ⟨.value g,args,e7⟩,ty,pos,aft,gd⟩ E M out:=by
 unfold wV at h
 split at h
 ·rename_i f x m e hg
  split at h
  ·rename_i z hx
   simp only [Option.some.injEq] at h;subst h
   intro D w0 K0 β F I ρ w C hv
   obtain ⟨hN,rfl,hm,-⟩:=hv
   obtain ⟨yg,eg,rg⟩:=C.bR hg
   have ex:=C.int hx
   cases rg with
   | fn cs hl hr=>
    have cF:cs=[]:=List.eq_nil_of_length_eq_zero (by simpa using hl)
    subst cF
    obtain ⟨c,cs,h1,h2,h3⟩:=GX hN hm w
    refine aY.pure (v:=.slice (some ⟨w.heap.size,0,none⟩) m c) (w':=w.drew.drew.alloc (.cells cs e (0,0))) (by simp [execOp,resolve,eg,ex,Deferred.ofValue,invoke,h3]) ?_
    have gr:Gr w (w.drew.drew.alloc (.cells cs e (0,0))):=((Gr.drew w).trans (Gr.drew w.drew)).trans (Gr.alloc w.drew.drew _)
    have nf:du w (w.drew.drew.alloc (.cells cs e (0,0))) [(w.heap.size,.cells cs e (0,0))]:=(du.alloc w.drew.drew (.cells cs e (0,0))).ahead ((Gr.drew w).trans (Gr.drew w.drew))
    refine ⟨_,_,I,C.rm.new (q:=(some ⟨w.heap.size,0,none⟩,c)) gr nf ?_,(Ext.app _ _).b _,bS.refl _,lb _ _,.sl (gQ C.rm _)⟩
    have hX:∀ i,i<m→([cs[i]!]:List Value).length=1:=fun _ _=>rfl
    have mD:lay m (fun i=>[cs[i]!])=cs.toList.take m:=by
     have key:∀ k,k≤cs.size→lay k (fun i=>[cs[i]!])=cs.toList.take k:=by
      intro k
      induction k with
      | zero=>intro _;simp [lay]
      | succ k ih=>
       intro hk
       have:=ih (by omega)
       simp only [lay] at this ⊢
       rw [List.range_succ,List.flatMap_append,this,List.take_add_one,Array.getElem?_toList,Array.getElem?_eq_getElem (by omega)]
       simp [getElem!_pos cs k (by omega)]
     exact key m (by omega)
    have:=bF.rw (K:=fun w=>K0 w∧Holds w I) (β:=β++[(some ⟨w.heap.size,0,none⟩,c)]) (u:=M.length) (T:=e) (k:=1) (rows:=List.replicate m [.jk]) (H0:=[(w.heap.size,.cells cs e (0,0))]) (gQ C.rm _) (fun i=>[cs[i]!]) (fun _ _=>[]) (fun i r hi=>by
     rw [List.getElem?_replicate] at hi
     split at hi
     ·simp only [Option.some.injEq] at hi;subst hi;exact ⟨rfl,rfl⟩
     ·simp at hi) (by
     rw [List.length_replicate]
     exact ⟨by rw [mD];simp;omega,Or.inr ⟨w.heap.size,c,_,(0,0),rfl,rfl,kl _,by rw [h2];omega,h1,by rw [mD];simp⟩⟩) (fun i r j q x hi h1 h2=>by
     rw [List.getElem?_replicate] at hi
     split at hi
     ·simp only [Option.some.injEq] at hi;subst hi
      cases j with
      | succ j=>simp at h1
      | zero=>simp at h1;subst h1;exact .jk _
     ·simp at hi)
    rw [ky,List.append_nil] at this
    exact this
  ·cases h
 ·cases h
end Go.Proofs.YtcnpikbbmbombaaGreatDoor
namespace Go.Proofs.YtcnpikbbmbombaaGreatDoor
open Go.RowKit
variable {P:Program} {T:aP} {D:List Nat} {w0:World} {K0:World→Prop} {E:List (Nat×AV)} {M:List ai} {β:Beta} {F:Nat→ak} {I:ak} {ρ:Operand→Value} {w:World}
variable {d:Option Tmp} {ty:TypeId} {pos:String} {aft:Array Edge} {gd:Option (Nat×Bool)} {oc:Option aX} {out:Out}
theorem JI {K:World→Prop} {u b c e k m m2 o:Nat} {cells l:List AV} {ys zs:List Value} (hb:β[u]?=some (some ⟨b,0,none⟩,c)) (hl:ys.length=c*k) (hm:cells.length=m*k) (hr:∀ (j:Nat) c y,cells[j]?=some c→ys[j]?=some y→ax K β c y)
  (eI:zs.length=l.length) (hz:∀ (j:Nat) c y,l[j]?=some c→zs[j]?=some y→ax K β c y) (ho:o≤cells.length) (Dn:m2≤c) (hlen:(cells.take o++(l++cells.drop (o+l.length))).length=m2*k):
  bF K β u (.fl e k m2 (cells.take o++(l++cells.drop (o+l.length)))) [(b,.cells (cm ys.toArray o zs) e (0,0))]:=by
 have NF:m2*k≤c*k:=Nat.mul_le_mul_right _ Dn
 have wE:=hlen
 simp only [List.length_append,List.length_take,List.length_drop] at wE
 have hle:o+zs.length≤ys.toArray.size:=by simp;omega
 have he:(cm ys.toArray o zs)=(cm ys.toArray o zs).toList.toArray:=by simp
 rw [he]
 refine .fl hb _ (by rw [Array.length_toList,iE];simpa using hl) hlen Dn ?_
 intro j c z e1 e2
 rw [Array.getElem?_toList,ox _ _ _ _ hle] at e2
 by_cases hj:o≤j∧j<o+zs.length
 ·rw [if_pos hj] at e2
  rw [List.getElem?_append_right (by simp;omega),List.getElem?_append_left (by simp;omega)] at e1
  refine hz (j-o) c z ?_ e2
  rw [← e1];congr 1;simp;omega
 ·rw [if_neg hj] at e2
  rw [List.getElem?_toArray] at e2
  refine hr j c z ?_ e2
  rcases Nat.lt_or_ge j o with mT | mT
  ·rw [List.getElem?_append_left (by simp;omega),List.getElem?_take,if_pos mT] at e1;exact e1
  ·rw [List.getElem?_append_right (by simp;omega),List.getElem?_append_right (by simp;omega),List.getElem?_drop] at e1
   rw [← e1];congr 1;simp;omega
theorem AU {α:Type} {k:Nat}:∀ {rows:List (List α)},(∀ r ∈ rows,r.length=k)→rows.flatten.length=rows.length*k∧∀ (i j:Nat) r,rows[i]?=some r→j<k→rows.flatten[i*k+j]?=r[j]?
 | [],_=>⟨by simp,by simp⟩
 | r::rs,h=>by
  have hr:=h r (by simp)
  obtain ⟨h1,h2⟩:=AU (rows:=rs) (fun x hx=>h x (by simp [hx]))
  refine ⟨by simp [h1,hr,Nat.succ_mul,Nat.add_comm],fun i j q hq hj=>?_⟩
  cases i with
  | zero=>simp at hq;subst hq;rw [Nat.zero_mul,Nat.zero_add,List.flatten_cons,List.getElem?_append_left (by omega)]
  | succ i=>
   simp at hq
   rw [List.flatten_cons,List.getElem?_append_right (by rw [Nat.succ_mul];omega),← h2 i j q hq hj]
   congr 1;rw [Nat.succ_mul];omega
theorem Il {K:World→Prop} {l:List AV} {X:List Value} (h:l.all AV.one=true) (hl:X.length=l.length) (hr:∀ (j:Nat) c z,l[j]?=some c→X[j]?=some z→ax K β c z):∀ q ∈ X,bf q=true:=by
 intro q hq
 obtain ⟨j,hj,rfl⟩:=List.getElem_of_mem hq
 have gq:j<l.length:=by omega
 exact AV.vt (hr j _ _ (List.getElem?_eq_getElem gq) (List.getElem?_eq_getElem hj)) (List.all_eq_true.1 h _ (List.getElem_mem gq))
def vP (T:aP) (E:List (Nat×AV)) (M:List ai) (oc:Option aX) (st:TypeId) (x y:Operand):Option Out:=
 match iX T st,aI E x,aI E y,oc with
 | some (_,k,_,_),some (.sf u k' 0 n _),some (.d (.ro k3 rows)),some (.res (.ag ds))=>(match M[u]? with
  | some (.fl e2 k2 m cells)=>bif k.beq k'&&(k.beq k2&&(k.beq k3&&n.ble m)) then some ⟨[aD rows,(rows.flatten.map AV.d).take (min rows.length n*k)++cells.drop ((rows.flatten.map AV.d).take (min rows.length n*k)).length=ds.map AV.d],.d (.v (.int .i64 ((min rows.length n:Nat):Int))),M.set u (.fl e2 k2 m (ds.map .d)),[u],[],none⟩ else none
  | _=>none)
 | _,_,_,_=>none
theorem FF (hT:aZ P T=true) {st xt:TypeId} {x y:Operand} (h:vP T E M oc st x y=some out):aJ P ⟨d,.call ⟨.builtin .copy,#[x,y],#[st,xt]⟩,ty,pos,aft,gd⟩ E M out:=by
 unfold vP at h
 split at h
 rotate_left
 ·simp at h
 rename_i e k b z u k' n q k3 rows ds he hx hy
 obtain ⟨zv,ok,-,-⟩:=kF hT he
 split at h
 rotate_left
 ·simp at h
 rename_i e2 k2 m cells hM
 cases hc:(k.beq k'&&(k.beq k2&&(k.beq k3&&n.ble m))) with
 | false=>simp [hc] at h
 | true=>
 simp only [hc,cond_true,Option.some.injEq] at h;subst h
 simp only [Bool.and_eq_true] at hc
 obtain ⟨c1,c2,c4,c3⟩:=hc
 obtain rfl:=Nat.eq_of_beq_eq_true c1
 obtain rfl:=Nat.eq_of_beq_eq_true c2
 obtain rfl:=Nat.eq_of_beq_eq_true c4
 have tB:=Nat.le_of_ble_eq_true c3
 intro D w0 K0 β F I ρ w C hv
 obtain ⟨dK,NO,-⟩:=hv
 obtain ⟨yx,iW,rx⟩:=C.bR hx
 obtain ⟨yy,nW,ry⟩:=C.bR hy
 obtain ⟨X,ra,hs⟩:=AK C.now ry
 have hX:∀ i,i<rows.length→(X i).length=k:=fun i hi=>(ra.hl i _ (List.getElem?_eq_getElem hi)).2
 have gS:∀ r ∈ rows,r.length=k:=fun r hr=>by
  obtain ⟨i,hi,rfl⟩:=List.getElem_of_mem hr
  exact (ra.hl i _ (List.getElem?_eq_getElem hi)).1
 obtain ⟨f1,f2⟩:=AU gS
 have hC:=eu hX
 have s2:(lay rows.length X).length=(rows.flatten.map AV.d).length:=by rw [hC,List.length_map,f1]
 have s3:∀ (j:Nat) c z,(rows.flatten.map AV.d)[j]?=some c→(lay rows.length X)[j]?=some z→ax (fun w=>K0 w∧Holds w I) β c z:=fun j c z e1 e2=>by
  have q5:j<rows.length*k:=by rw [← hC];exact (List.getElem?_eq_some_iff.1 e2).1
  have hk:0<k:=by
   rcases Nat.eq_zero_or_pos k with h0 | h0
   ·subst h0;simp at q5
   ·exact h0
  have hd:j / k<rows.length:=Nat.div_lt_of_lt_mul (by rw [Nat.mul_comm];exact q5)
  have hm:j%k<k:=Nat.mod_lt _ hk
  have e:j / k*k+j%k=j:=by rw [Nat.mul_comm,Nat.div_add_mod]
  have b9:rows[j / k]?=some rows[j / k]:=List.getElem?_eq_getElem hd
  have g1:=j4 hX hd hm
  have g2:=f2 _ _ _ b9 hm
  rw [e] at g1 g2
  rw [g1] at e2
  rw [List.getElem?_map,g2,Option.map_eq_some_iff] at e1
  obtain ⟨c',e1,rfl⟩:=e1
  exact .d (ra.hr _ _ _ c' z b9 e1 e2)
 have Ld:(rows.flatten.map AV.d).all AV.one=true:=by
  unfold aD at dK
  rw [List.all_eq_true] at dK ⊢
  intro c hc
  obtain ⟨c',h1,rfl⟩:=List.mem_map.1 hc
  obtain ⟨r,h2,h3⟩:=List.mem_flatten.1 h1
  exact List.all_eq_true.1 (dK r h2) c' h3
 have wJ:=Il Ld s2 s3
 have o8:min rows.length n≤rows.length:=Nat.min_le_left _ _
 obtain ⟨hlen,oN⟩:=hs.pre (P:=P) o8
 have bA:∀ w:World,(sizeOf e).run P w=.ok k w:=fun w=>by obtain ⟨i,hi,h1,-⟩:=ok.info;simp [sizeOf,typeInfo,Sem.run_bind,hi,h1]
 cases rx with
 | @sf _ _ _ _ bb cc cap _ hb dA hn hq=>
 obtain ⟨H,hF,hB,hH⟩:=C.rm.at hM
 cases hB with
 | fl aS ys hl hm mY hr=>
 rw [hb] at aS;cases aS
 have hw:=hH.one
 have a1:n*k≤m*k:=Nat.mul_le_mul_right _ tB
 have a2:m*k≤ys.length:=by rw [hl];exact Nat.mul_le_mul_right _ mY
 have a4:min rows.length n*k≤n*k:=Nat.mul_le_mul_right _ (Nat.min_le_right _ _)
 have a5:min rows.length n*k≤rows.length*k:=Nat.mul_le_mul_right _ o8
 have lD:=pR (P:=P) ((lay rows.length X).take (min rows.length n*k)) w ys.toArray (0*k) 0 hw (by simp;omega) (fun q hq=>wJ q (List.mem_of_mem_take hq))
 simp only [Nat.add_zero] at lD
 refine aY.pure (v:=.int .i64 ((min rows.length n:Nat):Int)) (w':=cg w bb (.cells (cm ys.toArray (0*k) ((lay rows.length X).take (min rows.length n*k))) e2 (0,0))) ?_ ?_
 ·have wK:Nat.min rows.length n=min rows.length n:=rfl
  simp only [execOp,resolve,List.map_toArray,List.map,iW,nW,Sem.run_bind,Sem.run_pure,Result.andThen_ok,invoke,builtin,Builtin.copy_,List.getElem?_toArray,List.getElem?_cons_zero,List.getElem?_cons_succ,run_underlying ok.bB,hlen,wK,bA,oN,lD]
  rfl
 ·have yD:=JI (K:=fun w=>K0 w∧Holds w I) (e:=e2) (m2:=m) (o:=0*k) (l:=(rows.flatten.map AV.d).take (min rows.length n*k)) (zs:=(lay rows.length X).take (min rows.length n*k)) hb hl hm hr (by rw [List.length_take,List.length_take,s2]) (fun j c z e1 e2=>by
    rw [List.getElem?_take] at e1 e2
    split at e1
    ·rename_i hj;rw [if_pos hj] at e2;exact s3 j c z e1 e2
    ·simp at e1) (by omega) mY (by
    simp only [List.length_append,List.length_take,List.length_drop]
    omega)
  rw [Nat.zero_mul,List.take_zero,List.nil_append,Nat.zero_add,NO] at yD
  rw [Nat.zero_mul]
  exact ⟨β,_,I,C.rm.set hM hF yD,(Ext.refl β).b _,bS.refl _,fun v hv hn=>by simp only [aN];rw [if_neg (by simpa using hn)],.d (.v _)⟩
def wW (T:aP) (E:List (Nat×AV)) (M:List ai) (oc:Option aX) (t:TypeId) (x ix:Operand):Option Out:=
 match cV T t,aI E x,cL (aI E ix),oc with
 | some (.ar n e),some (.ag l),some (_,z),some (.ix i [c])=>(match fA T e with
  | some k=>some (lk [z=(i:Int),i<n,nX T e l (i*k)=some (.d c)] (.d c) M)
  | none=>none)
 | _,_,_,_=>none
theorem GZ (hT:aZ P T=true) {t:TypeId} {x ix:Operand} (h:wW T E M oc t x ix=some out):aJ P ⟨d,.index t x ix,ty,pos,aft,gd⟩ E M out:=by
 unfold wW at h
 split at h
 ·rename_i n e l _ z i c hu hx hz
  split at h
  ·rename_i k hk
   simp only [Option.some.injEq] at h;subst h
   have bA:∀ w:World,(sizeOf e).run P w=.ok k w:=fun w=>by
    have:=gO hT hk
    cases hi:P.info? e with
    | none=>simp [hi] at this
    | some inf=>simp only [hi,Option.map_some,Option.some.injEq] at this;simp [sizeOf,typeInfo,Sem.run_bind,hi,this]
   refine aJ.same ?_
   intro D w0 K0 β F I ρ w C hv
   obtain ⟨rfl,aO,hp,-⟩:=hv
   have r:=C.ev hx
   have hi:=C.int hz
   generalize hy:ρ x=y at r
   cases r with
   | ag ys hl hr=>
    obtain ⟨y,h1,h2⟩:=vE hT hp hl hr
    refine ⟨y,fun w' _=>?_,h1⟩
    have gu:=cH hT hu
    have hc:(0:Int)≤(i:Int)∧(i:Int)<(n:Int):=by omega
    simp only [execOp,hy,hi,Instr.index,asIntOf,Sem.run_bind,Sem.run_pure,run_underlying gu,Result.andThen_ok]
    rw [if_pos hc]
    simp only [Sem.run_bind,bA,Result.andThen_ok,Int.toNat_natCast,h2,Sem.run_pure]
  ·simp at h
 ·simp at h
def vQ (T:aP) (E:List (Nat×AV)) (M:List ai) (t:TypeId) (x:Operand):Option Out:=
 match aI E x with
 | some (.pt u o)=>(match M[u]? with
  | some (.fl _ _ _ cells)=>(match kW T t cells o with | some v=>some ⟨[],v,M,[],[],some [u]⟩ | none=>none)
  | _=>none)
 | _=>none
theorem FG (hT:aZ P T=true) {t:TypeId} {x:Operand} (h:vQ T E M t x=some out):aJ P ⟨d,.load t x,ty,pos,aft,gd⟩ E M out:=by
 unfold vQ at h
 split at h
 ·rename_i u o hv
  split at h
  ·rename_i Tt k m cells hM
   split at h
   ·rename_i v jw
    simp only [Option.some.injEq] at h;subst h
    refine aJ.look (fun C _=>?_) (by simpa using ff hM)
    obtain ⟨y,hy,r⟩:=C.bR hv
    cases r with
    | pt hb=>
     obtain ⟨H,hF,hB,hH⟩:=C.rm.at hM
     cases hB with
     | fl aS ys hl hm hc hr=>
      rw [hb] at aS;cases aS
      have hlen:cells.length≤ys.length:=by rw [hl,hm];exact Nat.mul_le_mul_right _ hc
      obtain ⟨y',h1,h2⟩:=oQ hT (a:=⟨_,0,none⟩) (ys:=ys.take cells.length) (fun l ys=>ax.ag ys) jw (hy.trans (by rw [add_eq,Nat.zero_add])) (by simp;omega) (fun j c z e1 e2=>hr j c z e1 (by
       rw [List.getElem?_take] at e2
       split at e2
       ·exact e2
       ·simp at e2))
      refine ⟨y',h1,fun w' hs=>h2 w' fun j z hj=>?_⟩
      have hw:Holds w' _:=hs.2 u (by simp)
      rw [hF] at hw
      rw [List.getElem?_take] at hj
      split at hj
      ·rw [add_eq,cell_of hw.one,Nat.zero_add];simpa using hj
      ·simp at hj
   ·simp at h
  ·simp at h
 ·simp at h
def Cr:List Value→Bool
 | .nilFunc::_=>true
 | _=>false
def u6 (T:aP) (M:List ai) (t:TypeId):Option Out:=
 match cV T t,oV T t with
 | some (.ar n e),some l=>(match fA T e with
  | some k=>bif l.length.beq (n*k)&&!Cr l then some ⟨[],.pt M.length 0,M++[.fl t k n (lg l)],[],[],none⟩ else none
  | none=>none)
 | _,_=>none
theorem EN (hT:aZ P T=true) {t:TypeId} (h:u6 T M t=some out):aJ P ⟨d,.alloc t,ty,pos,aft,gd⟩ E M out:=by
 unfold u6 at h
 split at h
 rotate_left
 ·simp at h
 rename_i n e l ht hz
 split at h
 rotate_left
 ·simp at h
 rename_i k hk
 cases hc:(l.length.beq (n*k)&&!Cr l) with
 | false=>simp [hc] at h
 | true=>
  simp only [hc,cond_true,Option.some.injEq] at h;subst h
  have hC:=Nat.eq_of_beq_eq_true (Bool.and_eq_true_iff.1 hc).1
  obtain ⟨z,nU,nV⟩:=rS hT hz
  intro D w0 K0 β F I ρ w C _
  refine zX (nV w) fun b w' g n'=>?_
  rw [nU] at n'
  obtain ⟨h1,h2⟩:=pZ (K:=fun w=>K0 w∧Holds w I) (β:=β++[(some ⟨b,0,none⟩,n)]) l
  exact ⟨_,_,I,C.rm.new (q:=(some ⟨b,0,none⟩,n)) g n' (.fl (gQ C.rm _) l hC (by rw [← h1,hC]) (Nat.le_refl _) h2),(Ext.app _ _).b _,bS.refl _,lb _ _,.pt (gQ C.rm _)⟩
def xK (T:aP) (E:List (Nat×AV)) (M:List ai) (t:TypeId) (x:Operand) (lo hi mx:Option Operand):Option Out:=
 match cV T t,aI E x,lo,hi,mx with
 | some (.ar n e),some (.pt u 0),none,none,none=>(match fA T e,M[u]? with
  | some k,some (.fl _ k2 m _)=>bif k.beq k2&&(n.ble m&&Nat.blt 0 n) then some (lk [] (.sf u k 0 n (some n)) M) else none
  | _,_=>none)
 | _,_,_,_,_=>none
theorem Im (hT:aZ P T=true) {t:TypeId} {x:Operand} {lo hi mx:Option Operand} (h:xK T E M t x lo hi mx=some out):aJ P ⟨d,.slice t x lo hi mx,ty,pos,aft,gd⟩ E M out:=by
 unfold xK at h
 split at h
 rotate_left
 ·simp at h
 rename_i n e u ht hx
 split at h
 rotate_left
 ·simp at h
 rename_i k T2 k2 m cells hk hM
 cases hc:(k.beq k2&&(n.ble m&&Nat.blt 0 n)) with
 | false=>simp [hc] at h
 | true=>
  simp only [hc,cond_true,Option.some.injEq] at h;subst h
  simp only [Bool.and_eq_true] at hc
  obtain ⟨c1,c2,c3⟩:=hc
  obtain rfl:=Nat.eq_of_beq_eq_true c1
  have Dp:=Nat.le_of_ble_eq_true c2
  have nK:0<n:=by simpa [Nat.blt_eq] using c3
  have lW:=cH hT ht
  refine aJ.same fun {D w0 K0 β F I ρ w} C _=>?_
  obtain ⟨y,hy,r⟩:=C.bR hx
  cases r with
  | @pt _ _ b c hb=>
   obtain ⟨H,hF,hB,hH⟩:=C.rm.at hM
   cases hB with
   | fl aS ys hl hm mY hr=>
    rw [hb] at aS;cases aS
    have hs:=ax.sf (K:=fun w=>K0 w∧Holds w I) (u:=u) (k:=k) (o:=0) (n:=n) (cap:=n) (q:=some n) hb (by omega) (Nat.le_refl _) rfl
    rw [Nat.zero_mul] at hs
    refine ⟨_,fun w' _=>?_,hs⟩
    have bA:(sizeOf e).run P w'=.ok k w':=by
     have:=gO hT hk
     cases eH:P.info? e with
     | none=>simp [eH] at this
     | some inf=>simp only [eH,Option.map_some,Option.some.injEq] at this;simp [sizeOf,typeInfo,Sem.run_bind,eH,this]
    have q6:¬ n=0:=by omega
    simp [execOp,hy,Instr.sliceAt,Instr.sureAddr,Instr.sliceBounds,Sem.run_bind,run_underlying lW,bA,q6,add_eq]
end Go.Proofs.YtcnpikbbmbombaaGreatDoor
namespace Go.Proofs.YtcnpikbbmbombaaGreatDoor
open Go.RowKit
variable {P:Program} {T:aP} {E:List (Nat×AV)} {M:List ai}
variable {d:Option Tmp} {ty:TypeId} {pos:String} {aft:Array Edge} {gd:Option (Nat×Bool)} {oc:Option aX} {out:Out}
inductive NP where
 | fn (f:FuncId)
 | yl (u:Nat)
abbrev fE:=NP→List AV→List ai→aX→Option Out
def Bl (P:Program) (f:FuncId) (args:List AV) (M:List ai) (out:Out):Prop:=
 ig P f=true∧∀ {D:List Nat} {w0:World} {K0:World→Prop} {β:Beta} {F:Nat→ak} {I:ak} {w:World} (ys:List Value),RM D w0 K0 M β F I w→(∀ w,Kp D w0 w→K0 w)→bk out.vc→ys.length=args.length→(∀ (j:Nat) c y,args[j]?=some c→ys[j]?=some y→ax (fun w=>K0 w∧Holds w I) β c y)→
  Calls P f ys.toArray w fun e w'=>∃ v,e=.returned v∧∃ aB F' I',RM D w0 K0 out.M aB F' I' w'∧gk out.mv β aB∧bS I I'∧(∀ u,u<M.length→u ∉ out.tc→F' u=F u)∧ax (fun w=>K0 w∧Holds w I') aB out.av v
def AW (P:Program) (u:Nat) (args:List AV) (M:List ai) (out:Out):Prop:=
 ∀ {D:List Nat} {w0:World} {K0:World→Prop} {β:Beta} {F:Nat→ak} {I:ak} {w:World} (ys:List Value) (l c:Nat),RM D w0 K0 M β F I w→(∀ w,Kp D w0 w→K0 w)→bk out.vc→ys.length=args.length→(∀ (j:Nat) c y,args[j]?=some c→ys[j]?=some y→ax (fun w=>K0 w∧Holds w I) β c y)→β[u]?=some (some ⟨l,0,none⟩,c)→
  ∃ fn tmps cY body,(Instr.yield l ys.toArray).run P w=.ok (.round l fn tmps cY body) w∧RoundIn Fence.wide 0 P l fn tmps cY body w fun e w'=>∃ v,e=.returned v∧∃ aB F' I',RM D w0 K0 out.M aB F' I' w'∧gk out.mv β aB∧bS I I'∧(∀ u,u<M.length→u ∉ out.tc→F' u=F u)∧ax (fun w=>K0 w∧Holds w I') aB out.av v
def jt (P:Program) (cl:fE):Prop:=∀ c args M o out,cl c args M o=some out→out.rd=none∧match c with | .fn f=>Bl P f args M out | .yl u=>AW P u args M out
def wX (cl:fE) (E:List (Nat×AV)) (M:List ai) (o:aX) (g:Operand) (args:Array Operand):Option Out:=
 match aI E g,kR E args.toList with
 | some (.fn f cu),some l=>cl (.fn f) (l++cu) M o
 | some (.yl u),some l=>cl (.yl u) l M o
 | _,_=>none
theorem G3 {cl:fE} (cG:jt P cl) {o:aX} {g:Operand} {args:Array Operand} {e7:Array TypeId} (h:wX cl E M o g args=some out):aJ P ⟨d,.call ⟨.value g,args,e7⟩,ty,pos,aft,gd⟩ E M out:=by
 unfold wX at h
 split at h
 ·rename_i f cu l hg hl
  obtain ⟨dD,kd,hc⟩:=cG _ _ _ _ _ h
  unfold aJ
  rw [dD]
  intro D w0 K0 β F I ρ w C hv
  obtain ⟨y,hy,r⟩:=C.bR hg
  cases r with
  | fn cs ME gx=>
   obtain ⟨dN,km⟩:=C.mU hl
   have hm:args.map ρ=(args.toList.map ρ).toArray:=by rw [← Array.toList_map]
   refine pX hy kd hm ?_
   have lA:((args.toList.map ρ).toArray++cs.toArray:Array Value)=(args.toList.map ρ++cs).toArray:=by simp
   rw [lA]
   refine hc _ C.rm C.k hv (by rw [List.length_append,List.length_append,dN,ME]) ?_
   intro j c y h1 h2
   rcases Nat.lt_or_ge j l.length with hj | hj
   ·rw [List.getElem?_append_left hj] at h1
    rw [List.getElem?_append_left (by omega)] at h2
    exact km j c y h1 h2
   ·rw [List.getElem?_append_right hj] at h1
    rw [List.getElem?_append_right (by omega),dN] at h2
    exact gx _ c y h1 h2
 ·rename_i u l hg hl
  obtain ⟨dD,hc⟩:=cG _ _ _ _ _ h
  unfold aJ
  rw [dD]
  intro D w0 K0 β F I ρ w C hv
  obtain ⟨y,hy,r⟩:=C.bR hg
  cases r with
  | @yl _ bb cc hb=>
   obtain ⟨dN,km⟩:=C.mU hl
   obtain ⟨fn,tmps,cY,body,h1,h2⟩:=hc _ _ _ C.rm C.k hv dN km hb
   have hm:args.map ρ=(args.toList.map ρ).toArray:=by rw [← Array.toList_map]
   unfold aY
   have hr:(execOp ρ ⟨d,.call ⟨.value g,args,e7⟩,ty,pos,aft,gd⟩).run P w=.ok (.round bb fn tmps cY body) w:=by
    simp [execOp,resolve,hy,hm,Deferred.ofValue,invoke,h1]
   rw [hr]
   exact h2
 ·simp at h
def xL (P:Program) (T:aP) (E:List (Nat×AV)) (M:List ai) (oc:Option aX) (op:BinOp) (t:TypeId) (x y:Operand):Option Out:=
 match wo E M oc op x y with
 | some o=>some o
 | none=>(match wv E M oc op x y with
  | some o=>some o
  | none=>(match xv P E M oc op t x y with
   | some o=>some o
   | none=>(match wF P E M oc op t x y with
    | some o=>some o
    | none=>wG T E M oc op t x y)))
theorem Io (hT:aZ P T=true) {op:BinOp} {t t':TypeId} {x y:Operand} (h:xL P T E M oc op t x y=some out):aJ P ⟨d,.binOp op t x y t',ty,pos,aft,gd⟩ E M out:=by
 unfold xL at h
 split at h
 ·rename_i hh;simp only [Option.some.injEq] at h;subst h;exact Gs hh
 ·split at h
  ·rename_i hh;simp only [Option.some.injEq] at h;subst h;exact Gu hh
  ·split at h
   ·rename_i hh;simp only [Option.some.injEq] at h;subst h;exact H6 hh
   ·split at h
    ·rename_i hh;simp only [Option.some.injEq] at h;subst h;exact GC hh
    ·exact GD hT h
def wY (T:aP) (E:List (Nat×AV)) (M:List ai) (oc:Option aX) (t t':TypeId) (x:Operand):Option Out:=
 match vv T E M oc t t' x with
 | some o=>some o
 | none=>(match xB T E M oc t t' x with
  | some o=>some o
  | none=>vD T E M t t' x)
theorem G4 (hT:aZ P T=true) {t t':TypeId} {x:Operand} (h:wY T E M oc t t' x=some out):aJ P ⟨d,.convert t t' x,ty,pos,aft,gd⟩ E M out:=by
 unfold wY at h
 split at h
 ·rename_i hh;simp only [Option.some.injEq] at h;subst h;exact Fg hT hh
 ·split at h
  ·rename_i hh;simp only [Option.some.injEq] at h;subst h;exact Ia hT hh
  ·exact Fm hT h
def step (P:Program) (T:aP) (cl:fE) (E:List (Nat×AV)) (M:List ai) (oc:Option aX):Op→Option Out
 | .move x=>sJ E M x
 | .assign x=>sJ E M x
 | .nilCheck x=>xk E M x
 | .extract x i=>uu E M x i
 | .fieldAddr s x f=>vq T E M s x f
 | .indexAddr t x i=>(match vr T E M oc t x i with | some o=>some o | none=>(match uW T E M oc t x i with | some o=>some o | none=>(match u2 T E M oc t x i with | some o=>some o | none=>(match uX T E M oc t x i with | some o=>some o | none=>(match u5 T E M oc t x i with | some o=>some o | none=>wR T E M oc t x i)))))
 | .load t x=>(match wm T E M oc t x with | some o=>some o | none=>(match wH T E M oc t x with | some o=>some o | none=>(match vI T E M oc t x with | some o=>some o | none=>vQ T E M t x)))
 | .store t x y=>(match uQ T E M t x y with | some o=>some o | none=>(match uV T E M oc t x y with | some o=>some o | none=>u3 T E M oc t x y))
 | .box t x=>xo E M t x
 | .alloc t=>(match oc with | some (.b _)=>u6 T M t | _=>vu T M t)
 | .pick c x y=>(match oc with | some (.res (.v r))=>vL E M r c x y | _=>wq E M oc c x y)
 | .unOp .not _ x=>xp E M oc x
 | .unOp .xor _ x=>xq E M oc x
 | .binOp op t x y _=>(match xL P T E M oc op t x y with | some o=>some o | none=>(match wN P E M op t x y with | some o=>some o | none=>(match xH E M op x y with | some o=>some o | none=>xJ P E M op t x y)))
 | .convert t t' x=>(match oc with | some (.n _)=>wP T E M t t' x | _=>(match wY T E M oc t t' x with | some o=>some o | none=>(match wO T E M t t' x with | some o=>some o | none=>vM P E M oc t t' x)))
 | .build t parts=>(match vB T E M t parts with | some o=>some o | none=>uU T E M t parts)
 | .field t x f=>xC T E M t x f
 | .index t x i=>(match xD T E M oc t x i with | some o=>some o | none=>(match wL T E M oc t x i with | some o=>some o | none=>(match wQ T E M oc t x i with | some o=>some o | none=>wW T E M oc t x i)))
 | .slice t x lo hi mx=>(match yz T E M oc t x lo hi mx with | some o=>some o | none=>(match xE T E M oc t x lo hi mx with | some o=>some o | none=>(match xI T E M oc t x lo hi mx with | some o=>some o | none=>xK T E M t x lo hi mx)))
 | .buildSlice t len parts=>xA T E M t len parts
 | .makeSlice t x y=>(match wD T E M oc t x y with | some o=>some o | none=>vF T E M oc t x y)
 | .makeFunc fn first cu=>wx E M fn first cu
 | .call ⟨.builtin bi,⟨[x]⟩,⟨[t]⟩⟩=>(match bi with | .len=>xu T E M oc t x | .clear=>vG T E M t x | .unsafeSliceData=>vO E M x | .cap=>wU T E M t x | _=>none)
 | .call ⟨.builtin bi,⟨[x,y]⟩,⟨[st,xt]⟩⟩=>(match bi with | .append=>(match xw T E M st xt x y with | some o=>some o | none=>wS T E M st xt x y) | .copy=>(match wI T E M oc st x y with | some o=>some o | none=>vP T E M oc st x y) | .unsafeString=>wT P E M oc st x y | _=>yb E M oc bi x y)
 | .call ⟨.value g,args,_⟩=>(match oc with | some (.bX n tb)=>wX cl E M (.bX n tb) g args | some (.au x)=>o4 P E M (some (.au x)) g args | some (.mem l x M')=>wM P E M (some (.mem l x M')) g args | some (.stay l x)=>vH P E M (some (.stay l x)) g args | some (.b _)=>vN P E M g args | some (.n2 m e)=>wV P E M (some (.n2 m e)) g args | _=>wz P E M oc g args)
 | _=>none
theorem oI (hT:aZ P T=true) {cl:fE} (cG:jt P cl) {op:Op} (h:step P T cl E M oc op=some out):aJ P ⟨d,op,ty,pos,aft,gd⟩ E M out:=by
 unfold step at h
 split at h
 ·exact (z6 h).1
 ·exact (z6 h).2
 ·exact HX h
 ·exact Ek h
 ·exact Fb hT h
 ·split at h
  ·rename_i hh;simp only [Option.some.injEq] at h;subst h;exact Fc hT hh
  ·split at h
   ·rename_i hh;simp only [Option.some.injEq] at h;subst h;exact EG hT hh
   ·split at h
    ·rename_i hh;simp only [Option.some.injEq] at h;subst h;exact EI hT hh
    ·split at h
     ·rename_i hh;simp only [Option.some.injEq] at h;subst h;exact EH hT hh
     ·split at h
      ·rename_i hh;simp only [Option.some.injEq] at h;subst h;exact EL hT hh
      ·exact GR hT h
 ·split at h
  ·rename_i hh;simp only [Option.some.injEq] at h;subst h;exact Gq hT hh
  ·split at h
   ·rename_i hh;simp only [Option.some.injEq] at h;subst h;exact GF hT hh
   ·split at h
    ·rename_i hh;simp only [Option.some.injEq] at h;subst h;exact Fx hT hh
    ·exact FG hT h
 ·split at h
  ·rename_i hh;simp only [Option.some.injEq] at h;subst h;exact ED hT hh
  ·split at h
   ·rename_i hh;simp only [Option.some.injEq] at h;subst h;exact EF hT hh
   ·exact EJ hT h
 ·exact HY h
 ·split at h
  ·exact EN hT h
  ·exact Ff hT h
 ·split at h
  ·exact FB h
  ·exact Gt h
 ·exact HZ h
 ·exact H3 h
 ·split at h
  ·rename_i hh;simp only [Option.some.injEq] at h;subst h;exact Io hT hh
  ·split at h
   ·rename_i hh;simp only [Option.some.injEq] at h;subst h;exact GN hh
   ·split at h
    ·rename_i hh;simp only [Option.some.injEq] at h;subst h;exact Ih hh
    ·exact Ij h
 ·split at h
  ·exact GP hT h
  ·split at h
   ·rename_i hh;simp only [Option.some.injEq] at h;subst h;exact G4 hT hh
   ·split at h
    ·rename_i hh;simp only [Option.some.injEq] at h;subst h;exact GO hT hh
    ·exact FC h
 ·split at h
  ·rename_i hh;simp only [Option.some.injEq] at h;subst h;exact Fi hT hh
  ·exact EE hT h
 ·exact Ib hT h
 ·split at h
  ·rename_i hh;simp only [Option.some.injEq] at h;subst h;exact Ic hT hh
  ·split at h
   ·rename_i hh;simp only [Option.some.injEq] at h;subst h;exact GK hT hh
   ·split at h
    ·rename_i hh;simp only [Option.some.injEq] at h;subst h;exact GQ hT hh
    ·exact GZ hT h
 ·split at h
  ·rename_i hh;simp only [Option.some.injEq] at h;subst h;exact JG hT hh
  ·split at h
   ·rename_i hh;simp only [Option.some.injEq] at h;subst h;exact Ie hT hh
   ·split at h
    ·rename_i hh;simp only [Option.some.injEq] at h;subst h;exact Ii hT hh
    ·exact Im hT h
 ·exact H9 hT h
 ·split at h
  ·rename_i hh;simp only [Option.some.injEq] at h;subst h;exact GB hT hh
  ·exact Fq hT h
 ·exact Gv h
 ·split at h
  ·exact H4 hT h
  ·exact Ft hT h
  ·exact FE h
  ·exact GW hT h
  ·simp at h
 ·split at h
  ·split at h
   ·rename_i hh;simp only [Option.some.injEq] at h;subst h;exact H7 hT hh
   ·exact GS hT h
  ·split at h
   ·rename_i hh;simp only [Option.some.injEq] at h;subst h;exact GH hT hh
   ·exact FF hT h
  ·exact GU h
  ·exact JB h
 ·split at h
  ·exact G3 cG h
  ·exact AJ h
  ·exact GM h
  ·exact Fw h
  ·exact FD h
  ·exact GY h
  ·exact Gz h
 ·simp at h
end Go.Proofs.YtcnpikbbmbombaaGreatDoor
namespace Go.Proofs.YtcnpikbbmbombaaGreatDoor
open Go.RowKit
def mG:List (Nat×aX)→Nat→Option aX
 | [],_=>none
 | (k,v)::r,s=>bif k.beq s then some v else mG r s
def ir (E:List (Nat×AV)) (dst:Option Nat) (v:AV):List (Nat×AV):=match dst with | some d=>(d,v)::E | none=>E
def oZ (mv:List Nat):List (Nat×AV)→List (Nat×AV)
 | []=>[]
 | (k,v)::r=>(k,bif iL mv v then v else .d .jk)::oZ mv r
def o0 (mv:List Nat) (E:List (Nat×AV)):List (Nat×AV):=match mv with | []=>E | _=>oZ mv E
theorem zm {mv:List Nat}:∀ {E:List (Nat×AV)} {t:Nat} {v:AV},b5 (oZ mv E) t=some v→∃ u,b5 E t=some u∧v=bif iL mv u then u else .d .jk
 | [],t,v,h=>by simp [oZ,b5] at h
 | (k,u)::r,t,v,h=>by
  unfold oZ b5 at h
  unfold b5
  cases hk:k.beq t with
  | true=>simp only [hk,cond_true,Option.some.injEq] at h ⊢;exact ⟨u,rfl,h.symm⟩
  | false=>simp only [hk,cond_false] at h ⊢;exact zm h
theorem G5 {K:World→Prop} {β aB:Beta} {mv:List Nat} (e:gk mv β aB) {ρ:Operand→Value} {E:List (Nat×AV)} (h:∀ t v,b5 E t=some v→ax K β v (ρ (.tmp t))):∀ t v,b5 (oZ mv E) t=some v→ax K aB v (ρ (.tmp t)):=by
 intro t v hv
 obtain ⟨u,h1,h2⟩:=zm hv
 cases hc:iL mv u with
 | true=>simp only [hc,cond_true] at h2;subst h2;exact p3 e hc (h t _ h1)
 | false=>simp only [hc,cond_false] at h2;subst h2;exact .d (.jk _)
theorem uE {K:World→Prop} {β aB:Beta} {mv:List Nat} (e:gk mv β aB) {E:List (Nat×AV)} {ρ:Operand→Value} (h:∀ t v,b5 E t=some v→ax K β v (ρ (.tmp t))):∀ t v,b5 (o0 mv E) t=some v→ax K aB v (ρ (.tmp t)):=by
 intro t v hx
 unfold o0 at hx
 split at hx
 ·exact (h t v hx).mono (fun _ h=>h) fun u z hz=>e u z (by simp) hz
 ·exact G5 e h t v hx
def qj:Option AV→Option (Option Bool)
 | some (.d (.v (.bool c)))=>some (some c)
 | some (.d (.v (.tuple _)))=>some none
 | _=>none
def mA (sz:Nat) (ops:Array Oper) (E:List (Nat×AV)):Option (Nat×Bool)→Option Bool
 | none=>some true
 | some (j,want)=>(match qp ops j with
  | some s=>(bif s.blt sz then (match qj (b5 E s) with
   | some (some true)=>some want
   | some (some false)=>some (!want)
   | some none=>some false
   | none=>none) else none)
  | none=>none)
def gn (sz:Nat):Option Nat→Bool
 | some d=>d.blt sz
 | none=>true
structure RS where
 vc:List Prop
 E:List (Nat×AV)
 M:List ai
 tc:List Nat
 mv:List Nat
def xM (P:Program) (T:aP) (cl:fE) (E:List (Nat×AV)) (M:List ai) (op:Op) (oc:aX):Option (List Prop×List Nat×Value):=
 match oc,op with
 | .au (.v x),.call ⟨.value g,args,_⟩=>(match o4 P E M (some (.au (.v x))) g args with | some out=>some (out.vc,out.tc,x) | none=>none)
 | oc,op=>(match step P T cl E M (some oc) op with | some ⟨vc,.d (.v x),_,tc,_,some _⟩=>some (vc,tc,x) | _=>none)
def Bm (sz:Nat) (ops:Array Oper) (E:List (Nat×AV)):Option (Nat×Bool)→Option (Value×Bool)
 | some (j,want)=>(match qp ops j with
  | some s=>bif s.blt sz then (match b5 E s with | some (.d (.v y))=>some (y,want) | _=>none) else none
  | none=>none)
 | none=>none
def fT (y:Value):Option Bool:=match y with | .bool b=>some b | _=>none
def je (P:Program) (T:aP) (cl:fE) (sz:Nat) (ops:Array Oper):List Oper→Nat→List (Nat×aX)→RS→Option RS
 | [],_,_,s=>some s
 | o::r,i,oc,⟨vc,E,M,tc,mv⟩=>
  bif gn sz o.dst then (match mG oc i with
  | some (.may c oo)=>(match xM P T cl E M o.op oo,Bm sz ops E o.guard with
   | some (na,q7,x),some (y,want)=>je P T cl sz ops r (i+1) oc ⟨vc++[(fT y==some want)=c,c=true→bk na],ir E o.dst (.d (.v (bif c then x else undef))),M,q7++tc,mv⟩
   | _,_=>none)
  | _=>(match mA sz ops E o.guard with
   | some true=>(match step P T cl E M (mG oc i) o.op with
    | some out=>(bif Nat.ble M.length out.M.length then je P T cl sz ops r (i+1) oc ⟨vc++out.vc,ir (o0 out.mv E) o.dst out.av,out.M,out.tc++tc,out.mv++mv⟩ else none)
    | none=>none)
   | some false=>je P T cl sz ops r (i+1) oc ⟨vc,ir E o.dst (.d (.v undef)),M,tc,mv⟩
   | none=>none))
  else none
structure eG where
 β:Beta
 F:Nat→ak
 I:ak
 m:Nat
def Since (b:eG) (mv tc:List Nat) (β:Beta) (F:Nat→ak) (I:ak):Prop:=gk mv b.β β∧bS b.I I∧∀ u,u<b.m→u ∉ tc→F u=b.F u
theorem Since.step {b:eG} {mv tc mv' q7:List Nat} {β aB:Beta} {F F':Nat→ak} {I I':ak} {n:Nat} (h:Since b mv tc β F I) (hn:b.m≤n) (e:gk mv' β aB) (hI:bS I I') (hF:∀ u,u<n→u ∉ q7→F' u=F u):Since b (mv'++mv) (q7++tc) aB F' I':=
 ⟨fun u x hu hx=>e u x (fun h'=>hu (List.mem_append_left _ h')) (h.1 u x (fun h'=>hu (List.mem_append_right _ h')) hx),h.2.1.trans hI,fun u hu ht=>(hF u (by omega) fun h'=>ht (List.mem_append_left _ h')).trans (h.2.2 u hu fun h'=>ht (List.mem_append_right _ h'))⟩
variable {mk:Bool} {ro:Option Nat} {P:Program} {T:aP} {cl:fE} {D:List Nat} {w0:World} {K0:World→Prop} {E:List (Nat×AV)} {M:List ai} {β:Beta} {F:Nat→ak} {I:ak} {ρ:Operand→Value} {w:World} {a:Act} {sz:Nat} {ops:Array Oper} {Q:Exit→Act→World→Prop}
def Mk (mk:Bool) (ds:List Deferred) (I:ak):Prop:=match mk with
 | false=>ds=[]
 | true=>ds.Nodup∧∀ d ∈ ds,∃ b,d={ target:=.collected b,args:=#[] }∧(b,Obj.deferred (some [])) ∈ I
theorem Mk.grow {ds:List Deferred} {I I':ak} (h:Mk mk ds I) (g:bS I I'):Mk mk ds I':=by
 cases mk with
 | false=>exact h
 | true=>obtain ⟨J,rfl⟩:=g;exact ⟨h.1,fun d hd=>let ⟨b,h1,h2⟩:=h.2 d hd;⟨b,h1,List.mem_append_right _ h2⟩⟩
theorem Mk.nil (I:ak):Mk mk [] I:=by cases mk with | false=>rfl | true=>exact ⟨List.nodup_nil,fun d hd=>by cases hd⟩
theorem RE.put (size:a.tmps.size=sz) {aB:Beta} {I':ak} (defers:Mk mk a.defers I') (hs:∀ t v,b5 E t=some v→ax (fun w=>K0 w∧Holds w I') aB v (a.eval (.tmp t))) {dst:Option Nat} (hd:gn sz dst=true) {v:Value} {av:AV} (hv:ax (fun w=>K0 w∧Holds w I') aB av v):
  (a.put dst v).tmps.size=sz∧Mk mk (a.put dst v).defers I'∧∀ t u,b5 (ir E dst av) t=some u→ax (fun w=>K0 w∧Holds w I') aB u ((a.put dst v).eval (.tmp t)):=by
 refine ⟨by rw [Gg,size],by rw [put_defers];exact defers,?_⟩
 cases dst with
 | none=>exact hs
 | some d=>
  have aO:d<sz:=by simpa [gn,Nat.blt_eq] using hd
  intro t u hx
  unfold ir b5 at hx
  cases hk:d.beq t with
  | true=>
   simp only [hk,cond_true,Option.some.injEq] at hx
   subst hx
   rw [← Nat.eq_of_beq_eq_true hk,D7 a d v (by omega)];exact hv
  | false=>
   simp only [hk,cond_false] at hx
   rw [D3 a d t v (fun e=>by subst e;simp at hk)];exact hs t u hx
theorem FH {K:World→Prop} {β:Beta} {av:Option AV} {y:Value} {g:Option Bool} (h:qj av=some g) {v:AV} (hv:av=some v) (r:ax K β v y):fT y=g:=by
 subst hv
 unfold qj at h
 split at h
 ·rename_i hx;cases hx;simp only [Option.some.injEq] at h;subst h
  cases r with | d r=>cases r;rfl
 ·rename_i hx;cases hx;simp only [Option.some.injEq] at h;subst h
  cases r with | d r=>cases r;rfl
 ·simp at h
theorem kz {o:Oper} {b:Bool} (size:a.tmps.size=sz) {K:World→Prop} (hs:∀ t v,b5 E t=some v→ax K β v (a.eval (.tmp t))) (h:mA sz ops E o.guard=some b):Region.wanted o (yielded ops a.tmps)=b:=by
 unfold Region.wanted
 cases hg:o.guard with
 | none=>rw [hg] at h;simp only [mA,Option.some.injEq] at h;exact h
 | some g=>
  obtain ⟨j,want⟩:=g
  rw [hg] at h
  unfold mA at h
  cases hj:qp ops j with
  | none=>simp [hj] at h
  | some s=>
   simp only [hj] at h
   cases bA:s.blt sz with
   | false=>simp [bA] at h
   | true=>
    simp only [bA,cond_true] at h
    have aO:s<a.tmps.size:=by rw [size];simpa [Nat.blt_eq] using bA
    have hy:∀ g,qj (b5 E s)=some g→yielded ops a.tmps j=g:=by
     intro g jX
     rw [zh hj aO]
     show fT _=g
     cases hl:b5 E s with
     | none=>rw [hl] at jX;simp [qj] at jX
     | some v=>exact FH jX hl (hs _ _ hl)
    split at h
    ·rename_i jX;simp only [Option.some.injEq] at h;subst h;dsimp only;rw [hy _ jX];cases want<;>rfl
    ·rename_i jX;simp only [Option.some.injEq] at h;subst h;dsimp only;rw [hy _ jX];cases want<;>rfl
    ·rename_i jX;simp only [Option.some.injEq] at h;subst h;dsimp only;rw [hy _ jX];cases want<;>rfl
    ·simp at h
theorem vR (l:List Oper):∀ (i:Nat) (oc:List (Nat×aX)) (s:RS) {s':RS},je P T cl sz ops l i oc s=some s'→bk s'.vc→bk s.vc:=by
 induction l with
 | nil=>
  intro i oc s s' h
  simp only [je,Option.some.injEq] at h
  subst h;exact id
 | cons o r ih=>
  intro i oc s s' h hv
  obtain ⟨vc,E,M,tc,mv⟩:=s
  unfold je at h
  cases hd:gn sz o.dst with
  | false=>simp [hd] at h
  | true=>
   simp only [hd,cond_true] at h
   split at h
   ·split at h
    ·exact (bk.app.1 (ih _ _ _ h hv)).1
    ·simp at h
   split at h
   ·split at h
    ·rename_i out _
     cases hb:Nat.ble M.length out.M.length with
     | false=>simp [hb] at h
     | true=>simp only [hb,cond_true] at h;exact (bk.app.1 (ih _ _ _ h hv)).1
    ·simp at h
   ·have:=ih _ _ _ h hv;exact this
   ·simp at h
def cC (mk:Bool) (D:List Nat) (w0:World) (K0:World→Prop) (sz:Nat) (E:List (Nat×AV)) (M:List ai) (a:Act) (w:World):Prop:=
 a.tmps.size=sz∧∃ I,Mk mk a.defers I∧∃ β F,RM D w0 K0 M β F I w∧∀ t v,b5 E t=some v→ax (fun w=>K0 w∧Holds w I) β v (a.eval (.tmp t))
abbrev cN (D:List Nat) (w0:World) (K0:World→Prop) (sz:Nat) (E:List (Nat×AV)) (M:List ai) (a:Act) (w:World):Prop:=cC false D w0 K0 sz E M a w
def db (mk:Bool) (D:List Nat) (w0:World) (K0:World→Prop) (sz:Nat) (b:eG) (s:RS) (a:Act) (w:World):Prop:=
 a.tmps.size=sz∧∃ I,Mk mk a.defers I∧b.m≤s.M.length∧∃ β F,RM D w0 K0 s.M β F I w∧Since b s.mv s.tc β F I∧∀ t v,b5 s.E t=some v→ax (fun w=>K0 w∧Holds w I) β v (a.eval (.tmp t))
theorem cC.nG (r:cC false D w0 K0 sz E M a w):a.defers=[]:=let ⟨_,_,h,_⟩:=r;h
theorem db.nG {b:eG} {s:RS} (r:db false D w0 K0 sz b s a w):a.defers=[]:=let ⟨_,_,h,_⟩:=r;h
theorem db.re {b:eG} {s:RS} (r:db mk D w0 K0 sz b s a w):cC mk D w0 K0 sz s.E s.M a w:=let ⟨h1,I,h2,_,β,F,h3,_,h4⟩:=r;⟨h1,I,h2,β,F,h3,h4⟩
theorem cC.b (r:cC mk D w0 K0 sz E M a w) (vc:List Prop):∃ b,db mk D w0 K0 sz b ⟨vc,E,M,[],[]⟩ a w:=
 let ⟨h1,I,h2,β,F,h3,h4⟩:=r
 ⟨⟨β,F,I,M.length⟩,h1,I,h2,Nat.le_refl _,β,F,h3,⟨fun _ _ _ h=>h,bS.refl _,fun _ _ _=>rfl⟩,h4⟩
theorem JJ {g:Operand} {args:Array Operand} {x:Value} {out:Out} (h:o4 P E M (some (.au (.v x))) g args=some out):out.av=.d (.v x)∧out.M=M∧out.mv=[]∧out.rd=none:=by
 unfold o4 at h
 split at h
 ·rename_i f cu l y _ _ yE
  simp only [Option.some.injEq,aX.au.injEq] at yE;subst yE
  cases en:(lu (DV.v x)&&(l++cu).all qR) with
  | false=>rw [en] at h;cases h
  | true=>
   rw [en] at h
   simp only [cond_true,Option.some.injEq] at h;subst h
   exact ⟨rfl,rfl,rfl,rfl⟩
 ·cases h
theorem Ip (hT:aZ P T=true) (cG:jt P cl) {d:Option Tmp} {op:Op} {ty:TypeId} {pos:String} {aft:Array Edge} {gd:Option (Nat×Bool)} {oc:aX} {vc:List Prop} {tc:List Nat} {x:Value} (h:xM P T cl E M op oc=some (vc,tc,x)):
  tx P ⟨d,op,ty,pos,aft,gd⟩ E M ⟨vc,.d (.v x),M,tc,[],none⟩:=by
 unfold xM at h
 split at h
 ·split at h
  ·rename_i out hs
   simp only [Option.some.injEq,Prod.mk.injEq] at h
   obtain ⟨rfl,rfl,rfl⟩:=h
   obtain ⟨h1,h2,h3,h4⟩:=JJ hs
   obtain ⟨vc,av,M2,tc,mv,rd⟩:=out
   dsimp only at h1 h2 h3 h4
   subst h1 h2 h3 h4
   intro D w0 K0 β F I ρ w C hv
   exact AJ hs C hv
  ·cases h
 ·split at h
  ·rename_i hs
   simp only [Option.some.injEq,Prod.mk.injEq] at h
   obtain ⟨rfl,rfl,rfl⟩:=h
   have hd:=oI (P:=P) hT cG (d:=d) (ty:=ty) (pos:=pos) (aft:=aft) (gd:=gd) hs
   have tE:=hd
   obtain ⟨-,h2,h3,-⟩:=tE
   dsimp only at h2 h3
   subst h2 h3
   intro D w0 K0 β F I ρ w C hv
   exact hd.pn C hv
  ·cases h
theorem JK (hT:aZ P T=true) (cG:jt P cl) (hK:∀ w,Kp D w0 w→K0 w) {b:eG}:∀ (l:List Oper) (i:Nat) (oc:List (Nat×aX)) (s:RS) {s':RS} (a:Act) (w:World),je P T cl sz ops l i oc s=some s'→db mk D w0 K0 sz b s a w→bk s'.vc→(∀ a' w',db mk D w0 K0 sz b s' a' w'→Q .normal a' w')→iU P ops Q (l.map (·,false)) a w:=by
 intro l
 induction l with
 | nil=>
  intro i oc s s' a w h R _ k
  simp only [je,Option.some.injEq] at h
  subst h
  exact k a w R
 | cons o r ih=>
  intro i oc s s' a w h R hv k
  obtain ⟨vc,E,M,tc,mv⟩:=s
  unfold je at h
  cases hd:gn sz o.dst with
  | false=>simp [hd] at h
  | true=>
   simp only [hd,cond_true] at h
   obtain ⟨size,I,defers,hm,β,F,Rm,cq,hs⟩:=R
   dsimp only at Rm hs hm cq
   simp only [List.map_cons]
   unfold iU
   simp only [cond_false]
   have Lf:je P T cl sz ops r (i+1) oc ⟨vc,ir E o.dst (.d (.v undef)),M,tc,mv⟩=some s'→iU P ops Q (r.map (·,false)) (a.put o.dst undef) w:=by
    intro hr
    obtain ⟨e1,e2,e3⟩:=RE.put (E:=E) size defers hs hd (.d (.v undef))
    exact ih _ _ _ _ _ hr ⟨e1,I,e2,hm,β,F,Rm,cq,e3⟩ hv k
   have fk:∀ out:Out,step P T cl E M (mG oc i) o.op=some out→(bif Nat.ble M.length out.M.length then je P T cl sz ops r (i+1) oc ⟨vc++out.vc,ir (o0 out.mv E) o.dst out.av,out.M,out.tc++tc,out.mv++mv⟩ else none)=some s'→aY P o a.eval w fun v w'=>iU P ops Q (r.map (·,false)) (a.put o.dst v) w':=by
    intro out bB hr
    cases hb:Nat.ble M.length out.M.length with
    | false=>simp [hb] at hr
    | true=>
    simp only [hb,cond_true] at hr
    have hlen:=Nat.le_of_ble_eq_true hb
    have C:Ctx D w0 K0 E M β F I a.eval w:=⟨Rm,hs,fun _=>rfl,fun _=>rfl,fun _=>rfl,hK⟩
    have lH:=(bk.app.1 (vR _ _ _ _ hr hv)).2
    have:=(oI (P:=P) hT cG (d:=o.dst) (ty:=o.type) (pos:=o.pos) (aft:=o.after) (gd:=o.guard) bB).pn C lH
    refine aY.mono this fun v w' ⟨aB,F',I',R',e,hI,hF,nb⟩=>?_
    have hk:=uE (ρ:=a.eval) e hs
    obtain ⟨e1,e2,e3⟩:=RE.put size (defers.grow hI) (fun t v hx=>(hk t v hx).mono (fun w hw=>⟨hw.1,hI.holds w hw.2⟩) (Ext.refl _)) hd nb
    exact ih _ _ _ _ _ hr ⟨e1,I',e2,Nat.le_trans hm hlen,aB,F',R',cq.step hm e hI hF,e3⟩ hv k
   split at h
   ·rename_i c oo yE
    split at h
    rotate_left
    ·simp at h
    rename_i na q7 x y want MF kq
    have dj:=(bk.app.1 (vR _ _ _ _ h hv)).2
    obtain ⟨hc,da,-⟩:=dj
    have C:Ctx D w0 K0 E M β F I a.eval w:=⟨Rm,hs,fun _=>rfl,fun _=>rfl,fun _=>rfl,hK⟩
    unfold Bm at kq
    split at kq
    rotate_left
    ·cases kq
    rename_i j OQ hg
    split at kq
    rotate_left
    ·cases kq
    rename_i s0 hj
    cases bA:s0.blt sz with
    | false=>simp [bA] at kq
    | true=>
    simp only [bA,cond_true] at kq
    split at kq
    rotate_left
    ·cases kq
    rename_i y' Lg
    simp only [Option.some.injEq,Prod.mk.injEq] at kq
    obtain ⟨rfl,rfl⟩:=kq
    have aO:s0<a.tmps.size:=by rw [size];simpa [Nat.blt_eq] using bA
    have ya:yielded ops a.tmps j=fT y':=by
     rw [zh hj aO]
     have hr:=hs _ _ Lg
     generalize a.eval (.tmp s0)=z at hr
     cases hr with | d hr=>cases hr;rfl
    split
    ·rename_i q8;rw [hg] at q8;cases q8
    ·rename_i j2 OR q8
     rw [hg] at q8;cases q8
     refine ⟨fun hn=>?_,fun hn=>?_⟩
     ·have Dq:c=true:=by rw [← hc,beq_iff_eq,← ya];exact hn
      subst Dq
      have:=Ip hT cG (d:=o.dst) (ty:=o.type) (pos:=o.pos) (aft:=o.after) (gd:=o.guard) MF C (da rfl)
      refine aY.mono this fun v w' ⟨aB,F',I',R',e,hI,hF,nb⟩=>?_
      obtain ⟨e1,e2,e3⟩:=RE.put (E:=E) size (defers.grow hI) (fun t v hx=>(hs t v hx).mono (fun w hw=>⟨hw.1,hI.holds w hw.2⟩) (fun u x hx=>e u x (by simp) hx)) hd nb
      exact ih _ _ _ _ _ h ⟨e1,I',e2,hm,aB,F',R',cq.step (mv':=[]) hm e hI hF,e3⟩ hv k
     ·have NQ:c=false:=by rw [← hc,beq_eq_false_iff_ne,← ya];exact hn
      subst NQ
      obtain ⟨e1,e2,e3⟩:=RE.put (E:=E) size defers hs hd (.d (.v undef))
      exact ih _ _ _ _ _ h ⟨e1,I,e2,hm,β,F,Rm,⟨cq.1,cq.2.1,fun u hu ht=>cq.2.2 u hu fun h'=>ht (List.mem_append_right _ h')⟩,e3⟩ hv k
   split at h
   ·rename_i hw
    have eX:=kz (ops:=ops) size hs hw
    split at h
    ·rename_i out bB
     have Dr:=fk out bB h
     split
     ·exact Dr
     ·rename_i j want hg
      refine ⟨fun _=>Dr,fun hn=>?_⟩
      simp only [Region.wanted,hg,beq_iff_eq] at eX
      exact absurd eX hn
    ·simp at h
   ·rename_i hw
    have eX:=kz (ops:=ops) size hs hw
    split
    ·rename_i hg;simp [Region.wanted,hg] at eX
    ·rename_i j want hg
     refine ⟨fun hn=>?_,fun _=>Lf h⟩
     simp only [Region.wanted,hg,beq_eq_false_iff_ne] at eX
     exact absurd hn eX
   ·simp at h
theorem MG (hT:aZ P T=true) (cG:jt P cl) (hK:∀ w,Kp D w0 w→K0 w) {b:eG} {s:RS} (R:db mk D w0 K0 sz b s a w) (oc:List (Nat×aX)) {id:Nat} {s':RS} (h:je P T cl sz ops ops.toList 0 oc s=some s') (hv:bk s'.vc) (k:∀ a' w',db mk D w0 K0 sz b s' a' w'→Q .normal a' w'):(Code.region id ops false).wpIn (Fl ro) 0 P Q a w:=
 Eh (JK hT cG hK _ _ _ _ a w h R hv k)
def mj (P:Program) (ops:Array Oper) (Rk:World→Prop) (o:Oper) (v:Value) (a:Act):Prop:=
 (Region.wanted o (yielded ops a.tmps)=true∧∀ w,Rk w→(execOp a.eval o).run P w=.ok (.value v) w)∨(Region.wanted o (yielded ops a.tmps)=false∧v=undef)
theorem mj.wpOp {Rk:World→Prop} {i:Nat} {o:Oper} {v:Value} (hi:ops[i]?=some o) (hy:mj P ops Rk o v a) {K:Act→World→Prop} (hR:Rk w) (h:K (a.put o.dst v) w):Go.wpOpIn (Fl ro) 0 P ops Q i K a w:=by
 unfold Go.wpOpIn
 simp only [hi]
 rcases hy with hy | ⟨hy,rfl⟩
 ·simp only [hy.1,if_true]
  refine ⟨fun _ _=>trivial,?_⟩
  rw [show (Fl ro).round=ro from rfl,HS (hy.2 w hR)];exact h
 ·simp only [hy,Bool.false_eq_true,if_false];exact ⟨fun _ _=>trivial,h⟩
theorem yZ {Rk:World→Prop} {i:Nat} {oi:Oper} {v:Value} (hi:ops[i]?=some oi) (iu:∀ (j:Nat) (o:Oper) cs b,ops[j]?=some o→o.op≠.select cs b)
  (hQ:∀ c a w,Q (.panic c) (a.put oi.dst v) w→Q (.panic c) a w):
  ∀ (fuel:Nat) (L:Array Bool) (a:Act) (w:World),
   (∀ j oj,ops[j]?=some oj→j≠i→L.getD j true=false→(∀ e ∈ oj.after,Region.binds .any e=true→e.on≠i)→oi.apart ops oj=true)→
   i ∈ Region.ready .any ops L→mj P ops Rk oi v a→
   j6 ro P ops Q Rk fuel (L.setIfInBounds i true) (a.put oi.dst v) w→j6 ro P ops Q Rk (fuel+1) L a w:=by
 intro fuel
 induction fuel with
 | zero=>
  intro L a w _ hr hy H
  refine ⟨H.rk,fun h=>(by rw [h] at hr;cases hr),fun j hj=>?_⟩
  by_cases gF:j=i
  ·subst gF;exact hy.wpOp hi H.rk H
  ·have:=ready_mono hj gF
   rw [H.2.1] at this
   cases this
 | succ fuel ih=>
  intro L a w ly hr hy H
  refine ⟨H.rk,fun h=>(by rw [h] at hr;cases hr),fun j hj=>?_⟩
  by_cases gF:j=i
  ·subst gF;exact hy.wpOp hi H.rk H
  ·have h1:=H.2.2 j (ready_mono hj gF)
   obtain ⟨qJ,oj,nc,gS⟩:=mem_ready.1 hj
   have ta:∀ e ∈ oj.after,Region.binds .any e=true→e.on≠i:=fun e he hb heq=>by
    have h1:=gS e he hb
    have h0:=(mem_ready.1 hr).1
    rw [heq] at h1
    rcases Nat.lt_or_ge i L.size with h' | h'
    ·simp [h'] at h0 h1;rw [h0] at h1;cases h1
    ·simp [Array.getElem?_eq_none h'] at h1
   have lP:=ly j oj nc gF qJ ta
   obtain ⟨_,_,h3⟩:=Oper.apart_spec lP
   have h2:=y5 (Y:=mj P ops Rk oi v) nc lP (fun cs b=>iu j oj cs b nc)
    (fun a hy u=>by unfold mj at *;rw [execOp_put oi (fun cs b=>iu i oi cs b hi) a oj.dst u h3,wanted_put oi a oj.dst u h3];exact hy) (fun a d hy=>hy) hQ hy h1
   have vS:∀ k ok,ops[k]?=some ok→k≠i→(L.setIfInBounds j true).getD k true=false→
     (∀ e ∈ ok.after,Region.binds .any e=true→e.on≠i)→oi.apart ops ok=true:=fun k ok hk yF lY jz=>by
    refine ly k ok hk yF ?_ jz
    by_cases mZ:j=k
    ·subst mZ;exact qJ
    ·rw [getD_set_ne true mZ] at lY;exact lY
   refine wpOpIn_mono (fun a' w' h3=>ih (L.setIfInBounds j true) a' w' vS (ready_mono hr (Ne.symm gF)) h3.1 ?_) h2
   rw [Array.setIfInBounds_comm _ _ gF]
   exact h3.2
def lj:Op→Bool
 | .move _=>true
 | .assign _=>true
 | .pick _ _ _=>true
 | .load _ _=>true
 | .nilCheck _=>true
 | .binOp _ _ _ _ _=>true
 | .unOp _ _ _=>true
 | .fieldAddr _ _ _=>true
 | .indexAddr _ _ _=>true
 | .extract _ _=>true
 | .makeFunc _ _ _=>true
 | .build _ _=>true
 | .slice _ _ _ _ _=>true
 | .index _ _ _=>true
 | .field _ _ _=>true
 | .convert _ _ _=>true
 | .call ⟨.builtin .len,_,_⟩=>true
 | _=>false
def me (ops:Array Oper) (L:Array Bool):List Nat→Option Nat
 | []=>none
 | i::r=>(match ops[i]? with | some o=>bif lj o.op&&Region.free .any ops L i then some i else me ops L r | none=>me ops L r)
inductive q9 where
 | fin
 | look (i:Nat)
 | one (i:Nat)
 | bad
def qK (ops:Array Oper) (L:Array Bool):List Nat→q9
 | []=>.fin
 | [i]=>.one i
 | i::k::r=>(match me ops L (i::k::r) with
  | some j=>.look j
  | none=>.bad)
def rh (ops:Array Oper) (L:Array Bool):q9:=qK ops L (Region.ready .any ops L)
def xN (rd tc:List Nat):Bool:=rd.all fun u=>!(tc.elem u)
def mH (ops:Array Oper) (k i:Nat):Bool:=match ops[k]? with
 | some o=>!(lj o.op)&&o.after.any fun e=>Region.binds .any e&&Nat.beq e.on i
 | none=>false
def iM (ops:Array Oper) (i:Nat) (L:Array Bool):Bool:=(List.range ops.size).all fun k=>!(mH ops k i&&L.getD k true)
theorem zn {i:Nat} {L:Array Bool}:iM ops i L=true↔∀ k,k<ops.size→mH ops k i=true→L.getD k true=false:=by
 unfold iM
 rw [List.all_eq_true]
 constructor
 ·intro h k hk hd
  have:=h k (List.mem_range.2 hk)
  rw [hd] at this;simpa using this
 ·intro h k hk
  cases hd:mH ops k i with
  | false=>rfl
  | true=>rw [h k (List.mem_range.1 hk) hd];rfl
theorem p4 {i j:Nat} {L:Array Bool} (hd:mH ops j i=false) (h:iM ops i L=true):iM ops i (L.setIfInBounds j true)=true:=by
 rw [zn] at *
 intro k hk e9
 rw [getD_set_ne true (fun e=>by subst e;rw [hd] at e9;cases e9)]
 exact h k hk e9
theorem r7 {i j:Nat} {o:Oper} (ho:ops[j]?=some o) (hp:lj o.op=true):mH ops j i=false:=by unfold mH;rw [ho];simp [hp]
theorem JL {i j:Nat} {o:Oper} (ho:ops[j]?=some o) (jz:∀ e ∈ o.after,Region.binds .any e=true→e.on≠i):mH ops j i=false:=by
 unfold mH;rw [ho]
 simp only [Bool.and_eq_false_iff]
 refine .inr ?_
 rw [Array.any_eq_false]
 intro q hq h
 simp only [Bool.and_eq_true] at h
 exact jz _ (Array.getElem_mem hq) h.1 (Nat.eq_of_beq_eq_true h.2)
def Sub (L L':Array Bool):Prop:=∀ k,L.getD k true=true→L'.getD k true=true
theorem Sub.refl (L:Array Bool):Sub L L:=fun _ h=>h
theorem Sub.su {L L':Array Bool} {j:Nat} (h:Sub (L.setIfInBounds j true) L'):Sub L L':=fun k hk=>h k (by
 by_cases e:j=k
 ·subst e
  rcases Nat.lt_or_ge j L.size with h' | h'
  ·simp [h']
  ·simp [h']
 ·rw [getD_set_ne true e];exact hk)
theorem EO {i:Nat} {L L':Array Bool} (h:Sub L L') (ha:iM ops i L'=true):iM ops i L=true:=by
 rw [zn] at *
 intro k hk hd
 cases e:L.getD k true with
 | false=>rfl
 | true=>have h1:=ha k hk hd;rw [h k e] at h1;cases h1
def wZ (ops:Array Oper) (L:Array Bool) (rd:List (Nat×Nat)) (tc:List Nat):Bool:=rd.all fun q=>!(tc.elem q.2)||!(iM ops q.1 L)
def j8 (ro:Option Nat) (P:Program) (ops:Array Oper) (Q:Exit→Act→World→Prop) (Rk:Array Bool→World→Prop):Nat→Array Bool→Act→World→Prop
 | 0,L,a,w=>Rk L w∧Region.ready .any ops L=[]∧Q .normal a w
 | fuel+1,L,a,w=>Rk L w∧(Region.ready .any ops L=[]→Q .normal a w)∧∀ i ∈ Region.ready .any ops L,wpOpIn (Fl ro) 0 P ops Q i (j8 ro P ops Q Rk fuel (L.setIfInBounds i true)) a w
theorem j8.rk {Rk:Array Bool→World→Prop} {fuel:Nat} {L:Array Bool} {a:Act} {w:World} (h:j8 ro P ops Q Rk fuel L a w):Rk L w:=by cases fuel<;>exact h.1
theorem j8.to {Rk:Array Bool→World→Prop}:∀ {fuel:Nat} {L:Array Bool} {a:Act} {w:World},j8 ro P ops Q Rk fuel L a w→wpAnyIn (Fl ro) 0 P .any ops Q fuel L a w
 | 0,_,_,_,h=>h.2
 | _+1,_,_,_,h=>⟨h.2.1,fun i hi=>wpOpIn_mono (fun _ _ h=>j8.to h) (h.2.2 i hi)⟩
theorem y8 {Rk qN:Array Bool→World→Prop} (h:∀ L w,qN L w→Rk L w):∀ {fuel:Nat} {L:Array Bool} {a:Act} {w:World},j8 ro P ops Q qN fuel L a w→j8 ro P ops Q Rk fuel L a w
 | 0,_,_,_,k=>⟨h _ _ k.1,k.2⟩
 | _+1,_,_,_,k=>⟨h _ _ k.1,k.2.1,fun i hi=>wpOpIn_mono (fun _ _ k=>y8 h k) (k.2.2 i hi)⟩
theorem y4 {Rk:Array Bool→World→Prop} {S:World→Prop} {i:Nat} {oi:Oper} {v:Value} (hi:ops[i]?=some oi) (hp:lj oi.op=true) (iu:∀ (j:Nat) (o:Oper) cs b,ops[j]?=some o→o.op≠.select cs b)
  (hQ:∀ c a w,Q (.panic c) (a.put oi.dst v) w→Q (.panic c) a w) (Ds:∀ L w,iM ops i L=true→Rk L w→S w) (BW:∀ L w,Rk (L.setIfInBounds i true) w→Rk L w):
  ∀ (fuel:Nat) (L:Array Bool) (a:Act) (w:World),
   (∀ j oj,ops[j]?=some oj→j≠i→L.getD j true=false→(∀ e ∈ oj.after,Region.binds .any e=true→e.on≠i)→oi.apart ops oj=true)→
   i ∈ Region.ready .any ops L→iM ops i L=true→mj P ops S oi v a→
   j8 ro P ops Q Rk fuel (L.setIfInBounds i true) (a.put oi.dst v) w→j8 ro P ops Q Rk (fuel+1) L a w:=by
 intro fuel
 induction fuel with
 | zero=>
  intro L a w _ hr dN hy H
  refine ⟨BW _ _ H.rk,fun h=>(by rw [h] at hr;cases hr),fun j hj=>?_⟩
  by_cases gF:j=i
  ·subst gF;exact hy.wpOp hi (Ds _ _ (p4 (r7 hi hp) dN) H.rk) H
  ·have:=ready_mono hj gF
   rw [H.2.1] at this
   cases this
 | succ fuel ih=>
  intro L a w ly hr dN hy H
  refine ⟨BW _ _ H.rk,fun h=>(by rw [h] at hr;cases hr),fun j hj=>?_⟩
  by_cases gF:j=i
  ·subst gF;exact hy.wpOp hi (Ds _ _ (p4 (r7 hi hp) dN) H.rk) H
  ·have h1:=H.2.2 j (ready_mono hj gF)
   obtain ⟨qJ,oj,nc,gS⟩:=mem_ready.1 hj
   have ta:∀ e ∈ oj.after,Region.binds .any e=true→e.on≠i:=fun e he hb heq=>by
    have h1:=gS e he hb
    have h0:=(mem_ready.1 hr).1
    rw [heq] at h1
    rcases Nat.lt_or_ge i L.size with h' | h'
    ·simp [h'] at h0 h1;rw [h0] at h1;cases h1
    ·simp [Array.getElem?_eq_none h'] at h1
   have lP:=ly j oj nc gF qJ ta
   obtain ⟨_,_,h3⟩:=Oper.apart_spec lP
   have h2:=y5 (Y:=mj P ops S oi v) nc lP (fun cs b=>iu j oj cs b nc)
    (fun a hy u=>by unfold mj at *;rw [execOp_put oi (fun cs b=>iu i oi cs b hi) a oj.dst u h3,wanted_put oi a oj.dst u h3];exact hy) (fun a d hy=>hy) hQ hy h1
   have vS:∀ k ok,ops[k]?=some ok→k≠i→(L.setIfInBounds j true).getD k true=false→
     (∀ e ∈ ok.after,Region.binds .any e=true→e.on≠i)→oi.apart ops ok=true:=fun k ok hk yF lY jz=>by
    refine ly k ok hk yF ?_ jz
    by_cases mZ:j=k
    ·subst mZ;exact qJ
    ·rw [getD_set_ne true mZ] at lY;exact lY
   refine wpOpIn_mono (fun a' w' h3=>ih (L.setIfInBounds j true) a' w' vS (ready_mono hr (Ne.symm gF)) (p4 (JL nc ta) dN) h3.1 ?_) h2
   rw [Array.setIfInBounds_comm _ _ gF]
   exact h3.2
def Lh (ops:Array Oper) (K0:World→Prop) (I:ak) (F:Nat→ak) (rd:List (Nat×Nat)) (L:Array Bool) (w:World):Prop:=(K0 w∧Holds w I)∧∀ q ∈ rd,iM ops q.1 L=true→Holds w (F q.2)
def jP (P:Program) (T:aP) (cl:fE) (sz:Nat) (ops:Array Oper) (oc:List (Nat×aX)):Nat→Array Bool→List (Nat×Nat)→RS→Option RS
 | 0,L,_,s=>(match rh ops L with | .fin=>some s | _=>none)
 | fuel+1,L,rd,⟨vc,E,M,tc,mv⟩=>
  match rh ops L with
  | .fin=>some ⟨vc,E,M,tc,mv⟩
  | .bad=>none
  | .look i=>(match ops[i]? with
   | some o=>(bif gn sz o.dst&&(lj o.op&&iM ops i L) then (match mA sz ops E o.guard with
    | some true=>(match step P T cl E M (mG oc i) o.op with
     | some ⟨na,av,_,_,_,some kr⟩=>jP P T cl sz ops oc fuel (L.setIfInBounds i true) (kr.map (fun u=>(i,u))++rd) ⟨vc++na,ir E o.dst av,M,tc,mv⟩
     | _=>none)
    | some false=>jP P T cl sz ops oc fuel (L.setIfInBounds i true) rd ⟨vc,ir E o.dst (.d (.v undef)),M,tc,mv⟩
    | none=>none) else none)
   | none=>none)
  | .one i=>(match ops[i]? with
   | some o=>(bif gn sz o.dst then (match mA sz ops E o.guard with
    | some true=>(match step P T cl E M (mG oc i) o.op with
     | some out=>(bif wZ ops (L.setIfInBounds i true) rd out.tc&&Nat.ble M.length out.M.length then jP P T cl sz ops oc fuel (L.setIfInBounds i true) rd ⟨vc++out.vc,ir (o0 out.mv E) o.dst out.av,out.M,out.tc++tc,out.mv++mv⟩ else none)
     | none=>none)
    | some false=>jP P T cl sz ops oc fuel (L.setIfInBounds i true) rd ⟨vc,ir E o.dst (.d (.v undef)),M,tc,mv⟩
    | none=>none) else none)
   | none=>none)
theorem om {L:Array Bool}:∀ {r:List Nat} {i:Nat},me ops L r=some i→i ∈ r∧∃ o,ops[i]?=some o∧Region.free .any ops L i=true
 | [],_,h=>by simp [me] at h
 | j::r,i,h=>by
  unfold me at h
  split at h
  ·rename_i o ho
   cases hc:(lj o.op&&Region.free .any ops L j) with
   | true=>simp only [hc,cond_true,Option.some.injEq] at h;subst h;simp only [Bool.and_eq_true] at hc;exact ⟨List.mem_cons_self,o,ho,hc.2⟩
   | false=>simp only [hc,cond_false] at h;exact ⟨List.mem_cons_of_mem _ (om h).1,(om h).2⟩
  ·exact ⟨List.mem_cons_of_mem _ (om h).1,(om h).2⟩
theorem u7 {L:Array Bool} {r:List Nat} {n:q9}:qK ops L r=n→match n with | .fin=>r=[] | .look i=>i ∈ r∧∃ o,ops[i]?=some o∧Region.free .any ops L i=true | .one i=>r=[i] | .bad=>True:=by
 intro h
 match r,h with
 | [],h=>simp only [qK] at h;subst h;rfl
 | [i],h=>simp only [qK] at h;subst h;rfl
 | i::k::r,h=>
  rw [qK] at h
  cases hf:me ops L (i::k::r) with
  | some j=>rw [hf] at h;subst h;exact om hf
  | none=>rw [hf] at h;subst h;trivial
theorem AX {L:Array Bool} (h:rh ops L=.fin):Region.ready .any ops L=[]:=u7 h
theorem G6 {L:Array Bool} {i:Nat} (h:rh ops L=.look i):i ∈ Region.ready .any ops L∧∃ o,ops[i]?=some o∧Region.free .any ops L i=true:=u7 h
theorem Iq {L:Array Bool} {i:Nat} (h:rh ops L=.one i):Region.ready .any ops L=[i]:=u7 h
theorem u9 {oc:List (Nat×aX)}:∀ (fuel:Nat) (L:Array Bool) (rd:List (Nat×Nat)) (s:RS) {s':RS},jP P T cl sz ops oc fuel L rd s=some s'→bk s'.vc→bk s.vc:=by
 intro fuel
 induction fuel with
 | zero=>
  intro L rd s s' h hv
  unfold jP at h
  split at h
  ·simp only [Option.some.injEq] at h;subst h;exact hv
  ·simp at h
 | succ fuel ih=>
  intro L rd s s' h hv
  obtain ⟨vc,E,M,tc,mv⟩:=s
  unfold jP at h
  split at h
  ·simp only [Option.some.injEq] at h;subst h;exact hv
  ·simp at h
  ·rename_i i _
   split at h
   ·rename_i o ho
    cases hd:(gn sz o.dst&&(lj o.op&&iM ops i L)) with
    | false=>simp [hd] at h
    | true=>
     simp only [hd,cond_true] at h
     split at h
     ·split at h
      ·exact (bk.app.1 (ih _ _ _ h hv)).1
      ·simp at h
     ·have:=ih _ _ _ h hv;exact this
     ·simp at h
   ·simp at h
  ·rename_i i _
   split at h
   ·rename_i o ho
    cases hd:gn sz o.dst with
    | false=>simp [hd] at h
    | true=>
     simp only [hd,cond_true] at h
     split at h
     ·split at h
      ·rename_i out _
       cases hc:(wZ ops (L.setIfInBounds i true) rd out.tc&&Nat.ble M.length out.M.length) with
       | false=>simp [hc] at h
       | true=>simp only [hc,cond_true] at h;exact (bk.app.1 (ih _ _ _ h hv)).1
      ·simp at h
     ·have:=ih _ _ _ h hv;exact this
     ·simp at h
   ·simp at h
theorem Ir (hT:aZ P T=true) (cG:jt P cl) {b:eG} (hK:∀ w,Kp D w0 w→K0 w) (iu:Region.noSelect ops=true) (hQ:∀ d v c a w,Q (.panic c) (Act.put a d v) w→Q (.panic c) a w) {oc:List (Nat×aX)}:
  ∀ (fuel:Nat) (L:Array Bool) (rd:List (Nat×Nat)) (s:RS) {s':RS} (Rk:Array Bool→World→Prop) (β:Beta) (F:Nat→ak) (I:ak) (a:Act) (w:World),jP P T cl sz ops oc fuel L rd s=some s'→a.tmps.size=sz→Mk mk a.defers I→b.m≤s.M.length→RM D w0 K0 s.M β F I w→Since b s.mv s.tc β F I→
   (∀ t v,b5 s.E t=some v→ax (fun w=>K0 w∧Holds w I) β v (a.eval (.tmp t)))→(∀ q ∈ rd,q.2<s.M.length)→(∀ L' w,Sub L L'→Lh ops K0 I F rd L' w→Rk L' w)→(∀ (j:Nat) oj,ops[j]?=some oj→lj oj.op=true→∀ L' w,Rk (L'.setIfInBounds j true) w→Rk L' w)→bk s'.vc→(∀ a' w',db mk D w0 K0 sz b s' a' w'→Q .normal a' w')→j8 ro P ops Q Rk fuel L a w:=by
 intro fuel
 induction fuel with
 | zero=>
  intro L rd s s' Rk β F I a w h size defers hm Rm cq hs dD fZ n5 hv k
  obtain ⟨vc,E,M,tc,mv⟩:=s
  have C:Ctx D w0 K0 E M β F I a.eval w:=⟨Rm,hs,fun _=>rfl,fun _=>rfl,fun _=>rfl,hK⟩
  have hR:=fZ L w (Sub.refl L) ⟨C.now,fun q hq _=>C.rm.iK (List.getElem?_eq_getElem (dD q hq))⟩
  unfold jP at h
  split at h
  ·rename_i hn
   simp only [Option.some.injEq] at h;subst h
   exact ⟨hR,AX hn,k a w ⟨size,I,defers,hm,β,F,Rm,cq,hs⟩⟩
  ·simp at h
 | succ fuel ih=>
  intro L rd s s' Rk β F I a w h size defers hm Rm cq hs dD fZ n5 hv k
  obtain ⟨vc,E,M,tc,mv⟩:=s
  dsimp only at hm Rm cq hs dD fZ
  have C:Ctx D w0 K0 E M β F I a.eval w:=⟨Rm,hs,fun _=>rfl,fun _=>rfl,fun _=>rfl,hK⟩
  have hR:=fZ L w (Sub.refl L) ⟨C.now,fun q hq _=>C.rm.iK (List.getElem?_eq_getElem (dD q hq))⟩
  unfold jP at h
  split at h
  ·rename_i hn
   simp only [Option.some.injEq] at h;subst h
   have hn:=AX hn
   exact ⟨hR,fun _=>k a w ⟨size,I,defers,hm,β,F,Rm,cq,hs⟩,fun i hi=>by rw [hn] at hi;cases hi⟩
  ·simp at h
  ·rename_i i hn
   obtain ⟨ri,o',NR,ly⟩:=G6 hn
   split at h
   ·rename_i o ho
    cases tF:(gn sz o.dst&&(lj o.op&&iM ops i L)) with
    | false=>simp [tF] at h
    | true=>
     simp only [tF,cond_true] at h
     simp only [Bool.and_eq_true] at tF
     obtain ⟨hd,rj,dN⟩:=tF
     have lR:=fun j oj hj jT lY jz=>Region.free_spec ho ly j oj hj jT lY jz
     split at h
     ·rename_i hw
      have eX:=kz (ops:=ops) size hs hw
      split at h
      ·rename_i na av _ _ _ kr bB
       have n6:=oI (P:=P) hT cG (d:=o.dst) (ty:=o.type) (pos:=o.pos) (aft:=o.after) (gd:=o.guard) bB
       obtain ⟨xO,rfl,-,aO⟩:=n6
       have lH:=(bk.app.1 (u9 _ _ _ _ h hv)).2
       obtain ⟨v,lF,lz⟩:=xO C lH
       obtain ⟨e1,e2,e3⟩:=RE.put (E:=E) size defers hs hd lF
       have kJ:=ih (L.setIfInBounds i true) _ _ (fun L w=>Rk L w∧(iM ops i L=true→iO K0 I F kr w)) β F I (a.put o.dst v) w h e1 e2 hm Rm cq e3 (fun q hq=>by
         rcases List.mem_append.1 hq with e | e
         ·obtain ⟨u,hu,rfl⟩:=List.mem_map.1 e;exact aO u hu
         ·exact dD q e)
        (fun L' w hL hw=>⟨fZ L' w hL.su ⟨hw.1,fun q hq=>hw.2 q (List.mem_append_right _ hq)⟩,fun ha=>⟨hw.1,fun u hu=>hw.2 (i,u) (List.mem_append_left _ (List.mem_map.2 ⟨u,hu,rfl⟩)) ha⟩⟩)
        (fun j oj hj Dt L' w hw=>⟨n5 j oj hj Dt L' w hw.1,fun ha=>hw.2 (p4 (r7 hj Dt) ha)⟩) hv k
       exact y8 (fun L w hw=>hw.1) (y4 ho rj (Region.noSelect_spec iu) (hQ o.dst v) (fun L w ha hw=>hw.2 ha) (fun L w hw=>⟨n5 i o ho rj L w hw.1,fun ha=>hw.2 (p4 (r7 ho rj) ha)⟩) _ L a w lR ri dN (Or.inl ⟨eX,fun w' dC=>lz w' dC⟩) kJ)
      ·simp at h
     ·rename_i hw
      have eX:=kz (ops:=ops) size hs hw
      obtain ⟨e1,e2,e3⟩:=RE.put (E:=E) size defers hs hd (.d (.v undef))
      have kJ:=ih (L.setIfInBounds i true) _ _ Rk β F I (a.put o.dst undef) w h e1 e2 hm Rm cq e3 dD (fun L' w hL=>fZ L' w hL.su) n5 hv k
      exact y4 (S:=fun _=>True) ho rj (Region.noSelect_spec iu) (hQ o.dst undef) (fun _ _ _ _=>trivial) (n5 i o ho rj) _ L a w lR ri dN (Or.inr ⟨eX,rfl⟩) kJ
     ·simp at h
   ·simp at h
  ·rename_i i hn
   have dK:=Iq hn
   split at h
   ·rename_i o ho
    cases hd:gn sz o.dst with
    | false=>simp [hd] at h
    | true=>
     simp only [hd,cond_true] at h
     refine ⟨hR,fun h0=>(by rw [dK] at h0;simp at h0),fun j hj=>?_⟩
     rw [dK] at hj
     obtain rfl:=List.mem_singleton.1 hj
     unfold wpOpIn
     simp only [ho]
     split at h
     ·rename_i hw
      have eX:=kz (ops:=ops) size hs hw
      simp only [eX,if_true]
      split at h
      ·rename_i out bB
       cases hc:(wZ ops (L.setIfInBounds j true) rd out.tc&&Nat.ble M.length out.M.length) with
       | false=>simp [hc] at h
       | true=>
        simp only [hc,cond_true] at h
        simp only [Bool.and_eq_true] at hc
        have hlen:=Nat.le_of_ble_eq_true hc.2
        have lH:=(bk.app.1 (u9 _ _ _ _ h hv)).2
        have n6:=(oI (P:=P) hT cG (d:=o.dst) (ty:=o.type) (pos:=o.pos) (aft:=o.after) (gd:=o.guard) bB).pn C lH
        refine aY.wp n6 ?_
        rintro v w' ⟨aB,F',I',R',e,hI,hF,nb⟩
        have hk:=uE (ρ:=a.eval) e hs
        obtain ⟨e1,e2,e3⟩:=RE.put size (defers.grow hI) (fun t v hx=>(hk t v hx).mono (fun w hw=>⟨hw.1,hI.holds w hw.2⟩) (Ext.refl _)) hd nb
        refine ih (L.setIfInBounds j true) _ _ Rk aB F' I' (a.put o.dst v) w' h e1 e2 (Nat.le_trans hm hlen) R' (cq.step hm e hI hF) e3 (fun q hq=>Nat.lt_of_lt_of_le (dD q hq) hlen) (fun L' w hL hw=>fZ L' w hL.su ⟨⟨hw.1.1,hI.holds w hw.1.2⟩,fun q hq ha=>?_⟩) n5 hv k
        have yG:q.2 ∉ out.tc:=by
         have h1:=List.all_eq_true.1 hc.1 q hq
         rw [EO hL ha] at h1
         simpa using h1
        rw [← hF q.2 (dD q hq) yG];exact hw.2 q hq ha
      ·simp at h
     ·rename_i hw
      have eX:=kz (ops:=ops) size hs hw
      simp only [eX,Bool.false_eq_true,if_false]
      obtain ⟨e1,e2,e3⟩:=RE.put (E:=E) size defers hs hd (.d (.v undef))
      exact ⟨fun _ _=>trivial,ih (L.setIfInBounds j true) _ _ Rk β F I (a.put o.dst undef) w h e1 e2 hm Rm cq e3 dD (fun L' w hL=>fZ L' w hL.su) n5 hv k⟩
     ·simp at h
   ·simp at h
theorem MH (hT:aZ P T=true) (cG:jt P cl) (hm:P.follows .mixedOrders=true) (hK:∀ w,Kp D w0 w→K0 w) (hQ:∀ d v c a w,Q (.panic c) (Act.put a d v) w→Q (.panic c) a w) {b:eG} {s:RS} (R:db mk D w0 K0 sz b s a w) (oc:List (Nat×aX)) {id:Nat} {s':RS} (iu:Region.noSelect ops=true)
  (h:jP P T cl sz ops oc ops.size (Array.replicate ops.size false) [] s=some s') (hv:bk s'.vc) (k:∀ a' w',db mk D w0 K0 sz b s' a' w'→Q .normal a' w'):(Code.region id ops true).wpIn (Fl ro) 0 P Q a w:=by
 refine wpIn_region_any hm ?_
 obtain ⟨size,I,defers,hb,β,F,Rm,cq,hs⟩:=R
 have hg:=Gr.drew w
 exact (Ir hT cG hK iu hQ ops.size _ [] s (fun _ _=>True) β F I a w.drew h size defers hb (Rm.gr hg) cq hs (by simp) (fun _ _ _ _=>trivial) (fun _ _ _ _ _ _ _=>trivial) hv k).to
end Go.Proofs.YtcnpikbbmbombaaGreatDoor
