/-
  scriptDecodes_card, part 2 of 6: merged by program from the texts that it needs.
-/
import Derived.Test.YtcnpikbbmbombaaGreatDoorSdA
set_option linter.unusedSimpArgs false
set_option linter.unusedVariables false
set_option linter.unnecessarySimpa false
namespace Go.Proofs.YtcnpikbbmbombaaGreatDoor
open Go.RowKit
variable {P:Program} {T:aJ} {D:List Nat} {w0:World} {K0:World→Prop} {E:List (Nat×AV)} {M:List ai} {β:Beta} {F:Nat→al} {I X:al} {ρ:Operand→Value} {w:World}
variable {d:Option Tmp} {ty:TypeId} {pos:String} {aft:Array Edge} {gd:Option (Nat×Bool)} {oc:Option aX} {out:Out}
def ae (l:List UInt8):List (List DV):=l.map fun b=>[.v (.int .u8 (b.toNat:Int))]
theorem zX {K:World→Prop} {l:List UInt8} {X:Nat→List Value} {G:Nat→Nat→al} (h:dz K 1 (ae l) X G):lay (ae l).length X=l.map fun b:UInt8=>.int .u8 b.toNat:=by
 have hl:(ae l).length=l.length:=by simp [ae]
 have hX:∀ i,i<(ae l).length→(X i).length=1:=fun i hi=>(h.hl i _ (List.getElem?_eq_getElem hi)).2
 apply List.ext_getElem?
 intro p
 have ik:=eD hX
 rcases Nat.lt_or_ge p l.length with hp | hp
 ·have Dd:p<(ae l).length:=by omega
  have hg:=jV hX Dd (show 0<1 by omega)
  rw [Nat.mul_one,Nat.add_zero] at hg
  have bQ:(ae l)[p]?=some [.v (.int .u8 (l[p].toNat:Int))]:=by simp [ae,List.getElem?_eq_getElem hp]
  obtain ⟨x,h1⟩:∃ x,(X p)[0]?=some x:=⟨(X p)[0]'(by rw [hX p Dd];omega),List.getElem?_eq_getElem _⟩
  have hd:=h.hr p _ 0 _ _ bQ rfl h1
  generalize G p 0=GG at hd
  cases hd
  rw [hg,h1,List.getElem?_map,List.getElem?_eq_getElem hp];rfl
 ·rw [List.getElem?_eq_none (by omega),List.getElem?_eq_none (by simp;omega)]
def xX (T:aJ) (E:List (Nat×AV)) (M:List ai) (oc:Option aX) (t t':TypeId) (x:Operand):Option Out:=
 match jb T t,df T t',oc with
 | some (e,_,_,_),some .st,some (.res (.v (.string s)))=>(match df T e,aF E x with
  | some (.it .u8),some (.d (.ro k rows))=>bif Nat.beq k 1 then some (lk [rows=ae s.data.toList] (.d (.v (.string s))) M) else none
  | some (.it .u8),some (.sl u n)=>(match M[u]? with | some (.rw _ k rows)=>bif Nat.beq k 1 then some ⟨[n=rows.length,rows=ae s.data.toList],.d (.v (.string s)),M,[],[],some [u]⟩ else none | _=>none)
  | _,_=>none)
 | _,_,_=>none
theorem H8 (hT:bc P T=true) {t t':TypeId} {x:Operand} (h:xX T E M oc t t' x=some out):aG P ⟨d,.convert t t' x,ty,pos,aft,gd⟩ E M out:=by
 unfold xX at h
 split at h
 ·rename_i e _ _ _ s he br
  obtain ⟨zv,ok,-,-⟩:=kt hT he
  split at h
  ·rename_i k rows rq hx
   cases hk:Nat.beq k 1 with
   | false=>simp [hk] at h
   | true=>
    simp only [hk,cond_true,Option.some.injEq] at h;subst h
    obtain rfl:=Nat.eq_of_beq_eq_true hk
    refine aG.same ?_
    intro D w0 K0 β F I ρ w C hv
    obtain ⟨rfl,-⟩:=hv
    have r:=C.ev hx
    generalize hy:ρ x=y at r
    cases r with | d r=>
    cases r with
    | ro X hl iZ hs hr=>
     refine ⟨_,fun w' dX=>r6 (.of fun _=>⟨_,rfl⟩) (zx (l:=s.data.toList) ok.br (cV hT rq) (cV hT br) hy ?_ ⟨rfl,rfl⟩),.d (.v _)⟩
     have:=hs w' dX
     rw [zX (G:=fun _ _=>[]) ⟨hl,hr⟩] at this
     simpa [ae] using this
  ·rename_i u n rq hx
   split at h
   ·rename_i T2 k rows hM
    cases hk:Nat.beq k 1 with
    | false=>simp [hk] at h
    | true=>
     simp only [hk,cond_true,Option.some.injEq] at h;subst h
     obtain rfl:=Nat.eq_of_beq_eq_true hk
     refine aG.look ?_ (by simpa using fe hM)
     intro D w0 K0 β F I ρ w C hv
     obtain ⟨rfl,rfl,-⟩:=hv
     obtain ⟨X,G,H0,hF,dY,ra,hH⟩:=l8 C.rm hM rfl (C.ev hx)
     refine ⟨_,.d (.v _),fun w' dX=>r6 (.of fun _=>⟨_,rfl⟩) (zx (l:=s.data.toList) ok.br (cV hT rq) (cV hT br) rfl ?_ ⟨rfl,rfl⟩)⟩
     have De:Holds w' (F u):=dX.2 u (by simp)
     rw [hF] at De
     have:=dY.src (Holds.app.1 De).1
     rw [zX ra] at this
     simpa [ae] using this
   ·simp at h
  ·simp at h
 ·simp at h
def o2 (P:Program) (t:TypeId):Bool:=match P.underlying t with | some .bool=>true | _=>false
theorem zz {t:TypeId} (h:o2 P t=true) (a b:Bool) (w:World):(Op.equal t (.bool a) (.bool b)).run P w=.ok (a==b) w:=by
 unfold o2 at h
 split at h
 ·rename_i hu
  have:∀ m,(Op.equalIn (m+1) t (.bool a) (.bool b)).run P w=.ok (a==b) w:=by intro m;simp [Op.equalIn,Sem.run_bind,run_underlying hu]
  exact this 9999
 ·simp at h
def wY (P:Program) (E:List (Nat×AV)) (M:List ai) (oc:Option aX) (op:BinOp) (t:TypeId) (x y:Operand):Option Out:=
 match lf (aF E x),lf (aF E y),op with
 | some a,some b,.eql=>bif o2 P t then some (lg oc (a==b) M) else none
 | some a,some b,.neq=>bif o2 P t then some (lg oc (!(a==b)) M) else none
 | _,_,_=>none
theorem GD {op:BinOp} {t t':TypeId} {x y:Operand} (h:wY P E M oc op t x y=some out):aG P ⟨d,.binOp op t x y t',ty,pos,aft,gd⟩ E M out:=by
 unfold wY at h
 split at h
 ·rename_i a b ha yH
  cases hb:o2 P t with
  | false=>simp [hb] at h
  | true=>
   simp only [hb,cond_true,Option.some.injEq] at h;subst h
   exact ns (.of fun _=>⟨_,rfl⟩) fun C w Φ aD=>.pure (v:=.bool (a==b)) (by simp [execOp,C.bool ha,C.bool yH,eqGuard,binOp,zz hb]) aD
 ·rename_i a b ha yH
  cases hb:o2 P t with
  | false=>simp [hb] at h
  | true=>
   simp only [hb,cond_true,Option.some.injEq] at h;subst h
   exact ns (.of fun _=>⟨_,rfl⟩) fun C w Φ aD=>.pure (v:=.bool (!(a==b))) (by simp [execOp,C.bool ha,C.bool yH,eqGuard,binOp,zz hb]) aD
 ·simp at h
def wZ (T:aJ) (E:List (Nat×AV)) (M:List ai) (oc:Option aX) (op:BinOp) (t:TypeId) (x y:Operand):Option Out:=
 match op,df T t,y,aF E x with
 | .eql,some (.sl _),.const (.slice none 0 0),some (.d (.v (.slice a _ _)))=>some (lg oc a.isNone M)
 | .eql,some (.sl _),.const (.slice none 0 0),some (.d (.ro _ rows))=>some (lk [0<rows.length] (.b false) M)
 | .eql,some (.sl _),.const (.slice none 0 0),some (.sl u n)=>(match M[u]? with | some (.rw _ _ rows)=>some ⟨[n=rows.length,0<n],.b false,M,[],[],some [u]⟩ | _=>none)
 | _,_,_,_=>none
theorem GF (hT:bc P T=true) {op:BinOp} {t t':TypeId} {x y:Operand} (h:wZ T E M oc op t x y=some out):aG P ⟨d,.binOp op t x y t',ty,pos,aft,gd⟩ E M out:=by
 unfold wZ at h
 split at h
 ·rename_i e a n c hu hx
  simp only [Option.some.injEq] at h;subst h
  refine ns (.of fun _=>⟨_,rfl⟩) ?_
  intro D w0 K0 β F I ρ w' C w Φ aD
  have r:=C.ev hx
  generalize hy:ρ x=y at r
  cases r with | d r=>cases r;exact ux (cV hT hu) hy (C.const _) rfl aD
 ·rename_i e k rows hu hx
  simp only [Option.some.injEq] at h;subst h
  refine jY (.of fun _=>⟨_,rfl⟩) ?_
  intro D w0 K0 β F I ρ w' C hv
  obtain ⟨nJ,-⟩:=hv
  have r:=C.ev hx
  generalize hy:ρ x=y at r
  cases r with | d r=>
  cases r with
  | ro X hl iZ hs hr=>
   obtain ⟨a,c,tO,-⟩:=(hs _ C.now).row nJ
   exact ⟨_,.d (.v _),fun w Φ aD=>ux (cV hT hu) (hy.trans tO) (C.const _) rfl aD⟩
 ·rename_i e u n hu hx
  split at h
  ·rename_i T2 k rows hM
   simp only [Option.some.injEq] at h;subst h
   refine aG.look ?_ (by simpa using fe hM)
   intro D w0 K0 β F I ρ w C hv
   obtain ⟨hn,nJ,-⟩:=hv
   obtain ⟨X,G,H0,hF,dY,ra,hH⟩:=l8 C.rm hM hn (C.ev hx)
   obtain ⟨b,cap,cs,yI,-⟩:=dY.block nJ
   exact ⟨_,.d (.v _),fun w' _=>r6 (.of fun _=>⟨_,rfl⟩) (ux (cV hT hu) yI (C.const _) rfl ⟨rfl,rfl⟩)⟩
  ·simp at h
 ·simp at h
def v7 (T:aJ) (E:List (Nat×AV)) (M:List ai) (t t':TypeId) (x:Operand):Option Out:=
 bif Nat.beq t t' then (match jb T t with
 | some (e,k,_,_)=>(match df T e,aF E x with
  | some (.it .u8),some (.sl u n)=>(match M[u]? with
   | some (.rw e' k' rows)=>bif Nat.beq e e'&&Nat.beq k k'&&rows.all (fun r=>r.all DV.cp) then some ⟨[n=rows.length,0<n],.d (.ro k rows),M.set u .dead,[u],[],none⟩ else none
   | _=>none)
  | _,_=>none)
 | none=>none) else none
theorem Fs (hT:bc P T=true) {t t':TypeId} {x:Operand} (h:v7 T E M t t' x=some out):aG P ⟨d,.convert t t' x,ty,pos,aft,gd⟩ E M out:=by
 unfold v7 at h
 cases yJ:Nat.beq t t' with
 | false=>simp [yJ] at h
 | true=>
  simp only [yJ,cond_true] at h
  obtain rfl:=Nat.eq_of_beq_eq_true yJ
  split at h
  ·rename_i e k _ _ he
   obtain ⟨zv,ok,-,-⟩:=kt hT he
   split at h
   ·rename_i u n rq hx
    split at h
    ·rename_i e' k' rows hM
     cases hc:(Nat.beq e e'&&Nat.beq k k'&&rows.all fun r=>r.all DV.cp) with
     | false=>simp [hc] at h
     | true=>
      simp only [hc,cond_true,Option.some.injEq] at h;subst h
      simp only [Bool.and_eq_true] at hc
      obtain rfl:=Nat.eq_of_beq_eq_true hc.1.1
      obtain rfl:=Nat.eq_of_beq_eq_true hc.1.2
      intro D w0 K0 β F I ρ w C hv
      obtain ⟨hn,nJ,-⟩:=hv
      obtain ⟨X,G,H0,hF,dY,ra,hH⟩:=l8 C.rm hM hn (C.ev hx)
      obtain ⟨b,cap,cs,yI,rfl,cG,hle,sV⟩:=dY.block nJ
      have R1:=C.rm.x.fj hM
      rw [hF,List.nil_append] at R1
      have hb:=hH.one
      refine Ef ok.br (cV hT rq) yI hb ?_
      have lr:St D w0 w ((b,.cells cs e (0,0))::(bB n k G++((List.range (M.set u .dead).length).flatMap (aH F u [])++I))):=R1.st.perm (by classical rw [List.perm_iff_count];intro z;simp only [List.count_append,List.count_cons,List.count_nil];omega)
      have lu:=lr.set (.cells cs e (cs.size,cs.size+1))
      have R2:RM D w0 K0 (M.set u .dead) β (aH F u []) ([(b,.cells cs e (cs.size,cs.size+1))]++I) (cn w b (.cells cs e (cs.size,cs.size+1))):=by
       refine ⟨R1.len,fun v bl hv=>(R1.blk v bl hv).mono (fun w hw=>⟨hw.1,(Holds.app.1 hw.2).2⟩) (Ext.refl _),?_⟩
       have:=(lu.perm (K:=bB n k G++((List.range (M.set u .dead).length).flatMap (aH F u [])++([(b,.cells cs e (cs.size,cs.size+1))]++I))) (by classical rw [List.perm_iff_count];intro z;simp only [List.count_append,List.count_cons,List.count_nil];omega)).l0
       exact this
      refine ⟨β,_,_,R2,(Ext.refl β).b _,⟨_,rfl⟩,fun q _ hq=>by simp only [aH];rw [if_neg (by simpa using hq)],?_⟩
      refine .d (.ro X ra.hl ⟨_,_,by rw [← hn],by rw [← hn];exact hle⟩ (fun w' dX=>?_) fun i r j c x h1 h2 h3=>?_)
      ·have aS:w'.heap[b]?=some (.cells cs e (cs.size,cs.size+1)):=(Holds.app.1 dX.2).1.one
       refine ⟨by rw [← hn];exact dY.1,Or.inr ⟨_,cap,by rw [← hn],fun j hj=>?_⟩⟩
       rw [add_eq,Nat.zero_add,cell_of aS]
       have mF:lay rows.length X=cs.toList.take (n*k):=by rw [← hn];exact sV.symm
       have key:∀ q,q=cs.toList.take (n*k)→∀ (hj:j<q.length),cs[j]?=some q[j]:=by
        intro q hq hj
        subst hq
        have iY:=hj
        simp only [List.length_take] at iY
        rw [List.getElem_take,← Array.getElem?_toList]
        exact List.getElem?_eq_getElem _
       exact key _ mF hj
      ·have:=(ra.hr i r j c x h1 h2 h3).cp (List.all_eq_true.1 (List.all_eq_true.1 hc.2 r (List.mem_of_getElem? h1)) c (List.mem_of_getElem? h2))
       exact this.mono fun w hw=>⟨hw.1,(Holds.app.1 hw.2).2⟩
    ·simp at h
   ·simp at h
  ·simp at h
theorem Ft {t:TypeId} {xs:Array Value} {o:Nat} {v:Value} (w:World) (ht:scalar P t=true) (h:xs[o]?=some v):(part t xs o).run P w=.ok v w:=by
 simp [part,Sem.run_bind,zf ht,h]
theorem Fw {t:TypeId} {xs:Array Value} {o n:Nat} (w:World) (ht:mn P t n=true):(part t xs o).run P w=.ok (.agg (xs.extract o (o+n))) w:=by
 unfold mn at ht
 simp only [Bool.and_eq_true] at ht
 obtain ⟨h1,h2⟩:=ht
 cases hu:P.underlying t with
 | none=>simp [hu] at h1
 | some u=>
  cases hi:P.info? t with
  | none=>simp [hi] at h2
  | some i=>
   simp only [hi,beq_iff_eq] at h2
   have ha:(isAgg t).run P w=.ok true w:=by cases u<;>simp [hu] at h1<;>simp [isAgg,Sem.run_bind,run_underlying hu]
   simp [part,Sem.run_bind,ha,sizeOf,typeInfo,hi,h2]
def nY (T:aJ) (e:TypeId) (l:List AV) (o:Nat):Option AV:=kN T e l o
theorem wa (hT:bc P T=true) {K:World→Prop} {e:TypeId} {l:List AV} {o:Nat} {v:AV} (h:nY T e l o=some v) {ys:List Value} (hl:ys.length=l.length) (hr:∀ (j:Nat) c y,l[j]?=some c→ys[j]?=some y→ax K β c y):
  ∃ y,ax K β v y∧∀ w:World,(part e ys.toArray o).run P w=.ok y w:=by
 unfold nY kN at h
 split at h
 ·rename_i ht
  obtain ⟨y,h1,h2⟩:=vO hl hr h
  exact ⟨y,h2,fun w=>Ft w (u9 hT ht) (by simpa using h1)⟩
 ·rename_i n ht
  simp only [xL] at h
  cases hb:(o+n).ble l.length with
  | false=>simp [hb] at h
  | true=>
   simp only [hb,cond_true,Option.some.injEq] at h
   have hle:o+n≤l.length:=Nat.le_of_ble_eq_true hb
   subst h
   have he:(ys.toArray.extract o (o+n))=((ys.drop o).take n).toArray:=by
    simp [List.extract_eq_take_drop]
   refine ⟨.agg ((ys.drop o).take n).toArray,.ag _ (by simp;omega) ?_,fun w=>by rw [Fw w (Ah hT ht),he]⟩
   intro j c y h1 h2
   rw [List.getElem?_take,List.getElem?_drop] at h1 h2
   split at h1
   ·rename_i hj;rw [if_pos hj] at h2;exact hr _ _ _ h1 h2
   ·simp at h1
 ·simp at h
def xY (T:aJ) (E:List (Nat×AV)) (M:List ai) (t:TypeId) (x:Operand) (f:Nat):Option Out:=
 match yq T t f,aF E x with
 | some (o,ty),some (.ag l)=>(match nY T ty l o with | some v=>some (lk [] v M) | none=>none)
 | _,_=>none
theorem H9 (hT:bc P T=true) {t:TypeId} {x:Operand} {f:Nat} (h:xY T E M t x f=some out):aG P ⟨d,.field t x f,ty,pos,aft,gd⟩ E M out:=by
 unfold xY at h
 split at h
 ·rename_i o e l hf hx
  split at h
  ·rename_i v hp
   simp only [Option.some.injEq] at h;subst h
   obtain ⟨fs,q,hu,hq,rfl,rfl⟩:=Jy hT hf
   refine aG.same ?_
   intro D w0 K0 β F I ρ w C _
   have r:=C.ev hx
   generalize hy:ρ x=y at r
   cases r with
   | ag ys hl hr=>
    obtain ⟨y,h1,h2⟩:=wa hT hp hl hr
    exact ⟨y,fun w' _=>by simp only [execOp,hy,Instr.field,Sem.run_bind,run_underlying hu,Result.andThen_ok,hq,asAgg,Sem.run_pure,h2],h1⟩
  ·simp at h
 ·simp at h
def xZ (T:aJ) (E:List (Nat×AV)) (M:List ai) (oc:Option aX) (t:TypeId) (x ix:Operand):Option Out:=
 match df T t,aF E x,cP (aF E ix),oc with
 | some (.ar n e),some (.ag l),some (_,z),some (.n i)=>(match fI T e with
  | some k=>(match nY T e l (i*k) with | some v=>some (lk [z=(i:Int),i<n] v M) | none=>none)
  | none=>none)
 | _,_,_,_=>none
theorem Ia (hT:bc P T=true) {t:TypeId} {x ix:Operand} (h:xZ T E M oc t x ix=some out):aG P ⟨d,.index t x ix,ty,pos,aft,gd⟩ E M out:=by
 unfold xZ at h
 split at h
 ·rename_i n e l _ z i hu hx hz
  split at h
  ·rename_i k hk
   split at h
   ·rename_i v hp
    simp only [Option.some.injEq] at h;subst h
    have bE:∀ w:World,(sizeOf e).run P w=.ok k w:=fun w=>by
     have:=hC hT hk
     cases hi:P.info? e with
     | none=>simp [hi] at this
     | some inf=>simp only [hi,Option.map_some,Option.some.injEq] at this;simp [sizeOf,typeInfo,Sem.run_bind,hi,this]
    refine aG.same ?_
    intro D w0 K0 β F I ρ w C hv
    obtain ⟨rfl,aI,-⟩:=hv
    have r:=C.ev hx
    have hi:=C.int hz
    generalize hy:ρ x=y at r
    cases r with
    | ag ys hl hr=>
     obtain ⟨y,h1,h2⟩:=wa hT hp hl hr
     refine ⟨y,fun w' _=>?_,h1⟩
     have gJ:=cV hT hu
     have hc:(0:Int)≤(i:Int)∧(i:Int)<(n:Int):=by omega
     simp only [execOp,hy,hi,Instr.index,asIntOf,Sem.run_bind,Sem.run_pure,run_underlying gJ,Result.andThen_ok]
     rw [if_pos hc]
     simp only [Sem.run_bind,bE,Result.andThen_ok,Int.toNat_natCast,h2,Sem.run_pure]
   ·simp at h
  ·simp at h
 ·simp at h
def ve (T:aJ) (E:List (Nat×AV)) (M:List ai) (t:TypeId) (parts:Array (Nat×Operand)):Option Out:=
 match df T t,oZ T t with
 | some (.ar _ e),some z=>(match fI T e with
  | some k=>(match ky E (fun i=>some (i*k,k)) (la z) parts.toList with
   | some l=>some (lk [] (.ag l) M)
   | none=>none)
  | none=>none)
 | _,_=>none
theorem EG (hT:bc P T=true) {t:TypeId} {parts:Array (Nat×Operand)} (h:ve T E M t parts=some out):aG P ⟨d,.build t parts,ty,pos,aft,gd⟩ E M out:=by
 unfold ve at h
 split at h
 ·rename_i n e z hu hz
  split at h
  ·rename_i k hk
   split at h
   ·rename_i l hl
    simp only [Option.some.injEq] at h;subst h
    obtain ⟨zv,nV,nW⟩:=r4 hT hz
    have bE:∀ w:World,(sizeOf e).run P w=.ok k w:=fun w=>by
     have:=hC hT hk
     cases hi:P.info? e with
     | none=>simp [hi] at this
     | some inf=>simp only [hi,Option.map_some,Option.some.injEq] at this;simp [sizeOf,typeInfo,Sem.run_bind,hi,this]
    refine aG.same ?_
    intro D w0 K0 β F I ρ w C _
    obtain ⟨p1,p2⟩:=p6 (K:=fun w=>K0 w∧Holds w I) (β:=β) z
    obtain ⟨bX,g1,g2,g3⟩:=r9 C (cs:=z.toArray) hl (by simpa using p1) (by intro j c y e1 e2;exact p2 j c y e1 (by simpa using e2))
    refine ⟨.agg bX,fun w' _=>?_,?_⟩
    ·have pz:(parts.map fun (p:Nat×Operand)=>(p.1,ρ p.2)).toList=parts.toList.map fun p=>(p.1,ρ p.2):=by simp
     have hb:(Instr.build t (parts.map fun (p:Nat×Operand)=>(p.1,ρ p.2))).run P w'=.ok (.agg bX) w':=by
      simp only [Instr.build,Sem.run_bind,nW,Result.andThen_ok,run_underlying (cV hT hu),bE,nV,pz,g1,Sem.run_pure]
     simp only [execOp,Sem.run_bind]
     have:(parts.map fun (i,x)=>(i,ρ x))=parts.map fun (p:Nat×Operand)=>(p.1,ρ p.2):=rfl
     rw [this,hb];rfl
    ·have:(ax (fun w=>K0 w∧Holds w I) β (.ag l) (.agg bX.toList.toArray)):=.ag bX.toList (by simpa using g2) (by intro j c y e1 e2;exact g3 j c y e1 (by simpa using e2))
     simpa using this
   ·simp at h
  ·simp at h
 ·simp at h
end Go.Proofs.YtcnpikbbmbombaaGreatDoor
namespace Go.Proofs.YtcnpikbbmbombaaGreatDoor
open Go.RowKit
variable {P:Program} {T:aJ} {D:List Nat} {w0:World} {K0:World→Prop} {E:List (Nat×AV)} {M:List ai} {β:Beta} {F:Nat→al} {I X:al} {ρ:Operand→Value} {w:World}
variable {d:Option Tmp} {ty:TypeId} {pos:String} {aft:Array Edge} {gd:Option (Nat×Bool)} {oc:Option aX} {out:Out}
theorem bK.iD (R:bK D w0 K0 M β F I X w) {u:Nat} {blk:ai} (h:M[u]?=some blk):Holds w (F u):=by
 intro x hx
 obtain ⟨hu,-⟩:=List.getElem?_eq_some_iff.1 h
 exact R.st.holds x (List.mem_append_left _ (List.mem_flatMap.2 ⟨u,List.mem_range.2 hu,hx⟩))
theorem bK.back {X Y:al} (R:bK D w0 K0 M β F I (X++Y) w) {u:Nat} (hu:u<M.length) (hF:F u=[]) {blk:ai} (hb:bq (fun w=>K0 w∧Holds w I) β u blk X):
  bK D w0 K0 (M.set u blk) β (aH F u X) I Y w where
 len:=by rw [List.length_set];exact R.len
 blk:=by
  intro v bl hv
  rw [List.getElem?_set] at hv
  by_cases e:u=v
  ·subst e
   simp only [hu,if_pos,Option.some.injEq] at hv;subst hv
   simpa [aH] using hb
  ·rw [if_neg e] at hv
   have:aH F u X v=F v:=by simp only [aH];rw [if_neg (fun h=>e h.symm)]
   rw [this];exact R.blk v bl hv
 st:=by
  have hs:=R.st
  rw [List.length_set,range_split hu]
  rw [range_split hu,hF] at hs
  have c1:(List.range u).flatMap (aH F u X)=(List.range u).flatMap F:=fu fun a ha=>by have:=List.mem_range.1 ha;simp [aH];omega
  have c2:(List.range' (u+1) (M.length-(u+1))).flatMap (aH F u X)=(List.range' (u+1) (M.length-(u+1))).flatMap F:=fu fun a ha=>by have:=(List.mem_range'_1.1 ha).1;simp [aH];omega
  have gJ:aH F u X u=X:=by simp [aH]
  rw [c1,c2,gJ]
  exact hs.perm (by classical rw [List.perm_iff_count];intro z;simp only [List.count_append,List.count_nil];omega)
theorem zm {k o m:Nat} (h:o+m≤k) (f:Nat→al):(List.range k).flatMap f=(List.range o).flatMap f++((List.range' o m).flatMap f++(List.range' (o+m) (k-(o+m))).flatMap f):=by
 have:List.range k=List.range o++(List.range' o m++List.range' (o+m) (k-(o+m))):=by
  rw [List.range_eq_range',List.range_eq_range']
  have h1:k=o+(m+(k-(o+m))):=by omega
  conv=>lhs;rw [h1]
  rw [← List.range'_append_1,← List.range'_append_1]
  simp
 rw [this,List.flatMap_append,List.flatMap_append]
def dB (G:Nat→Nat→al) (i o m:Nat) (Gx:Nat→al):Nat→Nat→al:=fun a j=>if a=i∧o≤j∧j<o+m then Gx (j-o) else G a j
theorem sc {n k i o m:Nat} (hi:i<n) (ho:o+m≤k) (G:Nat→Nat→al) (Gx:Nat→al):(bB n k G++(List.range m).flatMap Gx).Perm (bB n k (dB G i o m Gx)++(List.range' o m).flatMap (G i)):=by
 unfold bB
 have c1:(List.range i).flatMap (fun a=>(List.range k).flatMap (dB G i o m Gx a))=(List.range i).flatMap (fun a=>(List.range k).flatMap (G a)):=fu fun a ha=>fu fun j _=>by have:=List.mem_range.1 ha;simp only [dB];rw [if_neg (by omega)]
 have c2:(List.range' (i+1) (n-(i+1))).flatMap (fun a=>(List.range k).flatMap (dB G i o m Gx a))=(List.range' (i+1) (n-(i+1))).flatMap (fun a=>(List.range k).flatMap (G a)):=fu fun a ha=>fu fun j _=>by have:=(List.mem_range'_1.1 ha).1;simp only [dB];rw [if_neg (by omega)]
 have c3:(List.range o).flatMap (dB G i o m Gx i)=(List.range o).flatMap (G i):=fu fun j hj=>by have:=List.mem_range.1 hj;simp only [dB];rw [if_neg (by omega)]
 have c4:(List.range' o m).flatMap (dB G i o m Gx i)=(List.range m).flatMap Gx:=by
  rw [List.range'_eq_map_range,List.flatMap_map]
  exact fu fun j hj=>by
   have:=List.mem_range.1 hj
   show dB G i o m Gx i (o+j)=Gx j
   unfold dB;rw [if_pos ⟨rfl,by omega,by omega⟩,Nat.add_sub_cancel_left]
 have c5:(List.range' (o+m) (k-(o+m))).flatMap (dB G i o m Gx i)=(List.range' (o+m) (k-(o+m))).flatMap (G i):=fu fun j hj=>by have:=(List.mem_range'_1.1 hj).1;simp only [dB];rw [if_neg (by omega)]
 rw [range_split hi (fun a=>(List.range k).flatMap (G a)),range_split hi (fun a=>(List.range k).flatMap (dB G i o m Gx a)),c1,c2]
 rw [zm ho (G i),zm ho (dB G i o m Gx i),c3,c4,c5]
 classical rw [List.perm_iff_count];intro z;simp only [List.count_append];omega
def gD (X:Nat→List Value) (i o:Nat) (zs:List Value):Nat→List Value:=fun a=>if a=i then (X i).take o++(zs++(X i).drop (o+zs.length)) else X a
theorem mc {α:Type} {l zs:List α} {o j:Nat} (h:o+zs.length≤l.length):(l.take o++(zs++l.drop (o+zs.length)))[j]?=if o≤j∧j<o+zs.length then zs[j-o]? else l[j]?:=by
 by_cases h1:o≤j∧j<o+zs.length
 ·rw [if_pos h1,List.getElem?_append_right (by simp;omega),List.getElem?_append_left (by simp;omega)]
  congr 1;simp;omega
 ·rw [if_neg h1]
  rcases Nat.lt_or_ge j o with hj | hj
  ·rw [List.getElem?_append_left (by simp;omega),List.getElem?_take,if_pos hj]
  ·rw [List.getElem?_append_right (by simp;omega),List.getElem?_append_right (by simp;omega),List.getElem?_drop]
   congr 1;simp;omega
theorem qg {X:Nat→List Value} {i o k:Nat} {zs:List Value} (ho:o+zs.length≤k) {a:Nat} (h:(X a).length=k):(gD X i o zs a).length=k:=by
 unfold gD;split
 ·rename_i e;subst e;simp;omega
 ·exact h
theorem AY {n k i o:Nat} {X:Nat→List Value} {zs:List Value} {cs:Array Value} (hX:∀ a,a<n→(X a).length=k) (hi:i<n) (ho:o+zs.length≤k) (ht:cs.toList.take (n*k)=lay n X) (bE:n*k≤cs.size):
  (ch cs (i*k+o) zs).toList.take (n*k)=lay n (gD X i o zs):=by
 have Df:∀ a,a<n→(gD X i o zs a).length=k:=fun a ha=>qg ho (hX a ha)
 have ik:=eD Df
 have yK:i*k+k≤n*k:=by have:=Nat.mul_le_mul_right k (show i+1≤n from hi);rw [Nat.succ_mul] at this;exact this
 apply List.ext_getElem?
 intro p
 rcases Nat.lt_or_ge p (n*k) with hp | hp
 ·have hk:0<k:=by
   rcases Nat.eq_zero_or_pos k with h0 | h0
   ·subst h0;simp at hp
   ·exact h0
  have hd:p / k<n:=Nat.div_lt_of_lt_mul (by rw [Nat.mul_comm];exact hp)
  have hm:p%k<k:=Nat.mod_lt _ hk
  have hg:=jV Df hd hm
  have Dg:=jV hX hd hm
  have e:p / k*k+p%k=p:=by rw [Nat.mul_comm,Nat.div_add_mod]
  rw [e] at hg Dg
  rw [hg,List.getElem?_take,if_pos hp,Array.getElem?_toList,oz _ _ _ _ (by omega)]
  have hc:cs[p]?=(X (p / k))[p%k]?:=by rw [← Dg,← ht,List.getElem?_take,if_pos hp,Array.getElem?_toList]
  generalize hA:p / k=a at *
  generalize hJ:p%k=j at *
  by_cases ha:a=i
  ·subst ha
   unfold gD
   rw [if_pos rfl,mc (by rw [hX a hd];exact ho)]
   by_cases h1:o≤j∧j<o+zs.length
   ·rw [if_pos h1,if_pos (by omega)];congr 1;omega
   ·rw [if_neg h1,if_neg (by omega)];exact hc
  ·unfold gD
   rw [if_neg ha,if_neg ?_]
   ·exact hc
   ·intro h1
    rcases Nat.lt_or_gt_of_ne ha with h2 | h2
    ·have:=Nat.mul_le_mul_right k (show a+1≤i from h2);rw [Nat.succ_mul] at this;omega
    ·have:=Nat.mul_le_mul_right k (show i+1≤a from h2);rw [Nat.succ_mul] at this;omega
 ·rw [List.getElem?_eq_none (by simp [kV];omega),List.getElem?_eq_none (by omega)]
theorem dz.put {K:World→Prop} {k i o:Nat} {rows:List (List DV)} {X:Nat→List Value} {G:Nat→Nat→al} {row xs:List DV} {zs:List Value} {Gx:Nat→al} (h:dz K k rows X G) (bQ:rows[i]?=some row) (ho:o+zs.length≤k) (hx:zs.length=xs.length) (hd:∀ (j:Nat) c y,xs[j]?=some c→zs[j]?=some y→bP K c y (Gx j)):
  dz K k (rows.set i (row.take o++(xs++row.drop (o+xs.length)))) (gD X i o zs) (dB G i o zs.length Gx):=by
 have eJ:=h.hl i row bQ
 constructor
 ·intro a r ha
  rw [List.getElem?_set] at ha
  by_cases e:i=a
  ·subst e
   rw [if_pos rfl] at ha
   split at ha
   ·simp only [Option.some.injEq] at ha;subst ha
    exact ⟨by simp;omega,qg ho eJ.2⟩
   ·simp at ha
  ·rw [if_neg e] at ha
   have:=h.hl a r ha
   exact ⟨this.1,qg ho this.2⟩
 ·intro a r j c x ha hj lJ
  rw [List.getElem?_set] at ha
  by_cases e:i=a
  ·subst e
   rw [if_pos rfl] at ha
   split at ha
   ·simp only [Option.some.injEq] at ha;subst ha
    rw [mc (by omega)] at hj
    unfold gD at lJ
    rw [if_pos rfl,mc (by omega)] at lJ
    unfold dB
    by_cases h1:o≤j∧j<o+zs.length
    ·rw [if_pos (by omega)] at hj
     rw [if_pos h1] at lJ
     rw [if_pos ⟨rfl,h1⟩]
     exact hd _ c x hj lJ
    ·rw [if_neg (by omega)] at hj
     rw [if_neg h1] at lJ
     rw [if_neg (fun q=>h1 q.2)]
     exact h.hr i row j c x bQ hj lJ
   ·simp at ha
  ·rw [if_neg e] at ha
   unfold gD at lJ
   rw [if_neg (fun q=>e q.symm)] at lJ
   unfold dB
   rw [if_neg (fun q=>e q.1.symm)]
   exact h.hr a r j c x ha hj lJ
def vf (T:aJ) (E:List (Nat×AV)) (M:List ai) (oc:Option aX) (t:TypeId) (x y:Operand):Option Out:=
 match aF E x,aF E y,fI T t,oc with
 | some (.ep u k i o),some v,some n,some (.ix _ row)=>(match nx v with
  | some l=>(match j3 M l with
   | some (vc,xs,M')=>(match M'[u]? with
    | some (.rw e k' rows)=>bif k.beq k'&&l.length.beq n&&(o+n).ble k then some ⟨(rows[i]?=some row)::vc,.d .jk,M'.set u (.rw e k (rows.set i (row.take o++(xs++row.drop (o+xs.length))))),u::pf l,[],none⟩ else none
    | _=>none)
   | none=>none)
  | none=>none)
 | _,_,_,_=>none
theorem EH (hT:bc P T=true) {t:TypeId} {x y:Operand} (h:vf T E M oc t x y=some out):aG P ⟨d,.store t x y,ty,pos,aft,gd⟩ E M out:=by
 unfold vf at h
 split at h
 rotate_left
 ·simp at h
 rename_i u k i o v n i0 row hx hy hn
 split at h
 rotate_left
 ·simp at h
 rename_i l hl
 split at h
 rotate_left
 ·simp at h
 rename_i vc xs M' hp
 split at h
 rotate_left
 ·simp at h
 rename_i e k' rows hM
 cases hc:(k.beq k'&&l.length.beq n&&(o+n).ble k) with
 | false=>simp [hc] at h
 | true=>
  simp only [hc,cond_true,Option.some.injEq] at h;subst h
  simp only [Bool.and_eq_true] at hc
  obtain rfl:=Nat.eq_of_beq_eq_true hc.1.1
  have q9:=Nat.eq_of_beq_eq_true hc.1.2
  have hle:=Nat.le_of_ble_eq_true hc.2
  intro D w0 K0 β F I ρ w C hv
  obtain ⟨bQ,hv⟩:=hv
  obtain ⟨yx,ja,rx⟩:=C.bS hx
  obtain ⟨yy,nX,ry⟩:=C.bS hy
  obtain ⟨zs,h1,h2,h3,h4⟩:=p5 hl ry
  obtain ⟨lM,F',Hp,R',dd,yL⟩:=sq C.rm.x hp hv (ys:=zs) h2 h3
  rw [List.nil_append] at R'
  cases rx with
  | @ep _ _ _ _ b0 c0 hb=>
   have aI:u<M'.length:=fe hM
   have hB:=R'.blk u _ hM
   have hH:=R'.iD hM
   have R1:=R'.fj hM
   have dl:=dd.len
   obtain ⟨Gx,yM,rn⟩:=dd.to
   generalize jc:F' u=Fu at hB hH R1
   cases hB with
   | rw aS X G cN hs hr=>
    rw [hb] at aS;cases aS
    obtain ⟨hi,-⟩:=List.getElem?_eq_some_iff.1 bQ
    obtain ⟨b',cap,cs,he,rfl,cG,dC,ht⟩:=hs.block (by omega)
    cases he
    have hw:=(Holds.app.1 hH).1.one
    have hX:∀ a,a<rows.length→(X a).length=k:=fun a ha=>(cN a _ (List.getElem?_eq_getElem ha)).2
    have yK:i*k+k≤rows.length*k:=by have:=Nat.mul_le_mul_right k (show i+1≤rows.length from hi);rw [Nat.succ_mul] at this;exact this
    have bE:rows.length*k≤cs.size:=by rw [cG];exact Nat.mul_le_mul_right _ dC
    refine u6 n (hC hT hn) ja nX hw (by rw [h1];simp;omega) (by omega) (by rw [h1];simpa using h4) ?_
    rw [h1]
    have ra:dz (fun w=>K0 w∧Holds w I) k rows X G:=⟨cN,hr⟩
    have fT:=ra.put (o:=o) (zs:=zs) (xs:=xs) (Gx:=Gx) bQ (by omega) dl rn
    have br:=R1.st
    have lr:St D w0 w ((b0,.cells cs e (0,0))::(bB rows.length k G++(Hp++((List.range (M'.set u .dead).length).flatMap (aH F' u [])++I)))):=br.perm (by classical rw [List.perm_iff_count];intro z;simp only [List.count_append,List.count_cons,List.cons_append,List.nil_append];omega)
    have lu:=lr.set (.cells (ch cs (i*k+o) zs) e (0,0))
    have jH:=sc (n:=rows.length) (k:=k) (i:=i) (o:=o) (m:=zs.length) hi (by omega) G Gx
    rw [yM,← dl] at lu
    have R2:bK D w0 K0 (M'.set u .dead) β (aH F' u []) I (([(b0,.cells (ch cs (i*k+o) zs) e (0,0))]++bB rows.length k (dB G i o zs.length Gx))++(List.range' o zs.length).flatMap (G i)) _:=R1.move (lu.perm (by
     classical
     have hc:=List.perm_iff_count.1 jH
     rw [List.perm_iff_count];intro z
     have:=hc z
     simp only [List.count_append,List.count_cons,List.cons_append,List.nil_append] at this ⊢
     omega))
    have fJ:bq (fun w=>K0 w∧Holds w I) β u (.rw e k (rows.set i (row.take o++(xs++row.drop (o+xs.length))))) ([(b0,.cells (ch cs (i*k+o) zs) e (0,0))]++bB rows.length k (dB G i o zs.length Gx)):=by
     have:=bq.rw (K:=fun w=>K0 w∧Holds w I) (u:=u) (T:=e) (k:=k) (rows:=rows.set i (row.take o++(xs++row.drop (o+xs.length)))) (H0:=[(b0,.cells (ch cs (i*k+o) zs) e (0,0))]) hb (gD X i o zs) (dB G i o zs.length Gx) fT.hl (by
      rw [List.length_set]
      exact ⟨eD fun a ha=>qg (by omega) (hX a ha),Or.inr ⟨_,_,_,rfl,rfl,by rw [kV];exact cG,dC,AY hX hi (by omega) ht bE⟩⟩) fT.hr
     rw [List.length_set] at this;exact this
    have R3:=((R2.drop.perm (Y:=([(b0,.cells (ch cs (i*k+o) zs) e (0,0))]++bB rows.length k (dB G i o zs.length Gx))++[]) (by rw [List.append_nil])).back (by rw [List.length_set];exact aI) (by simp [aH]) fJ).nil rfl
    rw [List.set_set] at R3
    refine ⟨β,_,I,R3,(Ext.refl β).b _,bR.refl _,fun q hq gQ=>?_,.d (.jk _)⟩
    simp only [List.mem_cons,not_or] at gQ
    simp only [aH];rw [if_neg gQ.1,if_neg gQ.1]
    exact yL q gQ.2
def w9 (T:aJ) (E:List (Nat×AV)) (M:List ai) (oc:Option aX) (t:TypeId) (x:Operand):Option Out:=
 match aF E x,oc,pw T t with
 | some (.ep u k i o),some (.ix _ row),some .one=>(match M[u]?,row[o]? with
  | some (.rw e k' rows),some (.em T2 k2 bA)=>bif k.beq k' then some ⟨[rows[i]?=some row],.sl M.length bA.length,M.set u (.rw e k (rows.set i (row.take o++([.jk]++row.drop (o+1)))))++[.rw T2 k2 bA],[u],[],none⟩ else none
  | _,_=>none)
 | _,_,_=>none
theorem GH (hT:bc P T=true) {t:TypeId} {x:Operand} (h:w9 T E M oc t x=some out):aG P ⟨d,.load t x,ty,pos,aft,gd⟩ E M out:=by
 unfold w9 at h
 split at h
 rotate_left
 ·simp at h
 rename_i u k i o i0 row hx jv
 split at h
 rotate_left
 ·simp at h
 rename_i e k' rows T2 k2 bA hM ib
 cases hk:k.beq k' with
 | false=>simp [hk] at h
 | true=>
  simp only [hk,cond_true,Option.some.injEq] at h;subst h
  obtain rfl:=Nat.eq_of_beq_eq_true hk
  intro D w0 K0 β F I ρ w C hv
  obtain ⟨bQ,-⟩:=hv
  obtain ⟨yx,ja,rx⟩:=C.bS hx
  have R:=C.rm.x
  have hB:=R.blk u _ hM
  have hH:=R.iD hM
  have R1:=R.fj hM
  have aI:=fe hM
  cases rx with
  | @ep _ _ _ _ b0 c0 hb=>
   generalize jc:F u=Fu at hB hH R1
   cases hB with
   | rw aS X G cN hs hr=>
    rw [hb] at aS;cases aS
    obtain ⟨hi,-⟩:=List.getElem?_eq_some_iff.1 bQ
    obtain ⟨ho,-⟩:=List.getElem?_eq_some_iff.1 ib
    obtain ⟨tM,tN⟩:=cN i row bQ
    obtain ⟨b',cap,cs,he,rfl,cG,dC,ht⟩:=hs.block (by omega)
    cases he
    have hw:=(Holds.app.1 hH).1.one
    have hX:∀ a,a<rows.length→(X a).length=k:=fun a ha=>(cN a _ (List.getElem?_eq_getElem ha)).2
    have yK:i*k+k≤rows.length*k:=by have:=Nat.mul_le_mul_right k (show i+1≤rows.length from hi);rw [Nat.succ_mul] at this;exact this
    have bE:rows.length*k≤cs.size:=by rw [cG];exact Nat.mul_le_mul_right _ dC
    obtain ⟨y,hy⟩:∃ y,(X i)[o]?=some y:=⟨_,List.getElem?_eq_getElem (by omega)⟩
    have hd:=hr i row o _ y bQ ib hy
    have JD:w.cell? ⟨b0,i*k+o,none⟩=some y:=by
     rw [cell_of hw,← hy,← jV hX hi (by omega),← ht,List.getElem?_take,if_pos (by omega),Array.getElem?_toList]
    refine aY.pure (Bs (u9 hT jv) ja JD) ?_
    have ra:dz (fun w=>K0 w∧Holds w I) k rows X G:=⟨cN,hr⟩
    have fT:=ra.put (o:=o) (zs:=[y]) (xs:=[.jk]) (Gx:=fun _=>[]) bQ (by simp;omega) rfl (fun j c z h1 h2=>by
     cases j with
     | zero=>simp at h1;subst h1;exact .jk _
     | succ j=>simp at h1)
    have jH:=sc (n:=rows.length) (k:=k) (i:=i) (o:=o) (m:=1) hi (by omega) G (fun _=>[])
    have dF:(List.range 1).flatMap (fun _=>([]:al))=[]:=by simp
    have xa:(List.range' o 1).flatMap (G i)=G i o:=by simp
    rw [dF,xa,List.append_nil] at jH
    have R2:=R1.perm (Y:=([(b0,.cells cs e (0,0))]++bB rows.length k (dB G i o 1 fun _=>[]))++G i o) (by
     classical
     have hc:=List.perm_iff_count.1 jH
     rw [List.perm_iff_count];intro z
     have:=hc z
     simp only [List.count_append,List.count_nil] at this ⊢
     omega)
    have wb:lay rows.length (gD X i o [y])=lay rows.length X:=by
     refine so fun a ha=>?_
     unfold gD;split
     ·rename_i e;subst e
      apply List.ext_getElem?;intro j
      rw [mc (by simp;omega)]
      split
      ·rename_i h1;simp at h1
       obtain rfl:j=o:=by omega
       rw [hy];simp
      ·rfl
     ·rfl
    have fJ:bq (fun w=>K0 w∧Holds w I) β u (.rw e k (rows.set i (row.take o++([.jk]++row.drop (o+1))))) ([(b0,.cells cs e (0,0))]++bB rows.length k (dB G i o 1 fun _=>[])):=by
     have:=bq.rw (K:=fun w=>K0 w∧Holds w I) (u:=u) (T:=e) (k:=k) (rows:=rows.set i (row.take o++([.jk]++row.drop (o+1)))) (H0:=[(b0,.cells cs e (0,0))]) hb (gD X i o [y]) (dB G i o 1 fun _=>[]) fT.hl (by
      rw [List.length_set,wb]
      exact ⟨eD hX,Or.inr ⟨_,_,_,rfl,rfl,cG,dC,ht⟩⟩) fT.hr
     rw [List.length_set] at this;exact this
    have R3:=R2.back (by rw [List.length_set];exact aI) (by simp [aH]) fJ
    rw [List.set_set] at R3
    have tQ:(M.set u (ai.rw e k (rows.set i (row.take o++([.jk]++row.drop (o+1)))))).length=M.length:=by rw [List.length_set]
    generalize G i o=Nt at hd R3
    cases hd with
    | em X2 F2 kP jw jd=>
     obtain ⟨a2,c2,rfl⟩:=jw.len
     have hq:(β++[(a2,c2)])[M.length]?=some (a2,c2):=by rw [← R.len];simp
     have fN:=bq.rw (K:=fun w=>K0 w∧Holds w I) (T:=T2) (k:=k2) (rows:=bA) hq X2 F2 kP jw jd
     rw [← tQ] at fN
     have R4:=((R3.perm (Y:=_++[]) (by rw [List.append_nil])).take fN).nil rfl
     rw [tQ] at R4
     refine ⟨_,_,I,R4,(Ext.app _ _).b _,bR.refl _,fun q pA gQ=>?_,.sl hq⟩
     have kd:q≠u:=by simpa using gQ
     simp only [aH]
     rw [if_neg (by omega),if_neg kd,if_neg kd]
def xb (T:aJ) (E:List (Nat×AV)) (M:List ai) (oc:Option aX) (st:TypeId) (x y:Operand):Option Out:=
 match jb T st,aF E x,aF E y,oc with
 | some (_,k,_,_),some (.sl u n),some vy,some (.n c)=>(match M[u]?,pe M k vy with
  | some (.rw e' k' rows),some (none,_,bA)=>bif k.beq k' then some ⟨[n=rows.length,min bA.length n=c,bd bA],.d (.v (.int .i64 (c:Int))),M.set u (.rw e' k (bA.take c++rows.drop c)),[u],[],none⟩ else none
  | _,_=>none)
 | _,_,_,_=>none
theorem dz.take {K:World→Prop} {k c:Nat} {rows:List (List DV)} {X:Nat→List Value} {G:Nat→Nat→al} (h:dz K k rows X G):dz K k (rows.take c) X G:=by
 constructor
 ·intro i r hi
  rw [List.getElem?_take] at hi
  split at hi
  ·exact h.hl i r hi
  ·simp at hi
 ·intro i r j c' x hi
  rw [List.getElem?_take] at hi
  split at hi
  ·exact h.hr i r j c' x hi
  ·simp at hi
theorem dz.drop {K:World→Prop} {k c:Nat} {rows:List (List DV)} {X:Nat→List Value} {G:Nat→Nat→al} (h:dz K k rows X G):dz K k (rows.drop c) (fun i=>X (c+i)) (fun i=>G (c+i)):=by
 constructor
 ·intro i r hi;rw [List.getElem?_drop] at hi;exact h.hl _ r hi
 ·intro i r j c' x hi;rw [List.getElem?_drop] at hi;exact h.hr _ r j c' x hi
theorem oC {n c k:Nat} {X:Nat→List Value} (hX:∀ a,a<n→(X a).length=k) (hc:c≤n):lay c X=(lay n X).take (c*k):=by
 have h1:=oJ c (n-c) X (fun i=>X (c+i))
 rw [show c+(n-c)=n by omega] at h1
 have h2:lay n (fun i=>if i<c then X i else X (c+(i-c)))=lay n X:=so fun i hi=>by
  split
  ·rfl
  ·congr 1;omega
 rw [h2] at h1
 rw [h1,List.take_append_of_le_length (by rw [eD fun a ha=>hX a (by omega)];exact Nat.le_refl _),List.take_of_length_le (by rw [eD fun a ha=>hX a (by omega)];exact Nat.le_refl _)]
theorem uU {n c k:Nat} {X:Nat→List Value} (hX:∀ a,a<n→(X a).length=k) (hc:c≤n):lay (n-c) (fun i=>X (c+i))=(lay n X).drop (c*k):=by
 have h1:=oJ c (n-c) X (fun i=>X (c+i))
 rw [show c+(n-c)=n by omega] at h1
 have h2:lay n (fun i=>if i<c then X i else X (c+(i-c)))=lay n X:=so fun i hi=>by
  split
  ·rfl
  ·congr 1;omega
 rw [h2] at h1
 have hl:=eD (n:=c) (k:=k) (X:=X) (fun a ha=>hX a (by omega))
 rw [h1,List.drop_append_of_le_length (by omega),List.drop_of_length_le (by omega),List.nil_append]
theorem rT {n c k:Nat} (G:Nat→Nat→al) (hc:c≤n):bB n k G=bB c k G++bB (n-c) k (fun i=>G (c+i)):=by
 have h1:=qf c (n-c) k G (fun i=>G (c+i))
 rw [show c+(n-c)=n by omega] at h1
 rw [← h1]
 simp only [bB]
 refine fu fun i hi=>fu fun j _=>?_
 show G i j=(if i<c then G i else G (c+(i-c))) j
 split
 ·rfl
 ·congr 2;omega
theorem En (cs:Array Value) (zs:List Value) (h:zs.length≤cs.size):(ch cs 0 zs).toList=zs++cs.toList.drop zs.length:=by
 apply List.ext_getElem?
 intro p
 rw [Array.getElem?_toList,oz _ _ _ _ (by omega)]
 by_cases hp:p<zs.length
 ·rw [if_pos (by omega),List.getElem?_append_left hp,Nat.sub_zero]
 ·rw [if_neg (by omega),List.getElem?_append_right (by omega),List.getElem?_drop,Array.getElem?_toList]
  congr 1;omega
theorem Src.pre {size:Nat} {x:Value} {m c:Nat} {X:List Value} (h:Src w size x m X) (hc:c≤m):(Builtin.lenOf x).run P w=.ok m w∧(Builtin.firstCells size c x).run P w=.ok (X.take (c*size)).toArray w:=by
 obtain ⟨hl,hh⟩:=h
 refine ⟨(Src.first (P:=P) ⟨hl,hh⟩).1,?_⟩
 rcases hh with ⟨rfl,a,c',rfl⟩ | ⟨a,c',rfl,h⟩
 ·obtain rfl:c=0:=by omega
  have:X=[]:=List.eq_nil_of_length_eq_zero (by simpa using hl)
  subst this
  cases a with
  | none=>simp [Builtin.firstCells]
  | some a=>simp [Builtin.firstCells,loadCells,loadCellsFrom]
 ·have hlen:(X.take (c*size)).length=c*size:=by rw [List.length_take,hl];exact Nat.min_eq_left (Nat.mul_le_mul_right _ hc)
  simp only [Builtin.firstCells]
  have:=run_loadCells (P:=P) (w:=w) (a:=a) (X:=X.take (c*size)) (fun j hj=>by
   rw [h j (by simp at hj;omega),List.getElem_take])
  rw [hlen] at this;exact this
theorem GI (hT:bc P T=true) {st xt:TypeId} {x y:Operand} (h:xb T E M oc st x y=some out):aG P ⟨d,.call ⟨.builtin .copy,#[x,y],#[st,xt]⟩,ty,pos,aft,gd⟩ E M out:=by
 unfold xb at h
 split at h
 rotate_left
 ·simp at h
 rename_i e k b z u n vy c he hx hy
 obtain ⟨zv,ok,-,-⟩:=kt hT he
 split at h
 rotate_left
 ·simp at h
 rename_i e' k' rows m bA hM hs
 cases hk:k.beq k' with
 | false=>simp [hk] at h
 | true=>
  simp only [hk,cond_true,Option.some.injEq] at h;subst h
  obtain rfl:=Nat.eq_of_beq_eq_true hk
  obtain ⟨ri,hm⟩:=uH hs
  intro D w0 K0 β F I ρ w C hv
  obtain ⟨hn,mG,dF,-⟩:=hv
  subst hn
  obtain ⟨X2,a2,gB⟩:=uS C.now ri (C.ev hy)
  have nZ:c≤bA.length:=by omega
  have lK:c≤rows.length:=by omega
  have bE:∀ w:World,(sizeOf e).run P w=.ok k w:=fun w=>by obtain ⟨i,hi,h1,-⟩:=ok.info;simp [sizeOf,typeInfo,Sem.run_bind,hi,h1]
  obtain ⟨hlen,oP⟩:=gB.pre (P:=P) nZ
  have yN:∀ a,a<bA.length→(X2 a).length=k:=fun a ha=>(a2.hl a _ (List.getElem?_eq_getElem ha)).2
  rw [← oC yN nZ] at oP
  have Dh:(lay c X2).length=c*k:=eD fun a ha=>yN a (by omega)
  have xc:∀ q ∈ lay c X2,bW q=true:=fun q hq=>a2.one dF q (by rw [oC yN nZ] at hq;exact List.mem_of_mem_take hq)
  obtain ⟨yx,ja,rx⟩:=C.bS hx
  cases rx with
  | @sl _ _ c0 q0 hb=>
   have R:=C.rm.x
   have hB:=R.blk u _ hM
   have hH:=R.iD hM
   have R1:=R.fj hM
   have aI:=fe hM
   generalize jc:F u=Fu at hB hH R1
   cases hB with
   | rw aS X G cN hs hr=>
    rw [hb] at aS;cases aS
    have hX:∀ a,a<rows.length→(X a).length=k:=fun a ha=>(cN a _ (List.getElem?_eq_getElem ha)).2
    have eJ:(bA.take c++rows.drop c).length=rows.length:=by simp;omega
    have ra:dz (fun w=>K0 w∧Holds w I) k rows X G:=⟨cN,hr⟩
    have Nu:min c bA.length=c:=by omega
    have fT:=(a2.take (c:=c)).app (ra.drop (c:=c))
    rw [List.length_take,Nu] at fT
    have nC:∀ (a0:Option Addr) (c0:Nat) w',ρ x=.slice a0 rows.length c0→(∀ a:Addr,a0=some a→(storeCells a (lay c X2)).run P w=.ok () w')→(a0=none→w'=w)→(execOp ρ ⟨d,.call ⟨.builtin .copy,#[x,y],#[st,xt]⟩,ty,pos,aft,gd⟩).run P w=.ok (.value (.int .i64 (c:Int))) w':=by
     intro a0 c0 w' ja br jy
     have xd:Nat.min bA.length rows.length=c:=mG
     simp only [execOp,resolve,List.map_toArray,List.map,ja,Sem.run_bind,Sem.run_pure,Result.andThen_ok,invoke,builtin,Builtin.copy_,List.getElem?_toArray,List.getElem?_cons_zero,List.getElem?_cons_succ,run_underlying ok.br,hlen,xd,bE,oP]
     cases a0 with
     | some a=>simp only [Sem.run_bind,br _ rfl,Result.andThen_ok,Sem.run_pure];rfl
     | none=>rw [jy rfl];simp only [Sem.run_pure,Result.andThen_ok];rfl
    have fk:∀ {w':World} {H0':al},St D w0 w' (H0'++(bB rows.length k G++((List.range (M.set u .dead).length).flatMap (aH F u [])++I)))→(∀ a0 c0,β[u]?=some (a0,c0)→ei e' k (.slice a0 rows.length c0) rows.length (lay c X2++(lay rows.length X).drop (c*k)) H0')→∃ ay F' I',RM D w0 K0 (M.set u (.rw e' k (bA.take c++rows.drop c))) ay F' I' w'∧gv [] β ay∧bR I I'∧(∀ v,v<M.length→v ∉ [u]→F' v=F v)∧ax (fun w=>K0 w∧Holds w I') ay (.d (.v (.int .i64 (c:Int)))) (.int .i64 (c:Int)):=by
     intro w' H0' br dY
     rw [rT G lK] at br
     have R2:bK D w0 K0 (M.set u .dead) β (aH F u []) I ((H0'++bB (rows.length-c) k (fun i=>G (c+i)))++bB c k G) w':=R1.move (br.perm (by classical rw [List.perm_iff_count];intro z;simp only [List.count_append];omega))
     have fJ:bq (fun w=>K0 w∧Holds w I) β u (.rw e' k (bA.take c++rows.drop c)) (H0'++bB (rows.length-c) k (fun i=>G (c+i))):=by
      have mF:lay rows.length (fun i=>if i<c then X2 i else X (c+(i-c)))=lay c X2++(lay rows.length X).drop (c*k):=by
       have:=oJ c (rows.length-c) X2 (fun i=>X (c+i))
       rw [show c+(rows.length-c)=rows.length by omega,uU hX lK] at this
       exact this
      have KV:bB rows.length k (fun i=>if i<c then (fun _=>[]) else G (c+(i-c)))=bB (rows.length-c) k (fun i=>G (c+i)):=by
       have:=qf c (rows.length-c) k (fun _ _=>[]) (fun i=>G (c+i))
       rw [show c+(rows.length-c)=rows.length by omega,kZ,List.nil_append] at this
       exact this
      have:=bq.rw (K:=fun w=>K0 w∧Holds w I) (u:=u) (T:=e') (k:=k) (rows:=bA.take c++rows.drop c) (H0:=H0') hb _ _ fT.hl (by
       rw [eJ,mF];exact dY _ _ hb) fT.hr
      rw [eJ,KV] at this;exact this
     have R3:=((R2.drop.perm (Y:=(H0'++bB (rows.length-c) k (fun i=>G (c+i)))++[]) (by rw [List.append_nil])).back (by rw [List.length_set];exact aI) (by simp [aH]) fJ).nil rfl
     rw [List.set_set] at R3
     refine ⟨β,_,I,R3,(Ext.refl β).b _,bR.refl _,fun q hq gQ=>?_,.d (.v _)⟩
     have kd:q≠u:=by simpa using gQ
     simp only [aH];rw [if_neg kd,if_neg kd]
    have CF:=R1.st
    rcases hs.2 with ⟨h0,rfl,a,Di⟩ | ⟨b',cap,cs,Dj,rfl,cG,dC,ht⟩
    ·have yB:c=0:=by omega
     simp only [Value.slice.injEq] at Di
     obtain ⟨-,-,rfl⟩:=Di
     have q9:lay c X2=[]:=by subst yB;simp [lay]
     refine aY.pure (nC _ _ w ja (fun a _=>by rw [q9];simp [storeCells]) (fun _=>rfl)) (fk (H0':=[]) (CF.perm (by classical rw [List.perm_iff_count];intro z;simp only [List.count_append,List.count_nil];omega)) fun a0 c0 eK=>?_)
     rw [hb] at eK;cases eK
     have:lay rows.length X=[]:=by rw [h0];simp [lay]
     rw [q9,this,List.drop_nil,List.append_nil]
     rw [h0];exact ei.nil _ _ _
    ·simp only [Value.slice.injEq] at Dj
     obtain ⟨rfl,-,rfl⟩:=Dj
     have hw:=(Holds.app.1 hH).1.one
     have Nv:c*k≤rows.length*k:=Nat.mul_le_mul_right _ lK
     have ti:rows.length*k≤cs.size:=by rw [cG];exact Nat.mul_le_mul_right _ dC
     have Bu:=ou (P:=P) (lay c X2) w cs 0 0 hw (by omega) xc
     rw [Nat.add_zero] at Bu
     refine aY.pure (nC _ _ _ ja (fun a ha=>by simp only [Option.some.injEq] at ha;subst ha;exact Bu) (fun jy=>by simp at jy)) (fk (H0':=[(b',.cells (ch cs 0 (lay c X2)) e' (0,0))]) ?_ fun a0 c0 eK=>?_)
     ·have lr:St D w0 w ((b',.cells cs e' (0,0))::(bB rows.length k G++((List.range (M.set u .dead).length).flatMap (aH F u [])++I))):=CF.perm (by classical rw [List.perm_iff_count];intro z;simp only [List.count_append,List.count_cons,List.cons_append,List.nil_append];omega)
      exact lr.set _
     ·rw [hb] at eK;cases eK
      refine ⟨by rw [List.length_append,List.length_drop,Dh,eD hX];omega,Or.inr ⟨b',_,_,rfl,rfl,by rw [kV];exact cG,dC,?_⟩⟩
      rw [En cs _ (by omega),List.take_append,Dh,List.take_of_length_le (by omega),← ht,List.drop_take]
def wc (T:aJ) (E:List (Nat×AV)) (M:List ai) (oc:Option aX) (t:TypeId) (x y:Operand):Option Out:=
 match jb T t,cP (aF E x),cP (aF E y),oc with
 | some (e,k,b,z),some (.i64,n),some (.i64,n'),some (.n2 m c)=>some ⟨[n=(m:Int),n'=(c:Int),m≤c,b*c≤281474976710656,c<4611686018427387904],.sl M.length m,M++[.rw e k (List.replicate m (z.map .v))],[],[],none⟩
 | _,_,_,_=>none
set_option maxRecDepth 20000 in
theorem D8 {t e k b:Nat} {z:List Value} {zv:Value} (ok:oY P t e k b zv) (hz:zv.cells=z.toArray) (e5:z.length=k) {m c:Nat} (mW:m≤c) (hb:b*c≤281474976710656) (hm:c<4611686018427387904):
  (Instr.makeSlice t (.int .i64 m) (.int .i64 c)).run P w=.ok (.slice (some ⟨w.heap.size,0,none⟩) m c) (w.alloc (.cells (lay c fun _=>z).toArray e)):=by
 obtain ⟨i,hi,h1,h2,h3⟩:=ok.info
 have hw:∀ m:Nat,m<4611686018427387904→IntKind.i64.wrap (m:Int)=m:=by
  intro m hm;simp [IntKind.wrap,IntKind.signed,IntKind.bits];omega
 have bE:∀ w:World,(sizeOf e).run P w=.ok k w:=fun w=>by simp [sizeOf,typeInfo,Sem.run_bind,hi,h1]
 have kv:∀ w:World,(typeInfo e).run P w=.ok i w:=fun w=>by simp [typeInfo,Sem.run_bind,hi]
 have hzero:∀ w:World,(zeroValue e).run P w=.ok zv w:=fun w=>by simp [zeroValue,Sem.run_bind,kv,h3]
 have qQ:∀ (k:Nat) (w:World),(askRoom k).run P w=.ok () w:=by
  intro k w;unfold askRoom;split<;>simp [mark,Sem.run]
 have yA:∀ n:Int,asInt (.int .i64 n)=pure n:=fun n=>rfl
 have bQ:∀ (cs:Array Value) (w:World),(newRow e cs).run P w=.ok ⟨w.heap.size,0,none⟩ (w.alloc (.cells cs e)):=by
  intro cs w;simp [newRow,newObj,Sem.run]
 have Db:∀ m:Nat,b*m≤281474976710656→¬ ((i.bytes:Int)*(m:Int)>2 ^ 48):=by
  intro m hb
  rw [h2]
  have e:((b*m:Nat):Int)=(b:Int)*(m:Int):=Int.natCast_mul b m
  rw [← e]
  generalize b*m=q at hb
  omega
 have vZ:∀ n,n=c*k→(if n=0 then ((Array.range n).map fun i=>(#[]:Array Value)[i%(#[]:Array Value).size]!) else ((Array.range n).map fun i=>z.toArray[i%z.toArray.size]!))=(lay c fun _=>z).toArray:=by
  intro n hn
  subst hn
  rw [← sa z c k e5]
  by_cases h0:c*k=0
  ·rw [if_pos h0,h0];simp
  ·rw [if_neg h0]
 unfold Instr.makeSlice
 simp only [Sem.run_bind,run_underlying ok.br,Result.andThen_ok,yA,Sem.run_pure,kv,hw c hm,hw m (by omega)]
 have n2:=Db c hb
 have wV:¬ ((((m:Int)<0:Bool)||decide ((i.bytes:Int)*(c:Int)>2 ^ 48))=true∨(m:Int)<0∨(m:Int)>c):=by
  simp only [Bool.or_eq_true,decide_eq_true_eq]
  omega
 rw [if_neg (by simpa using wV)]
 simp only [Sem.run_bind,Result.andThen_ok,qQ,bE,Int.toNat_natCast]
 have:=vZ (c*k) rfl
 by_cases h0:c*k=0
 ·rw [if_pos h0] at this ⊢
  simp only [Sem.run_pure,Result.andThen_ok,Sem.run_bind,bQ,this]
 ·rw [if_neg h0] at this ⊢
  simp only [Sem.run_pure,Result.andThen_ok,Sem.run_bind,hzero,hz,bQ,this]
theorem Fx (hT:bc P T=true) {t:TypeId} {x y:Operand} (h:wc T E M oc t x y=some out):aG P ⟨d,.makeSlice t x y,ty,pos,aft,gd⟩ E M out:=by
 unfold wc at h
 split at h
 ·rename_i e k b z n n' m c he hx hy
  simp only [Option.some.injEq] at h;subst h
  obtain ⟨zv,ok,hz,e5⟩:=kt hT he
  intro D w0 K0 β F I ρ w C hv
  obtain ⟨rfl,rfl,mW,hb,hm,-⟩:=hv
  refine aY.pure (v:=.slice (some ⟨w.heap.size,0,none⟩) m c) (w':=w.alloc (.cells (lay c fun _=>z).toArray e)) (by simp only [execOp,C.int hx,C.int hy,Sem.run_bind,D8 ok hz e5 mW hb hm,Result.andThen_ok,Sem.run_pure]) ?_
  have ik:=eD (n:=c) (k:=k) (X:=fun _=>z) (fun _ _=>e5)
  have Nw:=eD (n:=m) (k:=k) (X:=fun _=>z) (fun _ _=>e5)
  refine ⟨_,_,I,C.rm.new (q:=(some ⟨w.heap.size,0,none⟩,c)) (Gr.alloc w _) (dE.alloc w _) ?_,(Ext.app _ _).b _,bR.refl _,mb _ _,.sl (iO C.rm _)⟩
  have:=bq.rw (K:=fun w=>K0 w∧Holds w I) (β:=β++[(some ⟨w.heap.size,0,none⟩,c)]) (u:=M.length) (T:=e) (k:=k) (rows:=List.replicate m (z.map .v)) (H0:=[(w.heap.size,.cells (lay c fun _=>z).toArray e (0,0))]) (iO C.rm _) (fun _=>z) (fun _ _=>[]) (fun i r hi=>by
   rw [List.getElem?_replicate] at hi
   split at hi
   ·simp only [Option.some.injEq] at hi;subst hi;rw [List.length_map];exact ⟨e5,e5⟩
   ·simp at hi) (by
    rw [List.length_replicate]
    exact ⟨Nw,Or.inr ⟨w.heap.size,c,_,rfl,rfl,by simpa using ik,mW,(oC (n:=c) (k:=k) (X:=fun _=>z) (fun _ _=>e5) mW).symm⟩⟩) (fun i r j c x hi h1 h2=>by
    rw [List.getElem?_replicate] at hi
    split at hi
    ·simp only [Option.some.injEq] at hi;subst hi;exact uy h1 h2
    ·simp at hi)
  rw [kZ,List.append_nil] at this
  exact this
 ·simp at h
end Go.Proofs.YtcnpikbbmbombaaGreatDoor
namespace Go.Proofs.YtcnpikbbmbombaaGreatDoor
open Go.RowKit
variable {P:Program} {T:aJ} {D:List Nat} {w0:World} {K0:World→Prop} {E:List (Nat×AV)} {M:List ai} {β:Beta} {F:Nat→al} {I X:al} {ρ:Operand→Value} {w:World}
variable {d:Option Tmp} {ty:TypeId} {pos:String} {aft:Array Edge} {gd:Option (Nat×Bool)} {oc:Option aX} {out:Out}
theorem nt {t e size n c l h m:Nat} {a:Option Addr} (ht:P.underlying t=some (.slice e)) (hs:(P.info? e).map (·.size)=some size) {vl vh vm:Option Value} (hb:(Instr.sliceBounds true n c vl vh vm).run P w=.ok (l,h,m) w):
  (Instr.sliceAt t (.slice a n c) vl vh vm).run P w=.ok (.slice (if m=l then a else a.map (·.add (l*size))) (h-l) (m-l)) w:=by
 cases hi:P.info? e with
 | none=>simp [hi] at hs
 | some inf=>
  simp only [hi,Option.map_some,Option.some.injEq] at hs
  have bE:(sizeOf e).run P w=.ok size w:=by simp [sizeOf,typeInfo,Sem.run_bind,hi,hs]
  simp only [Instr.sliceAt,Instr.slice,Sem.run_bind,run_underlying ht,Result.andThen_ok,hb,bE,Sem.run_pure]
def yO (T:aJ) (E:List (Nat×AV)) (M:List ai) (oc:Option aX) (t:TypeId) (x:Operand) (lo hi mx:Option Operand):Option Out:=
 match df T t,aF E x,oc with
 | some (.sl e),some (.sl u n),some o=>(match fI T e,M[u]? with
  | some k,some (.rw Te k' rows)=>(match lo,hi,mx,o with
   | some l,none,none,.n c=>(match cP (aF E l) with
    | some (.i64,z)=>bif k.beq k' then some ⟨[z=(c:Int),c<n,n=rows.length],.sb u k c (n-c),M,[],[],some [u]⟩ else none
    | _=>none)
   | none,some h,none,.n c=>(match cP (aF E h) with
    | some (.i64,z)=>some ⟨[z=(c:Int),c≤n,n=rows.length],.sl u c,M.set u (.rw Te k' (rows.take c)),[u],[],none⟩
    | _=>none)
   | none,some h,some m,.res (.ro k2 bA)=>(match cP (aF E h),cP (aF E m) with
    | some (.i64,z),some (.i64,z')=>some ⟨[z=(n:Int),z'=(n:Int),n=rows.length,k'=k2,cb rows=bA],.d (.ro k2 bA),M.set u .dead,[u],[],none⟩
    | _,_=>none)
   | _,_,_,_=>none)
  | _,_=>none)
 | _,_,_=>none
theorem Src.cap {size n c c':Nat} {a:Option Addr} {xs:List Value} (h:Src w size (.slice a n c) n xs):Src w size (.slice a n c') n xs:=by
 refine ⟨h.1,?_⟩
 rcases h.2 with ⟨rfl,_,_,_⟩ | ⟨a',_,e,h2⟩
 ·exact Or.inl ⟨rfl,_,_,rfl⟩
 ·simp only [Value.slice.injEq] at e;obtain ⟨rfl,-,rfl⟩:=e
  exact Or.inr ⟨a',c',rfl,h2⟩
theorem bP.cap {K:World→Prop} {k n c c':Nat} {a:Option Addr} {rows:List (List DV)} {H:al} (h:bP K (.ro k rows) (.slice a n c) H) (hc:n≤c'):bP K (.ro k rows) (.slice a n c') H:=by
 cases h with
 | ro X hl hy hs hr=>
  obtain ⟨a',Nx,e,-⟩:=hy
  simp only [Value.slice.injEq] at e;obtain ⟨rfl,rfl,rfl⟩:=e
  exact .ro X hl ⟨_,_,rfl,hc⟩ (fun w hw=>(hs w hw).cap) hr
theorem JE (hT:bc P T=true) {t:TypeId} {x:Operand} {lo hi mx:Option Operand} (h:yO T E M oc t x lo hi mx=some out):aG P ⟨d,.slice t x lo hi mx,ty,pos,aft,gd⟩ E M out:=by
 unfold yO at h
 split at h
 rotate_left
 ·simp at h
 rename_i e u n o ht hx
 split at h
 rotate_left
 ·simp at h
 rename_i k Te k' rows hk hM
 replace ht:=cV hT ht
 replace hk:=hC hT hk
 split at h
 ·rename_i l c
  split at h
  rotate_left
  ·simp at h
  rename_i z hz
  cases cf:k.beq k' with
  | false=>simp [cf] at h
  | true=>
   simp only [cf,cond_true,Option.some.injEq] at h;subst h
   obtain rfl:=Nat.eq_of_beq_eq_true cf
   refine aG.look ?_ (by simpa using fe hM)
   intro D w0 K0 β F I ρ w C hv
   obtain ⟨rfl,hc,hn,-⟩:=hv
   obtain ⟨y,hy,r⟩:=C.bS hx
   cases r with
   | @sl _ _ cc a hb=>
    obtain ⟨H,hF,hB,hH⟩:=C.rm.at hM
    cases hB with
    | rw aS X G hl hs hr=>
     rw [hb] at aS;cases aS
     obtain ⟨b',cap,cs,he,rfl,cG,dC,lL⟩:=hs.block (by omega)
     simp only [Value.slice.injEq] at he;obtain ⟨rfl,-,rfl⟩:=he
     refine ⟨_,ax.sb (k:=k) (o:=c) (n:=n-c) (c':=cc-c) hb,fun w' _=>?_⟩
     have:=nt (P:=P) (w:=w') (a:=some ⟨b',0,none⟩) ht hk (n:=n) (c:=cc) (l:=c) (h:=n) (m:=cc) (vl:=some (.int .i64 c)) (vh:=none) (vm:=none) (by simp [Instr.sliceBounds,iM (show c≤n by omega)])
     rw [if_neg (by omega)] at this
     simp only [execOp,hy,C.int hz,Option.map_some,Option.map_none,Sem.run_bind,this,Result.andThen_ok,Sem.run_pure,add_eq,Nat.zero_add]
 ·rename_i hh c
  split at h
  rotate_left
  ·simp at h
  rename_i z hz
  simp only [Option.some.injEq] at h;subst h
  intro D w0 K0 β F I ρ w C hv
  obtain ⟨rfl,hc,hn,-⟩:=hv
  obtain ⟨y,hy,r⟩:=C.bS hx
  cases r with
  | @sl _ _ cc a hb=>
   have R:=C.rm.x
   have hB:=R.blk u _ hM
   have R1:=R.fj hM
   have aI:=fe hM
   generalize jc:F u=Fu at hB R1
   cases hB with
   | @rw _ _ _ _ _ H0 aS X G hl hs hr=>
    rw [hb] at aS;cases aS
    have jM:n≤cc:=by
     rcases hs.2 with ⟨h0,-,a,hq⟩ | ⟨b',cap,cs,hq,-,-,dC,-⟩
     ·omega
     ·simp only [Value.slice.injEq] at hq;omega
    have gj:=nt (P:=P) (w:=w) (a:=a) ht hk (n:=n) (c:=cc) (l:=0) (h:=c) (m:=cc) (vl:=none) (vh:=some (.int .i64 c)) (vm:=none) (by simp [Instr.sliceBounds,iM (show c≤cc by omega)])
    have jx:(if cc=0 then a else a.map (·.add (0*k)))=a:=by
     split
     ·rfl
     ·cases a with
      | none=>rfl
      | some a=>simp [add_zero']
    rw [jx] at gj
    refine aY.pure (v:=.slice a c cc) (w':=w) (by simp only [execOp,hy,C.int hz,Option.map_some,Option.map_none,Sem.run_bind,gj,Result.andThen_ok,Sem.run_pure,Nat.sub_zero]) ?_
    have hX:∀ a,a<rows.length→(X a).length=k':=fun a ha=>(hl a _ (List.getElem?_eq_getElem ha)).2
    have gO:c≤rows.length:=by omega
    have hlen:(rows.take c).length=c:=by simp;omega
    have ra:dz (fun w=>K0 w∧Holds w I) k' rows X G:=⟨hl,hr⟩
    have dY:ei Te k' (.slice a c cc) c (lay c X) H0:=by
     refine ⟨eD fun i hi=>hX i (by omega),?_⟩
     rcases hs.2 with ⟨h0,e0,a',hq⟩ | ⟨b',cap,cs,hq,e0,h1,dC,lL⟩
     ·simp only [Value.slice.injEq] at hq
      obtain ⟨rfl,-,rfl⟩:=hq
      obtain rfl:c=0:=by omega
      exact Or.inl ⟨rfl,e0,_,rfl⟩
     ·simp only [Value.slice.injEq] at hq
      obtain ⟨rfl,-,rfl⟩:=hq
      refine Or.inr ⟨b',cc,cs,rfl,e0,h1,by omega,?_⟩
      rw [oC hX gO,← lL,List.take_take,Nat.min_eq_left (Nat.mul_le_mul_right _ gO)]
    have fJ:bq (fun w=>K0 w∧Holds w I) β u (.rw Te k' (rows.take c)) (H0++bB c k' G):=by
     have:=bq.rw (K:=fun w=>K0 w∧Holds w I) (u:=u) (T:=Te) (k:=k') (rows:=rows.take c) hb X G (ra.take (c:=c)).hl (by rw [hlen];exact dY) (ra.take (c:=c)).hr
     rw [hlen] at this;exact this
    rw [List.nil_append,rT G gO,← List.append_assoc] at R1
    have R3:=((R1.drop.perm (Y:=(H0++bB c k' G)++[]) (by rw [List.append_nil])).back (by rw [List.length_set];exact aI) (by simp [aH]) fJ).nil rfl
    rw [List.set_set] at R3
    refine ⟨β,_,I,R3,(Ext.refl β).b _,bR.refl _,fun q hq gQ=>?_,.sl hb⟩
    have kd:q≠u:=by simpa using gQ
    simp only [aH];rw [if_neg kd,if_neg kd]
 ·rename_i hh m k2 bA
  split at h
  rotate_left
  ·simp at h
  rename_i z z' hz jx
  simp only [Option.some.injEq] at h;subst h
  intro D w0 K0 β F I ρ w C hv
  obtain ⟨rfl,rfl,hn,rfl,rfl,-⟩:=hv
  obtain ⟨y,hy,r⟩:=C.bS hx
  cases r with
  | @sl _ _ cc a hb=>
   have R:=C.rm.x
   have hB:=R.blk u _ hM
   have R1:=R.fj hM
   generalize jc:F u=Fu at hB R1
   have hd:bP (fun w=>K0 w∧Holds w I) (.em Te k' rows) (.slice a n cc) Fu∧n≤cc:=by
    cases hB with
    | rw aS X G hl hs hr=>
     rw [hb] at aS;cases aS
     refine ⟨by rw [hn];exact .em X G hl hs hr,?_⟩
     rcases hs.2 with ⟨h0,-,a,hq⟩ | ⟨b',cap,cs,hq,-,-,dC,-⟩
     ·omega
     ·simp only [Value.slice.injEq] at hq;omega
   obtain ⟨hd,jM⟩:=hd
   have gj:=nt (P:=P) (w:=w) (a:=a) ht hk (n:=n) (c:=cc) (l:=0) (h:=n) (m:=n) (vl:=none) (vh:=some (.int .i64 n)) (vm:=some (.int .i64 n)) (by simp [Instr.sliceBounds,iM jM,iM (Nat.le_refl n)])
   have Ny:(if n=0 then a else a.map (·.add (0*k)))=a:=by
    split
    ·rfl
    ·cases a with
     | none=>rfl
     | some a=>simp [add_zero']
   rw [Ny] at gj
   refine aY.pure (v:=.slice a n n) (w':=w) (by simp only [execOp,hy,C.int hz,C.int jx,Option.map_some,Option.map_none,Sem.run_bind,gj,Result.andThen_ok,Sem.run_pure,Nat.sub_zero]) ?_
   rw [List.nil_append] at R1
   have R2:RM D w0 K0 (M.set u .dead) β (aH F u []) (Fu++I) w:=by
    refine ⟨R1.len,fun v bl hv=>(R1.blk v bl hv).mono (fun w hw=>⟨hw.1,(Holds.app.1 hw.2).2⟩) (Ext.refl _),?_⟩
    exact R1.st.perm (List.Perm.append_left _ List.perm_append_comm)
   refine ⟨β,_,_,R2,(Ext.refl β).b _,⟨_,rfl⟩,fun q _ hq=>by simp only [aH];rw [if_neg (by simpa using hq)],?_⟩
   have:=sn (K':=fun w=>K0 w∧Holds w (Fu++I)) hd fun w hw=>⟨⟨hw.1,(Holds.app.1 hw.2).2⟩,(Holds.app.1 hw.2).1⟩
   rw [eR] at this
   exact .d (this.cap (Nat.le_refl _))
 ·simp at h
def vg (T:aJ) (E:List (Nat×AV)) (M:List ai) (oc:Option aX) (t:TypeId) (x ix:Operand):Option Out:=
 match cP (aF E ix),df T t,aF E x,oc with
 | some (_,z),some (.sl e),some (.sb u k o n),some (.n i)=>(match fI T e,M[u]? with
  | some k',some (.rw _ _ rows)=>bif k.beq k' then some ⟨[z=(i:Int),i<n,o+n≤rows.length],.ep u k (o+i) 0,M,[],[],some []⟩ else none
  | _,_=>none)
 | _,_,_,_=>none
theorem EI (hT:bc P T=true) {t:TypeId} {x ix:Operand} (h:vg T E M oc t x ix=some out):aG P ⟨d,.indexAddr t x ix,ty,pos,aft,gd⟩ E M out:=by
 unfold vg at h
 split at h
 rotate_left
 ·simp at h
 rename_i kk z e u k o n i hz ht hx
 split at h
 rotate_left
 ·simp at h
 rename_i k' Tt k2 rows hk hM
 cases cf:k.beq k' with
 | false=>simp [cf] at h
 | true=>
  simp only [cf,cond_true,Option.some.injEq] at h;subst h
  obtain rfl:=Nat.eq_of_beq_eq_true cf
  replace ht:=cV hT ht
  replace hk:=hC hT hk
  refine aG.look ?_ (by simp)
  intro D w0 K0 β F I ρ w C dq
  obtain ⟨rfl,hi,C5,-⟩:=dq
  obtain ⟨y,hy,r⟩:=C.bS hx
  cases r with
  | sb hb=>
   refine ⟨_,?_,fun _ _=>r5 ht hk hy (C.int hz) (by omega) (by omega)⟩
   rw [add_eq]
   have:=ax.ep (K:=fun w=>K0 w∧Holds w I) (k:=k) (i:=o+i) (o:=0) hb
   rw [Nat.add_mul,Nat.add_zero] at this
   simpa using this
def we (T:aJ) (E:List (Nat×AV)) (M:List ai) (t:TypeId) (x:Operand):Option Out:=
 match jb T t,aF E x with
 | some (_,k,_,z),some (.sb u k' o n)=>(match M[u]? with
  | some (.rw Te k2 rows)=>bif k.beq k'&&k.beq k2&&z.all bW then some ⟨[0<n,o+n≤rows.length],.d (.v (.tuple #[])),M.set u (.rw Te k2 (rows.take o++(List.replicate n (z.map .v)++rows.drop (o+n)))),[u],[],none⟩ else none
  | _=>none)
 | _,_=>none
theorem Fy (cs:Array Value) (i:Nat) (zs:List Value) (h:i+zs.length≤cs.size):(ch cs i zs).toList=cs.toList.take i++(zs++cs.toList.drop (i+zs.length)):=by
 apply List.ext_getElem?;intro p
 rw [Array.getElem?_toList,oz _ _ _ _ h,mc (by simpa using h)]
 split
 ·rfl
 ·simp
theorem GJ {l z:List Value} {i n N:Nat} (hz:z.length=n) (h1:i+n≤N) (h2:N≤l.length):(l.take i++(z++l.drop (i+n))).take N=(l.take N).take i++(z++(l.take N).drop (i+n)):=by
 subst hz
 apply List.ext_getElem?;intro p
 rw [List.getElem?_take,mc (by omega),mc (by simp;omega),List.getElem?_take]
 by_cases hp:p<N
 ·rw [if_pos hp,if_pos hp]
 ·rw [if_neg hp,if_neg hp,if_neg (by omega)]
theorem GK {z:List Value} {zv:Value} (hz:zv.cells=z.toArray) (n:Nat):(Builtin.zeroCells zv.cells n).toList=lay n fun _=>z:=by
 rw [hz];unfold Builtin.zeroCells
 have:=sa z n z.length rfl
 simpa using this
theorem Fz (hT:bc P T=true) {t:TypeId} {x:Operand} (h:we T E M t x=some out):aG P ⟨d,.call ⟨.builtin .clear,#[x],#[t]⟩,ty,pos,aft,gd⟩ E M out:=by
 unfold we at h
 split at h
 rotate_left
 ·simp at h
 rename_i e k b z u k' o n he hx
 split at h
 rotate_left
 ·simp at h
 rename_i Te k2 rows hM
 cases hc:(k.beq k'&&k.beq k2&&z.all bW) with
 | false=>simp [hc] at h
 | true=>
  simp only [hc,cond_true,Option.some.injEq] at h;subst h
  simp only [Bool.and_eq_true] at hc
  obtain rfl:=Nat.eq_of_beq_eq_true hc.1.1
  obtain rfl:=Nat.eq_of_beq_eq_true hc.1.2
  obtain ⟨zv,ok,hz,e5⟩:=kt hT he
  intro D w0 K0 β F I ρ w C hv
  obtain ⟨nJ,tR,-⟩:=hv
  obtain ⟨y,hy,r⟩:=C.bS hx
  have hzero:∀ w:World,(zeroValue e).run P w=.ok zv w:=fun w=>by obtain ⟨i,hi,-,-,h3⟩:=ok.info;simp [zeroValue,typeInfo,Sem.run_bind,hi,h3]
  cases r with
  | @sb _ _ _ _ b0 c0 c1 hb=>
   have R:=C.rm.x
   have hB:=R.blk u _ hM
   have hH:=R.iD hM
   have R1:=R.fj hM
   have aI:=fe hM
   generalize jc:F u=Fu at hB hH R1
   cases hB with
   | rw aS X G hl hs hr=>
    rw [hb] at aS;cases aS
    obtain ⟨b',cap,cs,hq,rfl,cG,dC,lL⟩:=hs.block (by omega)
    simp only [Value.slice.injEq,Option.some.injEq,Addr.mk.injEq] at hq
    obtain ⟨⟨rfl,-⟩,-,rfl⟩:=hq
    have hw:=(Holds.app.1 hH).1.one
    have hX:∀ a,a<rows.length→(X a).length=k:=fun a ha=>(hl a _ (List.getElem?_eq_getElem ha)).2
    have yP:(lay n fun _=>z).length=n*k:=eD fun _ _=>e5
    have hmul:o*k+n*k≤rows.length*k:=by rw [← Nat.add_mul];exact Nat.mul_le_mul_right _ tR
    have bE:rows.length*k≤cs.size:=by rw [cG];exact Nat.mul_le_mul_right _ dC
    obtain ⟨n',rfl⟩:∃ n',n=n'+1:=⟨n-1,by omega⟩
    refine Gk (Z:=lay (n'+1) fun _=>z) ok.br (hzero w) hy hw (GK hz _) (by omega) (fun q hq=>?_) ?_
    ·simp only [lay,List.mem_flatMap] at hq
     obtain ⟨_,-,hq⟩:=hq
     exact List.all_eq_true.1 hc.2 q hq
    have ra:dz (fun w=>K0 w∧Holds w I) k rows X G:=⟨hl,hr⟩
    have rz:dz (fun w=>K0 w∧Holds w I) k (List.replicate (n'+1) (z.map DV.v)) (fun _=>z) (fun _ _=>[]):=⟨fun i r hi=>by
     rw [List.getElem?_replicate] at hi
     split at hi
     ·simp only [Option.some.injEq] at hi;subst hi;rw [List.length_map];exact ⟨e5,e5⟩
     ·simp at hi,fun i r j c x hi h1 h2=>by
     rw [List.getElem?_replicate] at hi
     split at hi
     ·simp only [Option.some.injEq] at hi;subst hi;exact uy h1 h2
     ·simp at hi⟩
    have fT:=(ra.take (c:=o)).app (rz.app (ra.drop (c:=o+(n'+1))))
    have ho:(rows.take o).length=o:=by simp;omega
    have eJ:(rows.take o++(List.replicate (n'+1) (z.map DV.v)++rows.drop (o+(n'+1)))).length=rows.length:=by simp;omega
    rw [ho,List.length_replicate] at fT
    have e1:=oJ o ((n'+1)+(rows.length-(o+(n'+1)))) X (fun i=>if i<n'+1 then z else X (o+(n'+1)+(i-(n'+1))))
    rw [oJ (n'+1) (rows.length-(o+(n'+1))) (fun _=>z) (fun i=>X (o+(n'+1)+i)),uU hX tR,show o+((n'+1)+(rows.length-(o+(n'+1))))=rows.length by omega] at e1
    have e2:=qf o ((n'+1)+(rows.length-(o+(n'+1)))) k G (fun i=>if i<n'+1 then (fun _=>[]) else G (o+(n'+1)+(i-(n'+1))))
    rw [qf (n'+1) (rows.length-(o+(n'+1))) k (fun _ _=>[]) (fun i=>G (o+(n'+1)+i)),kZ,List.nil_append,show o+((n'+1)+(rows.length-(o+(n'+1))))=rows.length by omega] at e2
    have e3:=rT (k:=k) G (show o+(n'+1)≤rows.length by omega)
    have e4:=rT (n:=o+(n'+1)) (k:=k) G (show o≤o+(n'+1) by omega)
    have br:=R1.st
    rw [e3,e4] at br
    have lr:St D w0 w ((b0,.cells cs Te (0,0))::((bB o k G++bB (rows.length-(o+(n'+1))) k fun i=>G (o+(n'+1)+i))++(((bB (o+(n'+1)-o) k fun i=>G (o+i)))++((List.range (M.set u .dead).length).flatMap (aH F u [])++I)))):=br.perm (by classical rw [List.perm_iff_count];intro z;simp only [List.count_append,List.count_cons,List.cons_append,List.nil_append];omega)
    have lu:=lr.set (.cells (ch cs (o*k) (lay (n'+1) fun _=>z)) Te (0,0))
    have R2:bK D w0 K0 (M.set u .dead) β (aH F u []) I (([(b0,.cells (ch cs (o*k) (lay (n'+1) fun _=>z)) Te (0,0))]++(bB o k G++bB (rows.length-(o+(n'+1))) k fun i=>G (o+(n'+1)+i)))++(bB (o+(n'+1)-o) k fun i=>G (o+i))) _:=R1.move (lu.perm (by classical rw [List.perm_iff_count];intro z;simp only [List.count_append,List.count_cons,List.cons_append,List.nil_append];omega))
    have fJ:bq (fun w=>K0 w∧Holds w I) β u (.rw Te k (rows.take o++(List.replicate (n'+1) (z.map DV.v)++rows.drop (o+(n'+1))))) ([(b0,.cells (ch cs (o*k) (lay (n'+1) fun _=>z)) Te (0,0))]++(bB o k G++bB (rows.length-(o+(n'+1))) k fun i=>G (o+(n'+1)+i))):=by
     have:=bq.rw (K:=fun w=>K0 w∧Holds w I) (u:=u) (T:=Te) (k:=k) (rows:=rows.take o++(List.replicate (n'+1) (z.map DV.v)++rows.drop (o+(n'+1)))) (H0:=[(b0,.cells (ch cs (o*k) (lay (n'+1) fun _=>z)) Te (0,0))]) hb _ _ fT.hl (by
      rw [eJ,e1]
      refine ⟨by rw [List.length_append,List.length_append,yP,List.length_drop,eD hX,eD (n:=o) fun a ha=>hX a (by omega),Nat.add_mul o];omega,Or.inr ⟨_,_,_,rfl,rfl,by rw [kV];exact cG,dC,?_⟩⟩
      rw [Fy _ _ _ (by omega),yP,GJ yP (by omega) (by simpa using bE),lL,oC (c:=o) hX (by omega),Nat.add_mul o]) fT.hr
     rw [eJ,e2] at this;exact this
    have R3:=((R2.drop.perm (Y:=([(b0,.cells (ch cs (o*k) (lay (n'+1) fun _=>z)) Te (0,0))]++(bB o k G++bB (rows.length-(o+(n'+1))) k fun i=>G (o+(n'+1)+i)))++[]) (by rw [List.append_nil])).back (by rw [List.length_set];exact aI) (by simp [aH]) fJ).nil rfl
    rw [List.set_set] at R3
    refine ⟨β,_,I,R3,(Ext.refl β).b _,bR.refl _,fun q hq gQ=>?_,.d (.v _)⟩
    have kd:q≠u:=by simpa using gQ
    simp only [aH];rw [if_neg kd,if_neg kd]
def xe (T:aJ) (E:List (Nat×AV)) (M:List ai) (oc:Option aX) (t:TypeId) (x ix:Operand):Option Out:=
 match df T t,jG (aF E x),cP (aF E ix),oc with
 | some .st,some l,some (_,z),some (.n i)=>(match l[i]? with | some b=>some (lk [z=(i:Int)] (.d (.v (.int .u8 (b.toNat:Int)))) M) | none=>none)
 | _,_,_,_=>none
theorem GL (hT:bc P T=true) {t:TypeId} {x ix:Operand} (h:xe T E M oc t x ix=some out):aG P ⟨d,.index t x ix,ty,pos,aft,gd⟩ E M out:=by
 unfold xe at h
 split at h
 ·rename_i l k z i hu hx hz
  split at h
  ·rename_i b hb
   simp only [Option.some.injEq] at h;subst h
   refine aG.same ?_
   intro D w0 K0 β F I ρ w C hv
   obtain ⟨rfl,-⟩:=hv
   refine ⟨_,fun w' _=>?_,.d (.v _)⟩
   have h1:=C.str hx
   have h2:=C.int hz
   have h3:=cV hT hu
   have h4:(⟨l.toArray⟩:ByteArray)[i]?=some b:=by
    obtain ⟨hi,rfl⟩:=List.getElem?_eq_some_iff.1 hb
    exact getElem?_pos (⟨l.toArray⟩:ByteArray) i (by show i<l.toArray.size;simpa using hi)
   simp [execOp,h1,h2,Instr.index,asIntOf,Sem.run_bind,run_underlying h3,h4]
  ·simp at h
 ·simp at h
def vi (T:aJ) (E:List (Nat×AV)) (M:List ai) (oc:Option aX) (t:TypeId) (x ix:Operand):Option Out:=
 match cP (aF E ix),df T t,aF E x,oc with
 | some (_,z),some (.ar n e),some (.ep u k j o),some (.n2 i _)=>(match fI T e with
  | some sz=>bif Nat.beq k 1&&Nat.beq o 0 then some (lk [z=(i:Int),i<n] (.ep u 1 (j+i*sz) 0) M) else none
  | none=>none)
 | _,_,_,_=>none
theorem EJ (hT:bc P T=true) {t:TypeId} {x ix:Operand} (h:vi T E M oc t x ix=some out):aG P ⟨d,.indexAddr t x ix,ty,pos,aft,gd⟩ E M out:=by
 unfold vi at h
 split at h
 rotate_left
 ·simp at h
 rename_i kk z n e u k j o i _ hz ht hx
 split at h
 rotate_left
 ·simp at h
 rename_i sz hk
 cases cf:(Nat.beq k 1&&Nat.beq o 0) with
 | false=>simp [cf] at h
 | true=>
  simp only [cf,cond_true,Option.some.injEq] at h;subst h
  simp only [Bool.and_eq_true] at cf
  obtain rfl:=Nat.eq_of_beq_eq_true cf.1
  obtain rfl:=Nat.eq_of_beq_eq_true cf.2
  replace ht:=cV hT ht
  replace hk:=hC hT hk
  refine aG.same fun C dq=>?_
  obtain ⟨rfl,hi,-⟩:=dq
  obtain ⟨y,hy,r⟩:=C.bS hx
  cases r with
  | ep hb=>
   refine ⟨_,fun _ _=>oy ht hk hy (C.int hz) (by omega) (by omega),?_⟩
   rw [add_eq,Int.toNat_natCast,show j*1+0+i*sz=(j+i*sz)*1+0 by omega]
   exact .ep hb
def nK:List ai→List Nat→List ai
 | M,[]=>M
 | M,u::r=>nK (M.set u .dead) r
theorem Ao:∀ (b:List Nat) (M:List ai),(nK M b).length=M.length
 | [],_=>rfl
 | u::r,M=>by rw [nK,Ao r,List.length_set]
theorem RM.die:∀ {b:List Nat} {M:List ai} {F:Nat→al} {I:al},RM D w0 K0 M β F I w→(∀ u ∈ b,u<M.length)→∃ F' I',RM D w0 K0 (nK M b) β F' I' w∧bR I I'∧(∀ w,Holds w I'→∀ u ∈ b,Holds w (F u))∧∀ u,u ∉ b→F' u=F u
 | [],M,F,I,R,_=>⟨F,I,R,bR.refl I,fun _ _ u hu=>by simp at hu,fun _ _=>rfl⟩
 | u::r,M,F,I,R,hb=>by
  have hu:=hb u (by simp)
  have R1:=R.x.fj (List.getElem?_eq_getElem hu)
  rw [List.nil_append] at R1
  have R2:RM D w0 K0 (M.set u .dead) β (aH F u []) (F u++I) w:=
   ⟨R1.len,fun v bl hv=>(R1.blk v bl hv).mono (fun w hw=>⟨hw.1,(Holds.app.1 hw.2).2⟩) (Ext.refl _),R1.st.perm (List.Perm.append_left _ List.perm_append_comm)⟩
  obtain ⟨F',I',R3,g,h1,h2⟩:=R2.die (b:=r) (fun v hv=>by rw [List.length_set];exact hb v (by simp [hv]))
  refine ⟨F',I',R3,(show bR I (F u++I) from ⟨F u,rfl⟩).trans g,fun w hw v hv=>?_,fun v hv=>?_⟩
  ·by_cases e:v=u
   ·subst e;exact (Holds.app.1 (g.holds w hw)).1
   ·have:=h1 w hw v ((List.mem_cons.1 hv).resolve_left e)
    simpa [aH,e] using this
  ·simp only [List.mem_cons,not_or] at hv
   rw [h2 v hv.2];simp only [aH];rw [if_neg hv.1]
def wg (P:Program) (E:List (Nat×AV)) (M:List ai) (oc:Option aX) (g:Operand) (args:Array Operand):Option Out:=
 match aF E g,kH E args.toList,oc with
 | some (.fn f cq),some l,some (.stay told x)=>(match ny M (l++cq) told with
  | some (vc,b)=>bif lj x&&nD M b then some ⟨aB P f told x::vc,(mV (nK M b) x).1,(mV (nK M b) x).2,b,[],none⟩ else none
  | none=>none)
 | _,_,_=>none
theorem FA {g:Operand} {args:Array Operand} {fp:Array TypeId} (h:wg P E M oc g args=some out):aG P ⟨d,.call ⟨.value g,args,fp⟩,ty,pos,aft,gd⟩ E M out:=by
 unfold wg at h
 split at h
 ·rename_i f cq l told x hg hl
  split at h
  ·rename_i vc b wT
   cases eI:(lj x&&nD M b) with
   | false=>simp [eI] at h
   | true=>
    simp only [eI,cond_true,Option.some.injEq] at h;subst h
    simp only [Bool.and_eq_true] at eI
    have hb:=uR eI.2
    intro D w0 K0 β F I ρ w C hv
    obtain ⟨gA,hv⟩:=hv
    obtain ⟨y,hy,r⟩:=C.bS hg
    cases r with
    | fn cs cQ gO=>
     obtain ⟨dP,kb⟩:=C.mU hl
     have ie:(args.toList.map ρ++cs).length=(l++cq).length:=by rw [List.length_append,List.length_append,dP,cQ]
     have nI:∀ (j:Nat) c y,(l++cq)[j]?=some c→(args.toList.map ρ++cs)[j]?=some y→ax (fun w=>K0 w∧Holds w I) β c y:=by
      intro j c y h1 h2
      rcases Nat.lt_or_ge j l.length with hj | hj
      ·rw [List.getElem?_append_left hj] at h1
       rw [List.getElem?_append_left (by omega)] at h2
       exact kb j c y h1 h2
      ·rw [List.getElem?_append_right hj] at h1
       rw [List.getElem?_append_right (by omega),dP] at h2
       exact gO _ c y h1 h2
     obtain ⟨F1,I1,R1,g1,br,rr⟩:=C.rm.die hb
     obtain ⟨e1,e2⟩:=uE C.rm (K':=iT K0 I1 F1 []) wT hv (fun w hw=>⟨⟨hw.1.1,g1.holds w hw.1.2⟩,br w hw.1.2⟩) ie nI
     have hm:args.map ρ=(args.toList.map ρ).toArray:=by rw [← Array.toList_map]
     refine pZ hy gA.1 hm ?_
     have lq:((args.toList.map ρ).toArray++cs.toArray:Array Value)=(args.toList.map ρ++cs).toArray:=by simp
     rw [lq]
     refine (gA.now R1 C.k (b:=[]) (by simp) e1 e2 (fun h=>absurd rfl h)).mono ?_
     rintro e w' ⟨v,rfl,I',X,R,hI,hd⟩
     refine ⟨v,rfl,?_⟩
     have R':bK D w0 K0 (nK M b) β F1 I' (X++[]) w':=by rw [List.append_nil];exact R
     obtain ⟨ay,F',R2,e,f2,-,a2⟩:=vW eI.1 R' hd
     exact ⟨ay,F',I',R2.nil rfl,e.b _,g1.trans hI,fun u hu yQ=>(f2 u (by rw [Ao];exact hu)).trans (rr u yQ),a2⟩
  ·simp at h
 ·simp at h
end Go.Proofs.YtcnpikbbmbombaaGreatDoor
namespace Go.Proofs.YtcnpikbbmbombaaGreatDoor
open Go.RowKit
variable {mk:Bool} {P:Program} {T:aJ} {f:FuncId} {w:World} {D:List Nat} {w0:World} {K0:World→Prop} {E:List (Nat×AV)} {M:List ai} {β:Beta} {F:Nat→al} {I X:al} {ρ:Operand→Value}
variable {d:Option Tmp} {ty:TypeId} {pos:String} {aft:Array Edge} {gd:Option (Nat×Bool)} {oc:Option aX} {out:Out}
def jo:List Nat→Nat→Option Nat
 | [],_=>none
 | k::r,u=>bif k.beq u then some 0 else (match jo r u with | some i=>some (i+1) | none=>none)
theorem kr:∀ {l:List Nat} {u i:Nat},jo l u=some i→l[i]?=some u
 | [],u,i,h=>by simp [jo] at h
 | k::r,u,i,h=>by
  unfold jo at h
  cases hk:k.beq u with
  | true=>simp only [hk,cond_true,Option.some.injEq] at h;subst h;simp [Nat.eq_of_beq_eq_true hk]
  | false=>
   simp only [hk,cond_false] at h
   split at h
   ·rename_i j hj;simp only [Option.some.injEq] at h;subst h;simpa using kr hj
   ·simp at h
def tp (l:List Nat):AV→Option AV
 | .d x=>some (.d x)
 | .sl u n=>(match jo l u with | some v=>some (.sl v n) | none=>none)
 | .pt u o=>(match jo l u with | some v=>some (.pt v o) | none=>none)
 | .mv u=>(match jo l u with | some v=>some (.mv v) | none=>none)
 | .yl u=>(match jo l u with | some v=>some (.yl v) | none=>none)
 | .sb u k o n=>(match jo l u with | some v=>some (.sb v k o n) | none=>none)
 | .ep u k i o=>(match jo l u with | some v=>some (.ep v k i o) | none=>none)
 | .sf u k o n q=>(match jo l u with | some v=>some (.sf v k o n q) | none=>none)
 | .rp r o=>some (.rp r o)
 | .bt bs=>some (.bt bs)
 | .uk=>some .uk
 | _=>none
def nE (l:List Nat):List AV→Option (List AV)
 | []=>some []
 | c::r=>(match tp l c,nE l r with | some c',some r'=>some (c'::r') | _,_=>none)
def qS (l:List Nat):AV→Option AV
 | .fn f cs=>(match nE l cs with | some bX=>some (.fn f bX) | none=>none)
 | .ag cs=>(match nE l cs with | some bX=>some (.ag bX) | none=>none)
 | .tu cs=>(match nE l cs with | some bX=>some (.tu bX) | none=>none)
 | c=>tp l c
def j5 (l:List Nat):List AV→Option (List AV)
 | []=>some []
 | c::r=>(match qS l c,j5 l r with | some c',some r'=>some (c'::r') | _,_=>none)
def qT (l:List Nat):List (Nat×AV)→Option (List (Nat×AV))
 | []=>some []
 | (t,c)::r=>(match qS l c,qT l r with | some c',some r'=>some ((t,c')::r') | _,_=>none)
def tr (l:List Nat):ai→Option ai
 | .bx T cs=>(match j5 l cs with | some bX=>some (.bx T bX) | none=>none)
 | .rw T k rows=>some (.rw T k rows)
 | .tw a c T k rows=>some (.tw a c T k rows)
 | .nm v b=>(match jo l v with | some i=>some (.nm i b) | none=>none)
 | .gw g row=>some (.gw g row)
 | .fl T k m cs=>(match j5 l cs with | some bX=>some (.fl T k m bX) | none=>none)
 | .mf _ _ _=>none
 | .il _ _ _ _=>none
 | .mp T c es=>some (.mp T c es)
 | .mu T c es=>some (.mu T c es)
 | .it (some v) a s c=>(match jo l v with | some i=>some (.it (some i) a s c) | none=>none)
 | .it none a s c=>some (.it none a s c)
 | .lp b f sz E rf=>(match qT l E with | some E'=>some (.lp b f sz E' rf) | none=>none)
 | .dead=>some .dead
def gk (l:List Nat) (M:List ai):List Nat→Option (List ai)
 | []=>some []
 | u::r=>(match M[u]? with
  | some b=>(match tr l b,gk l M r with | some b',some r'=>some (b'::r') | _,_=>none)
  | none=>none)
def tt (l:List Nat):AV→Option AV
 | .ag cs=>(match j5 l cs with | some bX=>some (.ag bX) | none=>none)
 | .tu cs=>(match j5 l cs with | some bX=>some (.tu bX) | none=>none)
 | c=>qS l c
def jq (l:List Nat) (E:List (Nat×AV)):List Nat→Option (List (Nat×AV))
 | []=>some []
 | t::r=>(match bZ E t with
  | some v=>(match tt l v,jq l E r with | some v',some r'=>some ((t,v')::r') | _,_=>none)
  | none=>none)
def fg (β:Beta):List Nat→Beta
 | []=>[]
 | u::r=>(match β[u]? with | some x=>x | none=>(none,0))::fg β r
theorem ft:∀ {l:List Nat} {i u:Nat} {x:Option Addr×Nat},l[i]?=some u→β[u]?=some x→(fg β l)[i]?=some x
 | [],i,u,x,h,_=>by simp at h
 | v::r,i,u,x,h,hx=>by
  cases i with
  | zero=>simp at h;subst h;simp [fg,hx]
  | succ i=>simp at h;simpa [fg] using ft h hx
theorem ui (β:Beta) (l:List Nat):(fg β l).length=l.length:=by induction l with | nil=>rfl | cons u r ih=>simp [fg,ih]
theorem AZ {K:World→Prop} {l:List Nat} {c c':AV} (h:tp l c=some c') {y:Value} (r:ax K β c y):ax K (fg β l) c' y:=by
 unfold tp at h
 split at h
 ·simp only [Option.some.injEq] at h;subst h;cases r with | d r=>exact .d r
 ·split at h
  ·rename_i hv;simp only [Option.some.injEq] at h;subst h;cases r with | sl hb=>exact .sl (ft (kr hv) hb)
  ·simp at h
 ·split at h
  ·rename_i hv;simp only [Option.some.injEq] at h;subst h;cases r with | pt hb=>exact .pt (ft (kr hv) hb)
  ·simp at h
 ·split at h
  ·rename_i hv;simp only [Option.some.injEq] at h;subst h;cases r with | mv hb=>exact .mv (ft (kr hv) hb)
  ·simp at h
 ·split at h
  ·rename_i hv;simp only [Option.some.injEq] at h;subst h;cases r with | yl hb=>exact .yl (ft (kr hv) hb)
  ·simp at h
 ·split at h
  ·rename_i hv;simp only [Option.some.injEq] at h;subst h;cases r with | sb hb=>exact .sb (ft (kr hv) hb)
  ·simp at h
 ·split at h
  ·rename_i hv;simp only [Option.some.injEq] at h;subst h;cases r with | ep hb=>exact .ep (ft (kr hv) hb)
  ·simp at h
 ·split at h
  ·rename_i hv;simp only [Option.some.injEq] at h;subst h;cases r with | sf hb h1 h2 h3=>exact .sf (ft (kr hv) hb) h1 h2 h3
  ·simp at h
 ·simp only [Option.some.injEq] at h;subst h;cases r with | rp a X hl hc hr=>exact .rp a X hl hc hr
 ·simp only [Option.some.injEq] at h;subst h;cases r with | bt hd hn=>exact .bt hd hn
 ·simp only [Option.some.injEq] at h;subst h;cases r with | uk hu=>exact .uk hu
 ·simp at h
theorem sd {K:World→Prop} {l:List Nat}:∀ {cs bX:List AV},nE l cs=some bX→bX.length=cs.length∧∀ {ys:List Value},(∀ (j:Nat) c y,cs[j]?=some c→ys[j]?=some y→ax K β c y)→∀ (j:Nat) c y,bX[j]?=some c→ys[j]?=some y→ax K (fg β l) c y
 | [],bX,h=>by simp only [nE,Option.some.injEq] at h;subst h;simp
 | c::r,bX,h=>by
  unfold nE at h
  split at h
  ·rename_i c1 r1 h1 h2
   simp only [Option.some.injEq] at h;subst h
   obtain ⟨e1,e2⟩:=sd (K:=K) h2
   refine ⟨by simp [e1],fun {ys} hr j d y h3 h4=>?_⟩
   cases ys with
   | nil=>simp at h4
   | cons z zs=>
    cases j with
    | zero=>simp at h3 h4;subst h3 h4;exact AZ h1 (hr 0 _ _ rfl rfl)
    | succ j=>simp at h3 h4;exact e2 (ys:=zs) (fun j c y h5 h6=>hr (j+1) c y (by simpa using h5) (by simpa using h6)) j d y h3 h4
  ·simp at h
theorem vj {K:World→Prop} {l:List Nat} {c c':AV} (h:qS l c=some c') {y:Value} (r:ax K β c y):ax K (fg β l) c' y:=by
 unfold qS at h
 split at h
 ·split at h
  ·rename_i hl;simp only [Option.some.injEq] at h;subst h
   cases r with | fn ys cN hr=>obtain ⟨e1,e2⟩:=sd (β:=β) (K:=K) hl;exact .fn ys (by omega) (e2 hr)
  ·simp at h
 ·split at h
  ·rename_i hl;simp only [Option.some.injEq] at h;subst h
   cases r with | ag ys cN hr=>obtain ⟨e1,e2⟩:=sd (β:=β) (K:=K) hl;exact .ag ys (by omega) (e2 hr)
  ·simp at h
 ·split at h
  ·rename_i hl;simp only [Option.some.injEq] at h;subst h
   cases r with | tu ys cN hr=>obtain ⟨e1,e2⟩:=sd (β:=β) (K:=K) hl;exact .tu ys (by omega) (e2 hr)
  ·simp at h
 ·exact AZ h r
theorem oD {K:World→Prop} {l:List Nat}:∀ {cs bX:List AV},j5 l cs=some bX→bX.length=cs.length∧∀ {ys:List Value},(∀ (j:Nat) c y,cs[j]?=some c→ys[j]?=some y→ax K β c y)→∀ (j:Nat) c y,bX[j]?=some c→ys[j]?=some y→ax K (fg β l) c y
 | [],bX,h=>by simp only [j5,Option.some.injEq] at h;subst h;simp
 | c::r,bX,h=>by
  unfold j5 at h
  split at h
  ·rename_i c1 r1 h1 h2
   simp only [Option.some.injEq] at h;subst h
   obtain ⟨e1,e2⟩:=oD (K:=K) h2
   refine ⟨by simp [e1],fun {ys} hr j d y h3 h4=>?_⟩
   cases ys with
   | nil=>simp at h4
   | cons z zs=>
    cases j with
    | zero=>simp at h3 h4;subst h3 h4;exact vj h1 (hr 0 _ _ rfl rfl)
    | succ j=>simp at h3 h4;exact e2 (ys:=zs) (fun j c y h5 h6=>hr (j+1) c y (by simpa using h5) (by simpa using h6)) j d y h3 h4
  ·simp at h
theorem A0 {K:World→Prop} {l:List Nat} {c c':AV} (h:tt l c=some c') {y:Value} (r:ax K β c y):ax K (fg β l) c' y:=by
 unfold tt at h
 split at h
 ·split at h
  ·rename_i hl;simp only [Option.some.injEq] at h;subst h
   cases r with | ag ys cN hr=>obtain ⟨e1,e2⟩:=oD (β:=β) (K:=K) hl;exact .ag ys (by omega) (e2 hr)
  ·simp at h
 ·split at h
  ·rename_i hl;simp only [Option.some.injEq] at h;subst h
   cases r with | tu ys cN hr=>obtain ⟨e1,e2⟩:=oD (β:=β) (K:=K) hl;exact .tu ys (by omega) (e2 hr)
  ·simp at h
 ·exact vj h r
theorem A2 {K:World→Prop} {l:List Nat} {g:Nat→Value}:∀ {E E':List (Nat×AV)},qT l E=some E'→(∀ x ∈ E,ax K β x.2 (g x.1))→∀ x ∈ E',ax K (fg β l) x.2 (g x.1)
 | [],E',h,_,x,hx=>by simp only [qT,Option.some.injEq] at h;subst h;cases hx
 | (t,c)::r,E',h,hr,x,hx=>by
  unfold qT at h
  split at h
  ·rename_i c1 r1 h1 h2
   simp only [Option.some.injEq] at h;subst h
   rcases List.mem_cons.1 hx with rfl | hx
   ·exact vj h1 (hr (t,c) List.mem_cons_self)
   ·exact A2 h2 (fun y hy=>hr y (List.mem_cons_of_mem _ hy)) x hx
  ·simp at h
theorem vk {K:World→Prop} {l:List Nat} {u i:Nat} {b b':ai} {H:al} (hi:l[i]?=some u) (h:tr l b=some b') (r:bq K β u b H):bq K (fg β l) i b' H:=by
 unfold tr at h
 split at h
 ·split at h
  ·rename_i hl;simp only [Option.some.injEq] at h;subst h
   cases r with
   | bx hb ys cN hr=>obtain ⟨e1,e2⟩:=oD (β:=β) (K:=K) hl;exact .bx (ft hi hb) ys (by omega) (e2 hr)
  ·simp at h
 ·simp only [Option.some.injEq] at h;subst h
  cases r with | rw hb X G hl hs hr=>exact .rw (ft hi hb) X G hl hs hr
 ·simp only [Option.some.injEq] at h;subst h
  cases r with | tw hb X G hl hs hr=>exact .tw (ft hi hb) X G hl hs hr
 ·split at h
  ·rename_i hv;simp only [Option.some.injEq] at h;subst h
   cases r with | nm hb=>exact .nm (ft (kr hv) hb)
  ·simp at h
 ·simp only [Option.some.injEq] at h;subst h
  cases r with | gw X hl hc hr=>exact .gw X hl hc hr
 ·split at h
  ·rename_i hl;simp only [Option.some.injEq] at h;subst h
   cases r with
   | fl hb ys cN hm hc hr=>obtain ⟨e1,e2⟩:=oD (β:=β) (K:=K) hl;exact .fl (ft hi hb) ys cN (by omega) hc (e2 hr)
  ·simp at h
 ·simp at h
 ·simp at h
 ·simp only [Option.some.injEq] at h;subst h
  cases r with | mp hb vs G hl hr=>exact .mp (ft hi hb) vs G hl hr
 ·simp only [Option.some.injEq] at h;subst h
  cases r with | mu iI hp hn aI hb vs G hl hr=>exact .mu iI hp hn aI (ft hi hb) vs G hl hr
 ·split at h
  ·rename_i hv;simp only [Option.some.injEq] at h;subst h
   cases r with
   | @it b bm c since ck um seen hb hm=>
    obtain ⟨c',h'⟩:=hm _ rfl
    exact .it (bm:=bm) (ft hi hb) (fun v' im=>by cases im;exact ⟨c',ft (kr hv) h'⟩)
  ·simp at h
 ·simp only [Option.some.injEq] at h;subst h
  cases r with
  | @it b bm c since ck um seen hb hm=>exact .it (bm:=bm) (ft hi hb) (fun v' im=>by cases im)
 ·split at h
  ·rename_i hp;simp only [Option.some.injEq] at h;subst h
   cases r with | @lp b c f sz nR bz E rf tmps hb bE hr=>exact .lp (ft hi hb) bE (A2 (g:=fun t=>tmps.getD t undef) hp hr)
  ·simp at h
 ·simp only [Option.some.injEq] at h;subst h
  cases r with | dead=>exact .dead i
theorem qn {l:List Nat}:∀ {k:List Nat} {M':List ai},gk l M k=some M'→M'.length=k.length∧∀ (i:Nat) b,M'[i]?=some b→∃ u b0,k[i]?=some u∧M[u]?=some b0∧tr l b0=some b
 | [],M',h=>by simp only [gk,Option.some.injEq] at h;subst h;simp
 | u::r,M',h=>by
  unfold gk at h
  split at h
  ·rename_i b hb
   split at h
   ·rename_i b' r' h1 h2
    simp only [Option.some.injEq] at h;subst h
    obtain ⟨e1,e2⟩:=qn h2
    refine ⟨by simp [e1],fun i c hc=>?_⟩
    cases i with
    | zero=>simp at hc;subst hc;exact ⟨u,b,rfl,hb,h1⟩
    | succ i=>simp at hc;simpa using e2 i c hc
   ·simp at h
  ·simp at h
theorem vn {K:World→Prop} {l:List Nat} {ρ:Operand→Value} (hs:∀ t v,bZ E t=some v→ax K β v (ρ (.tmp t))):∀ {ts:List Nat} {E':List (Nat×AV)},jq l E ts=some E'→∀ t v,bZ E' t=some v→ax K (fg β l) v (ρ (.tmp t))
 | [],E',h,t,v,hv=>by simp only [jq,Option.some.injEq] at h;subst h;simp [bZ] at hv
 | s::r,E',h,t,v,hv=>by
  unfold jq at h
  split at h
  ·rename_i u hu
   split at h
   ·rename_i u' r' h1 h2
    simp only [Option.some.injEq] at h;subst h
    unfold bZ at hv
    cases hk:s.beq t with
    | true=>
     simp only [hk,cond_true,Option.some.injEq] at hv;subst hv
     rw [← Nat.eq_of_beq_eq_true hk];exact A0 h1 (hs s u hu)
    | false=>simp only [hk,cond_false] at hv;exact vn hs h2 t v hv
   ·simp at h
  ·simp at h
theorem uV:∀ {l:List Nat} {M:List ai} {F:Nat→al} {X:al},l.Nodup→(∀ u ∈ l,u<M.length)→bK D w0 K0 M β F I X w→∃ rest,St D w0 w (rest++(I++(X++l.flatMap F)))
 | [],M,F,X,_,_,R=>⟨_,by simpa using R.st⟩
 | u::r,M,F,X,hn,hl,R=>by
  have hu:=hl u (by simp)
  have R':=R.fj (List.getElem?_eq_getElem hu)
  simp only [List.nodup_cons] at hn
  obtain ⟨rest,h⟩:=uV hn.2 (fun v hv=>by rw [List.length_set];exact hl v (by simp [hv])) R'
  refine ⟨rest,?_⟩
  have:r.flatMap (aH F u [])=r.flatMap F:=fu fun v hv=>by
   simp only [aH];rw [if_neg (fun e=>hn.1 (by rw [← e];exact hv))]
  rw [this] at h
  rw [List.flatMap_cons]
  simpa [List.append_assoc] using h
def mz (F:Nat→al) (l:List Nat) (i:Nat):al:=match l[i]? with | some u=>F u | none=>[]
theorem uW {F:Nat→al} {l:List Nat} {i u:Nat} (h:l[i]?=some u):mz F l i=F u:=by simp [mz,h]
theorem se (F:Nat→al):∀ (l:List Nat),(List.range l.length).flatMap (mz F l)=l.flatMap F
 | []=>by simp
 | u::r=>by
  rw [List.length_cons,rS,List.flatMap_cons]
  congr 1
  have:=se F r
  exact this
def nodupB:List Nat→Bool
 | []=>true
 | u::r=>!(r.elem u)&&nodupB r
theorem oA:∀ {l:List Nat},nodupB l=true→l.Nodup
 | [],_=>by simp
 | u::r,h=>by
  simp only [nodupB,Bool.and_eq_true,Bool.not_eq_true'] at h
  rw [List.nodup_cons]
  refine ⟨?_,oA h.2⟩
  intro hu;have:=h.1;simp [hu] at this
mutual
def mapA (σ:Nat→Nat):AV→AV
 | .d x=>.d x
 | .sl u n=>.sl (σ u) n
 | .pt u o=>.pt (σ u) o
 | .mv u=>.mv (σ u)
 | .yl u=>.yl (σ u)
 | .sb u k o n=>.sb (σ u) k o n
 | .sf u k o n q=>.sf (σ u) k o n q
 | .ep u k i o=>.ep (σ u) k i o
 | .rp r o=>.rp r o
 | .bt bs=>.bt bs
 | .uk=>.uk
 | .fn f l=>.fn f (kI σ l)
 | .fm f l=>.fm f (kI σ l)
 | .ag l=>.ag (kI σ l)
 | .tu l=>.tu (kI σ l)
def kI (σ:Nat→Nat):List AV→List AV
 | []=>[]
 | c::r=>mapA σ c::kI σ r
end
theorem k4 (σ:Nat→Nat) (l:List AV):kI σ l=l.map (mapA σ):=by induction l with | nil=>rfl | cons c r ih=>rw [kI,ih];rfl
theorem nu {K:World→Prop} {β ay:Beta} {σ:Nat→Nat} (h:∀ (u:Nat) x,β[u]?=some x→ay[σ u]?=some x) {v:AV} {y:Value} (r:ax K β v y):ax K ay (mapA σ v) y:=by
 have key:∀ {l:List AV} {ys:List Value},(∀ (j:Nat) c y,l[j]?=some c→ys[j]?=some y→ax K ay (mapA σ c) y)→∀ (j:Nat) c y,(kI σ l)[j]?=some c→ys[j]?=some y→ax K ay c y:=by
  intro l ys hh j c y h1 h2
  rw [k4,List.getElem?_map,Option.map_eq_some_iff] at h1
  obtain ⟨c',h1,rfl⟩:=h1
  exact hh j c' y h1 h2
 induction r with
 | d h=>exact .d h
 | sl hb=>exact .sl (h _ _ hb)
 | pt hb=>exact .pt (h _ _ hb)
 | mv hb=>exact .mv (h _ _ hb)
 | yl hb=>exact .yl (h _ _ hb)
 | sb hb=>exact .sb (h _ _ hb)
 | sf hb h1 h2 h3=>exact .sf (h _ _ hb) h1 h2 h3
 | ep hb=>exact .ep (h _ _ hb)
 | rp a X hl hc hr=>exact .rp a X hl hc hr
 | bt hd hn=>exact .bt hd hn
 | uk hu=>exact .uk hu
 | fn ys hl hr ih=>exact .fn ys (by rw [k4,List.length_map];exact hl) (key ih)
 | fm ys hl hr ih=>exact .fm ys (by rw [k4,List.length_map];exact hl) (key ih)
 | ag ys hl hr ih=>exact .ag ys (by rw [k4,List.length_map];exact hl) (key ih)
 | tu ys hl hr ih=>exact .tu ys (by rw [k4,List.length_map];exact hl) (key ih)
def fy (σ:Nat→Nat):ai→ai
 | .bx T cs=>.bx T (kI σ cs)
 | .rw T k rows=>.rw T k rows
 | .tw a c T k rows=>.tw a c T k rows
 | .nm v b=>.nm (σ v) b
 | .gw g row=>.gw g row
 | .fl T k m cs=>.fl T k m (kI σ cs)
 | .mf T c es=>.mf T c (es.map fun e=>(e.1,e.2.1,mapA σ e.2.2))
 | .il um s l c=>.il (um.map σ) s l c
 | .mp T c es=>.mp T c es
 | .mu T c es=>.mu T c es
 | .it um a s c=>.it (um.map σ) a s c
 | .lp b f sz E rf=>.lp b f sz (E.map fun x=>(x.1,mapA σ x.2)) rf
 | .dead=>.dead
theorem ss {K:World→Prop} {β ay:Beta} {σ:Nat→Nat} (h:∀ (u:Nat) x,β[u]?=some x→ay[σ u]?=some x) {u:Nat} {b:ai} {H:al} (r:bq K β u b H):bq K ay (σ u) (fy σ b) H:=by
 cases r with
 | dead=>exact .dead _
 | bx hb ys hl hr=>
  refine .bx (h _ _ hb) ys (by rw [k4,List.length_map];exact hl) fun j c y h1 h2=>?_
  rw [k4,List.getElem?_map,Option.map_eq_some_iff] at h1
  obtain ⟨c',h1,rfl⟩:=h1
  exact nu h (hr j c' y h1 h2)
 | rw hb X G hl hs hr=>exact .rw (h _ _ hb) X G hl hs hr
 | tw hb X G hl hs hr=>exact .tw (h _ _ hb) X G hl hs hr
 | nm hb=>exact .nm (h _ _ hb)
 | gw X hl hc hr=>exact .gw X hl hc hr
 | fl hb ys hl hm hc hr=>
  refine .fl (h _ _ hb) ys hl (by rw [k4,List.length_map];exact hm) hc fun j c y h1 h2=>?_
  rw [k4,List.getElem?_map,Option.map_eq_some_iff] at h1
  obtain ⟨c',h1,rfl⟩:=h1
  exact nu h (hr j c' y h1 h2)
 | @mf _ _ Tm yC yD hb vs hl hr=>
  have hh:=bq.mf (K:=K) (T:=Tm) (ck:=yC) (u:=σ u) (h _ _ hb) vs (by rw [List.length_map];exact hl) (es:=List.map (fun (e:Nat×MK×AV)=>(e.1,e.2.1,mapA σ e.2.2)) yD) (fun j c y h1 h2=>by
   rw [List.getElem?_map,Option.map_eq_some_iff] at h1
   obtain ⟨c',h1,rfl⟩:=h1
   exact nu h (hr j c' y h1 h2))
  rw [uO (fun (e:Nat×MK×AV)=>(e.1,e.2.1,mapA σ e.2.2)) (fun _=>⟨rfl,rfl⟩)] at hh
  exact hh
 | mp hb vs G hl hr=>exact .mp (h _ _ hb) vs G hl hr
 | mu iI hp hn aI hb vs G hl hr=>exact .mu iI hp hn aI (h _ _ hb) vs G hl hr
 | lp hb bE hr=>
  refine .lp (h _ _ hb) bE fun x hx=>?_
  obtain ⟨x0,tP,rfl⟩:=List.mem_map.1 hx
  exact nu h (hr x0 tP)
 | @il b bm c since last ck um seen hb hm=>
  refine .il (bm:=bm) (seen:=seen) (h _ _ hb) (fun v hv=>?_)
  cases um with
  | none=>cases hv
  | some v0=>cases hv;obtain ⟨c',h'⟩:=hm v0 rfl;exact ⟨c',h _ _ h'⟩
 | @it b bm c since ck um seen hb hm=>
  refine .it (bm:=bm) (h _ _ hb) (fun v hv=>?_)
  cases um with
  | none=>cases hv
  | some v0=>cases hv;obtain ⟨c',h'⟩:=hm v0 rfl;exact ⟨c',h _ _ h'⟩
def jj (M:List ai):List Nat→List ai
 | []=>M
 | u::r=>jj (M.set u .dead) r
theorem zY:∀ (l:List Nat) (M:List ai),(jj M l).length=M.length
 | [],_=>rfl
 | u::r,M=>by rw [jj,zY r,List.length_set]
theorem zZ:∀ {l:List Nat} {M:List ai} {F:Nat→al} {X:al},l.Nodup→(∀ u ∈ l,u<M.length)→bK D w0 K0 M β F I X w→
  ∃ F0,bK D w0 K0 (jj M l) β F0 I (X++l.flatMap F) w∧(∀ u ∈ l,F0 u=[])∧∀ u,u ∉ l→F0 u=F u
 | [],M,F,X,_,_,R=>⟨F,by simpa [jj] using R,by simp,fun _ _=>rfl⟩
 | u::r,M,F,X,hn,hl,R=>by
  have hu:=hl u (by simp)
  have R':=R.fj (List.getElem?_eq_getElem hu)
  simp only [List.nodup_cons] at hn
  obtain ⟨F0,h1,h2,h3⟩:=zZ hn.2 (fun v hv=>by rw [List.length_set];exact hl v (by simp [hv])) R'
  have:r.flatMap (aH F u [])=r.flatMap F:=fu fun v hv=>by
   simp only [aH];rw [if_neg (fun e=>hn.1 (by rw [← e];exact hv))]
  rw [this] at h1
  refine ⟨F0,by rw [List.flatMap_cons,← List.append_assoc];exact h1,fun v hv=>?_,fun v hv=>?_⟩
  ·rcases List.mem_cons.1 hv with e | e
   ·subst e;rw [h3 v hn.1];simp [aH]
   ·exact h2 v e
  ·simp only [List.mem_cons,not_or] at hv
   rw [h3 v hv.2];simp only [aH];rw [if_neg hv.1]
theorem bK.put {X Y:al} (R:bK D w0 K0 M β F I (X++Y) w) {u:Nat} (hu:u<M.length) (hF:F u=[]) {blk:ai} (hb:bq (fun w=>K0 w∧Holds w I) β u blk X):
  bK D w0 K0 (M.set u blk) β (aH F u X) I Y w where
 len:=by rw [List.length_set];exact R.len
 blk:=by
  intro v bl hv
  rw [List.getElem?_set] at hv
  by_cases e:u=v
  ·subst e
   simp only [hu,if_pos,Option.some.injEq] at hv;subst hv
   simpa [aH] using hb
  ·rw [if_neg e] at hv
   have:aH F u X v=F v:=by simp only [aH];rw [if_neg (fun h=>e h.symm)]
   rw [this];exact R.blk v bl hv
 st:=by
  have hs:=R.st
  rw [List.length_set,range_split hu]
  rw [range_split hu,hF] at hs
  have c1:(List.range u).flatMap (aH F u X)=(List.range u).flatMap F:=fu fun a ha=>by have:=List.mem_range.1 ha;simp [aH];omega
  have c2:(List.range' (u+1) (M.length-(u+1))).flatMap (aH F u X)=(List.range' (u+1) (M.length-(u+1))).flatMap F:=fu fun a ha=>by have:=(List.mem_range'_1.1 ha).1;simp [aH];omega
  have gJ:aH F u X u=X:=by simp [aH]
  rw [c1,c2,gJ]
  exact hs.perm (by classical rw [List.perm_iff_count];intro z;simp only [List.count_append,List.count_nil];omega)
def lx (M:List ai):List Nat→List ai→List ai
 | u::r,b::bs=>lx (M.set u b) r bs
 | _,_=>M
theorem Ap:∀ {l:List Nat} {bs:List ai} {M:List ai} {F:Nat→al} {G:Nat→al} {Y:al},l.Nodup→bs.length=l.length→(∀ u ∈ l,u<M.length)→(∀ u ∈ l,F u=[])→
  bK D w0 K0 M β F I ((List.range l.length).flatMap G++Y) w→(∀ (i u:Nat) b,l[i]?=some u→bs[i]?=some b→bq (fun w=>K0 w∧Holds w I) β u b (G i))→
  ∃ F',bK D w0 K0 (lx M l bs) β F' I Y w∧∀ u,u ∉ l→F' u=F u
 | [],[],M,F,G,Y,_,_,_,_,R,_=>⟨F,by simpa [lx] using R,fun _ _=>rfl⟩
 | [],_::_,_,_,_,_,_,h,_,_,_,_=>by simp at h
 | _::_,[],_,_,_,_,_,h,_,_,_,_=>by simp at h
 | u::r,b::bs,M,F,G,Y,hn,hl,aI,hF,R,hb=>by
  simp only [List.nodup_cons] at hn
  rw [List.length_cons,rS,List.append_assoc] at R
  have R1:=R.put (aI u (by simp)) (hF u (by simp)) (hb 0 u b rfl rfl)
  obtain ⟨F',h1,h2⟩:=Ap (l:=r) (bs:=bs) (G:=fun i=>G (i+1)) hn.2 (by simpa using hl) (fun v hv=>by rw [List.length_set];exact aI v (by simp [hv])) (fun v hv=>by
   simp only [aH];rw [if_neg (fun e=>hn.1 (by rw [← e];exact hv))];exact hF v (by simp [hv])) R1 (fun i v c h3 h4=>hb (i+1) v c (by simpa using h3) (by simpa using h4))
  refine ⟨F',h1,fun v hv=>?_⟩
  simp only [List.mem_cons,not_or] at hv
  rw [h2 v hv.2];simp only [aH];rw [if_neg hv.1]
theorem GM {bs:List ai} {γ:Beta} {G:Nat→al} {Y:al} (hl:γ.length=bs.length) (R:bK D w0 K0 M β F I ((List.range bs.length).flatMap G++Y) w) (hb:∀ (i:Nat) b,bs[i]?=some b→bq (fun w=>K0 w∧Holds w I) (β++γ) (M.length+i) b (G i)):
  ∃ F',bK D w0 K0 (M++bs) (β++γ) F' I Y w∧∀ u,u<M.length→F' u=F u:=by
 refine ⟨fun u=>if u<M.length then F u else G (u-M.length),⟨by simp [R.len,hl],fun u b hu=>?_,?_⟩,fun u hu=>by simp [hu]⟩
 ·rcases Nat.lt_or_ge u M.length with h | h
  ·rw [List.getElem?_append_left h] at hu
   simp only [h,if_true]
   exact (R.blk u b hu).mono (fun _ h=>h) (Ext.app _ _)
  ·rw [List.getElem?_append_right h] at hu
   have hn:¬ u<M.length:=by omega
   simp only [hn,if_false]
   have:=hb (u-M.length) b hu
   rwa [show M.length+(u-M.length)=u by omega] at this
 ·rw [List.length_append,List.range_add,List.flatMap_append,List.flatMap_map]
  have e1:(List.range M.length).flatMap (fun u=>if u<M.length then F u else G (u-M.length))=(List.range M.length).flatMap F:=fu fun u hu=>by have:=List.mem_range.1 hu;simp [this]
  have e2:(List.range bs.length).flatMap (fun i=>if M.length+i<M.length then F (M.length+i) else G (M.length+i-M.length))=(List.range bs.length).flatMap G:=fu fun i hi=>by
   rw [if_neg (by omega),Nat.add_sub_cancel_left]
  rw [e1,e2]
  exact R.st.perm (by classical rw [List.perm_iff_count];intro z;simp only [List.count_append];omega)
def aq (P:Program) (f:FuncId) (args:List AV) (M:List ai) (x:AV) (M':List ai):Prop:=
 iz P f=true∧∀ {D:List Nat} {w0:World} {K0:World→Prop} {β:Beta} {F:Nat→al} {I:al} {w:World} (ys:List Value),RM D w0 K0 M β F I w→(∀ w,Kp D w0 w→K0 w)→ys.length=args.length→(∀ (j:Nat) c y,args[j]?=some c→ys[j]?=some y→ax (fun w=>K0 w∧Holds w I) β c y)→
  Calls P f ys.toArray w fun e w'=>∃ v,e=.returned v∧∃ ay F' I',RM D w0 K0 M' ay F' I' w'∧Ext β ay∧bR I I'∧ax (fun w=>K0 w∧Holds w I') ay x v
def outer (l:List Nat) (n:Nat) (i:Nat):Nat:=match l[i]? with | some u=>u | none=>n+(i-l.length)
def xf (P:Program) (E:List (Nat×AV)) (M:List ai) (oc:Option aX) (g:Operand) (args:Array Operand):Option Out:=
 match aF E g,kH E args.toList,oc with
 | some (.fn f cq),some vs,some (.mem l x M')=>(match j5 l (vs++cq),gk l M l with
  | some told,some Ms=>bif nodupB l&&Nat.ble l.length M'.length then some ⟨[aq P f told Ms x M'],mapA (outer l M.length) x,lx (jj M l++(M'.drop l.length).map (fy (outer l M.length))) l ((M'.take l.length).map (fy (outer l M.length))),l,[],none⟩ else none
  | _,_=>none)
 | _,_,_=>none
theorem Eo (R:RM D w0 K0 M β F I w) (hK:∀ w,Kp D w0 w→K0 w) {f:FuncId} {vs:List AV} {ys:List Value} {l:List Nat} {told:List AV} {Ms M':List ai} {x:AV} (ie:ys.length=vs.length)
  (e1:told.length=vs.length) (e2:∀ (j:Nat) c y,told[j]?=some c→ys[j]?=some y→ax (fun w=>K0 w∧Holds w I) (fg β l) c y) (m1:Ms.length=l.length) (m2:∀ (i:Nat) b,Ms[i]?=some b→∃ u b0,l[i]?=some u∧M[u]?=some b0∧bq (fun w=>K0 w∧Holds w I) (fg β l) i b (F u)) (gR:l.Nodup) (hle:l.length≤M'.length) (gA:aq P f told Ms x M'):
  Calls P f ys.toArray w fun e w'=>∃ v,e=.returned v∧∃ ay F' I',RM D w0 K0 (lx (jj M l++(M'.drop l.length).map (fy (outer l M.length))) l ((M'.take l.length).map (fy (outer l M.length)))) ay F' I' w'∧gv [] β ay∧bR I I'∧(∀ u,u<M.length→u ∉ l→F' u=F u)∧ax (fun w=>K0 w∧Holds w I') ay (mapA (outer l M.length) x) v:=by
 have aI:∀ u ∈ l,u<M.length:=by
  intro u hu
  obtain ⟨i,hi,rfl⟩:=List.getElem_of_mem hu
  obtain ⟨u',b0,g1,g2,-⟩:=m2 i Ms[i] (List.getElem?_eq_getElem (by omega))
  rw [List.getElem?_eq_getElem hi,Option.some.injEq] at g1
  rw [g1];exact fe g2
 obtain ⟨F0,R0,pC,rr⟩:=zZ gR aI R.x
 rw [List.nil_append] at R0
 have tS:=zY l M
 have Dk:=se F l
 have tT:St D w0 w (l.flatMap F++((List.range (jj M l).length).flatMap F0++I)):=R0.st.perm (by classical rw [List.perm_iff_count];intro z;simp only [List.count_append];omega)
 have ru:∀ w',Kp (keys (l.flatMap F)) w w'→K0 w'∧Holds w' I:=fun w' k=>by
  have t:St (keys (l.flatMap F)) w w' []:=⟨k,by simp [keys],by simp [keys],Holds.nil _⟩
  have s':=St.call tT rfl t
  rw [List.nil_append] at s'
  exact ⟨hK _ s'.kp,(Holds.app.1 s'.holds).2⟩
 have Nz:RM (keys (l.flatMap F)) w (fun w=>K0 w∧Holds w I) Ms (fg β l) (mz F l) [] w:=by
  refine ⟨by rw [ui,m1],fun i b hb=>?_,?_⟩
  ·obtain ⟨u,b0,g1,g2,g3⟩:=m2 i b hb
   rw [uW g1]
   exact g3.mono (fun w hw=>hw.1) (Ext.refl _)
  ·rw [m1,Dk,List.append_nil]
   exact St.start tT.uL.nd tT.uL.holds
 refine (gA.2 _ Nz ru (by omega) (fun j c y h1 h2=>(e2 j c y h1 h2).mono (fun w hw=>hw.1) (Ext.refl _))).mono ?_
 rintro e w' ⟨v,rfl,ay,F',I',R',hE,-,hr⟩
 refine ⟨v,rfl,?_⟩
 have s2:=St.call tT rfl R'.st
 have O3:l.length≤ay.length:=by rw [R'.len];exact hle
 have lZ:∀ (i:Nat) q,ay[i]?=some q→(β++ay.drop l.length)[outer l M.length i]?=some q:=by
  intro i q hq
  unfold outer
  rcases Nat.lt_or_ge i l.length with hi | hi
  ·have Dl:l[i]?=some l[i]:=List.getElem?_eq_getElem hi
   rw [Dl]
   have hu:=aI l[i] (List.getElem_mem hi)
   have yQ:l[i]<β.length:=by rw [R.len];exact hu
   obtain ⟨q',Dm⟩:∃ q',β[l[i]]?=some q':=⟨_,List.getElem?_eq_getElem yQ⟩
   have:=hE i _ (ft Dl Dm)
   rw [hq,Option.some.injEq] at this
   rw [List.getElem?_append_left (by rw [R.len];exact hu),Dm,this]
  ·rw [List.getElem?_eq_none hi]
   dsimp only
   rw [List.getElem?_append_right (by rw [R.len];omega),R.len,Nat.add_sub_cancel_left,List.getElem?_drop,show l.length+(i-l.length)=i by omega];exact hq
 have cf:∀ w,K0 w∧Holds w (I'++I)→(K0 w∧Holds w I)∧Holds w I':=fun w hw=>⟨⟨hw.1,(Holds.app.1 hw.2).2⟩,(Holds.app.1 hw.2).1⟩
 have JF:(List.range M'.length).flatMap F'=(List.range l.length).flatMap F'++(List.range ((M'.drop l.length).map (fy (outer l M.length))).length).flatMap fun i=>F' (l.length+i):=by
  rw [List.length_map,List.length_drop]
  conv=>lhs;rw [show M'.length=l.length+(M'.length-l.length) by omega,List.range_add,List.flatMap_append,List.flatMap_map]
 have R2:bK D w0 K0 (jj M l) β F0 (I'++I) ((List.range ((M'.drop l.length).map (fy (outer l M.length))).length).flatMap (fun i=>F' (l.length+i))++(List.range l.length).flatMap F') w':=by
  refine ⟨R0.len,fun u b hb=>(R0.blk u b hb).mono (fun w hw=>(cf w hw).1) (Ext.refl _),?_⟩
  rw [JF] at s2
  exact s2.perm (by classical rw [List.perm_iff_count];intro z;simp only [List.count_append];omega)
 obtain ⟨F2,R3,kO⟩:=GM (γ:=ay.drop l.length) (by rw [List.length_drop,R'.len,List.length_map,List.length_drop]) R2 (fun i b hb=>by
  rw [List.getElem?_map,Option.map_eq_some_iff] at hb
  obtain ⟨b0,hb,rfl⟩:=hb
  rw [List.getElem?_drop] at hb
  have:=(ss lZ (R'.blk _ b0 hb)).mono cf (Ext.refl _)
  have ho:outer l M.length (l.length+i)=M.length+i:=by unfold outer;rw [List.getElem?_eq_none (by omega)];dsimp only;omega
  rw [ho] at this
  rw [tS];exact this)
 have NA:=R3.perm (Y:=(List.range l.length).flatMap F'++[]) (by rw [List.append_nil])
 obtain ⟨F3,R4,NB⟩:=Ap (bs:=(M'.take l.length).map (fy (outer l M.length))) gR (by simp;omega) (fun u hu=>by have:=aI u hu;rw [List.length_append];omega) (fun u hu=>by rw [kO u (by rw [tS];exact aI u hu)];exact pC u hu) NA (fun i u b h1 h2=>by
  rw [List.getElem?_map,Option.map_eq_some_iff] at h2
  obtain ⟨b0,h2,rfl⟩:=h2
  rw [List.getElem?_take] at h2
  split at h2
  ·have:=(ss lZ (R'.blk i b0 h2)).mono cf (Ext.refl _)
   have ho:outer l M.length i=u:=by unfold outer;rw [h1]
   rw [ho] at this;exact this
  ·simp at h2)
 refine ⟨_,F3,I'++I,R4.nil rfl,(Ext.app _ _).b _,⟨I',rfl⟩,fun u hu Dn=>?_,(nu lZ hr).mono cf (Ext.refl _)⟩
 rw [NB u Dn,kO u (by rw [tS];exact hu),rr u Dn]
theorem zA (R:RM D w0 K0 M β F I w) (hK:∀ w,Kp D w0 w→K0 w) {f:FuncId} {vs:List AV} {ys:List Value} {l:List Nat} {told:List AV} {Ms M':List ai} {x:AV} (ie:ys.length=vs.length) (ly:∀ (j:Nat) c y,vs[j]?=some c→ys[j]?=some y→ax (fun w=>K0 w∧Holds w I) β c y)
  (o3:j5 l vs=some told) (n1:gk l M l=some Ms) (gR:l.Nodup) (hle:l.length≤M'.length) (gA:aq P f told Ms x M'):
  Calls P f ys.toArray w fun e w'=>∃ v,e=.returned v∧∃ ay F' I',RM D w0 K0 (lx (jj M l++(M'.drop l.length).map (fy (outer l M.length))) l ((M'.take l.length).map (fy (outer l M.length)))) ay F' I' w'∧gv [] β ay∧bR I I'∧(∀ u,u<M.length→u ∉ l→F' u=F u)∧ax (fun w=>K0 w∧Holds w I') ay (mapA (outer l M.length) x) v:=by
 obtain ⟨e1,e2⟩:=oD (β:=β) (K:=fun w=>K0 w∧Holds w I) o3
 obtain ⟨m1,m2⟩:=qn n1
 refine Eo R hK ie e1 (e2 ly) m1 (fun i b hb=>?_) gR hle gA
 obtain ⟨u,b0,g1,g2,g3⟩:=m2 i b hb
 exact ⟨u,b0,g1,g2,vk g1 g3 (R.blk u b0 g2)⟩
theorem GN {g:Operand} {args:Array Operand} {fp:Array TypeId} (h:xf P E M oc g args=some out):aG P ⟨d,.call ⟨.value g,args,fp⟩,ty,pos,aft,gd⟩ E M out:=by
 unfold xf at h
 split at h
 ·rename_i f cq vs l x M' hg rv
  split at h
  ·rename_i told Ms o3 n1
   cases hc:(nodupB l&&Nat.ble l.length M'.length) with
   | false=>simp only [hc,cond_false,reduceCtorEq] at h
   | true=>
    simp only [hc,cond_true,Option.some.injEq] at h;subst h
    simp only [Bool.and_eq_true] at hc
    have gR:=oA hc.1
    have hle:=Nat.le_of_ble_eq_true hc.2
    intro D w0 K0 β F I ρ w C hv
    obtain ⟨gA,-⟩:=hv
    obtain ⟨y,hy,r⟩:=C.bS hg
    cases r with
    | fn cs cQ gO=>
     obtain ⟨dP,kb⟩:=C.mU rv
     have ie:(args.toList.map ρ++cs).length=(vs++cq).length:=by rw [List.length_append,List.length_append,dP,cQ]
     have nI:∀ (j:Nat) c y,(vs++cq)[j]?=some c→(args.toList.map ρ++cs)[j]?=some y→ax (fun w=>K0 w∧Holds w I) β c y:=by
      intro j c y h1 h2
      rcases Nat.lt_or_ge j vs.length with hj | hj
      ·rw [List.getElem?_append_left hj] at h1
       rw [List.getElem?_append_left (by omega)] at h2
       exact kb j c y h1 h2
      ·rw [List.getElem?_append_right hj] at h1
       rw [List.getElem?_append_right (by omega),dP] at h2
       exact gO _ c y h1 h2
     have hm:args.map ρ=(args.toList.map ρ).toArray:=by rw [← Array.toList_map]
     refine pZ hy gA.1 hm ?_
     have lq:((args.toList.map ρ).toArray++cs.toArray:Array Value)=(args.toList.map ρ++cs).toArray:=by simp
     rw [lq]
     exact zA C.rm C.k ie nI o3 n1 gR hle gA
  ·simp at h
 ·simp at h
end Go.Proofs.YtcnpikbbmbombaaGreatDoor
namespace Go.Proofs.YtcnpikbbmbombaaGreatDoor
open Go.RowKit
section
variable {P:Program} {ρ:Operand→Value} {w:World} {Φ:Value→World→Prop} {d:Option Tmp} {ty t k e:TypeId} {pos:String} {aft:Array Edge} {gd:Option (Nat×Bool)} {x:Operand}
def sg:Obj→Bool
 | .cells _ _ _=>false
 | _=>true
theorem qh {r:Nat} {o:Obj} (h:w.heap[r]?=some o) (ho:sg o=true):(getObj r).run P w=.ok o w:=by
 cases o<;>simp [sg] at ho<;>simp [getObj,Sem.run,h]
theorem sh {r:Nat} {o:Obj} (h:w.heap[r]?=some o) (ho:sg o=true) (o':Obj):(setObj r o').run P w=.ok () (cn w r o'):=by
 cases o<;>simp [sg] at ho<;>simp [setObj,Sem.run,h,cn]
end
end Go.Proofs.YtcnpikbbmbombaaGreatDoor
namespace Go.Proofs.YtcnpikbbmbombaaGreatDoor
open Go.RowKit
variable {P:Program} {T:aJ} {E:List (Nat×AV)} {M:List ai}
variable {d:Option Tmp} {ty:TypeId} {pos:String} {aft:Array Edge} {gd:Option (Nat×Bool)} {oc:Option aX} {out:Out}
def OJ (T:aJ) (E:List (Nat×AV)) (M:List ai) (oc:Option aX) (t:TypeId) (x:Operand) (lo hi mx:Option Operand):Option Out:=
 match df T t,aF E x,oc with
 | some (.sl e),some (.sl u n),some o=>(match fI T e,M[u]? with
  | some k,some (.rw _ k' rows)=>(match lo,hi,mx,o with
   | none,some h,none,.n2 c _=>(match cP (aF E h) with
    | some (.i64,z)=>bif k.beq k' then some ⟨[z=(c:Int),0<c,c≤n,n=rows.length],.sb u k 0 c,M,[],[],some []⟩ else none
    | _=>none)
   | none,some h,none,.res (.ro k2 [])=>(match cP (aF E h) with
    | some (.i64,z)=>some ⟨[z=0,n=rows.length],.d (.ro k2 []),M,[],[],some []⟩
    | _=>none)
   | some l,none,none,.res (.ro k2 [])=>(match cP (aF E l) with
    | some (.i64,z)=>some ⟨[z=(n:Int),n=rows.length],.d (.ro k2 []),M,[],[],some []⟩
    | _=>none)
   | _,_,_,_=>none)
  | _,_=>none)
 | _,_,_=>none
theorem su {K:World→Prop} {k n c o c':Nat} {a:Option Addr} {rows:List (List DV)} (h:bP K (.ro k rows) (.slice a n c) []) (ho:o≤c') (hc:c'≤rows.length):bP K (.ro k ((rows.take c').drop o)) (.slice (if c=o then a else a.map (·.add (o*k))) (c'-o) (c-o)) []:=by
 cases h with
 | ro X hl hy hs hr=>
  obtain ⟨a',Nx,e,dC⟩:=hy
  simp only [Value.slice.injEq] at e;obtain ⟨rfl,rfl,rfl⟩:=e
  have hX:∀ i,i<rows.length→(X i).length=k:=fun i hi=>(hl i _ (List.getElem?_eq_getElem hi)).2
  have hlen:((rows.take c').drop o).length=c'-o:=by simp;omega
  have Dp:∀ (i:Nat) r,((rows.take c').drop o)[i]?=some r→rows[o+i]?=some r:=fun i r hi=>by
   rw [List.getElem?_drop,List.getElem?_take] at hi
   split at hi
   ·exact hi
   ·cases hi
  refine .ro (fun i=>X (o+i)) (fun i r hi=>hl (o+i) r (Dp i r hi)) ⟨_,_,by rw [hlen],by rw [hlen];omega⟩ (fun w hw=>?_) fun i r j x y h1 h2 h3=>hr (o+i) r j x y (Dp i r h1) h2 h3
  rw [hlen]
  refine ⟨eD fun i hi=>hX (o+i) (by omega),?_⟩
  rcases Nat.eq_zero_or_pos (c'-o) with h0 | hm
  ·exact Or.inl ⟨h0,_,_,by rw [h0]⟩
  rcases (hs w hw).2 with ⟨h0,-⟩ | ⟨a0,c0,e,ib⟩
  ·omega
  simp only [Value.slice.injEq] at e;obtain ⟨rfl,-,rfl⟩:=e
  refine Or.inr ⟨a0.add (o*k),_,by rw [if_neg (by omega)];rfl,fun j hj=>?_⟩
  have ik:(lay (c'-o) fun i=>X (o+i)).length=(c'-o)*k:=eD fun i hi=>hX (o+i) (by omega)
  have e1:lay (c'-o) (fun i=>X (o+i))=((lay rows.length X).drop (o*k)).take ((c'-o)*k):=by
   rw [← uU (n:=rows.length) (c:=o) hX (by omega)]
   exact oC (n:=rows.length-o) (c:=c'-o) (X:=fun i=>X (o+i)) (fun i hi=>hX (o+i) (by omega)) (by omega)
  have lN:(o+(c'-o))*k≤rows.length*k:=Nat.mul_le_mul_right k (by omega)
  rw [Nat.add_mul] at lN
  have hN:(lay rows.length X).length=rows.length*k:=eD hX
  have mX:o*k+j<(lay rows.length X).length:=by omega
  rw [Addr.nr,ib (o*k+j) mX,← List.getElem?_eq_getElem mX,← List.getElem?_eq_getElem hj,e1,List.getElem?_take,if_pos (by omega),List.getElem?_drop]
def x2 (T:aJ) (E:List (Nat×AV)) (M:List ai) (oc:Option aX) (t:TypeId) (x:Operand) (lo hi mx:Option Operand):Option Out:=
 match df T t,aF E x,oc with
 | some (.sl e),some (.d (.ro k' rows)),some (.n2 c o)=>(match fI T e with
  | some k=>(match lo,hi,mx with
   | none,some h,none=>(match cP (aF E h) with
    | some (.i64,z)=>bif k.beq k' then some ⟨[z=(c:Int),c≤rows.length],.d (.ro k (rows.take c)),M,[],[],some []⟩ else none
    | _=>none)
   | none,some h,some m=>(match cP (aF E h),cP (aF E m) with
    | some (.i64,z),some (.i64,z')=>bif k.beq k' then some ⟨[z=(c:Int),z'=(c:Int),c≤rows.length],.d (.ro k (rows.take c)),M,[],[],some []⟩ else none
    | _,_=>none)
   | some l,none,none=>(match cP (aF E l) with
    | some (.i64,z)=>bif k.beq k' then some ⟨[z=(o:Int),o≤rows.length],.d (.ro k (rows.drop o)),M,[],[],some []⟩ else none
    | _=>none)
   | some l,some h,none=>(match cP (aF E l),cP (aF E h) with
    | some (.i64,z),some (.i64,z')=>bif k.beq k' then some ⟨[z=(o:Int),z'=(c:Int),o≤c,c≤rows.length],.d (.ro k ((rows.take c).drop o)),M,[],[],some []⟩ else none
    | _,_=>none)
   | _,_,_=>none)
  | _=>none)
 | _,_,_=>none
theorem Ib (hT:bc P T=true) {t:TypeId} {x:Operand} {lo hi mx:Option Operand} (h:x2 T E M oc t x lo hi mx=some out):aG P ⟨d,.slice t x lo hi mx,ty,pos,aft,gd⟩ E M out:=by
 unfold x2 at h
 split at h
 rotate_left
 ·simp at h
 rename_i e k' rows c o ht hx
 split at h
 rotate_left
 ·simp at h
 rename_i k hk
 replace ht:=cV hT ht
 replace hk:=hC hT hk
 split at h
 ·rename_i hh
  split at h
  rotate_left
  ·simp at h
  rename_i z hz
  cases cf:k.beq k' with
  | false=>simp [cf] at h
  | true=>
   simp only [cf,cond_true,Option.some.injEq] at h;subst h
   obtain rfl:=Nat.eq_of_beq_eq_true cf
   refine aG.look ?_ (by simp)
   intro D w0 K0 β F I ρ w C hv
   obtain ⟨rfl,hc,-⟩:=hv
   obtain ⟨y,hy,r⟩:=C.bS hx
   cases r with | d r=>
   obtain ⟨a,n,cc,rfl,hle,dC⟩:∃ a n cc,y=.slice a n cc∧n=rows.length∧rows.length≤cc:=by
    cases r with | ro X hl n3 hs hr=>obtain ⟨a,cc,rfl,h2⟩:=n3;exact ⟨_,_,_,rfl,rfl,h2⟩
   subst hle
   have p:=su r (o:=0) (c':=c) (Nat.zero_le _) hc
   rw [List.drop_zero] at p
   refine ⟨_,.d p,fun w' _=>?_⟩
   have:=nt (P:=P) (w:=w') (a:=a) ht hk (n:=rows.length) (c:=cc) (l:=0) (h:=c) (m:=cc) (vl:=none) (vh:=some (.int .i64 c)) (vm:=none) (by simp [Instr.sliceBounds,iM (show c≤cc by omega)])
   simp only [execOp,hy,C.int hz,Option.map_some,Option.map_none,Sem.run_bind,this,Result.andThen_ok,Sem.run_pure]
 ·rename_i hh mm
  split at h
  rotate_left
  ·simp at h
  rename_i z z' hz jx
  cases cf:k.beq k' with
  | false=>simp [cf] at h
  | true=>
   simp only [cf,cond_true,Option.some.injEq] at h;subst h
   obtain rfl:=Nat.eq_of_beq_eq_true cf
   refine aG.look ?_ (by simp)
   intro D w0 K0 β F I ρ w C hv
   obtain ⟨rfl,rfl,hc,-⟩:=hv
   obtain ⟨y,hy,r⟩:=C.bS hx
   cases r with | d r=>
   obtain ⟨a,n,cc,rfl,hle,dC⟩:∃ a n cc,y=.slice a n cc∧n=rows.length∧rows.length≤cc:=by
    cases r with | ro X hl n3 hs hr=>obtain ⟨a,cc,rfl,h2⟩:=n3;exact ⟨_,_,_,rfl,rfl,h2⟩
   subst hle
   have p:=su r (o:=0) (c':=c) (Nat.zero_le _) hc
   rw [List.drop_zero] at p
   have hb:∀ q:Nat,(if q=0 then a else a.map (·.add (0*k)))=a:=by
    intro q
    rw [Nat.zero_mul]
    split
    ·rfl
    ·cases a with
     | none=>rfl
     | some a=>simp [add_zero']
   rw [hb cc] at p
   refine ⟨_,.d (p.cap (c':=c-0) (Nat.le_refl _)),fun w' _=>?_⟩
   have:=nt (P:=P) (w:=w') (a:=a) ht hk (n:=rows.length) (c:=cc) (l:=0) (h:=c) (m:=c) (vl:=none) (vh:=some (.int .i64 c)) (vm:=some (.int .i64 c)) (by simp [Instr.sliceBounds,iM (show c≤cc by omega),iM (Nat.le_refl c)])
   rw [hb c] at this
   simp only [execOp,hy,C.int hz,C.int jx,Option.map_some,Option.map_none,Sem.run_bind,this,Result.andThen_ok,Sem.run_pure]
 ·rename_i l
  split at h
  rotate_left
  ·simp at h
  rename_i z hz
  cases cf:k.beq k' with
  | false=>simp [cf] at h
  | true=>
   simp only [cf,cond_true,Option.some.injEq] at h;subst h
   obtain rfl:=Nat.eq_of_beq_eq_true cf
   refine aG.look ?_ (by simp)
   intro D w0 K0 β F I ρ w C hv
   obtain ⟨rfl,hc,-⟩:=hv
   obtain ⟨y,hy,r⟩:=C.bS hx
   cases r with | d r=>
   obtain ⟨a,n,cc,rfl,hle,dC⟩:∃ a n cc,y=.slice a n cc∧n=rows.length∧rows.length≤cc:=by
    cases r with | ro X hl n3 hs hr=>obtain ⟨a,cc,rfl,h2⟩:=n3;exact ⟨_,_,_,rfl,rfl,h2⟩
   subst hle
   have p:=su r (o:=o) (c':=rows.length) hc (Nat.le_refl _)
   rw [List.take_length] at p
   refine ⟨_,.d p,fun w' _=>?_⟩
   have:=nt (P:=P) (w:=w') (a:=a) ht hk (n:=rows.length) (c:=cc) (l:=o) (h:=rows.length) (m:=cc) (vl:=some (.int .i64 o)) (vh:=none) (vm:=none) (by simp [Instr.sliceBounds,iM hc])
   simp only [execOp,hy,C.int hz,Option.map_some,Option.map_none,Sem.run_bind,this,Result.andThen_ok,Sem.run_pure]
 ·rename_i l hh
  split at h
  rotate_left
  ·simp at h
  rename_i z z' hz jx
  cases cf:k.beq k' with
  | false=>simp [cf] at h
  | true=>
   simp only [cf,cond_true,Option.some.injEq] at h;subst h
   obtain rfl:=Nat.eq_of_beq_eq_true cf
   refine aG.look ?_ (by simp)
   intro D w0 K0 β F I ρ w C hv
   obtain ⟨rfl,rfl,ho,hc,-⟩:=hv
   obtain ⟨y,hy,r⟩:=C.bS hx
   cases r with | d r=>
   obtain ⟨a,n,cc,rfl,hle,dC⟩:∃ a n cc,y=.slice a n cc∧n=rows.length∧rows.length≤cc:=by
    cases r with | ro X hl n3 hs hr=>obtain ⟨a,cc,rfl,h2⟩:=n3;exact ⟨_,_,_,rfl,rfl,h2⟩
   subst hle
   have p:=su r (o:=o) (c':=c) ho hc
   refine ⟨_,.d p,fun w' _=>?_⟩
   have:=nt (P:=P) (w:=w') (a:=a) ht hk (n:=rows.length) (c:=cc) (l:=o) (h:=c) (m:=cc) (vl:=some (.int .i64 o)) (vh:=some (.int .i64 c)) (vm:=none) (by simp [Instr.sliceBounds,iM (show c≤cc by omega),iM ho])
   simp only [execOp,hy,C.int hz,C.int jx,Option.map_some,Option.map_none,Sem.run_bind,this,Result.andThen_ok,Sem.run_pure]
 ·simp at h
end Go.Proofs.YtcnpikbbmbombaaGreatDoor
namespace Go.Proofs.YtcnpikbbmbombaaGreatDoor
open Go.RowKit
variable {P:Program} {T:aJ} {D:List Nat} {w0:World} {K0:World→Prop} {E:List (Nat×AV)} {M:List ai} {β:Beta} {F:Nat→al} {I X:al} {ρ:Operand→Value} {w:World}
variable {d:Option Tmp} {ty:TypeId} {pos:String} {aft:Array Edge} {gd:Option (Nat×Bool)} {oc:Option aX} {out:Out}
def vo (T:aJ) (E:List (Nat×AV)) (M:List ai) (oc:Option aX) (t:TypeId) (x ix:Operand):Option Out:=
 match df T t,aF E x,cP (aF E ix),oc with
 | some (.sl e),some (.d (.v (.slice a n _))),some (_,z),some (.n2 i v)=>(match fI T e,M[v]? with
  | some k,some (.tw a' _ _ k' rows)=>bif k.beq k' then some ⟨[z=(i:Int),a=a',i<n,n=rows.length],.ep v k i 0,M,[],[],some []⟩ else none
  | _,_=>none)
 | _,_,_,_=>none
theorem EK (hT:bc P T=true) {t:TypeId} {x ix:Operand} (h:vo T E M oc t x ix=some out):aG P ⟨d,.indexAddr t x ix,ty,pos,aft,gd⟩ E M out:=by
 unfold vo at h
 split at h
 rotate_left
 ·simp at h
 rename_i e a n ca kk z i v ht hv hz
 replace ht:=cV hT ht
 split at h
 rotate_left
 ·simp at h
 rename_i k a' c' T' k' rows hk hM
 replace hk:=hC hT hk
 cases cf:k.beq k' with
 | false=>simp [cf] at h
 | true=>
  simp only [cf,cond_true,Option.some.injEq] at h;subst h
  obtain rfl:=Nat.eq_of_beq_eq_true cf
  refine aG.look (fun C dq=>?_) (by simp)
  obtain ⟨rfl,rfl,hi,C5,-⟩:=dq
  obtain ⟨y,hy,r⟩:=C.bS hv
  cases r with | d r=>
  cases r with | v=>
  obtain ⟨H,-,hB,-⟩:=C.rm.at hM
  cases hB with
  | tw hb X G hl hs hr=>
   obtain ⟨b',cap,cs,he,-⟩:=hs.block (by omega)
   cases he
   exact ⟨_,by rw [add_eq];simpa using ax.ep (k:=k) (i:=i) (o:=0) hb,fun _ _=>r5 ht hk hy (C.int hz) (by omega) (by omega)⟩
def vp (T:aJ) (E:List (Nat×AV)) (M:List ai) (oc:Option aX) (t:TypeId) (x y:Operand):Option Out:=
 match aF E x,aF E y,fI T t,oc with
 | some (.ep u k i o),some v,some n,some (.ix _ row)=>(match nx v with
  | some l=>(match j3 M l with
   | some (vc,xs,M')=>(match M'[u]? with
    | some (.tw a c e k' rows)=>bif k.beq k'&&l.length.beq n&&(o+n).ble k then some ⟨(rows[i]?=some row)::vc,.d .jk,M'.set u (.tw a c e k (rows.set i (row.take o++(xs++row.drop (o+xs.length))))),u::pf l,[],none⟩ else none
    | _=>none)
   | none=>none)
  | none=>none)
 | _,_,_,_=>none
theorem EL (hT:bc P T=true) {t:TypeId} {x y:Operand} (h:vp T E M oc t x y=some out):aG P ⟨d,.store t x y,ty,pos,aft,gd⟩ E M out:=by
 unfold vp at h
 split at h
 rotate_left
 ·simp at h
 rename_i u k i o v n i0 row hx hy hn
 split at h
 rotate_left
 ·simp at h
 rename_i l hl
 split at h
 rotate_left
 ·simp at h
 rename_i vc xs M' hp
 split at h
 rotate_left
 ·simp at h
 rename_i aa ca e k' rows hM
 cases hc:(k.beq k'&&l.length.beq n&&(o+n).ble k) with
 | false=>simp [hc] at h
 | true=>
  simp only [hc,cond_true,Option.some.injEq] at h;subst h
  simp only [Bool.and_eq_true] at hc
  obtain rfl:=Nat.eq_of_beq_eq_true hc.1.1
  have q9:=Nat.eq_of_beq_eq_true hc.1.2
  have hle:=Nat.le_of_ble_eq_true hc.2
  intro D w0 K0 β F I ρ w C hv
  obtain ⟨bQ,hv⟩:=hv
  obtain ⟨yx,ja,rx⟩:=C.bS hx
  obtain ⟨yy,nX,ry⟩:=C.bS hy
  obtain ⟨zs,h1,h2,h3,h4⟩:=p5 hl ry
  obtain ⟨lM,F',Hp,R',dd,yL⟩:=sq C.rm.x hp hv (ys:=zs) h2 h3
  rw [List.nil_append] at R'
  cases rx with
  | @ep _ _ _ _ b0 c0 hb=>
   have aI:u<M'.length:=fe hM
   have hB:=R'.blk u _ hM
   have hH:=R'.iD hM
   have R1:=R'.fj hM
   have dl:=dd.len
   obtain ⟨Gx,yM,rn⟩:=dd.to
   generalize jc:F' u=Fu at hB hH R1
   cases hB with
   | tw aS X G cN hs hr=>
    rw [hb] at aS;cases aS
    obtain ⟨hi,-⟩:=List.getElem?_eq_some_iff.1 bQ
    obtain ⟨b',cap,cs,he,rfl,cG,dC,ht⟩:=hs.block (by omega)
    cases he
    have hw:=(Holds.app.1 hH).1.one
    have hX:∀ a,a<rows.length→(X a).length=k:=fun a ha=>(cN a _ (List.getElem?_eq_getElem ha)).2
    have yK:i*k+k≤rows.length*k:=by have:=Nat.mul_le_mul_right k (show i+1≤rows.length from hi);rw [Nat.succ_mul] at this;exact this
    have bE:rows.length*k≤cs.size:=by rw [cG];exact Nat.mul_le_mul_right _ dC
    refine u6 n (hC hT hn) ja nX hw (by rw [h1];simp;omega) (by omega) (by rw [h1];simpa using h4) ?_
    rw [h1]
    have ra:dz (fun w=>K0 w∧Holds w I) k rows X G:=⟨cN,hr⟩
    have fT:=ra.put (o:=o) (zs:=zs) (xs:=xs) (Gx:=Gx) bQ (by omega) dl rn
    have br:=R1.st
    have lr:St D w0 w ((b0,.cells cs e (0,0))::(bB rows.length k G++(Hp++((List.range (M'.set u .dead).length).flatMap (aH F' u [])++I)))):=br.perm (by classical rw [List.perm_iff_count];intro z;simp only [List.count_append,List.count_cons,List.cons_append,List.nil_append];omega)
    have lu:=lr.set (.cells (ch cs (i*k+o) zs) e (0,0))
    have jH:=sc (n:=rows.length) (k:=k) (i:=i) (o:=o) (m:=zs.length) hi (by omega) G Gx
    rw [yM,← dl] at lu
    have R2:bK D w0 K0 (M'.set u .dead) β (aH F' u []) I (([(b0,.cells (ch cs (i*k+o) zs) e (0,0))]++bB rows.length k (dB G i o zs.length Gx))++(List.range' o zs.length).flatMap (G i)) _:=R1.move (lu.perm (by
     classical
     have hc:=List.perm_iff_count.1 jH
     rw [List.perm_iff_count];intro z
     have:=hc z
     simp only [List.count_append,List.count_cons,List.cons_append,List.nil_append] at this ⊢
     omega))
    have fJ:bq (fun w=>K0 w∧Holds w I) β u (.tw (some ⟨b0,0,none⟩) ca e k (rows.set i (row.take o++(xs++row.drop (o+xs.length))))) ([(b0,.cells (ch cs (i*k+o) zs) e (0,0))]++bB rows.length k (dB G i o zs.length Gx)):=by
     have:=bq.tw (K:=fun w=>K0 w∧Holds w I) (u:=u) (T:=e) (k:=k) (rows:=rows.set i (row.take o++(xs++row.drop (o+xs.length)))) (H0:=[(b0,.cells (ch cs (i*k+o) zs) e (0,0))]) hb (gD X i o zs) (dB G i o zs.length Gx) fT.hl (by
      rw [List.length_set]
      exact ⟨eD fun a ha=>qg (by omega) (hX a ha),Or.inr ⟨_,_,_,rfl,rfl,by rw [kV];exact cG,dC,AY hX hi (by omega) ht bE⟩⟩) fT.hr
     rw [List.length_set] at this;exact this
    have R3:=((R2.drop.perm (Y:=([(b0,.cells (ch cs (i*k+o) zs) e (0,0))]++bB rows.length k (dB G i o zs.length Gx))++[]) (by rw [List.append_nil])).back (by rw [List.length_set];exact aI) (by simp [aH]) fJ).nil rfl
    rw [List.set_set] at R3
    refine ⟨β,_,I,R3,(Ext.refl β).b _,bR.refl _,fun q hq gQ=>?_,.d (.jk _)⟩
    simp only [List.mem_cons,not_or] at gQ
    simp only [aH];rw [if_neg gQ.1,if_neg gQ.1]
    exact yL q gQ.2
def wh (T:aJ) (E:List (Nat×AV)) (M:List ai) (oc:Option aX) (t:TypeId) (x:Operand):Option Out:=
 match aF E x with
 | some (.ep u k i o)=>(match oc with
  | some (.ix _ row)=>(match M[u]? with | some (.tw _ _ _ k' rows)=>bif k.beq k'&&row.all DV.cp then (match kN T t (row.map .d) o with | some v=>some ⟨[rows[i]?=some row],v,M,[],[],some [u]⟩ | none=>none) else none | _=>none)
  | _=>none)
 | _=>none
theorem FB (hT:bc P T=true) {t:TypeId} {x:Operand} (h:wh T E M oc t x=some out):aG P ⟨d,.load t x,ty,pos,aft,gd⟩ E M out:=by
 unfold wh at h
 split at h
 ·rename_i u k i o hv
  split at h
  ·rename_i i0 row
   split at h
   rotate_left
   ·simp at h
   rename_i aw cw Tt k' rows hM
   cases hk:(k.beq k'&&row.all DV.cp) with
   | false=>simp [hk] at h
   | true=>
    simp only [hk,cond_true] at h
    simp only [Bool.and_eq_true] at hk
    obtain ⟨hk,q8⟩:=hk
    obtain rfl:=Nat.eq_of_beq_eq_true hk
    split at h
    ·rename_i v jv
     simp only [Option.some.injEq] at h;subst h
     refine aG.look ?_ (by simpa using fe hM)
     intro D w0 K0 β F I ρ w C dq
     obtain ⟨bQ,-⟩:=dq
     obtain ⟨y,hy,r⟩:=C.bS hv
     cases r with
     | ep hb=>
      obtain ⟨H,hF,hB,hH⟩:=C.rm.at hM
      cases hB with
      | tw aS X G hl hs hr=>
       rw [hb] at aS;cases aS
       obtain ⟨tM,tN⟩:=hl i row bQ
       obtain ⟨hi,-⟩:=List.getElem?_eq_some_iff.1 bQ
       obtain ⟨b',cap,cs,he,rfl,cG,hn,ht⟩:=hs.block (by omega)
       cases he
       have cN:(X i).length=(row.map AV.d).length:=by rw [List.length_map];omega
       obtain ⟨y',h1,h2⟩:=oS hT (a:=⟨_,i*k,none⟩) (R:=ax (fun w=>K0 w∧Holds w I) β) (fun l ys=>ax.ag ys) jv (hy.trans (by rw [add_eq])) cN (fun j c z h1 h2=>by
        simp only [List.getElem?_map,Option.map_eq_some_iff] at h1
        obtain ⟨c',h1,rfl⟩:=h1
        exact .d ((hr i row j c' z bQ h1 h2).cp (List.all_eq_true.1 q8 c' (List.mem_of_getElem? h1))))
       refine ⟨y',h1,fun w' yt=>h2 w' fun j z hj=>?_⟩
       have dX:Holds w' _:=yt.2 u (by simp)
       rw [hF] at dX
       have hw:=(Holds.app.1 dX).1.one
       obtain ⟨iY,-⟩:=List.getElem?_eq_some_iff.1 hj
       rw [add_eq,cell_of hw,← hj,← jV (fun i hi=>(hl i _ (List.getElem?_eq_getElem hi)).2) hi (by omega),← ht,List.getElem?_take,if_pos,Array.getElem?_toList]
       have:=Nat.mul_le_mul_right k (show i+1≤rows.length from hi);rw [Nat.succ_mul] at this;omega
    ·simp at h
  ·simp at h
 ·simp at h
end Go.Proofs.YtcnpikbbmbombaaGreatDoor
namespace Go.Proofs.YtcnpikbbmbombaaGreatDoor
open Go.RowKit
variable {P:Program} {T:aJ} {E:List (Nat×AV)} {M:List ai} {d:Option Tmp} {ty:TypeId} {pos:String} {aft:Array Edge} {gd:Option (Nat×Bool)} {oc:Option aX} {out:Out}
def dm (P:Program) (t:TypeId):Prop:=P.underlying t=some (.pointer (P.pointee t))
theorem EM {ρ:Operand→Value} {w:World} {Φ:Value→World→Prop} {x:Operand} {t t':TypeId} {o:Option Addr} {c:Bool} (ht:dm P t) (h:ρ x=.pointer o) (hn:ρ (.const (.pointer none))=.pointer none) (hc:(!o.isNone)=c) (aD:Φ (.bool c) w):aY P ⟨d,.binOp .neq t x (.const (.pointer none)) t',ty,pos,aft,gd⟩ ρ w Φ:=by
 subst hc
 exact .pure (v:=.bool !o.isNone) (by simp [execOp,h,hn,eqGuard,binOp,Op.equal,Op.maxDepth,run_equalIn_pointer_nil w 9999 t o ht]) aD
def qU:Option AV→Option Bool
 | some (.pt _ _)=>some false
 | some (.ep _ _ _ _)=>some false
 | some (.rp _ _)=>some false
 | some (.d (.v (.pointer none)))=>some true
 | _=>none
def xg (P:Program) (E:List (Nat×AV)) (M:List ai) (op:BinOp) (t:TypeId) (x y:Operand):Option Out:=
 match op,y,qU (aF E x) with
 | .eql,.const (.pointer none),some c=>some (lk [dm P t] (.b c) M)
 | .neq,.const (.pointer none),some c=>some (lk [dm P t] (.b (!c)) M)
 | _,_,_=>none
theorem A3 {K:World→Prop} {β:Beta} {v:Option AV} {a:AV} {c:Bool} {y:Value} (h:qU v=some c) (hv:v=some a) (r:ax K β a y):∃ o,y=.pointer o∧o.isNone=c:=by
 subst hv
 unfold qU at h
 split at h
 ·rename_i hx;cases hx;simp only [Option.some.injEq] at h;subst h
  cases r with | pt hb=>exact ⟨_,rfl,rfl⟩
 ·rename_i hx;cases hx;simp only [Option.some.injEq] at h;subst h
  cases r with | ep hb=>exact ⟨_,rfl,rfl⟩
 ·rename_i hx;cases hx;simp only [Option.some.injEq] at h;subst h
  cases r with | rp a X hl hc hr=>exact ⟨_,rfl,rfl⟩
 ·rename_i hx;cases hx;simp only [Option.some.injEq] at h;subst h
  cases r with | d r=>cases r;exact ⟨_,rfl,rfl⟩
 ·simp at h
theorem GO {op:BinOp} {t t':TypeId} {x y:Operand} (h:xg P E M op t x y=some out):aG P ⟨d,.binOp op t x y t',ty,pos,aft,gd⟩ E M out:=by
 unfold xg at h
 split at h
 ·rename_i c hx
  simp only [Option.some.injEq] at h;subst h
  refine jY (.of fun _=>⟨_,rfl⟩) ?_
  intro D w0 K0 β F I ρ w' C hv
  obtain ⟨hp,-⟩:=hv
  cases n4:aF E x with
  | none=>rw [n4] at hx;simp [qU] at hx
  | some a=>
   obtain ⟨o,ho,hc⟩:=A3 hx n4 (C.ev n4)
   exact ⟨_,.d (.v _),fun w Φ aD=>Gj hp ho (C.const _) hc aD⟩
 ·rename_i c hx
  simp only [Option.some.injEq] at h;subst h
  refine jY (.of fun _=>⟨_,rfl⟩) ?_
  intro D w0 K0 β F I ρ w' C hv
  obtain ⟨hp,-⟩:=hv
  cases n4:aF E x with
  | none=>rw [n4] at hx;simp [qU] at hx
  | some a=>
   obtain ⟨o,ho,hc⟩:=A3 hx n4 (C.ev n4)
   exact ⟨_,.d (.v _),fun w Φ aD=>EM hp ho (C.const _) (by rw [hc]) aD⟩
 ·simp at h
def lz (g:Nat):List ai→Option (List DV)
 | []=>none
 | .gw g' row::r=>bif g'.beq g then some row else lz g r
 | _::r=>lz g r
theorem vq {g:Nat} {row:List DV}:∀ {M:List ai},lz g M=some row→∃ u:Nat,M[u]?=some (ai.gw g row)
 | [],h=>by simp [lz] at h
 | b::r,h=>by
  have next:lz g r=some row→∃ u:Nat,(b::r)[u]?=some (ai.gw g row):=fun h=>by
   obtain ⟨u,hu⟩:=vq h
   exact ⟨u+1,by simpa using hu⟩
  cases b with
  | gw g' OK=>
   simp only [lz] at h
   cases hc:g'.beq g with
   | true=>
    simp only [hc,cond_true,Option.some.injEq] at h;subst h
    obtain rfl:=Nat.eq_of_beq_eq_true hc
    exact ⟨0,rfl⟩
   | false=>
    simp only [hc,cond_false] at h
    exact next h
  | _=>simp only [lz] at h;exact next h
def vr (T:aJ) (E:List (Nat×AV)) (M:List ai) (oc:Option aX) (t:TypeId) (x ix:Operand):Option Out:=
 match x,cP (aF E ix),df T t,oc with
 | .global g,some (_,z),some (.ar n e),some (.ix i [c])=>(match fI T e,lz g M with
  | some k,some row=>bif k.beq 1 then some (lk [z=(i:Int),i<n,row[i]?=some c] (.rp [c] 0) M) else none
  | _,_=>none)
 | _,_,_,_=>none
theorem EN (hT:bc P T=true) {t:TypeId} {x ix:Operand} (h:vr T E M oc t x ix=some out):aG P ⟨d,.indexAddr t x ix,ty,pos,aft,gd⟩ E M out:=by
 unfold vr at h
 split at h
 rotate_left
 ·simp at h
 rename_i g kk z n e i c hz ht
 split at h
 rotate_left
 ·simp at h
 rename_i k row hk hg
 cases hc:k.beq 1 with
 | false=>simp [hc] at h
 | true=>
  simp only [hc,cond_true,Option.some.injEq] at h;subst h
  obtain rfl:=Nat.eq_of_beq_eq_true hc
  refine aG.same fun C dq=>?_
  obtain ⟨rfl,hi,bQ,-⟩:=dq
  obtain ⟨u,hu⟩:=vq hg
  obtain ⟨H,-,hB,-⟩:=C.rm.at hu
  cases hB with
  | gw X hl jM hr=>
   have aI:i<X.length:=by have:=(List.getElem?_eq_some_iff.1 bQ).1;omega
   have hx:X[i]?=some X[i]:=List.getElem?_eq_getElem aI
   have e0:(⟨g,0,none⟩:Addr).add (((i:Nat):Int).toNat*1)=((⟨g,0,none⟩:Addr).add i).add 0:=by rw [add_zero'];simp
   refine ⟨_,fun _ _=>oy (cV hT ht) (hC hT hk) (C.CD g) (C.int hz) (by simp) (by simp;omega),?_⟩
   rw [e0]
   refine .rp _ [X[i]] rfl (fun w' dX j y hj=>?_) (fun j c' y h1 h2=>?_)
   ·cases j with
    | zero=>simp at hj;subst hj;rw [add_zero'];exact jM w' dX i _ hx
    | succ j=>simp at hj
   ·cases j with
    | zero=>simp at h1 h2;subst h1;subst h2;exact hr i _ _ bQ hx
    | succ j=>simp at h1
section
variable {ρ:Operand→Value} {w:World}
theorem FC {w:World} {b:Nat} {c:Array Value} {e:TypeId} (hb:w.heap[b]?=some (.cells c e (0,0))):w.freeze ⟨b,c.size,none⟩ 1=cn w b (.cells c e (c.size,c.size+1)):=by
 unfold World.freeze cn
 rw [if_neg (by decide)]
 congr 1
 apply Array.ext_getElem?
 intro j
 have aI:=kq hb
 rw [Array.getElem?_modify,Array.getElem?_setIfInBounds]
 by_cases e':b=j
 ·subst e'
  have hg:w.heap[b]=.cells c e (0,0):=by rw [Array.getElem?_eq_getElem aI] at hb;exact Option.some.inj hb
  simp [aI,hg]
 ·simp [e']
theorem JG {t t' e:TypeId} {x:Operand} {bs:List UInt8} (ht:P.underlying t=some .string) (n5:P.underlying t'=some (.slice e)) (he:P.underlying e=some (.int .u8)) (hx:ρ x=.string ⟨bs.toArray⟩):
  ∃ (k:Nat) (c:Array Value),bs.length≤k∧c=(bs.map fun b:UInt8=>Value.int .u8 b.toNat).toArray++Array.replicate (k-bs.length) (Value.int .u8 0)∧
   (execOp ρ ⟨d,.convert t t' x,ty,pos,aft,gd⟩).run P w=.ok (.value (.slice (some ⟨w.heap.size,0,none⟩) bs.length k)) (cn (w.drew.alloc (.cells c e (0,0))) w.heap.size (.cells c e (c.size,c.size+1))):=by
 refine ⟨(Question.appendCap bs.length 0 e).cut (w.tape w.drawn (.appendCap bs.length 0 e)),_,by simp [Question.cut],rfl,?_⟩
 generalize hk:(Question.appendCap bs.length 0 e).cut (w.tape w.drawn (.appendCap bs.length 0 e))=k
 generalize jM:(bs.map fun b:UInt8=>Value.int .u8 b.toNat).toArray++Array.replicate (k-bs.length) (Value.int .u8 0)=c
 have yo:(choose (.appendCap bs.length 0 e)).run P w=.ok k w.drew:=by
  rw [← hk];simp [choose,Sem.run,Question.forced]
 have bQ:∀ (cs:Array Value) (w:World),(newRow e cs).run P w=.ok ⟨w.heap.size,0,none⟩ (w.alloc (.cells cs e)):=by
  intro cs w;simp [newRow,newObj,Sem.run]
 have lN:(markStringish ⟨w.heap.size,0,none⟩).run P (w.drew.alloc (.cells c e (0,0)))=.ok () (cn (w.drew.alloc (.cells c e (0,0))) w.heap.size (.cells c e (c.size,c.size+1))):=by
  have hb:(w.drew.alloc (.cells c e (0,0))).heap[w.heap.size]?=some (.cells c e (0,0)):=Ae w.drew _
  have nS:(w.drew.alloc (.cells c e (0,0))).shape? w.heap.size=some (e,c.size):=by unfold World.shape?;rw [hb]
  have:=FC hb
  unfold markStringish
  simp only [Sem.run_bind]
  have h1:(shape w.heap.size).run P (w.drew.alloc (.cells c e (0,0)))=.ok (some (e,c.size)) (w.drew.alloc (.cells c e (0,0))):=by
   simp [shape,Sem.run,nS]
  rw [h1]
  simp only [Result.andThen_ok]
  simp [freeze,Sem.run,this]
 have KW:(Conv.stringToBytes e ⟨bs.toArray⟩).run P w=.ok (.slice (some ⟨w.heap.size,0,none⟩) bs.length k) (cn (w.drew.alloc (.cells c e (0,0))) w.heap.size (.cells c e (c.size,c.size+1))):=by
  have bE:(⟨bs.toArray⟩:ByteArray).size=bs.length:=by simp [ByteArray.size]
  unfold Conv.stringToBytes
  simp only [bE,Sem.run_bind,yo,Result.andThen_ok,bQ,Sem.run_pure]
  have cG:((Array.map (fun b:UInt8=>Value.int .u8 (b.toNat:Int)) bs.toArray)++Array.replicate (k-bs.length) (Value.int .u8 0))=c:=by rw [← jM];simp
  rw [cG]
  have hd:w.drew.heap.size=w.heap.size:=rfl
  rw [hd,lN]
  rfl
 simp only [execOp,hx,convert,Sem.run_bind,run_underlying ht,run_underlying n5,run_underlying he,Result.andThen_ok,KW,Sem.run_pure]
theorem Bv {n:Nat} (f:Nat→Value):lay n (fun i=>[f i])=(List.range n).map f:=by
 unfold lay
 induction n with
 | zero=>rfl
 | succ n ih=>rw [List.range_succ,List.flatMap_append,List.map_append,ih];rfl
end
theorem Bw (w:World) (o:Obj):Gr w (w.drew.alloc o)∧dE w (w.drew.alloc o) [(w.heap.size,o)]:=⟨(Gr.drew w).trans (Gr.alloc w.drew o),(dE.alloc w.drew o).ahead (Gr.drew w)⟩
def xh (T:aJ) (E:List (Nat×AV)) (M:List ai) (t t':TypeId) (x:Operand):Option Out:=
 match df T t,df T t',jG (aF E x) with
 | some .st,some (.sl e),some bs=>(match df T e with
  | some (.it .u8)=>some ⟨[],.d (.ro 1 (ae bs)),M,[],[],none⟩
  | _=>none)
 | _,_,_=>none
theorem GP (hT:bc P T=true) {t t':TypeId} {x:Operand} (h:xh T E M t t' x=some out):aG P ⟨d,.convert t t' x,ty,pos,aft,gd⟩ E M out:=by
 unfold xh at h
 split at h
 rotate_left
 ·cases h
 rename_i e bs ht n5 hs
 split at h
 rotate_left
 ·cases h
 rename_i he
 simp only [Option.some.injEq] at h;subst h
 intro D w0 K0 β F I ρ w C _
 have Mq:=C.str (x:=x) (l:=bs) hs
 obtain ⟨k,c,hk,hc,gj⟩:=JG (d:=d) (ty:=ty) (pos:=pos) (aft:=aft) (gd:=gd) (w:=w) (cV hT ht) (cV hT n5) (cV hT he) Mq
 refine aY.pure gj ?_
 have s1:St D w0 (w.drew.alloc (.cells c e (0,0))) ((w.heap.size,.cells c e (0,0))::((List.range M.length).flatMap F++I)):=C.rm.st.new (Bw w (.cells c e (0,0))).1 (Bw w (.cells c e (0,0))).2
 have s2:=s1.set (.cells c e (c.size,c.size+1))
 have R2:RM D w0 K0 M β F ([(w.heap.size,.cells c e (c.size,c.size+1))]++I) (cn (w.drew.alloc (.cells c e (0,0))) w.heap.size (.cells c e (c.size,c.size+1))):=by
  refine ⟨C.rm.len,fun v bl hv=>(C.rm.blk v bl hv).mono (fun w hw=>⟨hw.1,(Holds.app.1 hw.2).2⟩) (Ext.refl _),?_⟩
  exact s2.perm (by classical rw [List.perm_iff_count];intro z;simp only [List.count_append,List.count_cons,List.count_nil];omega)
 refine ⟨β,F,_,R2,(Ext.refl β).b _,⟨_,rfl⟩,fun _ _ _=>rfl,?_⟩
 have hlen:(ae bs).length=bs.length:=by simp [ae]
 refine .d (.ro (fun i=>[Value.int .u8 (bs.getD i 0).toNat]) (fun i r hi=>?_) ⟨_,_,by rw [hlen],by rw [hlen];exact hk⟩ (fun w' dX=>?_) fun i r j cc z h1 h2 h3=>?_)
 ·simp only [ae,List.getElem?_map,Option.map_eq_some_iff] at hi
  obtain ⟨b,-,rfl⟩:=hi;exact ⟨rfl,rfl⟩
 ·have aS:w'.heap[w.heap.size]?=some (.cells c e (c.size,c.size+1)):=(Holds.app.1 dX.2).1.one
  rw [hlen,Bv]
  refine ⟨by simp,Or.inr ⟨_,k,rfl,fun j hj=>?_⟩⟩
  rw [add_eq,Nat.zero_add,cell_of aS,hc]
  have iY:j<bs.length:=by simpa using hj
  rw [Array.getElem?_append_left (by simpa using iY)]
  simp [iY,List.getD_eq_getElem?_getD]
 ·simp only [ae,List.getElem?_map,Option.map_eq_some_iff] at h1
  obtain ⟨b,hb,rfl⟩:=h1
  cases j with
  | succ j=>simp at h2
  | zero=>
   simp at h2 h3;subst h2;subst h3
   simp only [List.getD_eq_getElem?_getD,hb,Option.getD_some]
   exact .v _
end Go.Proofs.YtcnpikbbmbombaaGreatDoor
namespace Go.Proofs.YtcnpikbbmbombaaGreatDoor
open Go.RowKit
variable {P:Program} {T:aJ} {D:List Nat} {w0:World} {K0:World→Prop} {E:List (Nat×AV)} {M:List ai} {β:Beta} {F:Nat→al} {I X:al} {ρ:Operand→Value} {w:World}
variable {d:Option Tmp} {ty:TypeId} {pos:String} {aft:Array Edge} {gd:Option (Nat×Bool)} {oc:Option aX} {out:Out}
def tv (l:List UInt8):AV:=.d (.v (.string ⟨l.toArray⟩))
theorem strSize (l:List UInt8):(⟨l.toArray⟩:ByteArray).size=l.length:=by simp [ByteArray.size]
theorem Ic {op:BinOp} {t t':TypeId} {x y:Operand} {a b:List UInt8} (NC:op=.add) (hx:ρ x=.string ⟨a.toArray⟩) (hy:ρ y=.string ⟨b.toArray⟩) (hle:a.length+b.length≤9223372036854775807):
  (execOp ρ ⟨d,.binOp op t x y t',ty,pos,aft,gd⟩).run P w=.ok (.value (.string ⟨(a++b).toArray⟩)) w:=by
 subst NC
 have hn:¬ (((a.length+b.length:Nat):Int)>IntKind.i64.max):=by simp [IntKind.max,IntKind.signed,IntKind.bits];omega
 have lG:(⟨a.toArray⟩:ByteArray)++⟨b.toArray⟩=⟨(a++b).toArray⟩:=by
  apply ByteArray.ext;simp
 simp only [execOp,hx,hy,eqGuard,binOp,Op.stringOp,Sem.run_bind,Sem.run_pure,Result.andThen_ok,strSize]
 rw [if_neg hn,lG]
 simp
def x3 (E:List (Nat×AV)) (M:List ai) (op:BinOp) (x y:Operand):Option Out:=
 match op,jG (aF E x),jG (aF E y) with
 | .add,some a,some b=>some (lk [a.length+b.length≤9223372036854775807] (tv (a++b)) M)
 | _,_,_=>none
theorem Ie {op:BinOp} {t t':TypeId} {x y:Operand} (h:x3 E M op x y=some out):aG P ⟨d,.binOp op t x y t',ty,pos,aft,gd⟩ E M out:=by
 unfold x3 at h
 split at h
 ·rename_i a b ha hb
  simp only [Option.some.injEq] at h;subst h
  exact aG.same fun C hv=>⟨_,fun w' _=>Ic rfl (C.str ha) (C.str hb) hv.1,.d (.v _)⟩
 ·cases h
theorem EO {t:TypeId} {x ix:Operand} {l:List UInt8} {k:IntKind} {i:Nat} {u:UInt8} (ht:P.underlying t=some .string) (hx:ρ x=.string ⟨l.toArray⟩) (hi:ρ ix=.int k (i:Int)) (hu:l[i]?=some u):
  (execOp ρ ⟨d,.index t x ix,ty,pos,aft,gd⟩).run P w=.ok (.value (.int .u8 (u.toNat:Int))) w:=by
 have h4:(⟨l.toArray⟩:ByteArray)[i]?=some u:=by
  obtain ⟨hi,rfl⟩:=List.getElem?_eq_some_iff.1 hu
  exact getElem?_pos (⟨l.toArray⟩:ByteArray) i (by show i<l.toArray.size;simpa using hi)
 simp [execOp,hx,hi,Instr.index,asIntOf,Sem.run_bind,run_underlying ht,h4]
def xi (T:aJ) (E:List (Nat×AV)) (M:List ai) (oc:Option aX) (t:TypeId) (x ix:Operand):Option Out:=
 match df T t,jG (aF E x),cP (aF E ix),oc with
 | some .st,some l,some (_,z),some (.ix i [c])=>some (lk [z=(i:Int),∃ u:UInt8,l[i]?=some u∧c=.v (.int .u8 (u.toNat:Int))] (.d c) M)
 | _,_,_,_=>none
theorem GQ (hT:bc P T=true) {t:TypeId} {x ix:Operand} (h:xi T E M oc t x ix=some out):aG P ⟨d,.index t x ix,ty,pos,aft,gd⟩ E M out:=by
 unfold xi at h
 split at h
 ·rename_i l k z i c hu hx hz
  simp only [Option.some.injEq] at h;subst h
  refine aG.same fun C hv=>?_
  obtain ⟨rfl,⟨u,h1,rfl⟩,-⟩:=hv
  exact ⟨_,fun w' _=>EO (cV hT hu) (C.str hx) (C.int hz) h1,.d (.v _)⟩
 ·cases h
theorem Mr (l:List UInt8) (o c:Nat):(⟨l.toArray⟩:ByteArray).extract o c=⟨((l.take c).drop o).toArray⟩:=by
 apply ByteArray.ext
 rw [ByteArray.data_extract]
 apply Array.toList_inj.1
 simp [Array.toList_extract,List.extract_eq_take_drop,List.drop_take]
theorem uX {t:TypeId} {x:Operand} {lo hi:Option Operand} {l:List UInt8} {o c:Nat} (ht:P.underlying t=some .string) (hx:ρ x=.string ⟨l.toArray⟩)
  (hb:(Instr.sliceBounds false l.length l.length (lo.map ρ) (hi.map ρ) none).run P w=.ok (o,c,l.length) w):
  (execOp ρ ⟨d,.slice t x lo hi none,ty,pos,aft,gd⟩).run P w=.ok (.value (.string ⟨((l.take c).drop o).toArray⟩)) w:=by
 simp only [execOp,hx,Option.map_none,Instr.sliceAt,Instr.slice,Sem.run_bind,run_underlying ht,Result.andThen_ok,Option.isSome_none,Bool.false_eq_true,if_false,strSize,hb,Sem.run_pure,Mr]
def x4 (T:aJ) (E:List (Nat×AV)) (M:List ai) (oc:Option aX) (t:TypeId) (x:Operand) (lo hi mx:Option Operand):Option Out:=
 match df T t,jG (aF E x),oc,mx with
 | some .st,some l,some (.n2 c o),none=>(match lo,hi with
  | none,some h=>(match cP (aF E h) with
   | some (.i64,z)=>some (lk [z=(c:Int),c≤l.length] (tv (l.take c)) M)
   | _=>none)
  | some lo,none=>(match cP (aF E lo) with
   | some (.i64,z)=>some (lk [z=(o:Int),o≤l.length] (tv (l.drop o)) M)
   | _=>none)
  | some lo,some h=>(match cP (aF E lo),cP (aF E h) with
   | some (.i64,z),some (.i64,z')=>some (lk [z=(o:Int),z'=(c:Int),o≤c,c≤l.length] (tv ((l.take c).drop o)) M)
   | _,_=>none)
  | _,_=>none)
 | _,_,_,_=>none
theorem Ig (hT:bc P T=true) {t:TypeId} {x:Operand} {lo hi mx:Option Operand} (h:x4 T E M oc t x lo hi mx=some out):aG P ⟨d,.slice t x lo hi mx,ty,pos,aft,gd⟩ E M out:=by
 unfold x4 at h
 split at h
 rotate_left
 ·cases h
 rename_i l c o hu hx
 replace hu:=cV hT hu
 split at h
 ·rename_i hh
  split at h
  rotate_left
  ·cases h
  rename_i z hz
  simp only [Option.some.injEq] at h;subst h
  refine aG.same ?_
  intro D w0 K0 β F I ρ w C hv
  obtain ⟨rfl,hc,-⟩:=hv
  refine ⟨.string ⟨(l.take c).toArray⟩,fun w' _=>?_,.d (.v _)⟩
  have:=uX (P:=P) (ρ:=ρ) (w:=w') (d:=d) (ty:=ty) (pos:=pos) (aft:=aft) (gd:=gd) (lo:=none) (hi:=some hh) (o:=0) (c:=c) hu (C.str hx) (by simp [Instr.sliceBounds,C.int hz,iM hc])
  simpa using this
 ·rename_i ll
  split at h
  rotate_left
  ·cases h
  rename_i z hz
  simp only [Option.some.injEq] at h;subst h
  refine aG.same ?_
  intro D w0 K0 β F I ρ w C hv
  obtain ⟨rfl,ho,-⟩:=hv
  refine ⟨.string ⟨(l.drop o).toArray⟩,fun w' _=>?_,.d (.v _)⟩
  have:=uX (P:=P) (ρ:=ρ) (w:=w') (d:=d) (ty:=ty) (pos:=pos) (aft:=aft) (gd:=gd) (lo:=some ll) (hi:=none) (o:=o) (c:=l.length) hu (C.str hx) (by simp [Instr.sliceBounds,C.int hz,iM ho])
  simpa using this
 ·rename_i ll hh
  split at h
  rotate_left
  ·cases h
  rename_i z z' hz jx
  simp only [Option.some.injEq] at h;subst h
  refine aG.same fun C hv=>?_
  obtain ⟨rfl,rfl,ho,hc,-⟩:=hv
  refine ⟨.string ⟨((l.take c).drop o).toArray⟩,fun w' _=>?_,.d (.v _)⟩
  exact uX hu (C.str hx) (by simp [Instr.sliceBounds,C.int hz,C.int jx,iM hc,iM ho])
 ·cases h
def xj (T:aJ) (E:List (Nat×AV)) (M:List ai) (oc:Option aX) (t:TypeId) (x ix:Operand):Option Out:=
 match x,cP (aF E ix),df T t,oc with
 | .global g,some (_,z),some (.ar n e),some (.ix i row)=>(match fI T e,lz g M with
  | some k,some CG=>some (lk [z=(i:Int),i<n,(CG.drop (i*k)).take k=row] (.rp row 0) M)
  | _,_=>none)
 | _,_,_,_=>none
theorem GR (hT:bc P T=true) {t:TypeId} {x ix:Operand} (h:xj T E M oc t x ix=some out):aG P ⟨d,.indexAddr t x ix,ty,pos,aft,gd⟩ E M out:=by
 unfold xj at h
 split at h
 rotate_left
 ·cases h
 rename_i g kk z n e i row hz ht
 split at h
 rotate_left
 ·cases h
 rename_i k CG hk hg
 simp only [Option.some.injEq] at h;subst h
 refine aG.same fun C dq=>?_
 obtain ⟨rfl,hi,rfl,-⟩:=dq
 obtain ⟨u,hu⟩:=vq hg
 obtain ⟨H,-,hB,-⟩:=C.rm.at hu
 cases hB with
 | gw X hl jM hr=>
  have e0:(⟨g,0,none⟩:Addr).add (((i:Nat):Int).toNat*k)=((⟨g,0,none⟩:Addr).add (i*k)).add 0:=by rw [add_zero'];simp
  refine ⟨_,fun _ _=>oy (cV hT ht) (hC hT hk) (C.CD g) (C.int hz) (by simp) (by simp;omega),?_⟩
  rw [e0]
  refine .rp _ ((X.drop (i*k)).take k) (by simp [hl]) (fun w' dX j y hj=>?_) (fun j c' y h1 h2=>?_)
  ·rw [List.getElem?_take] at hj
   split at hj
   ·rw [List.getElem?_drop] at hj
    rw [Addr.nr];exact jM w' dX _ y hj
   ·cases hj
  ·rw [List.getElem?_take] at h1 h2
   split at h1
   ·rename_i hj
    rw [if_pos hj] at h2
    rw [List.getElem?_drop] at h1 h2
    exact hr _ _ _ h1 h2
   ·cases h1
theorem A4 (K:World→Prop) (bs:List UInt8):dz K 1 (ae bs) (fun i=>[Value.int .u8 (bs.getD i 0).toNat]) (fun _ _=>[]):=by
 refine ⟨fun i r hi=>?_,fun i r j cc z h1 h2 h3=>?_⟩
 ·simp only [ae,List.getElem?_map,Option.map_eq_some_iff] at hi
  obtain ⟨b,-,rfl⟩:=hi;exact ⟨rfl,rfl⟩
 ·simp only [ae,List.getElem?_map,Option.map_eq_some_iff] at h1
  obtain ⟨b,hb,rfl⟩:=h1
  cases j with
  | succ j=>simp at h2
  | zero=>
   simp at h2 h3;subst h2;subst h3
   simp only [List.getD_eq_getElem?_getD,hb,Option.getD_some]
   exact .v _
theorem Aq (bs:List UInt8):lay bs.length (fun i=>[Value.int .u8 (bs.getD i 0).toNat])=bs.map fun b:UInt8=>Value.int .u8 (b.toNat:Int):=by
 rw [Bv]
 apply List.ext_getElem
 ·simp
 ·intro i h1 h2
  simp only [List.length_map,List.length_range] at h1
  simp [List.getD_eq_getElem?_getD,List.getElem?_eq_getElem h1]
theorem Ar (bs:List UInt8):bd (ae bs):=by simp [bd,AV.one,bW,ae]
def xk (T:aJ) (E:List (Nat×AV)) (M:List ai) (st xt:TypeId) (x y:Operand):Option Out:=
 match jb T st,df T xt,jG (aF E y),aF E x with
 | some (e,k,b,_),some .st,some bs,some vx=>bif k.beq 1 then (match pd M e k vx with
  | some (some u,n,rows)=>some ⟨[n=rows.length,(2*(n+bs.length)+192)*b≤281474976710656,n+bs.length<4611686018427387904],.sl u (n+bs.length),(M.map (ic [u])).set u (.rw e k (rows++ae bs)),[u],[u],none⟩
  | some (none,_,_)=>some ⟨[(2*(0+bs.length)+192)*b≤281474976710656,0+bs.length<4611686018427387904],.sl M.length bs.length,M++[.rw e k (ae bs)],[],[],none⟩
  | none=>none) else none
 | _,_,_,_=>none
theorem GS (hT:bc P T=true) {st xt:TypeId} {x y:Operand} (h:xk T E M st xt x y=some out):aG P ⟨d,.call ⟨.builtin .append,#[x,y],#[st,xt]⟩,ty,pos,aft,gd⟩ E M out:=by
 unfold xk at h
 split at h
 rotate_left
 ·cases h
 rename_i e k b z bs vx he hu hs hx
 cases jO:k.beq 1 with
 | false=>simp [jO] at h
 | true=>
  simp only [jO,cond_true] at h
  obtain rfl:=Nat.eq_of_beq_eq_true jO
  have Dq:(ae bs).length=bs.length:=by simp [ae]
  split at h
  ·rename_i u n rows hd
   simp only [Option.some.injEq] at h;subst h
   obtain ⟨rfl,hM⟩:=uF hd
   intro D w0 K0 β F I ρ w C hv
   obtain ⟨hn,h1,h2,-⟩:=hv
   obtain ⟨X1,G1,H0,hF,dY,a1,-⟩:=l8 C.rm hM hn (C.ev hx)
   have R1:=C.rm.x.fj hM
   rw [hF,List.nil_append] at R1
   have aI:u<(M.set u .dead).length:=by rw [List.length_set];exact fe hM
   have gB:ks P xt w 1 (ρ y) bs.length (lay bs.length fun i=>[Value.int .u8 (bs.getD i 0).toNat]):=by
    rw [Aq,C.str hs];exact ks.str (cV hT hu)
   refine (vb hT he rfl rfl (R1.perm (Y:=(H0++bB n 1 G1)++[]) (by rw [List.append_nil])) aI (by simp [aH]) dY hn Dq.symm a1 rfl (A4 _ bs) (by rw [kZ]) gB h1 h2 (Ar bs)).mono ?_
   rintro v' w' ⟨ay,F',R',hE,jN,hr⟩
   rw [uh] at R'
   exact ⟨ay,F',I,R',hE,bR.refl _,fun q _ hq=>by have pA:q≠u:=(by simpa using hq);rw [jN q pA];simp only [aH];rw [if_neg pA],hr⟩
  ·rename_i n0 r0 hd
   simp only [Option.some.injEq] at h;subst h
   obtain rfl:=uG hd
   intro D w0 K0 β F I ρ w C hv
   obtain ⟨h1,h2,-⟩:=hv
   have lI:ρ x=.slice none 0 0:=by have:=C.ev hx;generalize ρ x=q at this;cases this with | d r=>cases r;rfl
   have gB:ks P xt w 1 (ρ y) bs.length (lay bs.length fun i=>[Value.int .u8 (bs.getD i 0).toNat]):=by
    rw [Aq,C.str hs];exact ks.str (cV hT hu)
   refine (vd hT he lI rfl C.rm.x Dq.symm (A4 _ bs) (by rw [kZ]) gB h1 h2 (Ar bs)).mono ?_
   rintro v' w' ⟨ay,F',R',hE,jN,hr⟩
   exact ⟨ay,F',I,R',hE.b _,bR.refl _,fun q hq _=>jN q hq,hr⟩
  ·cases h
def wj (E:List (Nat×AV)) (M:List ai) (r:Value) (c x y:Operand):Option Out:=
 match aF E c,aF E x,aF E y with
 | some (.d (.v vc)),some (.d (.v vx)),some (.d (.v vy))=>some (lk [∃ b:Bool,vc=.bool b∧(bif b then vx else vy)=r] (.d (.v r)) M)
 | _,_,_=>none
theorem Ctx.val (C:Ctx D w0 K0 E M β F I ρ w) {x:Operand} {v:Value} (h:aF E x=some (.d (.v v))):ρ x=v:=by
 obtain ⟨y,hy,r⟩:=C.bS h
 cases r with | d r=>cases r;exact hy
theorem FD {r:Value} {c x y:Operand} (h:wj E M r c x y=some out):aG P ⟨d,.pick c x y,ty,pos,aft,gd⟩ E M out:=by
 unfold wj at h
 split at h
 ·rename_i vc vx vy hc hx hy
  simp only [Option.some.injEq] at h;subst h
  refine jY r7 fun C dq=>?_
  obtain ⟨⟨b,rfl,rfl⟩,-⟩:=dq
  refine ⟨_,.d (.v _),fun w Φ aD=>Ju (C.val hc) (C.val hx) (C.val hy) ?_⟩
  cases b<;>exact aD
 ·cases h
def mH (P:Program) (t t':TypeId):Bool:=match P.underlying t,P.underlying t' with
 | some (.pointer s),some .unsafePointer=>(match P.info? s with | some j=>!(j.size==0) | none=>false)
 | _,_=>false
def mI (P:Program) (t t' T n:Nat):Bool:=match P.underlying t,P.underlying t' with
 | some .unsafePointer,some (.pointer u)=>(P.info? u).isSome&&liesAt P P.depth T (n / P.cellsOf T) 0 u 1
 | _,_=>false
def wk (P:Program) (E:List (Nat×AV)) (M:List ai) (oc:Option aX) (t t':TypeId) (x:Operand):Option Out:=
 match aF E x,oc with
 | some (.pt u 0),some (.b c)=>(match M[u]? with
  | some (.bx Tb cells)=>some ⟨[(bif c then mH P t t' else mI P t t' Tb cells.length)=true,0<cells.length],.pt u 0,M,[],[],some [u]⟩
  | _=>none)
 | _,_=>none
theorem As {w:World} {b:Nat} {c:Array Value} {t:TypeId} {fr:Nat×Nat} (h:w.heap[b]?=some (.cells c t fr)):w.shape? b=some (t,c.size):=by
 unfold World.shape?;rw [h]
theorem FE {t t':TypeId} {x:Operand} (h:wk P E M oc t t' x=some out):aG P ⟨d,.convert t t' x,ty,pos,aft,gd⟩ E M out:=by
 unfold wk at h
 split at h
 rotate_left
 ·cases h
 rename_i u c hx
 split at h
 rotate_left
 ·cases h
 rename_i Tb cells hM
 simp only [Option.some.injEq] at h;subst h
 refine aG.look ?_ (by simpa using fe hM)
 intro D w0 K0 β F I ρ w C hv
 obtain ⟨hc,h0,-⟩:=hv
 obtain ⟨y,hy,r⟩:=C.bS hx
 cases r with
 | @pt _ _ b cc hb=>
  refine ⟨_,.pt hb,fun w' hs=>?_⟩
  obtain ⟨H,hF,hB,-⟩:=C.rm.at hM
  have hH:Holds w' (F u):=hs.2 u (by simp)
  rw [hF] at hH
  cases hB with
  | bx aS ys hl hr=>
   rw [hb] at aS;cases aS
   have nS:=As hH.one
   have bE:ys.toArray.size=cells.length:=by simp [hl]
   rw [bE] at nS
   have key:(convert t t' (.pointer (some ⟨b,0,none⟩))).run P w'=.ok (.pointer (some ⟨b,0,none⟩)) w':=by
    cases c with
    | true=>
     simp only [cond_true] at hc
     unfold mH at hc
     split at hc
     ·rename_i s h1 h2
      split at hc
      ·rename_i j hj
       exact Go.Lib.run_to_unsafe w' ⟨b,0,none⟩ h1 h2 hj (by simpa using hc) nS h0
      ·cases hc
     ·cases hc
    | false=>
     simp only [cond_false] at hc
     unfold mI at hc
     split at hc
     ·rename_i s h1 h2
      rw [Bool.and_eq_true] at hc
      obtain ⟨j,hj⟩:=Option.isSome_iff_exists.1 hc.1
      exact Go.Lib.run_from_unsafe w' ⟨b,0,none⟩ h1 h2 hj nS hc.2
     ·cases hc
   simp only [execOp,hy,Sem.run_bind,key,Result.andThen_ok,Sem.run_pure]
def jr (P:Program) (t:TypeId):Bool:=match P.underlying t with | some (.pointer te)=>(P.info? te).isSome | _=>false
def x5 (P:Program) (E:List (Nat×AV)) (M:List ai) (op:BinOp) (t:TypeId) (x y:Operand):Option Out:=
 match op,aF E x,aF E y with
 | .eql,some (.pt u o),some (.pt v q)=>bif Nat.beq u v&&Nat.beq o q then some (lk [jr P t=true] (.b true) M) else none
 | .neq,some (.pt u o),some (.pt v q)=>bif Nat.beq u v&&Nat.beq o q then some (lk [jr P t=true] (.b false) M) else none
 | _,_,_=>none
theorem A5 {t:TypeId} (h:jr P t=true):∃ te j,P.underlying t=some (.pointer te)∧P.info? te=some j:=by
 unfold jr at h
 split at h
 ·rename_i te h1
  obtain ⟨j,hj⟩:=Option.isSome_iff_exists.1 h
  exact ⟨te,j,h1,hj⟩
 ·cases h
theorem Ih {op:BinOp} {t t':TypeId} {x y:Operand} (h:x5 P E M op t x y=some out):aG P ⟨d,.binOp op t x y t',ty,pos,aft,gd⟩ E M out:=by
 unfold x5 at h
 split at h
 ·rename_i u o v q hx hy
  cases hc:(Nat.beq u v&&Nat.beq o q) with
  | false=>simp [hc] at h
  | true=>
   simp only [hc,cond_true,Option.some.injEq] at h;subst h
   rw [Bool.and_eq_true] at hc
   obtain rfl:=Nat.eq_of_beq_eq_true hc.1
   obtain rfl:=Nat.eq_of_beq_eq_true hc.2
   refine aG.same fun C hv=>?_
   obtain ⟨te,j,h1,h2⟩:=A5 hv.1
   obtain ⟨y1,e1,r1⟩:=C.bS hx
   obtain ⟨y2,e2,r2⟩:=C.bS hy
   cases r1 with
   | pt hb=>
    cases r2 with
    | pt fN=>
     rw [hb] at fN;cases fN
     refine ⟨_,fun w' _=>?_,.d (.v _)⟩
     simp only [execOp,e1,e2,eqGuard,Sem.run_bind,Sem.run_pure,Result.andThen_ok,run_eql_ptr_same w' _ h1 h2,Bool.not_true,Bool.false_eq_true,if_false]
 ·rename_i u o v q hx hy
  cases hc:(Nat.beq u v&&Nat.beq o q) with
  | false=>simp [hc] at h
  | true=>
   simp only [hc,cond_true,Option.some.injEq] at h;subst h
   rw [Bool.and_eq_true] at hc
   obtain rfl:=Nat.eq_of_beq_eq_true hc.1
   obtain rfl:=Nat.eq_of_beq_eq_true hc.2
   refine aG.same fun C hv=>?_
   obtain ⟨te,j,h1,h2⟩:=A5 hv.1
   obtain ⟨y1,e1,r1⟩:=C.bS hx
   obtain ⟨y2,e2,r2⟩:=C.bS hy
   cases r1 with
   | pt hb=>
    cases r2 with
    | pt fN=>
     rw [hb] at fN;cases fN
     refine ⟨_,fun w' _=>?_,.d (.v _)⟩
     simp only [execOp,e1,e2,eqGuard,Sem.run_bind,Sem.run_pure,Result.andThen_ok,Go.Lib.run_neq_ptr_same w' _ h1 h2,Bool.not_true,Bool.false_eq_true,if_false]
 ·cases h
def qH (P:Program) (f:FuncId):Prop:=∃ fn,P.funcs[f]?=some fn∧(fn.name == "runtime.NumGoroutine")=false∧fn.body.isNone=true∧Extern.findNext fn=none∧Extern.find fn=some Extern.AbiNoEscape.same
def wm (P:Program) (E:List (Nat×AV)) (M:List ai) (g:Operand) (args:Array Operand):Option Out:=
 match aF E g,args with
 | some (.fn f []),⟨[x]⟩=>(match aF E x with | some (.pt u o)=>some (lk [qH P f] (.pt u o) M) | _=>none)
 | _,_=>none
theorem FF {g:Operand} {args:Array Operand} {fp:Array TypeId} (h:wm P E M g args=some out):aG P ⟨d,.call ⟨.value g,args,fp⟩,ty,pos,aft,gd⟩ E M out:=by
 unfold wm at h
 split at h
 ·rename_i f x hg
  split at h
  ·rename_i u o hx
   simp only [Option.some.injEq] at h;subst h
   refine aG.same fun C hv=>?_
   obtain ⟨⟨fn,h1,h2,h3,h4,h5⟩,-⟩:=hv
   obtain ⟨yg,eg,rg⟩:=C.bS hg
   obtain ⟨yx,ex,rx⟩:=C.bS hx
   refine ⟨yx,fun w' _=>?_,rx⟩
   cases rg with
   | fn cs hl hr=>
    have cG:cs=[]:=List.eq_nil_of_length_eq_zero (by simpa using hl)
    subst cG
    have:=run_callFunc_extern h1 h2 h3 h4 h5 #[yx] w'
    simp only [Go.Lib.run_noEscape,Result.andThen_ok] at this
    simp [execOp,resolve,eg,ex,Deferred.ofValue,invoke,this]
  ·cases h
 ·cases h
def wo (E:List (Nat×AV)) (M:List ai) (x:Operand):Option Out:=
 match aF E x with
 | some (.sl u n)=>(match M[u]? with | some (.rw _ k rows)=>bif k.beq 1 then some ⟨[n=rows.length,0<n],.ep u 1 0 0,M,[],[],some [u]⟩ else none | _=>none)
 | _=>none
theorem FG {t:TypeId} {x:Operand} (h:wo E M x=some out):aG P ⟨d,.call ⟨.builtin .unsafeSliceData,#[x],#[t]⟩,ty,pos,aft,gd⟩ E M out:=by
 unfold wo at h
 split at h
 rotate_left
 ·cases h
 rename_i u n hx
 split at h
 rotate_left
 ·cases h
 rename_i Tr k rows hM
 cases jO:k.beq 1 with
 | false=>simp [jO] at h
 | true=>
  simp only [jO,cond_true,Option.some.injEq] at h;subst h
  obtain rfl:=Nat.eq_of_beq_eq_true jO
  refine aG.look ?_ (by simpa using fe hM)
  intro D w0 K0 β F I ρ w C hv
  obtain ⟨hn,h0,-⟩:=hv
  obtain ⟨y,hy,r⟩:=C.bS hx
  cases r with
  | @sl _ _ cc a hb=>
   obtain ⟨H,hF,hB,-⟩:=C.rm.at hM
   cases hB with
   | rw aS X G hl hs hr=>
    rw [hb] at aS;cases aS
    obtain ⟨b',cap,cs,he,rfl,cG,dC,lL⟩:=hs.block (by omega)
    simp only [Value.slice.injEq] at he;obtain ⟨rfl,-,rfl⟩:=he
    refine ⟨.pointer (some ⟨b',0,none⟩),by simpa using ax.ep (k:=1) (i:=0) (o:=0) hb,fun w' _=>?_⟩
    have:=Go.Lib.run_unsafeSliceData_row (P:=P) w' #[t] ty ⟨b',0,none⟩ n cc (by omega)
    simp only [execOp,resolve,List.map_toArray,List.map,hy,Sem.run_bind,Sem.run_pure,Result.andThen_ok,invoke,builtin,this]
theorem Ii {w:World} {b n:Nat} {c:Array Value} {e:TypeId} (hb:w.heap[b]?=some (.cells c e (0,0))) (hn:n≠0):w.freeze ⟨b,0,none⟩ n=cn w b (.cells c e (0,n)):=by
 unfold World.freeze cn
 rw [if_neg hn]
 congr 1
 apply Array.ext_getElem?
 intro j
 have aI:=kq hb
 rw [Array.getElem?_modify,Array.getElem?_setIfInBounds]
 by_cases e':b=j
 ·subst e'
  have hg:w.heap[b]=.cells c e (0,0):=by rw [Array.getElem?_eq_getElem aI] at hb;exact Option.some.inj hb
  simp [aI,hg]
 ·simp [e']
def qV (P:Program) (t T:TypeId):Bool:=match P.underlying t with | some (.pointer e)=>Nat.beq e T&&Nat.beq (P.cellsOf e) 1 | _=>false
def xl (P:Program) (E:List (Nat×AV)) (M:List ai) (oc:Option aX) (t:TypeId) (x y:Operand):Option Out:=
 match aF E x,cP (aF E y),oc with
 | some (.ep u 1 0 0),some (.i64,z),some (.res (.v (.string s)))=>(match M[u]? with
  | some (.rw Tr k rows)=>bif k.beq 1 then some ⟨[z=(rows.length:Int),0<rows.length,rows=ae s.data.toList,qV P t Tr=true,rows.length≤9223372036854775807],.d (.v (.string s)),M.set u .dead,[u],[],none⟩ else none
  | _=>none)
 | _,_,_=>none
theorem GU {t t2:TypeId} {x y:Operand} (h:xl P E M oc t x y=some out):aG P ⟨d,.call ⟨.builtin .unsafeString,#[x,y],#[t,t2]⟩,ty,pos,aft,gd⟩ E M out:=by
 unfold xl at h
 split at h
 rotate_left
 ·cases h
 rename_i u z s hx hz
 split at h
 rotate_left
 ·cases h
 rename_i Tr k rows hM
 cases jO:k.beq 1 with
 | false=>simp [jO] at h
 | true=>
  simp only [jO,cond_true,Option.some.injEq] at h;subst h
  obtain rfl:=Nat.eq_of_beq_eq_true jO
  intro D w0 K0 β F I ρ w C hv
  obtain ⟨rfl,h0,yR,lO,O4,-⟩:=hv
  generalize hl:s.data.toList=bs at yR
  have hs:s=⟨bs.toArray⟩:=by rw [← hl]
  subst hs
  have hlen:rows.length=bs.length:=by rw [yR];simp [ae]
  obtain ⟨yx,ex,rx⟩:=C.bS hx
  have Dr:=C.int hz
  cases rx with
  | @ep _ _ _ _ b cc hb=>
   have R1:=C.rm.x.fj hM
   have hB:=C.rm.blk u _ hM
   have hH:=C.rm.iD hM
   generalize jc:F u=Fu at hB R1 hH
   cases hB with
   | @rw _ _ _ _ _ H0 aS X G cN ND hr=>
    rw [hb] at aS;cases aS
    obtain ⟨b',cap,cs,he,rfl,cG,dC,lL⟩:=ND.block (by omega)
    simp only [Value.slice.injEq,Option.some.injEq,Addr.mk.injEq] at he;obtain ⟨⟨rfl,-⟩,-,rfl⟩:=he
    have hw:w.heap[b]?=some (.cells cs Tr (0,0)):=(Holds.app.1 hH).1.one
    have gj:(Builtin.unsafeString_ #[t,t2] ty #[.pointer (some ⟨b,0,none⟩),.int .i64 bs.length]).run P w=.ok (.string ⟨bs.toArray⟩) (w.freeze ⟨b,0,none⟩ bs.length):=by
     unfold qV at lO
     split at lO
     ·rename_i e he
      rw [Bool.and_eq_true] at lO
      obtain rfl:=Nat.eq_of_beq_eq_true lO.1
      refine Go.Lib.run_unsafeString_row w t t2 ty e he (Nat.eq_of_beq_eq_true lO.2) b cs.size (As hw) bs (by intro hn;rw [hn,List.length_nil] at hlen;omega) (by rw [cG,← hlen];omega) (by omega) fun j q hj=>?_
      rw [add_eq,Nat.zero_add,cell_of hw]
      have tU:=(List.getElem?_eq_some_iff.1 hj).1
      have e1:(cs.toList.take (rows.length*1))[j]?=cs[j]?:=by rw [List.getElem?_take,if_pos (by omega),Array.getElem?_toList]
      rw [← e1,lL]
      have bQ:(ae bs)[j]?=some [.v (.int .u8 (q.toNat:Int))]:=by simp [ae,hj]
      rw [← yR] at bQ
      obtain ⟨tM,tN⟩:=cN j _ bQ
      have hg:=jV (n:=rows.length) (k:=1) (X:=X) (fun i hi=>(cN i _ (List.getElem?_eq_getElem hi)).2) (i:=j) (j:=0) (by omega) (by omega)
      rw [Nat.mul_one,Nat.add_zero] at hg
      obtain ⟨v0,ao⟩:∃ v0,(X j)[0]?=some v0:=⟨(X j)[0]'(by omega),List.getElem?_eq_getElem _⟩
      have hd:=hr j _ 0 _ _ bQ rfl ao
      generalize G j 0=GG at hd
      cases hd
      rw [hg,ao]
     ·cases lO
    rw [Ii hw (by omega)] at gj
    have hex:(execOp ρ ⟨d,.call ⟨.builtin .unsafeString,#[x,y],#[t,t2]⟩,ty,pos,aft,gd⟩).run P w=.ok (.value (.string ⟨bs.toArray⟩)) (cn w b (.cells cs Tr (0,bs.length))):=by
     rw [hlen] at Dr
     simp only [execOp,resolve,List.map_toArray,List.map,ex,Dr,Nat.zero_mul,Nat.zero_add,Sem.run_bind,Sem.run_pure,Result.andThen_ok,invoke,builtin,gj]
    refine aY.pure hex ?_
    have R2:=(R1.perm (Y:=[(b,.cells cs Tr (0,0))]++bB rows.length 1 G) (by rw [List.nil_append])).drop
    have br:=(R2.st.perm (K:=(b,.cells cs Tr (0,0))::((List.range (M.set u .dead).length).flatMap (aH F u [])++I)) (by classical rw [List.perm_iff_count];intro z;simp only [List.count_append,List.count_cons,List.count_nil];omega)).set (.cells cs Tr (0,bs.length))
    refine ⟨β,aH F u [],[(b,.cells cs Tr (0,bs.length))]++I,⟨R2.len,fun v bl hv=>(R2.blk v bl hv).mono (fun w hw=>⟨hw.1,(Holds.app.1 hw.2).2⟩) (Ext.refl _),?_⟩,(Ext.refl β).b _,⟨_,rfl⟩,fun v hv hn=>by simp only [aH];rw [if_neg (by simpa using hn)],.d (.v _)⟩
    exact br.perm (by classical rw [List.perm_iff_count];intro z;simp only [List.count_append,List.count_cons,List.count_nil];omega)
end Go.Proofs.YtcnpikbbmbombaaGreatDoor
namespace Go.Proofs.YtcnpikbbmbombaaGreatDoor
open Go.RowKit
variable {P:Program} {T:aJ} {D:List Nat} {w0:World} {K0:World→Prop} {E:List (Nat×AV)} {M:List ai} {β:Beta} {F:Nat→al} {I X:al} {ρ:Operand→Value} {w:World}
variable {d:Option Tmp} {ty:TypeId} {pos:String} {aft:Array Edge} {gd:Option (Nat×Bool)} {oc:Option aX} {out:Out}
def xm (T:aJ) (E:List (Nat×AV)) (M:List ai) (t:TypeId) (x:Operand):Option Out:=
 match df T t,aF E x with
 | some (.sl _),some (.d (.v (.slice none 0 0)))=>some (lk [] (.n 0) M)
 | _,_=>none
theorem GV {x:Operand} {t e n c:Nat} {a:Option Addr} (ht:P.underlying t=some (.slice e)) (hx:ρ x=.slice a n c) (w:World):(execOp ρ ⟨d,.call ⟨.builtin .cap,#[x],#[t]⟩,ty,pos,aft,gd⟩).run P w=.ok (.value (.int .i64 (c:Int))) w:=by
 have:(Builtin.cap_ #[t] ty #[.slice a n c]).run P w=.ok (.int .i64 (c:Int)) w:=by
  unfold Builtin.cap_
  simp only [List.getElem?_toArray,List.getElem?_cons_zero,Sem.run_bind,run_underlying ht,Result.andThen_ok,Sem.run_pure];rfl
 simp only [execOp,resolve,List.map_toArray,List.map,hx,Sem.run_bind,Sem.run_pure,Result.andThen_ok,invoke,builtin,this]
theorem GW (hT:bc P T=true) {t:TypeId} {x:Operand} (h:xm T E M t x=some out):aG P ⟨d,.call ⟨.builtin .cap,#[x],#[t]⟩,ty,pos,aft,gd⟩ E M out:=by
 unfold xm at h
 split at h
 ·rename_i e ht hx
  simp only [Option.some.injEq] at h;subst h
  have n5:=cV hT ht
  refine aG.same fun C dq=>?_
  obtain ⟨y,hy,r⟩:=C.bS hx
  cases r with
  | d hd=>cases hd;exact ⟨_,fun w' _=>GV n5 hy w',.d (.v _)⟩
 ·cases h
def tx (P:Program) (f e:Nat):Prop:=∃ fn t,P.funcs[f]?=some fn∧(fn.name == "runtime.NumGoroutine")=false∧fn.body.isNone=true∧Extern.findNext fn=none∧Extern.find fn=some (Extern.BytealgMakeNoZero.makeNoZero fn.params fn.resultTypes)∧fn.resultTypes=#[t]∧P.underlying t=some (.slice e)
def xn (P:Program) (E:List (Nat×AV)) (M:List ai) (oc:Option aX) (g:Operand) (args:Array Operand):Option Out:=
 match aF E g,args,oc with
 | some (.fn f []),⟨[x]⟩,some (.n2 m e)=>(match cP (aF E x) with
  | some (.i64,z)=>some ⟨[tx P f e,z=(m:Int),m≤281474976710656],.sl M.length m,M++[.rw e 1 (List.replicate m [.jk])],[],[],none⟩
  | _=>none)
 | _,_,_=>none
theorem GX {f e m:Nat} (h:tx P f e) (hm:m≤281474976710656) (w:World):∃ (c:Nat) (cs:Array Value),m≤c∧cs.size=c∧(callFunc f #[.int .i64 (m:Int)]).run P w=.ok (.value (.slice (some ⟨w.heap.size,0,none⟩) m c)) (w.drew.drew.alloc (.cells cs e (0,0))):=by
 obtain ⟨fn,t,h1,h2,h3,h4,h5,h6,h7⟩:=h
 obtain ⟨cs,hr,hc,-⟩:=Go.Lib.run_makeNoZero (P:=P) (w:=w) fn.params t e h7 m hm
 refine ⟨cs.size,cs,hc,rfl,?_⟩
 rw [run_callFunc_extern h1 h2 h3 h4 h5,h6,hr];rfl
theorem GY {g:Operand} {args:Array Operand} {fp:Array TypeId} (h:xn P E M oc g args=some out):aG P ⟨d,.call ⟨.value g,args,fp⟩,ty,pos,aft,gd⟩ E M out:=by
 unfold xn at h
 split at h
 ·rename_i f x m e hg
  split at h
  ·rename_i z hx
   simp only [Option.some.injEq] at h;subst h
   intro D w0 K0 β F I ρ w C hv
   obtain ⟨hN,rfl,hm,-⟩:=hv
   obtain ⟨yg,eg,rg⟩:=C.bS hg
   have ex:=C.int hx
   cases rg with
   | fn cs hl hr=>
    have cG:cs=[]:=List.eq_nil_of_length_eq_zero (by simpa using hl)
    subst cG
    obtain ⟨c,cs,h1,h2,h3⟩:=GX hN hm w
    refine aY.pure (v:=.slice (some ⟨w.heap.size,0,none⟩) m c) (w':=w.drew.drew.alloc (.cells cs e (0,0))) (by simp [execOp,resolve,eg,ex,Deferred.ofValue,invoke,h3]) ?_
    have gr:Gr w (w.drew.drew.alloc (.cells cs e (0,0))):=((Gr.drew w).trans (Gr.drew w.drew)).trans (Gr.alloc w.drew.drew _)
    have nf:dE w (w.drew.drew.alloc (.cells cs e (0,0))) [(w.heap.size,.cells cs e (0,0))]:=(dE.alloc w.drew.drew (.cells cs e (0,0))).ahead ((Gr.drew w).trans (Gr.drew w.drew))
    refine ⟨_,_,I,C.rm.new (q:=(some ⟨w.heap.size,0,none⟩,c)) gr nf ?_,(Ext.app _ _).b _,bR.refl _,mb _ _,.sl (iO C.rm _)⟩
    have hX:∀ i,i<m→([cs[i]!]:List Value).length=1:=fun _ _=>rfl
    have mF:lay m (fun i=>[cs[i]!])=cs.toList.take m:=by
     have key:∀ k,k≤cs.size→lay k (fun i=>[cs[i]!])=cs.toList.take k:=by
      intro k
      induction k with
      | zero=>intro _;simp [lay]
      | succ k ih=>
       intro hk
       have:=ih (by omega)
       simp only [lay] at this ⊢
       rw [List.range_succ,List.flatMap_append,this,List.take_add_one,Array.getElem?_toList,Array.getElem?_eq_getElem (by omega)]
       simp [getElem!_pos cs k (by omega)]
     exact key m (by omega)
    have:=bq.rw (K:=fun w=>K0 w∧Holds w I) (β:=β++[(some ⟨w.heap.size,0,none⟩,c)]) (u:=M.length) (T:=e) (k:=1) (rows:=List.replicate m [.jk]) (H0:=[(w.heap.size,.cells cs e (0,0))]) (iO C.rm _) (fun i=>[cs[i]!]) (fun _ _=>[]) (fun i r hi=>by
     rw [List.getElem?_replicate] at hi
     split at hi
     ·simp only [Option.some.injEq] at hi;subst hi;exact ⟨rfl,rfl⟩
     ·simp at hi) (by
     rw [List.length_replicate]
     exact ⟨by rw [mF];simp;omega,Or.inr ⟨w.heap.size,c,_,rfl,rfl,by rw [h2];omega,h1,by rw [mF];simp⟩⟩) (fun i r j q x hi h1 h2=>by
     rw [List.getElem?_replicate] at hi
     split at hi
     ·simp only [Option.some.injEq] at hi;subst hi
      cases j with
      | succ j=>simp at h1
      | zero=>simp at h1;subst h1;exact .jk _
     ·simp at hi)
    rw [kZ,List.append_nil] at this
    exact this
  ·cases h
 ·cases h
end Go.Proofs.YtcnpikbbmbombaaGreatDoor
namespace Go.Proofs.YtcnpikbbmbombaaGreatDoor
open Go.RowKit
variable {P:Program} {T:aJ} {D:List Nat} {w0:World} {K0:World→Prop} {E:List (Nat×AV)} {M:List ai} {β:Beta} {F:Nat→al} {I:al} {ρ:Operand→Value} {w:World}
variable {d:Option Tmp} {ty:TypeId} {pos:String} {aft:Array Edge} {gd:Option (Nat×Bool)} {oc:Option aX} {out:Out}
theorem JH {K:World→Prop} {u b c e k m m2 o:Nat} {cells l:List AV} {ys zs:List Value} (hb:β[u]?=some (some ⟨b,0,none⟩,c)) (hl:ys.length=c*k) (hm:cells.length=m*k) (hr:∀ (j:Nat) c y,cells[j]?=some c→ys[j]?=some y→ax K β c y)
  (e5:zs.length=l.length) (hz:∀ (j:Nat) c y,l[j]?=some c→zs[j]?=some y→ax K β c y) (ho:o≤cells.length) (Ds:m2≤c) (hlen:(cells.take o++(l++cells.drop (o+l.length))).length=m2*k):
  bq K β u (.fl e k m2 (cells.take o++(l++cells.drop (o+l.length)))) [(b,.cells (ch ys.toArray o zs) e (0,0))]:=by
 have Nv:m2*k≤c*k:=Nat.mul_le_mul_right _ Ds
 have wX:=hlen
 simp only [List.length_append,List.length_take,List.length_drop] at wX
 have hle:o+zs.length≤ys.toArray.size:=by simp;omega
 have he:(ch ys.toArray o zs)=(ch ys.toArray o zs).toList.toArray:=by simp
 rw [he]
 refine .fl hb _ (by rw [Array.length_toList,kV];simpa using hl) hlen Ds ?_
 intro j c z e1 e2
 rw [Array.getElem?_toList,oz _ _ _ _ hle] at e2
 by_cases hj:o≤j∧j<o+zs.length
 ·rw [if_pos hj] at e2
  rw [List.getElem?_append_right (by simp;omega),List.getElem?_append_left (by simp;omega)] at e1
  refine hz (j-o) c z ?_ e2
  rw [← e1];congr 1;simp;omega
 ·rw [if_neg hj] at e2
  rw [List.getElem?_toArray] at e2
  refine hr j c z ?_ e2
  rcases Nat.lt_or_ge j o with mT | mT
  ·rw [List.getElem?_append_left (by simp;omega),List.getElem?_take,if_pos mT] at e1;exact e1
  ·rw [List.getElem?_append_right (by simp;omega),List.getElem?_append_right (by simp;omega),List.getElem?_drop] at e1
   rw [← e1];congr 1;simp;omega
theorem A6 {α:Type} {k:Nat}:∀ {rows:List (List α)},(∀ r ∈ rows,r.length=k)→rows.flatten.length=rows.length*k∧∀ (i j:Nat) r,rows[i]?=some r→j<k→rows.flatten[i*k+j]?=r[j]?
 | [],_=>⟨by simp,by simp⟩
 | r::rs,h=>by
  have hr:=h r (by simp)
  obtain ⟨h1,h2⟩:=A6 (rows:=rs) (fun x hx=>h x (by simp [hx]))
  refine ⟨by simp [h1,hr,Nat.succ_mul,Nat.add_comm],fun i j q hq hj=>?_⟩
  cases i with
  | zero=>simp at hq;subst hq;rw [Nat.zero_mul,Nat.zero_add,List.flatten_cons,List.getElem?_append_left (by omega)]
  | succ i=>
   simp at hq
   rw [List.flatten_cons,List.getElem?_append_right (by rw [Nat.succ_mul];omega),← h2 i j q hq hj]
   congr 1;rw [Nat.succ_mul];omega
theorem Ij {K:World→Prop} {l:List AV} {X:List Value} (h:l.all AV.one=true) (hl:X.length=l.length) (hr:∀ (j:Nat) c z,l[j]?=some c→X[j]?=some z→ax K β c z):∀ q ∈ X,bW q=true:=by
 intro q hq
 obtain ⟨j,hj,rfl⟩:=List.getElem_of_mem hq
 have iY:j<l.length:=by omega
 exact AV.vR (hr j _ _ (List.getElem?_eq_getElem iY) (List.getElem?_eq_getElem hj)) (List.all_eq_true.1 h _ (List.getElem_mem iY))
def wq (T:aJ) (E:List (Nat×AV)) (M:List ai) (oc:Option aX) (st:TypeId) (x y:Operand):Option Out:=
 match jb T st,aF E x,aF E y,oc with
 | some (_,k,_,_),some (.sf u k' 0 n _),some (.d (.ro k3 rows)),some (.res (.ag ds))=>(match M[u]? with
  | some (.fl e2 k2 m cells)=>bif k.beq k'&&(k.beq k2&&(k.beq k3&&n.ble m)) then some ⟨[bd rows,(rows.flatten.map AV.d).take (min rows.length n*k)++cells.drop ((rows.flatten.map AV.d).take (min rows.length n*k)).length=ds.map AV.d],.d (.v (.int .i64 ((min rows.length n:Nat):Int))),M.set u (.fl e2 k2 m (ds.map .d)),[u],[],none⟩ else none
  | _=>none)
 | _,_,_,_=>none
theorem FH (hT:bc P T=true) {st xt:TypeId} {x y:Operand} (h:wq T E M oc st x y=some out):aG P ⟨d,.call ⟨.builtin .copy,#[x,y],#[st,xt]⟩,ty,pos,aft,gd⟩ E M out:=by
 unfold wq at h
 split at h
 rotate_left
 ·simp at h
 rename_i e k b z u k' n q k3 rows ds he hx hy
 obtain ⟨zv,ok,-,-⟩:=kt hT he
 split at h
 rotate_left
 ·simp at h
 rename_i e2 k2 m cells hM
 cases hc:(k.beq k'&&(k.beq k2&&(k.beq k3&&n.ble m))) with
 | false=>simp [hc] at h
 | true=>
 simp only [hc,cond_true,Option.some.injEq] at h;subst h
 simp only [Bool.and_eq_true] at hc
 obtain ⟨c1,c2,c4,c3⟩:=hc
 obtain rfl:=Nat.eq_of_beq_eq_true c1
 obtain rfl:=Nat.eq_of_beq_eq_true c2
 obtain rfl:=Nat.eq_of_beq_eq_true c4
 have tR:=Nat.le_of_ble_eq_true c3
 intro D w0 K0 β F I ρ w C hv
 obtain ⟨dF,NF,-⟩:=hv
 obtain ⟨yx,ja,rx⟩:=C.bS hx
 obtain ⟨yy,nX,ry⟩:=C.bS hy
 obtain ⟨X,ra,hs⟩:=AX C.now ry
 have hX:∀ i,i<rows.length→(X i).length=k:=fun i hi=>(ra.hl i _ (List.getElem?_eq_getElem hi)).2
 have ie:∀ r ∈ rows,r.length=k:=fun r hr=>by
  obtain ⟨i,hi,rfl⟩:=List.getElem_of_mem hr
  exact (ra.hl i _ (List.getElem?_eq_getElem hi)).1
 obtain ⟨f1,f2⟩:=A6 ie
 have ik:=eD hX
 have s2:(lay rows.length X).length=(rows.flatten.map AV.d).length:=by rw [ik,List.length_map,f1]
 have s3:∀ (j:Nat) c z,(rows.flatten.map AV.d)[j]?=some c→(lay rows.length X)[j]?=some z→ax (fun w=>K0 w∧Holds w I) β c z:=fun j c z e1 e2=>by
  have tU:j<rows.length*k:=by rw [← ik];exact (List.getElem?_eq_some_iff.1 e2).1
  have hk:0<k:=by
   rcases Nat.eq_zero_or_pos k with h0 | h0
   ·subst h0;simp at tU
   ·exact h0
  have hd:j / k<rows.length:=Nat.div_lt_of_lt_mul (by rw [Nat.mul_comm];exact tU)
  have hm:j%k<k:=Nat.mod_lt _ hk
  have e:j / k*k+j%k=j:=by rw [Nat.mul_comm,Nat.div_add_mod]
  have bQ:rows[j / k]?=some rows[j / k]:=List.getElem?_eq_getElem hd
  have g1:=jV hX hd hm
  have g2:=f2 _ _ _ bQ hm
  rw [e] at g1 g2
  rw [g1] at e2
  rw [List.getElem?_map,g2,Option.map_eq_some_iff] at e1
  obtain ⟨c',e1,rfl⟩:=e1
  exact .d (ra.hr _ _ _ c' z bQ e1 e2)
 have KX:(rows.flatten.map AV.d).all AV.one=true:=by
  unfold bd at dF
  rw [List.all_eq_true] at dF ⊢
  intro c hc
  obtain ⟨c',h1,rfl⟩:=List.mem_map.1 hc
  obtain ⟨r,h2,h3⟩:=List.mem_flatten.1 h1
  exact List.all_eq_true.1 (dF r h2) c' h3
 have xc:=Ij KX s2 s3
 have mG:min rows.length n≤rows.length:=Nat.min_le_left _ _
 obtain ⟨hlen,oP⟩:=hs.pre (P:=P) mG
 have bE:∀ w:World,(sizeOf e).run P w=.ok k w:=fun w=>by obtain ⟨i,hi,h1,-⟩:=ok.info;simp [sizeOf,typeInfo,Sem.run_bind,hi,h1]
 cases rx with
 | @sf _ _ _ _ bb cc cap _ hb dC hn hq=>
 obtain ⟨H,hF,hB,hH⟩:=C.rm.at hM
 cases hB with
 | fl aS ys hl hm mW hr=>
 rw [hb] at aS;cases aS
 have hw:=hH.one
 have a1:n*k≤m*k:=Nat.mul_le_mul_right _ tR
 have a2:m*k≤ys.length:=by rw [hl];exact Nat.mul_le_mul_right _ mW
 have a4:min rows.length n*k≤n*k:=Nat.mul_le_mul_right _ (Nat.min_le_right _ _)
 have a5:min rows.length n*k≤rows.length*k:=Nat.mul_le_mul_right _ mG
 have jH:=ou (P:=P) ((lay rows.length X).take (min rows.length n*k)) w ys.toArray (0*k) 0 hw (by simp;omega) (fun q hq=>xc q (List.mem_of_mem_take hq))
 simp only [Nat.add_zero] at jH
 refine aY.pure (v:=.int .i64 ((min rows.length n:Nat):Int)) (w':=cn w bb (.cells (ch ys.toArray (0*k) ((lay rows.length X).take (min rows.length n*k))) e2 (0,0))) ?_ ?_
 ·have xd:Nat.min rows.length n=min rows.length n:=rfl
  simp only [execOp,resolve,List.map_toArray,List.map,ja,nX,Sem.run_bind,Sem.run_pure,Result.andThen_ok,invoke,builtin,Builtin.copy_,List.getElem?_toArray,List.getElem?_cons_zero,List.getElem?_cons_succ,run_underlying ok.br,hlen,xd,bE,oP,jH]
  rfl
 ·have yS:=JH (K:=fun w=>K0 w∧Holds w I) (e:=e2) (m2:=m) (o:=0*k) (l:=(rows.flatten.map AV.d).take (min rows.length n*k)) (zs:=(lay rows.length X).take (min rows.length n*k)) hb hl hm hr (by rw [List.length_take,List.length_take,s2]) (fun j c z e1 e2=>by
    rw [List.getElem?_take] at e1 e2
    split at e1
    ·rename_i hj;rw [if_pos hj] at e2;exact s3 j c z e1 e2
    ·simp at e1) (by omega) mW (by
    simp only [List.length_append,List.length_take,List.length_drop]
    omega)
  rw [Nat.zero_mul,List.take_zero,List.nil_append,Nat.zero_add,NF] at yS
  rw [Nat.zero_mul]
  exact ⟨β,_,I,C.rm.set hM hF yS,(Ext.refl β).b _,bR.refl _,fun v hv hn=>by simp only [aH];rw [if_neg (by simpa using hn)],.d (.v _)⟩
def xo (T:aJ) (E:List (Nat×AV)) (M:List ai) (oc:Option aX) (t:TypeId) (x ix:Operand):Option Out:=
 match df T t,aF E x,cP (aF E ix),oc with
 | some (.ar n e),some (.ag l),some (_,z),some (.ix i [c])=>(match fI T e with
  | some k=>some (lk [z=(i:Int),i<n,nY T e l (i*k)=some (.d c)] (.d c) M)
  | none=>none)
 | _,_,_,_=>none
theorem GZ (hT:bc P T=true) {t:TypeId} {x ix:Operand} (h:xo T E M oc t x ix=some out):aG P ⟨d,.index t x ix,ty,pos,aft,gd⟩ E M out:=by
 unfold xo at h
 split at h
 ·rename_i n e l _ z i c hu hx hz
  split at h
  ·rename_i k hk
   simp only [Option.some.injEq] at h;subst h
   have bE:∀ w:World,(sizeOf e).run P w=.ok k w:=fun w=>by
    have:=hC hT hk
    cases hi:P.info? e with
    | none=>simp [hi] at this
    | some inf=>simp only [hi,Option.map_some,Option.some.injEq] at this;simp [sizeOf,typeInfo,Sem.run_bind,hi,this]
   refine aG.same ?_
   intro D w0 K0 β F I ρ w C hv
   obtain ⟨rfl,aI,hp,-⟩:=hv
   have r:=C.ev hx
   have hi:=C.int hz
   generalize hy:ρ x=y at r
   cases r with
   | ag ys hl hr=>
    obtain ⟨y,h1,h2⟩:=wa hT hp hl hr
    refine ⟨y,fun w' _=>?_,h1⟩
    have gJ:=cV hT hu
    have hc:(0:Int)≤(i:Int)∧(i:Int)<(n:Int):=by omega
    simp only [execOp,hy,hi,Instr.index,asIntOf,Sem.run_bind,Sem.run_pure,run_underlying gJ,Result.andThen_ok]
    rw [if_pos hc]
    simp only [Sem.run_bind,bE,Result.andThen_ok,Int.toNat_natCast,h2,Sem.run_pure]
  ·simp at h
 ·simp at h
def wv (T:aJ) (E:List (Nat×AV)) (M:List ai) (t:TypeId) (x:Operand):Option Out:=
 match aF E x with
 | some (.pt u o)=>(match M[u]? with
  | some (.fl _ _ _ cells)=>(match kN T t cells o with | some v=>some ⟨[],v,M,[],[],some [u]⟩ | none=>none)
  | _=>none)
 | _=>none
theorem FI (hT:bc P T=true) {t:TypeId} {x:Operand} (h:wv T E M t x=some out):aG P ⟨d,.load t x,ty,pos,aft,gd⟩ E M out:=by
 unfold wv at h
 split at h
 ·rename_i u o hv
  split at h
  ·rename_i Tt k m cells hM
   split at h
   ·rename_i v jv
    simp only [Option.some.injEq] at h;subst h
    refine aG.look (fun C _=>?_) (by simpa using fe hM)
    obtain ⟨y,hy,r⟩:=C.bS hv
    cases r with
    | pt hb=>
     obtain ⟨H,hF,hB,hH⟩:=C.rm.at hM
     cases hB with
     | fl aS ys hl hm hc hr=>
      rw [hb] at aS;cases aS
      have hlen:cells.length≤ys.length:=by rw [hl,hm];exact Nat.mul_le_mul_right _ hc
      obtain ⟨y',h1,h2⟩:=oS hT (a:=⟨_,0,none⟩) (ys:=ys.take cells.length) (fun l ys=>ax.ag ys) jv (hy.trans (by rw [add_eq,Nat.zero_add])) (by simp;omega) (fun j c z e1 e2=>hr j c z e1 (by
       rw [List.getElem?_take] at e2
       split at e2
       ·exact e2
       ·simp at e2))
      refine ⟨y',h1,fun w' hs=>h2 w' fun j z hj=>?_⟩
      have hw:Holds w' _:=hs.2 u (by simp)
      rw [hF] at hw
      rw [List.getElem?_take] at hj
      split at hj
      ·rw [add_eq,cell_of hw.one,Nat.zero_add];simpa using hj
      ·simp at hj
   ·simp at h
  ·simp at h
 ·simp at h
def CH:List Value→Bool
 | .nilFunc::_=>true
 | _=>false
def vt (T:aJ) (M:List ai) (t:TypeId):Option Out:=
 match df T t,oZ T t with
 | some (.ar n e),some l=>(match fI T e with
  | some k=>bif l.length.beq (n*k)&&!CH l then some ⟨[],.pt M.length 0,M++[.fl t k n (la l)],[],[],none⟩ else none
  | none=>none)
 | _,_=>none
theorem EP (hT:bc P T=true) {t:TypeId} (h:vt T M t=some out):aG P ⟨d,.alloc t,ty,pos,aft,gd⟩ E M out:=by
 unfold vt at h
 split at h
 rotate_left
 ·simp at h
 rename_i n e l ht hz
 split at h
 rotate_left
 ·simp at h
 rename_i k hk
 cases hc:(l.length.beq (n*k)&&!CH l) with
 | false=>simp [hc] at h
 | true=>
  simp only [hc,cond_true,Option.some.injEq] at h;subst h
  have ik:=Nat.eq_of_beq_eq_true (Bool.and_eq_true_iff.1 hc).1
  obtain ⟨z,nV,nW⟩:=r4 hT hz
  intro D w0 K0 β F I ρ w C _
  refine Af (nW w) fun b w' g n'=>?_
  rw [nV] at n'
  obtain ⟨h1,h2⟩:=p6 (K:=fun w=>K0 w∧Holds w I) (β:=β++[(some ⟨b,0,none⟩,n)]) l
  exact ⟨_,_,I,C.rm.new (q:=(some ⟨b,0,none⟩,n)) g n' (.fl (iO C.rm _) l ik (by rw [← h1,ik]) (Nat.le_refl _) h2),(Ext.app _ _).b _,bR.refl _,mb _ _,.pt (iO C.rm _)⟩
def x6 (T:aJ) (E:List (Nat×AV)) (M:List ai) (t:TypeId) (x:Operand) (lo hi mx:Option Operand):Option Out:=
 match df T t,aF E x,lo,hi,mx with
 | some (.ar n e),some (.pt u 0),none,none,none=>(match fI T e,M[u]? with
  | some k,some (.fl _ k2 m _)=>bif k.beq k2&&(n.ble m&&Nat.blt 0 n) then some (lk [] (.sf u k 0 n (some n)) M) else none
  | _,_=>none)
 | _,_,_,_,_=>none
theorem Ik (hT:bc P T=true) {t:TypeId} {x:Operand} {lo hi mx:Option Operand} (h:x6 T E M t x lo hi mx=some out):aG P ⟨d,.slice t x lo hi mx,ty,pos,aft,gd⟩ E M out:=by
 unfold x6 at h
 split at h
 rotate_left
 ·simp at h
 rename_i n e u ht hx
 split at h
 rotate_left
 ·simp at h
 rename_i k T2 k2 m cells hk hM
 cases hc:(k.beq k2&&(n.ble m&&Nat.blt 0 n)) with
 | false=>simp [hc] at h
 | true=>
  simp only [hc,cond_true,Option.some.injEq] at h;subst h
  simp only [Bool.and_eq_true] at hc
  obtain ⟨c1,c2,c3⟩:=hc
  obtain rfl:=Nat.eq_of_beq_eq_true c1
  have Dt:=Nat.le_of_ble_eq_true c2
  have nJ:0<n:=by simpa [Nat.blt_eq] using c3
  have n5:=cV hT ht
  refine aG.same fun {D w0 K0 β F I ρ w} C _=>?_
  obtain ⟨y,hy,r⟩:=C.bS hx
  cases r with
  | @pt _ _ b c hb=>
   obtain ⟨H,hF,hB,hH⟩:=C.rm.at hM
   cases hB with
   | fl aS ys hl hm mW hr=>
    rw [hb] at aS;cases aS
    have hs:=ax.sf (K:=fun w=>K0 w∧Holds w I) (u:=u) (k:=k) (o:=0) (n:=n) (cap:=n) (q:=some n) hb (by omega) (Nat.le_refl _) rfl
    rw [Nat.zero_mul] at hs
    refine ⟨_,fun w' _=>?_,hs⟩
    have bE:(sizeOf e).run P w'=.ok k w':=by
     have:=hC hT hk
     cases fA:P.info? e with
     | none=>simp [fA] at this
     | some inf=>simp only [fA,Option.map_some,Option.some.injEq] at this;simp [sizeOf,typeInfo,Sem.run_bind,fA,this]
    have tV:¬ n=0:=by omega
    simp [execOp,hy,Instr.sliceAt,Instr.sureAddr,Instr.sliceBounds,Sem.run_bind,run_underlying n5,bE,tV,add_eq]
end Go.Proofs.YtcnpikbbmbombaaGreatDoor
namespace Go.Proofs.YtcnpikbbmbombaaGreatDoor
open Go.RowKit
variable {P:Program} {T:aJ} {E:List (Nat×AV)} {M:List ai}
variable {d:Option Tmp} {ty:TypeId} {pos:String} {aft:Array Edge} {gd:Option (Nat×Bool)} {oc:Option aX} {out:Out}
inductive NG where
 | fn (f:FuncId)
 | yl (u:Nat)
abbrev fQ:=NG→List AV→List ai→aX→Option Out
def Bx (P:Program) (f:FuncId) (args:List AV) (M:List ai) (out:Out):Prop:=
 iz P f=true∧∀ {D:List Nat} {w0:World} {K0:World→Prop} {β:Beta} {F:Nat→al} {I:al} {w:World} (ys:List Value),RM D w0 K0 M β F I w→(∀ w,Kp D w0 w→K0 w)→bg out.vc→ys.length=args.length→(∀ (j:Nat) c y,args[j]?=some c→ys[j]?=some y→ax (fun w=>K0 w∧Holds w I) β c y)→
  Calls P f ys.toArray w fun e w'=>∃ v,e=.returned v∧∃ ay F' I',RM D w0 K0 out.M ay F' I' w'∧gv out.mv β ay∧bR I I'∧(∀ u,u<M.length→u ∉ out.tc→F' u=F u)∧ax (fun w=>K0 w∧Holds w I') ay out.av v
def A7 (P:Program) (u:Nat) (args:List AV) (M:List ai) (out:Out):Prop:=
 ∀ {D:List Nat} {w0:World} {K0:World→Prop} {β:Beta} {F:Nat→al} {I:al} {w:World} (ys:List Value) (l c:Nat),RM D w0 K0 M β F I w→(∀ w,Kp D w0 w→K0 w)→bg out.vc→ys.length=args.length→(∀ (j:Nat) c y,args[j]?=some c→ys[j]?=some y→ax (fun w=>K0 w∧Holds w I) β c y)→β[u]?=some (some ⟨l,0,none⟩,c)→
  ∃ fn tmps da body,(Instr.yield l ys.toArray).run P w=.ok (.round l fn tmps da body) w∧RoundIn Fence.wide 0 P l fn tmps da body w fun e w'=>∃ v,e=.returned v∧∃ ay F' I',RM D w0 K0 out.M ay F' I' w'∧gv out.mv β ay∧bR I I'∧(∀ u,u<M.length→u ∉ out.tc→F' u=F u)∧ax (fun w=>K0 w∧Holds w I') ay out.av v
def js (P:Program) (cl:fQ):Prop:=∀ c args M o out,cl c args M o=some out→out.rd=none∧match c with | .fn f=>Bx P f args M out | .yl u=>A7 P u args M out
def xp (cl:fQ) (E:List (Nat×AV)) (M:List ai) (o:aX) (g:Operand) (args:Array Operand):Option Out:=
 match aF E g,kH E args.toList with
 | some (.fn f cq),some l=>cl (.fn f) (l++cq) M o
 | some (.yl u),some l=>cl (.yl u) l M o
 | _,_=>none
theorem G3 {cl:fQ} (cQ:js P cl) {o:aX} {g:Operand} {args:Array Operand} {fp:Array TypeId} (h:xp cl E M o g args=some out):aG P ⟨d,.call ⟨.value g,args,fp⟩,ty,pos,aft,gd⟩ E M out:=by
 unfold xp at h
 split at h
 ·rename_i f cq l hg hl
  obtain ⟨eu,j6,hc⟩:=cQ _ _ _ _ _ h
  unfold aG
  rw [eu]
  intro D w0 K0 β F I ρ w C hv
  obtain ⟨y,hy,r⟩:=C.bS hg
  cases r with
  | fn cs Mt gO=>
   obtain ⟨dP,kb⟩:=C.mU hl
   have hm:args.map ρ=(args.toList.map ρ).toArray:=by rw [← Array.toList_map]
   refine pZ hy j6 hm ?_
   have lq:((args.toList.map ρ).toArray++cs.toArray:Array Value)=(args.toList.map ρ++cs).toArray:=by simp
   rw [lq]
   refine hc _ C.rm C.k hv (by rw [List.length_append,List.length_append,dP,Mt]) ?_
   intro j c y h1 h2
   rcases Nat.lt_or_ge j l.length with hj | hj
   ·rw [List.getElem?_append_left hj] at h1
    rw [List.getElem?_append_left (by omega)] at h2
    exact kb j c y h1 h2
   ·rw [List.getElem?_append_right hj] at h1
    rw [List.getElem?_append_right (by omega),dP] at h2
    exact gO _ c y h1 h2
 ·rename_i u l hg hl
  obtain ⟨eu,hc⟩:=cQ _ _ _ _ _ h
  unfold aG
  rw [eu]
  intro D w0 K0 β F I ρ w C hv
  obtain ⟨y,hy,r⟩:=C.bS hg
  cases r with
  | @yl _ bb cc hb=>
   obtain ⟨dP,kb⟩:=C.mU hl
   obtain ⟨fn,tmps,da,body,h1,h2⟩:=hc _ _ _ C.rm C.k hv dP kb hb
   have hm:args.map ρ=(args.toList.map ρ).toArray:=by rw [← Array.toList_map]
   unfold aY
   have hr:(execOp ρ ⟨d,.call ⟨.value g,args,fp⟩,ty,pos,aft,gd⟩).run P w=.ok (.round bb fn tmps da body) w:=by
    simp [execOp,resolve,hy,hm,Deferred.ofValue,invoke,h1]
   rw [hr]
   exact h2
 ·simp at h
def x8 (P:Program) (T:aJ) (E:List (Nat×AV)) (M:List ai) (oc:Option aX) (op:BinOp) (t:TypeId) (x y:Operand):Option Out:=
 match wM E M oc op x y with
 | some o=>some o
 | none=>(match wP E M oc op x y with
  | some o=>some o
  | none=>(match xS P E M oc op t x y with
   | some o=>some o
   | none=>(match wY P E M oc op t x y with
    | some o=>some o
    | none=>wZ T E M oc op t x y)))
theorem Il (hT:bc P T=true) {op:BinOp} {t t':TypeId} {x y:Operand} (h:x8 P T E M oc op t x y=some out):aG P ⟨d,.binOp op t x y t',ty,pos,aft,gd⟩ E M out:=by
 unfold x8 at h
 split at h
 ·rename_i hh;simp only [Option.some.injEq] at h;subst h;exact Gt hh
 ·split at h
  ·rename_i hh;simp only [Option.some.injEq] at h;subst h;exact Gv hh
  ·split at h
   ·rename_i hh;simp only [Option.some.injEq] at h;subst h;exact H4 hh
   ·split at h
    ·rename_i hh;simp only [Option.some.injEq] at h;subst h;exact GD hh
    ·exact GF hT h
def xq (T:aJ) (E:List (Nat×AV)) (M:List ai) (oc:Option aX) (t t':TypeId) (x:Operand):Option Out:=
 match vT T E M oc t t' x with
 | some o=>some o
 | none=>(match xX T E M oc t t' x with
  | some o=>some o
  | none=>v7 T E M t t' x)
theorem G4 (hT:bc P T=true) {t t':TypeId} {x:Operand} (h:xq T E M oc t t' x=some out):aG P ⟨d,.convert t t' x,ty,pos,aft,gd⟩ E M out:=by
 unfold xq at h
 split at h
 ·rename_i hh;simp only [Option.some.injEq] at h;subst h;exact Fk hT hh
 ·split at h
  ·rename_i hh;simp only [Option.some.injEq] at h;subst h;exact H8 hT hh
  ·exact Fs hT h
def step (P:Program) (T:aJ) (cl:fQ) (E:List (Nat×AV)) (M:List ai) (oc:Option aX):Op→Option Out
 | .move x=>sX E M x
 | .assign x=>sX E M x
 | .nilCheck x=>xJ E M x
 | .extract x i=>uP E M x i
 | .fieldAddr s x f=>vP T E M s x f
 | .indexAddr t x i=>(match vQ T E M oc t x i with | some o=>some o | none=>(match vg T E M oc t x i with | some o=>some o | none=>(match vo T E M oc t x i with | some o=>some o | none=>(match vi T E M oc t x i with | some o=>some o | none=>(match vr T E M oc t x i with | some o=>some o | none=>xj T E M oc t x i)))))
 | .load t x=>(match wL T E M oc t x with | some o=>some o | none=>(match w9 T E M oc t x with | some o=>some o | none=>(match wh T E M oc t x with | some o=>some o | none=>wv T E M t x)))
 | .store t x y=>(match va T E M t x y with | some o=>some o | none=>(match vf T E M oc t x y with | some o=>some o | none=>vp T E M oc t x y))
 | .box t x=>xN E M t x
 | .alloc t=>(match oc with | some (.b _)=>vt T M t | _=>vS T M t)
 | .pick c x y=>(match oc with | some (.res (.v r))=>wj E M r c x y | _=>wO E M oc c x y)
 | .unOp .not _ x=>xO E M oc x
 | .unOp .xor _ x=>xP E M oc x
 | .binOp op t x y _=>(match x8 P T E M oc op t x y with | some o=>some o | none=>(match xg P E M op t x y with | some o=>some o | none=>(match x3 E M op x y with | some o=>some o | none=>x5 P E M op t x y)))
 | .convert t t' x=>(match xq T E M oc t t' x with | some o=>some o | none=>(match xh T E M t t' x with | some o=>some o | none=>wk P E M oc t t' x))
 | .build t parts=>(match vY T E M t parts with | some o=>some o | none=>ve T E M t parts)
 | .field t x f=>xY T E M t x f
 | .index t x i=>(match xZ T E M oc t x i with | some o=>some o | none=>(match xe T E M oc t x i with | some o=>some o | none=>(match xi T E M oc t x i with | some o=>some o | none=>xo T E M oc t x i)))
 | .slice t x lo hi mx=>(match yO T E M oc t x lo hi mx with | some o=>some o | none=>(match x2 T E M oc t x lo hi mx with | some o=>some o | none=>(match x4 T E M oc t x lo hi mx with | some o=>some o | none=>x6 T E M t x lo hi mx)))
 | .buildSlice t len parts=>xW T E M t len parts
 | .makeSlice t x y=>(match wW T E M oc t x y with | some o=>some o | none=>wc T E M oc t x y)
 | .makeFunc fn first cq=>wQ E M fn first cq
 | .call ⟨.builtin bi,⟨[x]⟩,⟨[t]⟩⟩=>(match bi with | .len=>xR T E M oc t x | .clear=>we T E M t x | .unsafeSliceData=>wo E M x | .cap=>xm T E M t x | _=>none)
 | .call ⟨.builtin bi,⟨[x,y]⟩,⟨[st,xt]⟩⟩=>(match bi with | .append=>(match xT T E M st xt x y with | some o=>some o | none=>xk T E M st xt x y) | .copy=>(match xb T E M oc st x y with | some o=>some o | none=>wq T E M oc st x y) | .unsafeString=>xl P E M oc st x y | _=>yv E M oc bi x y)
 | .call ⟨.value g,args,_⟩=>(match oc with | some (.bV n tb)=>xp cl E M (.bV n tb) g args | some (.aV x)=>pc P E M (some (.aV x)) g args | some (.mem l x M')=>xf P E M (some (.mem l x M')) g args | some (.stay l x)=>wg P E M (some (.stay l x)) g args | some (.b _)=>wm P E M g args | some (.n2 m e)=>xn P E M (some (.n2 m e)) g args | _=>wS P E M oc g args)
 | _=>none
theorem oK (hT:bc P T=true) {cl:fQ} (cQ:js P cl) {op:Op} (h:step P T cl E M oc op=some out):aG P ⟨d,op,ty,pos,aft,gd⟩ E M out:=by
 unfold step at h
 split at h
 ·exact (Ai h).1
 ·exact (Ai h).2
 ·exact HV h
 ·exact Em h
 ·exact Fg hT h
 ·split at h
  ·rename_i hh;simp only [Option.some.injEq] at h;subst h;exact Fh hT hh
  ·split at h
   ·rename_i hh;simp only [Option.some.injEq] at h;subst h;exact EI hT hh
   ·split at h
    ·rename_i hh;simp only [Option.some.injEq] at h;subst h;exact EK hT hh
    ·split at h
     ·rename_i hh;simp only [Option.some.injEq] at h;subst h;exact EJ hT hh
     ·split at h
      ·rename_i hh;simp only [Option.some.injEq] at h;subst h;exact EN hT hh
      ·exact GR hT h
 ·split at h
  ·rename_i hh;simp only [Option.some.injEq] at h;subst h;exact Gs hT hh
  ·split at h
   ·rename_i hh;simp only [Option.some.injEq] at h;subst h;exact GH hT hh
   ·split at h
    ·rename_i hh;simp only [Option.some.injEq] at h;subst h;exact FB hT hh
    ·exact FI hT h
 ·split at h
  ·rename_i hh;simp only [Option.some.injEq] at h;subst h;exact EF hT hh
  ·split at h
   ·rename_i hh;simp only [Option.some.injEq] at h;subst h;exact EH hT hh
   ·exact EL hT h
 ·exact HW h
 ·split at h
  ·exact EP hT h
  ·exact Fj hT h
 ·split at h
  ·exact FD h
  ·exact Gu h
 ·exact HX h
 ·exact HY h
 ·split at h
  ·rename_i hh;simp only [Option.some.injEq] at h;subst h;exact Il hT hh
  ·split at h
   ·rename_i hh;simp only [Option.some.injEq] at h;subst h;exact GO hh
   ·split at h
    ·rename_i hh;simp only [Option.some.injEq] at h;subst h;exact Ie hh
    ·exact Ih h
 ·split at h
  ·rename_i hh;simp only [Option.some.injEq] at h;subst h;exact G4 hT hh
  ·split at h
   ·rename_i hh;simp only [Option.some.injEq] at h;subst h;exact GP hT hh
   ·exact FE h
 ·split at h
  ·rename_i hh;simp only [Option.some.injEq] at h;subst h;exact Fo hT hh
  ·exact EG hT h
 ·exact H9 hT h
 ·split at h
  ·rename_i hh;simp only [Option.some.injEq] at h;subst h;exact Ia hT hh
  ·split at h
   ·rename_i hh;simp only [Option.some.injEq] at h;subst h;exact GL hT hh
   ·split at h
    ·rename_i hh;simp only [Option.some.injEq] at h;subst h;exact GQ hT hh
    ·exact GZ hT h
 ·split at h
  ·rename_i hh;simp only [Option.some.injEq] at h;subst h;exact JE hT hh
  ·split at h
   ·rename_i hh;simp only [Option.some.injEq] at h;subst h;exact Ib hT hh
   ·split at h
    ·rename_i hh;simp only [Option.some.injEq] at h;subst h;exact Ig hT hh
    ·exact Ik hT h
 ·exact H7 hT h
 ·split at h
  ·rename_i hh;simp only [Option.some.injEq] at h;subst h;exact GC hT hh
  ·exact Fx hT h
 ·exact Gw h
 ·split at h
  ·exact HZ hT h
  ·exact Fz hT h
  ·exact FG h
  ·exact GW hT h
  ·simp at h
 ·split at h
  ·split at h
   ·rename_i hh;simp only [Option.some.injEq] at h;subst h;exact H5 hT hh
   ·exact GS hT h
  ·split at h
   ·rename_i hh;simp only [Option.some.injEq] at h;subst h;exact GI hT hh
   ·exact FH hT h
  ·exact GU h
  ·exact JA h
 ·split at h
  ·exact G3 cQ h
  ·exact AW h
  ·exact GN h
  ·exact FA h
  ·exact FF h
  ·exact GY h
  ·exact GA h
 ·simp at h
end Go.Proofs.YtcnpikbbmbombaaGreatDoor
namespace Go.Proofs.YtcnpikbbmbombaaGreatDoor
open Go.RowKit
def mJ:List (Nat×aX)→Nat→Option aX
 | [],_=>none
 | (k,v)::r,s=>bif k.beq s then some v else mJ r s
def iF (E:List (Nat×AV)) (dst:Option Nat) (v:AV):List (Nat×AV):=match dst with | some d=>(d,v)::E | none=>E
def o4 (mv:List Nat):List (Nat×AV)→List (Nat×AV)
 | []=>[]
 | (k,v)::r=>(k,bif iP mv v then v else .d .jk)::o4 mv r
def o5 (mv:List Nat) (E:List (Nat×AV)):List (Nat×AV):=match mv with | []=>E | _=>o4 mv E
theorem zB {mv:List Nat}:∀ {E:List (Nat×AV)} {t:Nat} {v:AV},bZ (o4 mv E) t=some v→∃ u,bZ E t=some u∧v=bif iP mv u then u else .d .jk
 | [],t,v,h=>by simp [o4,bZ] at h
 | (k,u)::r,t,v,h=>by
  unfold o4 bZ at h
  unfold bZ
  cases hk:k.beq t with
  | true=>simp only [hk,cond_true,Option.some.injEq] at h ⊢;exact ⟨u,rfl,h.symm⟩
  | false=>simp only [hk,cond_false] at h ⊢;exact zB h
theorem G5 {K:World→Prop} {β ay:Beta} {mv:List Nat} (e:gv mv β ay) {ρ:Operand→Value} {E:List (Nat×AV)} (h:∀ t v,bZ E t=some v→ax K β v (ρ (.tmp t))):∀ t v,bZ (o4 mv E) t=some v→ax K ay v (ρ (.tmp t)):=by
 intro t v hv
 obtain ⟨u,h1,h2⟩:=zB hv
 cases hc:iP mv u with
 | true=>simp only [hc,cond_true] at h2;subst h2;exact p9 e hc (h t _ h1)
 | false=>simp only [hc,cond_false] at h2;subst h2;exact .d (.jk _)
theorem uY {K:World→Prop} {β ay:Beta} {mv:List Nat} (e:gv mv β ay) {E:List (Nat×AV)} {ρ:Operand→Value} (h:∀ t v,bZ E t=some v→ax K β v (ρ (.tmp t))):∀ t v,bZ (o5 mv E) t=some v→ax K ay v (ρ (.tmp t)):=by
 intro t v hx
 unfold o5 at hx
 split at hx
 ·exact (h t v hx).mono (fun _ h=>h) fun u z hz=>e u z (by simp) hz
 ·exact G5 e h t v hx
def qu:Option AV→Option (Option Bool)
 | some (.d (.v (.bool c)))=>some (some c)
 | some (.d (.v (.tuple _)))=>some none
 | _=>none
def mA (sz:Nat) (ops:Array Oper) (E:List (Nat×AV)):Option (Nat×Bool)→Option Bool
 | none=>some true
 | some (j,want)=>(match qD ops j with
  | some s=>(bif s.blt sz then (match qu (bZ E s) with
   | some (some true)=>some want
   | some (some false)=>some (!want)
   | some none=>some false
   | none=>none) else none)
  | none=>none)
def gF (sz:Nat):Option Nat→Bool
 | some d=>d.blt sz
 | none=>true
structure RS where
 vc:List Prop
 E:List (Nat×AV)
 M:List ai
 tc:List Nat
 mv:List Nat
def x9 (P:Program) (T:aJ) (cl:fQ) (E:List (Nat×AV)) (M:List ai) (op:Op) (oc:aX):Option (List Prop×List Nat×Value):=
 match oc,op with
 | .aV (.v x),.call ⟨.value g,args,_⟩=>(match pc P E M (some (.aV (.v x))) g args with | some out=>some (out.vc,out.tc,x) | none=>none)
 | oc,op=>(match step P T cl E M (some oc) op with | some ⟨vc,.d (.v x),_,tc,_,some _⟩=>some (vc,tc,x) | _=>none)
def By (sz:Nat) (ops:Array Oper) (E:List (Nat×AV)):Option (Nat×Bool)→Option (Value×Bool)
 | some (j,want)=>(match qD ops j with
  | some s=>bif s.blt sz then (match bZ E s with | some (.d (.v y))=>some (y,want) | _=>none) else none
  | none=>none)
 | none=>none
def jZ (y:Value):Option Bool:=match y with | .bool b=>some b | _=>none
def jh (P:Program) (T:aJ) (cl:fQ) (sz:Nat) (ops:Array Oper):List Oper→Nat→List (Nat×aX)→RS→Option RS
 | [],_,_,s=>some s
 | o::r,i,oc,⟨vc,E,M,tc,mv⟩=>
  bif gF sz o.dst then (match mJ oc i with
  | some (.may c oo)=>(match x9 P T cl E M o.op oo,By sz ops E o.guard with
   | some (mY,rA,x),some (y,want)=>jh P T cl sz ops r (i+1) oc ⟨vc++[(jZ y==some want)=c,c=true→bg mY],iF E o.dst (.d (.v (bif c then x else undef))),M,rA++tc,mv⟩
   | _,_=>none)
  | _=>(match mA sz ops E o.guard with
   | some true=>(match step P T cl E M (mJ oc i) o.op with
    | some out=>(bif Nat.ble M.length out.M.length then jh P T cl sz ops r (i+1) oc ⟨vc++out.vc,iF (o5 out.mv E) o.dst out.av,out.M,out.tc++tc,out.mv++mv⟩ else none)
    | none=>none)
   | some false=>jh P T cl sz ops r (i+1) oc ⟨vc,iF E o.dst (.d (.v undef)),M,tc,mv⟩
   | none=>none))
  else none
structure eT where
 β:Beta
 F:Nat→al
 I:al
 m:Nat
def Since (b:eT) (mv tc:List Nat) (β:Beta) (F:Nat→al) (I:al):Prop:=gv mv b.β β∧bR b.I I∧∀ u,u<b.m→u ∉ tc→F u=b.F u
theorem Since.step {b:eT} {mv tc mv' rA:List Nat} {β ay:Beta} {F F':Nat→al} {I I':al} {n:Nat} (h:Since b mv tc β F I) (hn:b.m≤n) (e:gv mv' β ay) (hI:bR I I') (hF:∀ u,u<n→u ∉ rA→F' u=F u):Since b (mv'++mv) (rA++tc) ay F' I':=
 ⟨fun u x hu hx=>e u x (fun h'=>hu (List.mem_append_left _ h')) (h.1 u x (fun h'=>hu (List.mem_append_right _ h')) hx),h.2.1.trans hI,fun u hu ht=>(hF u (by omega) fun h'=>ht (List.mem_append_left _ h')).trans (h.2.2 u hu fun h'=>ht (List.mem_append_right _ h'))⟩
variable {mk:Bool} {ro:Option Nat} {P:Program} {T:aJ} {cl:fQ} {D:List Nat} {w0:World} {K0:World→Prop} {E:List (Nat×AV)} {M:List ai} {β:Beta} {F:Nat→al} {I:al} {ρ:Operand→Value} {w:World} {a:Act} {sz:Nat} {ops:Array Oper} {Q:Exit→Act→World→Prop}
def Mk (mk:Bool) (ds:List Deferred) (I:al):Prop:=match mk with
 | false=>ds=[]
 | true=>ds.Nodup∧∀ d ∈ ds,∃ b,d={ target:=.collected b,args:=#[] }∧(b,Obj.deferred (some [])) ∈ I
theorem Mk.grow {ds:List Deferred} {I I':al} (h:Mk mk ds I) (g:bR I I'):Mk mk ds I':=by
 cases mk with
 | false=>exact h
 | true=>obtain ⟨J,rfl⟩:=g;exact ⟨h.1,fun d hd=>let ⟨b,h1,h2⟩:=h.2 d hd;⟨b,h1,List.mem_append_right _ h2⟩⟩
theorem Mk.nil (I:al):Mk mk [] I:=by cases mk with | false=>rfl | true=>exact ⟨List.nodup_nil,fun d hd=>by cases hd⟩
theorem RE.put (size:a.tmps.size=sz) {ay:Beta} {I':al} (defers:Mk mk a.defers I') (hs:∀ t v,bZ E t=some v→ax (fun w=>K0 w∧Holds w I') ay v (a.eval (.tmp t))) {dst:Option Nat} (hd:gF sz dst=true) {v:Value} {av:AV} (hv:ax (fun w=>K0 w∧Holds w I') ay av v):
  (a.put dst v).tmps.size=sz∧Mk mk (a.put dst v).defers I'∧∀ t u,bZ (iF E dst av) t=some u→ax (fun w=>K0 w∧Holds w I') ay u ((a.put dst v).eval (.tmp t)):=by
 refine ⟨by rw [Gh,size],by rw [put_defers];exact defers,?_⟩
 cases dst with
 | none=>exact hs
 | some d=>
  have aI:d<sz:=by simpa [gF,Nat.blt_eq] using hd
  intro t u hx
  unfold iF bZ at hx
  cases hk:d.beq t with
  | true=>
   simp only [hk,cond_true,Option.some.injEq] at hx
   subst hx
   rw [← Nat.eq_of_beq_eq_true hk,D9 a d v (by omega)];exact hv
  | false=>
   simp only [hk,cond_false] at hx
   rw [D5 a d t v (fun e=>by subst e;simp at hk)];exact hs t u hx
theorem FJ {K:World→Prop} {β:Beta} {av:Option AV} {y:Value} {g:Option Bool} (h:qu av=some g) {v:AV} (hv:av=some v) (r:ax K β v y):jZ y=g:=by
 subst hv
 unfold qu at h
 split at h
 ·rename_i hx;cases hx;simp only [Option.some.injEq] at h;subst h
  cases r with | d r=>cases r;rfl
 ·rename_i hx;cases hx;simp only [Option.some.injEq] at h;subst h
  cases r with | d r=>cases r;rfl
 ·simp at h
theorem kn {o:Oper} {b:Bool} (size:a.tmps.size=sz) {K:World→Prop} (hs:∀ t v,bZ E t=some v→ax K β v (a.eval (.tmp t))) (h:mA sz ops E o.guard=some b):Region.wanted o (yielded ops a.tmps)=b:=by
 unfold Region.wanted
 cases hg:o.guard with
 | none=>rw [hg] at h;simp only [mA,Option.some.injEq] at h;exact h
 | some g=>
  obtain ⟨j,want⟩:=g
  rw [hg] at h
  unfold mA at h
  cases hj:qD ops j with
  | none=>simp [hj] at h
  | some s=>
   simp only [hj] at h
   cases bE:s.blt sz with
   | false=>simp [bE] at h
   | true=>
    simp only [bE,cond_true] at h
    have aI:s<a.tmps.size:=by rw [size];simpa [Nat.blt_eq] using bE
    have hy:∀ g,qu (bZ E s)=some g→yielded ops a.tmps j=g:=by
     intro g jP
     rw [zw hj aI]
     show jZ _=g
     cases hl:bZ E s with
     | none=>rw [hl] at jP;simp [qu] at jP
     | some v=>exact FJ jP hl (hs _ _ hl)
    split at h
    ·rename_i jP;simp only [Option.some.injEq] at h;subst h;dsimp only;rw [hy _ jP];cases want<;>rfl
    ·rename_i jP;simp only [Option.some.injEq] at h;subst h;dsimp only;rw [hy _ jP];cases want<;>rfl
    ·rename_i jP;simp only [Option.some.injEq] at h;subst h;dsimp only;rw [hy _ jP];cases want<;>rfl
    ·simp at h
theorem wx (l:List Oper):∀ (i:Nat) (oc:List (Nat×aX)) (s:RS) {s':RS},jh P T cl sz ops l i oc s=some s'→bg s'.vc→bg s.vc:=by
 induction l with
 | nil=>
  intro i oc s s' h
  simp only [jh,Option.some.injEq] at h
  subst h;exact id
 | cons o r ih=>
  intro i oc s s' h hv
  obtain ⟨vc,E,M,tc,mv⟩:=s
  unfold jh at h
  cases hd:gF sz o.dst with
  | false=>simp [hd] at h
  | true=>
   simp only [hd,cond_true] at h
   split at h
   ·split at h
    ·exact (bg.app.1 (ih _ _ _ h hv)).1
    ·simp at h
   split at h
   ·split at h
    ·rename_i out _
     cases hb:Nat.ble M.length out.M.length with
     | false=>simp [hb] at h
     | true=>simp only [hb,cond_true] at h;exact (bg.app.1 (ih _ _ _ h hv)).1
    ·simp at h
   ·have:=ih _ _ _ h hv;exact this
   ·simp at h
def cD (mk:Bool) (D:List Nat) (w0:World) (K0:World→Prop) (sz:Nat) (E:List (Nat×AV)) (M:List ai) (a:Act) (w:World):Prop:=
 a.tmps.size=sz∧∃ I,Mk mk a.defers I∧∃ β F,RM D w0 K0 M β F I w∧∀ t v,bZ E t=some v→ax (fun w=>K0 w∧Holds w I) β v (a.eval (.tmp t))
abbrev du (D:List Nat) (w0:World) (K0:World→Prop) (sz:Nat) (E:List (Nat×AV)) (M:List ai) (a:Act) (w:World):Prop:=cD false D w0 K0 sz E M a w
def dr (mk:Bool) (D:List Nat) (w0:World) (K0:World→Prop) (sz:Nat) (b:eT) (s:RS) (a:Act) (w:World):Prop:=
 a.tmps.size=sz∧∃ I,Mk mk a.defers I∧b.m≤s.M.length∧∃ β F,RM D w0 K0 s.M β F I w∧Since b s.mv s.tc β F I∧∀ t v,bZ s.E t=some v→ax (fun w=>K0 w∧Holds w I) β v (a.eval (.tmp t))
theorem cD.nF (r:cD false D w0 K0 sz E M a w):a.defers=[]:=let ⟨_,_,h,_⟩:=r;h
theorem dr.nF {b:eT} {s:RS} (r:dr false D w0 K0 sz b s a w):a.defers=[]:=let ⟨_,_,h,_⟩:=r;h
theorem dr.re {b:eT} {s:RS} (r:dr mk D w0 K0 sz b s a w):cD mk D w0 K0 sz s.E s.M a w:=let ⟨h1,I,h2,_,β,F,h3,_,h4⟩:=r;⟨h1,I,h2,β,F,h3,h4⟩
theorem cD.b (r:cD mk D w0 K0 sz E M a w) (vc:List Prop):∃ b,dr mk D w0 K0 sz b ⟨vc,E,M,[],[]⟩ a w:=
 let ⟨h1,I,h2,β,F,h3,h4⟩:=r
 ⟨⟨β,F,I,M.length⟩,h1,I,h2,Nat.le_refl _,β,F,h3,⟨fun _ _ _ h=>h,bR.refl _,fun _ _ _=>rfl⟩,h4⟩
theorem JI {g:Operand} {args:Array Operand} {x:Value} {out:Out} (h:pc P E M (some (.aV (.v x))) g args=some out):out.av=.d (.v x)∧out.M=M∧out.mv=[]∧out.rd=none:=by
 unfold pc at h
 split at h
 ·rename_i f cq l y _ _ yT
  simp only [Option.some.injEq,aX.aV.injEq] at yT;subst yT
  cases eI:(lj (DV.v x)&&(l++cq).all rh) with
  | false=>rw [eI] at h;cases h
  | true=>
   rw [eI] at h
   simp only [cond_true,Option.some.injEq] at h;subst h
   exact ⟨rfl,rfl,rfl,rfl⟩
 ·cases h
theorem Im (hT:bc P T=true) (cQ:js P cl) {d:Option Tmp} {op:Op} {ty:TypeId} {pos:String} {aft:Array Edge} {gd:Option (Nat×Bool)} {oc:aX} {vc:List Prop} {tc:List Nat} {x:Value} (h:x9 P T cl E M op oc=some (vc,tc,x)):
  tL P ⟨d,op,ty,pos,aft,gd⟩ E M ⟨vc,.d (.v x),M,tc,[],none⟩:=by
 unfold x9 at h
 split at h
 ·split at h
  ·rename_i out hs
   simp only [Option.some.injEq,Prod.mk.injEq] at h
   obtain ⟨rfl,rfl,rfl⟩:=h
   obtain ⟨h1,h2,h3,h4⟩:=JI hs
   obtain ⟨vc,av,M2,tc,mv,rd⟩:=out
   dsimp only at h1 h2 h3 h4
   subst h1 h2 h3 h4
   intro D w0 K0 β F I ρ w C hv
   exact AW hs C hv
  ·cases h
 ·split at h
  ·rename_i hs
   simp only [Option.some.injEq,Prod.mk.injEq] at h
   obtain ⟨rfl,rfl,rfl⟩:=h
   have hd:=oK (P:=P) hT cQ (d:=d) (ty:=ty) (pos:=pos) (aft:=aft) (gd:=gd) hs
   have tW:=hd
   obtain ⟨-,h2,h3,-⟩:=tW
   dsimp only at h2 h3
   subst h2 h3
   intro D w0 K0 β F I ρ w C hv
   exact hd.px C hv
  ·cases h
theorem JJ (hT:bc P T=true) (cQ:js P cl) (hK:∀ w,Kp D w0 w→K0 w) {b:eT}:∀ (l:List Oper) (i:Nat) (oc:List (Nat×aX)) (s:RS) {s':RS} (a:Act) (w:World),jh P T cl sz ops l i oc s=some s'→dr mk D w0 K0 sz b s a w→bg s'.vc→(∀ a' w',dr mk D w0 K0 sz b s' a' w'→Q .normal a' w')→iX P ops Q (l.map (·,false)) a w:=by
 intro l
 induction l with
 | nil=>
  intro i oc s s' a w h R _ k
  simp only [jh,Option.some.injEq] at h
  subst h
  exact k a w R
 | cons o r ih=>
  intro i oc s s' a w h R hv k
  obtain ⟨vc,E,M,tc,mv⟩:=s
  unfold jh at h
  cases hd:gF sz o.dst with
  | false=>simp [hd] at h
  | true=>
   simp only [hd,cond_true] at h
   obtain ⟨size,I,defers,hm,β,F,Rm,b9,hs⟩:=R
   dsimp only at Rm hs hm b9
   simp only [List.map_cons]
   unfold iX
   simp only [cond_false]
   have KY:jh P T cl sz ops r (i+1) oc ⟨vc,iF E o.dst (.d (.v undef)),M,tc,mv⟩=some s'→iX P ops Q (r.map (·,false)) (a.put o.dst undef) w:=by
    intro hr
    obtain ⟨e1,e2,e3⟩:=RE.put (E:=E) size defers hs hd (.d (.v undef))
    exact ih _ _ _ _ _ hr ⟨e1,I,e2,hm,β,F,Rm,b9,e3⟩ hv k
   have gj:∀ out:Out,step P T cl E M (mJ oc i) o.op=some out→(bif Nat.ble M.length out.M.length then jh P T cl sz ops r (i+1) oc ⟨vc++out.vc,iF (o5 out.mv E) o.dst out.av,out.M,out.tc++tc,out.mv++mv⟩ else none)=some s'→aY P o a.eval w fun v w'=>iX P ops Q (r.map (·,false)) (a.put o.dst v) w':=by
    intro out br hr
    cases hb:Nat.ble M.length out.M.length with
    | false=>simp [hb] at hr
    | true=>
    simp only [hb,cond_true] at hr
    have hlen:=Nat.le_of_ble_eq_true hb
    have C:Ctx D w0 K0 E M β F I a.eval w:=⟨Rm,hs,fun _=>rfl,fun _=>rfl,fun _=>rfl,hK⟩
    have lA:=(bg.app.1 (wx _ _ _ _ hr hv)).2
    have:=(oK (P:=P) hT cQ (d:=o.dst) (ty:=o.type) (pos:=o.pos) (aft:=o.after) (gd:=o.guard) br).px C lA
    refine aY.mono this fun v w' ⟨ay,F',I',R',e,hI,hF,mZ⟩=>?_
    have hk:=uY (ρ:=a.eval) e hs
    obtain ⟨e1,e2,e3⟩:=RE.put size (defers.grow hI) (fun t v hx=>(hk t v hx).mono (fun w hw=>⟨hw.1,hI.holds w hw.2⟩) (Ext.refl _)) hd mZ
    exact ih _ _ _ _ _ hr ⟨e1,I',e2,Nat.le_trans hm hlen,ay,F',R',b9.step hm e hI hF,e3⟩ hv k
   split at h
   ·rename_i c oo yT
    split at h
    rotate_left
    ·simp at h
    rename_i mY rA x y want Mu ke
    have dv:=(bg.app.1 (wx _ _ _ _ h hv)).2
    obtain ⟨hc,dq,-⟩:=dv
    have C:Ctx D w0 K0 E M β F I a.eval w:=⟨Rm,hs,fun _=>rfl,fun _=>rfl,fun _=>rfl,hK⟩
    unfold By at ke
    split at ke
    rotate_left
    ·cases ke
    rename_i j OF hg
    split at ke
    rotate_left
    ·cases ke
    rename_i s0 hj
    cases bE:s0.blt sz with
    | false=>simp [bE] at ke
    | true=>
    simp only [bE,cond_true] at ke
    split at ke
    rotate_left
    ·cases ke
    rename_i y' KZ
    simp only [Option.some.injEq,Prod.mk.injEq] at ke
    obtain ⟨rfl,rfl⟩:=ke
    have aI:s0<a.tmps.size:=by rw [size];simpa [Nat.blt_eq] using bE
    have yu:yielded ops a.tmps j=jZ y':=by
     rw [zw hj aI]
     have hr:=hs _ _ KZ
     generalize a.eval (.tmp s0)=z at hr
     cases hr with | d hr=>cases hr;rfl
    split
    ·rename_i rB;rw [hg] at rB;cases rB
    ·rename_i j2 OG rB
     rw [hg] at rB;cases rB
     refine ⟨fun hn=>?_,fun hn=>?_⟩
     ·have Du:c=true:=by rw [← hc,beq_iff_eq,← yu];exact hn
      subst Du
      have:=Im hT cQ (d:=o.dst) (ty:=o.type) (pos:=o.pos) (aft:=o.after) (gd:=o.guard) Mu C (dq rfl)
      refine aY.mono this fun v w' ⟨ay,F',I',R',e,hI,hF,mZ⟩=>?_
      obtain ⟨e1,e2,e3⟩:=RE.put (E:=E) size (defers.grow hI) (fun t v hx=>(hs t v hx).mono (fun w hw=>⟨hw.1,hI.holds w hw.2⟩) (fun u x hx=>e u x (by simp) hx)) hd mZ
      exact ih _ _ _ _ _ h ⟨e1,I',e2,hm,ay,F',R',b9.step (mv':=[]) hm e hI hF,e3⟩ hv k
     ·have NH:c=false:=by rw [← hc,beq_eq_false_iff_ne,← yu];exact hn
      subst NH
      obtain ⟨e1,e2,e3⟩:=RE.put (E:=E) size defers hs hd (.d (.v undef))
      exact ih _ _ _ _ _ h ⟨e1,I,e2,hm,β,F,Rm,⟨b9.1,b9.2.1,fun u hu ht=>b9.2.2 u hu fun h'=>ht (List.mem_append_right _ h')⟩,e3⟩ hv k
   split at h
   ·rename_i hw
    have fi:=kn (ops:=ops) size hs hw
    split at h
    ·rename_i out br
     have Dv:=gj out br h
     split
     ·exact Dv
     ·rename_i j want hg
      refine ⟨fun _=>Dv,fun hn=>?_⟩
      simp only [Region.wanted,hg,beq_iff_eq] at fi
      exact absurd fi hn
    ·simp at h
   ·rename_i hw
    have fi:=kn (ops:=ops) size hs hw
    split
    ·rename_i hg;simp [Region.wanted,hg] at fi
    ·rename_i j want hg
     refine ⟨fun hn=>?_,fun _=>KY h⟩
     simp only [Region.wanted,hg,beq_eq_false_iff_ne] at fi
     exact absurd hn fi
   ·simp at h
theorem Mv (hT:bc P T=true) (cQ:js P cl) (hK:∀ w,Kp D w0 w→K0 w) {b:eT} {s:RS} (R:dr mk D w0 K0 sz b s a w) (oc:List (Nat×aX)) {id:Nat} {s':RS} (h:jh P T cl sz ops ops.toList 0 oc s=some s') (hv:bg s'.vc) (k:∀ a' w',dr mk D w0 K0 sz b s' a' w'→Q .normal a' w'):(Code.region id ops false).wpIn (Fl ro) 0 P Q a w:=
 Ej (JJ hT cQ hK _ _ _ _ a w h R hv k)
def me (P:Program) (ops:Array Oper) (Rk:World→Prop) (o:Oper) (v:Value) (a:Act):Prop:=
 (Region.wanted o (yielded ops a.tmps)=true∧∀ w,Rk w→(execOp a.eval o).run P w=.ok (.value v) w)∨(Region.wanted o (yielded ops a.tmps)=false∧v=undef)
theorem me.wpOp {Rk:World→Prop} {i:Nat} {o:Oper} {v:Value} (hi:ops[i]?=some o) (hy:me P ops Rk o v a) {K:Act→World→Prop} (hR:Rk w) (h:K (a.put o.dst v) w):Go.wpOpIn (Fl ro) 0 P ops Q i K a w:=by
 unfold Go.wpOpIn
 simp only [hi]
 rcases hy with hy | ⟨hy,rfl⟩
 ·simp only [hy.1,if_true]
  refine ⟨fun _ _=>trivial,?_⟩
  rw [show (Fl ro).round=ro from rfl,HQ (hy.2 w hR)];exact h
 ·simp only [hy,Bool.false_eq_true,if_false];exact ⟨fun _ _=>trivial,h⟩
theorem zi {Rk:World→Prop} {i:Nat} {oi:Oper} {v:Value} (hi:ops[i]?=some oi) (iG:∀ (j:Nat) (o:Oper) cs b,ops[j]?=some o→o.op≠.select cs b)
  (hQ:∀ c a w,Q (.panic c) (a.put oi.dst v) w→Q (.panic c) a w):
  ∀ (fuel:Nat) (L:Array Bool) (a:Act) (w:World),
   (∀ j oj,ops[j]?=some oj→j≠i→L.getD j true=false→(∀ e ∈ oj.after,Region.binds .any e=true→e.on≠i)→oi.apart ops oj=true)→
   i ∈ Region.ready .any ops L→me P ops Rk oi v a→
   jX ro P ops Q Rk fuel (L.setIfInBounds i true) (a.put oi.dst v) w→jX ro P ops Q Rk (fuel+1) L a w:=by
 intro fuel
 induction fuel with
 | zero=>
  intro L a w _ hr hy H
  refine ⟨H.rk,fun h=>(by rw [h] at hr;cases hr),fun j hj=>?_⟩
  by_cases gS:j=i
  ·subst gS;exact hy.wpOp hi H.rk H
  ·have:=ready_mono hj gS
   rw [H.2.1] at this
   cases this
 | succ fuel ih=>
  intro L a w ln hr hy H
  refine ⟨H.rk,fun h=>(by rw [h] at hr;cases hr),fun j hj=>?_⟩
  by_cases gS:j=i
  ·subst gS;exact hy.wpOp hi H.rk H
  ·have h1:=H.2.2 j (ready_mono hj gS)
   obtain ⟨qW,oj,na,ie⟩:=mem_ready.1 hj
   have tz:∀ e ∈ oj.after,Region.binds .any e=true→e.on≠i:=fun e he hb heq=>by
    have h1:=ie e he hb
    have h0:=(mem_ready.1 hr).1
    rw [heq] at h1
    rcases Nat.lt_or_ge i L.size with h' | h'
    ·simp [h'] at h0 h1;rw [h0] at h1;cases h1
    ·simp [Array.getElem?_eq_none h'] at h1
   have lG:=ln j oj na gS qW tz
   obtain ⟨_,_,h3⟩:=Oper.apart_spec lG
   have h2:=zk (Y:=me P ops Rk oi v) na lG (fun cs b=>iG j oj cs b na)
    (fun a hy u=>by unfold me at *;rw [execOp_put oi (fun cs b=>iG i oi cs b hi) a oj.dst u h3,wanted_put oi a oj.dst u h3];exact hy) (fun a d hy=>hy) hQ hy h1
   have wy:∀ k ok,ops[k]?=some ok→k≠i→(L.setIfInBounds j true).getD k true=false→
     (∀ e ∈ ok.after,Region.binds .any e=true→e.on≠i)→oi.apart ops ok=true:=fun k ok hk yU lP jy=>by
    refine ln k ok hk yU ?_ jy
    by_cases mX:j=k
    ·subst mX;exact qW
    ·rw [getD_set_ne true mX] at lP;exact lP
   refine wpOpIn_mono (fun a' w' h3=>ih (L.setIfInBounds j true) a' w' wy (ready_mono hr (Ne.symm gS)) h3.1 ?_) h2
   rw [Array.setIfInBounds_comm _ _ gS]
   exact h3.2
def ld:Op→Bool
 | .move _=>true
 | .assign _=>true
 | .pick _ _ _=>true
 | .load _ _=>true
 | .nilCheck _=>true
 | .binOp _ _ _ _ _=>true
 | .unOp _ _ _=>true
 | .fieldAddr _ _ _=>true
 | .indexAddr _ _ _=>true
 | .extract _ _=>true
 | .makeFunc _ _ _=>true
 | .build _ _=>true
 | .slice _ _ _ _ _=>true
 | .index _ _ _=>true
 | .field _ _ _=>true
 | .convert _ _ _=>true
 | .call ⟨.builtin .len,_,_⟩=>true
 | _=>false
def l5 (ops:Array Oper) (L:Array Bool):List Nat→Option Nat
 | []=>none
 | i::r=>(match ops[i]? with | some o=>bif ld o.op&&Region.free .any ops L i then some i else l5 ops L r | none=>l5 ops L r)
inductive rC where
 | fin
 | look (i:Nat)
 | one (i:Nat)
 | bad
def qX (ops:Array Oper) (L:Array Bool):List Nat→rC
 | []=>.fin
 | [i]=>.one i
 | i::k::r=>(match l5 ops L (i::k::r) with
  | some j=>.look j
  | none=>.bad)
def rD (ops:Array Oper) (L:Array Bool):rC:=qX ops L (Region.ready .any ops L)
def ya (rd tc:List Nat):Bool:=rd.all fun u=>!(tc.elem u)
def mK (ops:Array Oper) (k i:Nat):Bool:=match ops[k]? with
 | some o=>!(ld o.op)&&o.after.any fun e=>Region.binds .any e&&Nat.beq e.on i
 | none=>false
def iQ (ops:Array Oper) (i:Nat) (L:Array Bool):Bool:=(List.range ops.size).all fun k=>!(mK ops k i&&L.getD k true)
theorem zC {i:Nat} {L:Array Bool}:iQ ops i L=true↔∀ k,k<ops.size→mK ops k i=true→L.getD k true=false:=by
 unfold iQ
 rw [List.all_eq_true]
 constructor
 ·intro h k hk hd
  have:=h k (List.mem_range.2 hk)
  rw [hd] at this;simpa using this
 ·intro h k hk
  cases hd:mK ops k i with
  | false=>rfl
  | true=>rw [h k (List.mem_range.1 hk) hd];rfl
theorem qa {i j:Nat} {L:Array Bool} (hd:mK ops j i=false) (h:iQ ops i L=true):iQ ops i (L.setIfInBounds j true)=true:=by
 rw [zC] at *
 intro k hk fq
 rw [getD_set_ne true (fun e=>by subst e;rw [hd] at fq;cases fq)]
 exact h k hk fq
theorem si {i j:Nat} {o:Oper} (ho:ops[j]?=some o) (hp:ld o.op=true):mK ops j i=false:=by unfold mK;rw [ho];simp [hp]
theorem JK {i j:Nat} {o:Oper} (ho:ops[j]?=some o) (jy:∀ e ∈ o.after,Region.binds .any e=true→e.on≠i):mK ops j i=false:=by
 unfold mK;rw [ho]
 simp only [Bool.and_eq_false_iff]
 refine .inr ?_
 rw [Array.any_eq_false]
 intro q hq h
 simp only [Bool.and_eq_true] at h
 exact jy _ (Array.getElem_mem hq) h.1 (Nat.eq_of_beq_eq_true h.2)
def Sub (L L':Array Bool):Prop:=∀ k,L.getD k true=true→L'.getD k true=true
theorem Sub.refl (L:Array Bool):Sub L L:=fun _ h=>h
theorem Sub.sL {L L':Array Bool} {j:Nat} (h:Sub (L.setIfInBounds j true) L'):Sub L L':=fun k hk=>h k (by
 by_cases e:j=k
 ·subst e
  rcases Nat.lt_or_ge j L.size with h' | h'
  ·simp [h']
  ·simp [h']
 ·rw [getD_set_ne true e];exact hk)
theorem ER {i:Nat} {L L':Array Bool} (h:Sub L L') (ha:iQ ops i L'=true):iQ ops i L=true:=by
 rw [zC] at *
 intro k hk hd
 cases e:L.getD k true with
 | false=>rfl
 | true=>have h1:=ha k hk hd;rw [h k e] at h1;cases h1
def xr (ops:Array Oper) (L:Array Bool) (rd:List (Nat×Nat)) (tc:List Nat):Bool:=rd.all fun q=>!(tc.elem q.2)||!(iQ ops q.1 L)
def j1 (ro:Option Nat) (P:Program) (ops:Array Oper) (Q:Exit→Act→World→Prop) (Rk:Array Bool→World→Prop):Nat→Array Bool→Act→World→Prop
 | 0,L,a,w=>Rk L w∧Region.ready .any ops L=[]∧Q .normal a w
 | fuel+1,L,a,w=>Rk L w∧(Region.ready .any ops L=[]→Q .normal a w)∧∀ i ∈ Region.ready .any ops L,wpOpIn (Fl ro) 0 P ops Q i (j1 ro P ops Q Rk fuel (L.setIfInBounds i true)) a w
theorem j1.rk {Rk:Array Bool→World→Prop} {fuel:Nat} {L:Array Bool} {a:Act} {w:World} (h:j1 ro P ops Q Rk fuel L a w):Rk L w:=by cases fuel<;>exact h.1
theorem j1.to {Rk:Array Bool→World→Prop}:∀ {fuel:Nat} {L:Array Bool} {a:Act} {w:World},j1 ro P ops Q Rk fuel L a w→wpAnyIn (Fl ro) 0 P .any ops Q fuel L a w
 | 0,_,_,_,h=>h.2
 | _+1,_,_,_,h=>⟨h.2.1,fun i hi=>wpOpIn_mono (fun _ _ h=>j1.to h) (h.2.2 i hi)⟩
theorem zn {Rk q6:Array Bool→World→Prop} (h:∀ L w,q6 L w→Rk L w):∀ {fuel:Nat} {L:Array Bool} {a:Act} {w:World},j1 ro P ops Q q6 fuel L a w→j1 ro P ops Q Rk fuel L a w
 | 0,_,_,_,k=>⟨h _ _ k.1,k.2⟩
 | _+1,_,_,_,k=>⟨h _ _ k.1,k.2.1,fun i hi=>wpOpIn_mono (fun _ _ k=>zn h k) (k.2.2 i hi)⟩
theorem zj {Rk:Array Bool→World→Prop} {S:World→Prop} {i:Nat} {oi:Oper} {v:Value} (hi:ops[i]?=some oi) (hp:ld oi.op=true) (iG:∀ (j:Nat) (o:Oper) cs b,ops[j]?=some o→o.op≠.select cs b)
  (hQ:∀ c a w,Q (.panic c) (a.put oi.dst v) w→Q (.panic c) a w) (Dw:∀ L w,iQ ops i L=true→Rk L w→S w) (B9:∀ L w,Rk (L.setIfInBounds i true) w→Rk L w):
  ∀ (fuel:Nat) (L:Array Bool) (a:Act) (w:World),
   (∀ j oj,ops[j]?=some oj→j≠i→L.getD j true=false→(∀ e ∈ oj.after,Region.binds .any e=true→e.on≠i)→oi.apart ops oj=true)→
   i ∈ Region.ready .any ops L→iQ ops i L=true→me P ops S oi v a→
   j1 ro P ops Q Rk fuel (L.setIfInBounds i true) (a.put oi.dst v) w→j1 ro P ops Q Rk (fuel+1) L a w:=by
 intro fuel
 induction fuel with
 | zero=>
  intro L a w _ hr dP hy H
  refine ⟨B9 _ _ H.rk,fun h=>(by rw [h] at hr;cases hr),fun j hj=>?_⟩
  by_cases gS:j=i
  ·subst gS;exact hy.wpOp hi (Dw _ _ (qa (si hi hp) dP) H.rk) H
  ·have:=ready_mono hj gS
   rw [H.2.1] at this
   cases this
 | succ fuel ih=>
  intro L a w ln hr dP hy H
  refine ⟨B9 _ _ H.rk,fun h=>(by rw [h] at hr;cases hr),fun j hj=>?_⟩
  by_cases gS:j=i
  ·subst gS;exact hy.wpOp hi (Dw _ _ (qa (si hi hp) dP) H.rk) H
  ·have h1:=H.2.2 j (ready_mono hj gS)
   obtain ⟨qW,oj,na,ie⟩:=mem_ready.1 hj
   have tz:∀ e ∈ oj.after,Region.binds .any e=true→e.on≠i:=fun e he hb heq=>by
    have h1:=ie e he hb
    have h0:=(mem_ready.1 hr).1
    rw [heq] at h1
    rcases Nat.lt_or_ge i L.size with h' | h'
    ·simp [h'] at h0 h1;rw [h0] at h1;cases h1
    ·simp [Array.getElem?_eq_none h'] at h1
   have lG:=ln j oj na gS qW tz
   obtain ⟨_,_,h3⟩:=Oper.apart_spec lG
   have h2:=zk (Y:=me P ops S oi v) na lG (fun cs b=>iG j oj cs b na)
    (fun a hy u=>by unfold me at *;rw [execOp_put oi (fun cs b=>iG i oi cs b hi) a oj.dst u h3,wanted_put oi a oj.dst u h3];exact hy) (fun a d hy=>hy) hQ hy h1
   have wy:∀ k ok,ops[k]?=some ok→k≠i→(L.setIfInBounds j true).getD k true=false→
     (∀ e ∈ ok.after,Region.binds .any e=true→e.on≠i)→oi.apart ops ok=true:=fun k ok hk yU lP jy=>by
    refine ln k ok hk yU ?_ jy
    by_cases mX:j=k
    ·subst mX;exact qW
    ·rw [getD_set_ne true mX] at lP;exact lP
   refine wpOpIn_mono (fun a' w' h3=>ih (L.setIfInBounds j true) a' w' wy (ready_mono hr (Ne.symm gS)) (qa (JK na tz) dP) h3.1 ?_) h2
   rw [Array.setIfInBounds_comm _ _ gS]
   exact h3.2
def K1 (ops:Array Oper) (K0:World→Prop) (I:al) (F:Nat→al) (rd:List (Nat×Nat)) (L:Array Bool) (w:World):Prop:=(K0 w∧Holds w I)∧∀ q ∈ rd,iQ ops q.1 L=true→Holds w (F q.2)
def jI (P:Program) (T:aJ) (cl:fQ) (sz:Nat) (ops:Array Oper) (oc:List (Nat×aX)):Nat→Array Bool→List (Nat×Nat)→RS→Option RS
 | 0,L,_,s=>(match rD ops L with | .fin=>some s | _=>none)
 | fuel+1,L,rd,⟨vc,E,M,tc,mv⟩=>
  match rD ops L with
  | .fin=>some ⟨vc,E,M,tc,mv⟩
  | .bad=>none
  | .look i=>(match ops[i]? with
   | some o=>(bif gF sz o.dst&&(ld o.op&&iQ ops i L) then (match mA sz ops E o.guard with
    | some true=>(match step P T cl E M (mJ oc i) o.op with
     | some ⟨mY,av,_,_,_,some kf⟩=>jI P T cl sz ops oc fuel (L.setIfInBounds i true) (kf.map (fun u=>(i,u))++rd) ⟨vc++mY,iF E o.dst av,M,tc,mv⟩
     | _=>none)
    | some false=>jI P T cl sz ops oc fuel (L.setIfInBounds i true) rd ⟨vc,iF E o.dst (.d (.v undef)),M,tc,mv⟩
    | none=>none) else none)
   | none=>none)
  | .one i=>(match ops[i]? with
   | some o=>(bif gF sz o.dst then (match mA sz ops E o.guard with
    | some true=>(match step P T cl E M (mJ oc i) o.op with
     | some out=>(bif xr ops (L.setIfInBounds i true) rd out.tc&&Nat.ble M.length out.M.length then jI P T cl sz ops oc fuel (L.setIfInBounds i true) rd ⟨vc++out.vc,iF (o5 out.mv E) o.dst out.av,out.M,out.tc++tc,out.mv++mv⟩ else none)
     | none=>none)
    | some false=>jI P T cl sz ops oc fuel (L.setIfInBounds i true) rd ⟨vc,iF E o.dst (.d (.v undef)),M,tc,mv⟩
    | none=>none) else none)
   | none=>none)
theorem ov {L:Array Bool}:∀ {r:List Nat} {i:Nat},l5 ops L r=some i→i ∈ r∧∃ o,ops[i]?=some o∧Region.free .any ops L i=true
 | [],_,h=>by simp [l5] at h
 | j::r,i,h=>by
  unfold l5 at h
  split at h
  ·rename_i o ho
   cases hc:(ld o.op&&Region.free .any ops L j) with
   | true=>simp only [hc,cond_true,Option.some.injEq] at h;subst h;simp only [Bool.and_eq_true] at hc;exact ⟨List.mem_cons_self,o,ho,hc.2⟩
   | false=>simp only [hc,cond_false] at h;exact ⟨List.mem_cons_of_mem _ (ov h).1,(ov h).2⟩
  ·exact ⟨List.mem_cons_of_mem _ (ov h).1,(ov h).2⟩
theorem vu {L:Array Bool} {r:List Nat} {n:rC}:qX ops L r=n→match n with | .fin=>r=[] | .look i=>i ∈ r∧∃ o,ops[i]?=some o∧Region.free .any ops L i=true | .one i=>r=[i] | .bad=>True:=by
 intro h
 match r,h with
 | [],h=>simp only [qX] at h;subst h;rfl
 | [i],h=>simp only [qX] at h;subst h;rfl
 | i::k::r,h=>
  rw [qX] at h
  cases hf:l5 ops L (i::k::r) with
  | some j=>rw [hf] at h;subst h;exact ov hf
  | none=>rw [hf] at h;subst h;trivial
theorem A8 {L:Array Bool} (h:rD ops L=.fin):Region.ready .any ops L=[]:=vu h
theorem G6 {L:Array Bool} {i:Nat} (h:rD ops L=.look i):i ∈ Region.ready .any ops L∧∃ o,ops[i]?=some o∧Region.free .any ops L i=true:=vu h
theorem Io {L:Array Bool} {i:Nat} (h:rD ops L=.one i):Region.ready .any ops L=[i]:=vu h
theorem vv {oc:List (Nat×aX)}:∀ (fuel:Nat) (L:Array Bool) (rd:List (Nat×Nat)) (s:RS) {s':RS},jI P T cl sz ops oc fuel L rd s=some s'→bg s'.vc→bg s.vc:=by
 intro fuel
 induction fuel with
 | zero=>
  intro L rd s s' h hv
  unfold jI at h
  split at h
  ·simp only [Option.some.injEq] at h;subst h;exact hv
  ·simp at h
 | succ fuel ih=>
  intro L rd s s' h hv
  obtain ⟨vc,E,M,tc,mv⟩:=s
  unfold jI at h
  split at h
  ·simp only [Option.some.injEq] at h;subst h;exact hv
  ·simp at h
  ·rename_i i _
   split at h
   ·rename_i o ho
    cases hd:(gF sz o.dst&&(ld o.op&&iQ ops i L)) with
    | false=>simp [hd] at h
    | true=>
     simp only [hd,cond_true] at h
     split at h
     ·split at h
      ·exact (bg.app.1 (ih _ _ _ h hv)).1
      ·simp at h
     ·have:=ih _ _ _ h hv;exact this
     ·simp at h
   ·simp at h
  ·rename_i i _
   split at h
   ·rename_i o ho
    cases hd:gF sz o.dst with
    | false=>simp [hd] at h
    | true=>
     simp only [hd,cond_true] at h
     split at h
     ·split at h
      ·rename_i out _
       cases hc:(xr ops (L.setIfInBounds i true) rd out.tc&&Nat.ble M.length out.M.length) with
       | false=>simp [hc] at h
       | true=>simp only [hc,cond_true] at h;exact (bg.app.1 (ih _ _ _ h hv)).1
      ·simp at h
     ·have:=ih _ _ _ h hv;exact this
     ·simp at h
   ·simp at h
theorem Ip (hT:bc P T=true) (cQ:js P cl) {b:eT} (hK:∀ w,Kp D w0 w→K0 w) (iG:Region.noSelect ops=true) (hQ:∀ d v c a w,Q (.panic c) (Act.put a d v) w→Q (.panic c) a w) {oc:List (Nat×aX)}:
  ∀ (fuel:Nat) (L:Array Bool) (rd:List (Nat×Nat)) (s:RS) {s':RS} (Rk:Array Bool→World→Prop) (β:Beta) (F:Nat→al) (I:al) (a:Act) (w:World),jI P T cl sz ops oc fuel L rd s=some s'→a.tmps.size=sz→Mk mk a.defers I→b.m≤s.M.length→RM D w0 K0 s.M β F I w→Since b s.mv s.tc β F I→
   (∀ t v,bZ s.E t=some v→ax (fun w=>K0 w∧Holds w I) β v (a.eval (.tmp t)))→(∀ q ∈ rd,q.2<s.M.length)→(∀ L' w,Sub L L'→K1 ops K0 I F rd L' w→Rk L' w)→(∀ (j:Nat) oj,ops[j]?=some oj→ld oj.op=true→∀ L' w,Rk (L'.setIfInBounds j true) w→Rk L' w)→bg s'.vc→(∀ a' w',dr mk D w0 K0 sz b s' a' w'→Q .normal a' w')→j1 ro P ops Q Rk fuel L a w:=by
 intro fuel
 induction fuel with
 | zero=>
  intro L rd s s' Rk β F I a w h size defers hm Rm b9 hs eu gm n6 hv k
  obtain ⟨vc,E,M,tc,mv⟩:=s
  have C:Ctx D w0 K0 E M β F I a.eval w:=⟨Rm,hs,fun _=>rfl,fun _=>rfl,fun _=>rfl,hK⟩
  have hR:=gm L w (Sub.refl L) ⟨C.now,fun q hq _=>C.rm.iD (List.getElem?_eq_getElem (eu q hq))⟩
  unfold jI at h
  split at h
  ·rename_i hn
   simp only [Option.some.injEq] at h;subst h
   exact ⟨hR,A8 hn,k a w ⟨size,I,defers,hm,β,F,Rm,b9,hs⟩⟩
  ·simp at h
 | succ fuel ih=>
  intro L rd s s' Rk β F I a w h size defers hm Rm b9 hs eu gm n6 hv k
  obtain ⟨vc,E,M,tc,mv⟩:=s
  dsimp only at hm Rm b9 hs eu gm
  have C:Ctx D w0 K0 E M β F I a.eval w:=⟨Rm,hs,fun _=>rfl,fun _=>rfl,fun _=>rfl,hK⟩
  have hR:=gm L w (Sub.refl L) ⟨C.now,fun q hq _=>C.rm.iD (List.getElem?_eq_getElem (eu q hq))⟩
  unfold jI at h
  split at h
  ·rename_i hn
   simp only [Option.some.injEq] at h;subst h
   have hn:=A8 hn
   exact ⟨hR,fun _=>k a w ⟨size,I,defers,hm,β,F,Rm,b9,hs⟩,fun i hi=>by rw [hn] at hi;cases hi⟩
  ·simp at h
  ·rename_i i hn
   obtain ⟨rE,o',NI,ln⟩:=G6 hn
   split at h
   ·rename_i o ho
    cases tX:(gF sz o.dst&&(ld o.op&&iQ ops i L)) with
    | false=>simp [tX] at h
    | true=>
     simp only [tX,cond_true] at h
     simp only [Bool.and_eq_true] at tX
     obtain ⟨hd,rF,dP⟩:=tX
     have nT:=fun j oj hj jL lP jy=>Region.free_spec ho ln j oj hj jL lP jy
     split at h
     ·rename_i hw
      have fi:=kn (ops:=ops) size hs hw
      split at h
      ·rename_i mY av _ _ _ kf br
       have n7:=oK (P:=P) hT cQ (d:=o.dst) (ty:=o.type) (pos:=o.pos) (aft:=o.after) (gd:=o.guard) br
       obtain ⟨yb,rfl,-,aI⟩:=n7
       have lA:=(bg.app.1 (vv _ _ _ _ h hv)).2
       obtain ⟨v,ly,mE⟩:=yb C lA
       obtain ⟨e1,e2,e3⟩:=RE.put (E:=E) size defers hs hd ly
       have kx:=ih (L.setIfInBounds i true) _ _ (fun L w=>Rk L w∧(iQ ops i L=true→iT K0 I F kf w)) β F I (a.put o.dst v) w h e1 e2 hm Rm b9 e3 (fun q hq=>by
         rcases List.mem_append.1 hq with e | e
         ·obtain ⟨u,hu,rfl⟩:=List.mem_map.1 e;exact aI u hu
         ·exact eu q e)
        (fun L' w hL hw=>⟨gm L' w hL.sL ⟨hw.1,fun q hq=>hw.2 q (List.mem_append_right _ hq)⟩,fun ha=>⟨hw.1,fun u hu=>hw.2 (i,u) (List.mem_append_left _ (List.mem_map.2 ⟨u,hu,rfl⟩)) ha⟩⟩)
        (fun j oj hj Dx L' w hw=>⟨n6 j oj hj Dx L' w hw.1,fun ha=>hw.2 (qa (si hj Dx) ha)⟩) hv k
       exact zn (fun L w hw=>hw.1) (zj ho rF (Region.noSelect_spec iG) (hQ o.dst v) (fun L w ha hw=>hw.2 ha) (fun L w hw=>⟨n6 i o ho rF L w hw.1,fun ha=>hw.2 (qa (si ho rF) ha)⟩) _ L a w nT rE dP (Or.inl ⟨fi,fun w' dX=>mE w' dX⟩) kx)
      ·simp at h
     ·rename_i hw
      have fi:=kn (ops:=ops) size hs hw
      obtain ⟨e1,e2,e3⟩:=RE.put (E:=E) size defers hs hd (.d (.v undef))
      have kx:=ih (L.setIfInBounds i true) _ _ Rk β F I (a.put o.dst undef) w h e1 e2 hm Rm b9 e3 eu (fun L' w hL=>gm L' w hL.sL) n6 hv k
      exact zj (S:=fun _=>True) ho rF (Region.noSelect_spec iG) (hQ o.dst undef) (fun _ _ _ _=>trivial) (n6 i o ho rF) _ L a w nT rE dP (Or.inr ⟨fi,rfl⟩) kx
     ·simp at h
   ·simp at h
  ·rename_i i hn
   have dF:=Io hn
   split at h
   ·rename_i o ho
    cases hd:gF sz o.dst with
    | false=>simp [hd] at h
    | true=>
     simp only [hd,cond_true] at h
     refine ⟨hR,fun h0=>(by rw [dF] at h0;simp at h0),fun j hj=>?_⟩
     rw [dF] at hj
     obtain rfl:=List.mem_singleton.1 hj
     unfold wpOpIn
     simp only [ho]
     split at h
     ·rename_i hw
      have fi:=kn (ops:=ops) size hs hw
      simp only [fi,if_true]
      split at h
      ·rename_i out br
       cases hc:(xr ops (L.setIfInBounds j true) rd out.tc&&Nat.ble M.length out.M.length) with
       | false=>simp [hc] at h
       | true=>
        simp only [hc,cond_true] at h
        simp only [Bool.and_eq_true] at hc
        have hlen:=Nat.le_of_ble_eq_true hc.2
        have lA:=(bg.app.1 (vv _ _ _ _ h hv)).2
        have n7:=(oK (P:=P) hT cQ (d:=o.dst) (ty:=o.type) (pos:=o.pos) (aft:=o.after) (gd:=o.guard) br).px C lA
        refine aY.wp n7 ?_
        rintro v w' ⟨ay,F',I',R',e,hI,hF,mZ⟩
        have hk:=uY (ρ:=a.eval) e hs
        obtain ⟨e1,e2,e3⟩:=RE.put size (defers.grow hI) (fun t v hx=>(hk t v hx).mono (fun w hw=>⟨hw.1,hI.holds w hw.2⟩) (Ext.refl _)) hd mZ
        refine ih (L.setIfInBounds j true) _ _ Rk ay F' I' (a.put o.dst v) w' h e1 e2 (Nat.le_trans hm hlen) R' (b9.step hm e hI hF) e3 (fun q hq=>Nat.lt_of_lt_of_le (eu q hq) hlen) (fun L' w hL hw=>gm L' w hL.sL ⟨⟨hw.1.1,hI.holds w hw.1.2⟩,fun q hq ha=>?_⟩) n6 hv k
        have yV:q.2 ∉ out.tc:=by
         have h1:=List.all_eq_true.1 hc.1 q hq
         rw [ER hL ha] at h1
         simpa using h1
        rw [← hF q.2 (eu q hq) yV];exact hw.2 q hq ha
      ·simp at h
     ·rename_i hw
      have fi:=kn (ops:=ops) size hs hw
      simp only [fi,Bool.false_eq_true,if_false]
      obtain ⟨e1,e2,e3⟩:=RE.put (E:=E) size defers hs hd (.d (.v undef))
      exact ⟨fun _ _=>trivial,ih (L.setIfInBounds j true) _ _ Rk β F I (a.put o.dst undef) w h e1 e2 hm Rm b9 e3 eu (fun L' w hL=>gm L' w hL.sL) n6 hv k⟩
     ·simp at h
   ·simp at h
theorem Mw (hT:bc P T=true) (cQ:js P cl) (hm:P.follows .mixedOrders=true) (hK:∀ w,Kp D w0 w→K0 w) (hQ:∀ d v c a w,Q (.panic c) (Act.put a d v) w→Q (.panic c) a w) {b:eT} {s:RS} (R:dr mk D w0 K0 sz b s a w) (oc:List (Nat×aX)) {id:Nat} {s':RS} (iG:Region.noSelect ops=true)
  (h:jI P T cl sz ops oc ops.size (Array.replicate ops.size false) [] s=some s') (hv:bg s'.vc) (k:∀ a' w',dr mk D w0 K0 sz b s' a' w'→Q .normal a' w'):(Code.region id ops true).wpIn (Fl ro) 0 P Q a w:=by
 refine wpIn_region_any hm ?_
 obtain ⟨size,I,defers,hb,β,F,Rm,b9,hs⟩:=R
 have hg:=Gr.drew w
 exact (Ip hT cQ hK iG hQ ops.size _ [] s (fun _ _=>True) β F I a w.drew h size defers hb (Rm.gr hg) b9 hs (by simp) (fun _ _ _ _=>trivial) (fun _ _ _ _ _ _ _=>trivial) hv k).to
end Go.Proofs.YtcnpikbbmbombaaGreatDoor
namespace Go.Proofs.YtcnpikbbmbombaaGreatDoor
open Go.RowKit
inductive fB where
 | ends (R:Ending→World→Prop)
 | arr (l:Nat) (k:List Item) (Q:Act→World→Prop)
def fB.ro:fB→Option Nat
 | .ends _=>none
 | .arr l _ _=>some l
def fB.met (P:Program) (f:FuncId) (b:Frame) (cs:List Frame):fB→Machine→Prop
 | .ends R,s=>∃ e w' fr,R e w'∧Comes P s (lone fr cs w') e∧fr.fn=f∧fr.leaving P w' e
 | .arr _ k Q,s=>∃ a' w',Q a' w'∧Steps P s (lone (b.atR a' k) cs w')
theorem fB.met.of {P:Program} {f:FuncId} {b:Frame} {cs:List Frame} {G:fB} {s s':Machine} (h:Steps P s s') (g:G.met P f b cs s'):G.met P f b cs s:=by
 cases G with
 | ends R=>obtain ⟨e,w',fr,h1,h2,h3⟩:=g;exact ⟨e,w',fr,h1,.of_steps h h2,h3⟩
 | arr l k Q=>obtain ⟨a',w',h1,h2⟩:=g;exact ⟨a',w',h1,h.trans h2⟩
def aC (P:Program) (f:FuncId) (todo:List Item) (R:fB) (a:Act) (w:World):Prop:=
 ∀ (b:Frame) (cs:List Frame),b.fn=f→b.kind=.normal→b.roundOf=R.ro→R.met P f b cs (lone (b.atR a todo) cs w)
section
variable {mk:Bool} {P:Program} {f:FuncId} {R:fB} {Re:Ending→World→Prop} {a a':Act} {w w':World} {todo todo':List Item}
theorem aC.step (h:∀ (b:Frame) cs,Go.step P (lone (b.atR a todo) cs w)=.next (lone (b.atR a' todo') cs w')) (g:aC P f todo' R a' w'):aC P f todo R a w:=
 fun b cs hb hk hr=>(g b cs hb hk hr).of (.one (h b cs))
theorem aC.code {c:Code} {k:List Item} (h:c.wpIn (Fl R.ro) 0 P (fun e a w=>e=.normal∧aC P f k R a w) a w):aC P f (.code c::k) R a w:=by
 intro b cs hb hk hr
 obtain ⟨e,a1,w1,⟨rfl,hg⟩,Mx⟩:=h b k cs hr trivial (fun d hd=>by cases hd)
 exact (hg b cs hb hk hr).of (stepsIn_wide.1 Mx)
theorem aC.ret {fn:Func} {k:List Item} (hf:P.funcs[f]?=some fn) (hd:a.defers=[]) {v:Value} (hr:(results fn a.tmps).run P w=.ok v w) (h:Re (.returned v) w):aC P f (.code .ret::k) (.ends Re) a w:=by
 intro b cs hb hk lQ
 rw [Frame.atR_of_none lQ]
 exact ⟨.returned v,w,{ b.at a (.code .ret::k) with mode:=.returning },h,.of_steps (.one step_ret) (Steps.refl P _),hb,rfl,hd,hk,fn,by rw [← hb] at hf;exact hf,hr⟩
theorem aC.fin {fn:Func} (hf:P.funcs[f]?=some fn) (hd:a.defers=[]) {v:Value} (hr:(results fn a.tmps).run P w=.ok v w) (h:Re (.returned v) w):aC P f [] (.ends Re) a w:=by
 intro b cs hb hk lQ
 rw [Frame.atR_of_none lQ]
 exact ⟨.returned v,w,{ b.at a [] with mode:=.returning },h,.of_steps (.one step_end) (Steps.refl P _),hb,rfl,hd,hk,fn,by rw [← hb] at hf;exact hf,hr⟩
theorem aC.Bz {l:Nat} {k:List Item} {Q:Act→World→Prop} (h:Q a w):aC P f k (.arr l k Q) a w:=fun _ _ _ _ _=>⟨a,w,h,Steps.refl P _⟩
theorem pY {fn:Func} {c:Code} {args:Array Value} (hf:P.funcs[f]?=some fn) (hb:fn.body=some c) (h:aC P f [.code c] (.ends Re) { tmps:=args++Array.replicate (fn.ntmps-args.size) undef,defers:=[] } w):Calls P f args w Re:=by
 intro cs
 let b:Frame:={ (default:Frame) with fn:=f,kind:=.normal,roundOf:=none }
 have JL:Frame.enter P f args .normal=b.atR { tmps:=args++Array.replicate (fn.ntmps-args.size) undef,defers:=[] } [.code c]:=by
  simp [Frame.enter,Frame.atR,hf,hb,b]
 rw [JL]
 exact h b cs rfl rfl rfl
theorem aC.loop {c:Code} {k:List Item} (h:aC P f (.code c::.inLoop c::k) R a w):aC P f (.code (.loop c)::k) R a w:=aC.step (fun _ _=>stepR_loop) h
theorem aC.again {c:Code} {k:List Item} (h:aC P f (.code c::.inLoop c::k) R a w):aC P f (.inLoop c::k) R a w:=aC.step (fun _ _=>stepR_inLoop) h
theorem aC.rounds {Φ:Nat→Act→World→Prop} (n:Nat) (h:∀ i,i≤n→(i<n→∀ a w,Φ (i+1) a w→aC P f todo R a w)→∀ a w,Φ i a w→aC P f todo R a w) {i:Nat} (hi:i≤n) (h0:Φ i a w):aC P f todo R a w:=by
 have key:∀ m i,i≤n→n-i=m→∀ a w,Φ i a w→aC P f todo R a w:=by
  intro m
  induction m with
  | zero=>intro i hi hm;exact h i hi fun aI=>by omega
  | succ m ih=>intro i hi hm;exact h i hi fun aI=>ih (i+1) aI (by omega)
 exact key _ i hi rfl a w h0
end
abbrev dH:=List (Nat×List (Nat×aX))
def yc:dH→Nat→List (Nat×aX)
 | [],_=>[]
 | (k,v)::r,s=>bif k.beq s then v else yc r s
def sM (P:Program) (T:aJ) (cl:fQ) (sz:Nat) (ops:Array Oper) (draw:Bool) (oc:List (Nat×aX)) (s:RS):Option RS:=
 bif draw then (bif Region.noSelect ops then jI P T cl sz ops oc ops.size (Array.replicate ops.size false) [] s else none)
 else jh P T cl sz ops ops.toList 0 oc s
def dN (P:Program) (T:aJ) (cl:fQ) (sz:Nat) (tb:dH):Nat→List Item→RS→Option (List Item×RS)
 | 0,todo,s=>some (todo,s)
 | n+1,todo,s=>
  match todo with
  | .code .skip::k=>dN P T cl sz tb n k s
  | .code (.label _)::k=>dN P T cl sz tb n k s
  | .inBlock _::k=>dN P T cl sz tb n k s
  | .code (.seq x y)::k=>dN P T cl sz tb n (.code x::.code y::k) s
  | .code (.cond c x y)::k=>(match lf (aF s.E c) with
   | some true=>dN P T cl sz tb n (.code x::k) s
   | some false=>dN P T cl sz tb n (.code y::k) s
   | none=>some (todo,s))
  | .code (.block id c)::k=>dN P T cl sz tb n (.code c::.inBlock id::k) s
  | .code (.exit id)::k=>(match exitTo id k with
   | some k'=>dN P T cl sz tb n k' s
   | none=>none)
  | .code (.region id ops draw)::k=>(match sM P T cl sz ops draw (yc tb id) s with
   | some s'=>dN P T cl sz tb n k s'
   | none=>none)
  | _=>some (todo,s)
variable {mk:Bool} {P:Program} {T:aJ} {cl:fQ} {f:FuncId} {R:fB} {a:Act} {w:World} {D:List Nat} {w0:World} {K0:World→Prop} {E:List (Nat×AV)} {M:List ai} {sz:Nat} {tb:dH} {todo todo':List Item}
theorem FK {ops:Array Oper} {draw:Bool} {oc:List (Nat×aX)} {s s':RS} (h:sM P T cl sz ops draw oc s=some s') (hv:bg s'.vc):bg s.vc:=by
 unfold sM at h
 cases draw with
 | false=>simp only [cond_false] at h;exact wx _ _ _ _ h hv
 | true=>
  simp only [cond_true] at h
  cases hs:Region.noSelect ops with
  | false=>simp [hs] at h
  | true=>simp only [hs,cond_true] at h;exact vv _ _ _ _ h hv
theorem A9:∀ (n:Nat) (todo:List Item) (s:RS) {todo':List Item} {s':RS},dN P T cl sz tb n todo s=some (todo',s')→bg s'.vc→bg s.vc:=by
 intro n
 induction n with
 | zero=>intro todo s todo' s' h hv;simp only [dN,Option.some.injEq,Prod.mk.injEq] at h;obtain ⟨-,rfl⟩:=h;exact hv
 | succ n ih=>
  intro todo s todo' s' h hv
  unfold dN at h
  split at h
  ·exact ih _ _ h hv
  ·exact ih _ _ h hv
  ·exact ih _ _ h hv
  ·exact ih _ _ h hv
  ·split at h
   ·exact ih _ _ h hv
   ·exact ih _ _ h hv
   ·simp only [Option.some.injEq,Prod.mk.injEq] at h;obtain ⟨-,rfl⟩:=h;exact hv
  ·exact ih _ _ h hv
  ·split at h
   ·exact ih _ _ h hv
   ·simp at h
  ·split at h
   ·rename_i hr;exact FK hr (ih _ _ h hv)
   ·simp at h
  ·simp only [Option.some.injEq,Prod.mk.injEq] at h;obtain ⟨-,rfl⟩:=h;exact hv
theorem cD.bool (R:cD mk D w0 K0 sz E M a w) {c:Operand} {b:Bool} (h:lf (aF E c)=some b):a.eval c=.bool b:=by
 obtain ⟨-,I,-,β,F,Rm,hs⟩:=R
 unfold lf at h
 split at h
 ·rename_i c' hv
  simp only [Option.some.injEq] at h;subst h
  cases c with
  | tmp t=>
   have:=hs _ _ hv
   generalize a.eval (.tmp t)=y at *
   cases this with | d r=>cases r;rfl
  | const v=>simp only [aF,Option.some.injEq,AV.d.injEq,DV.v.injEq] at hv;rw [← hv];rfl
  | global g=>simp [aF] at hv
  | func f=>simp [aF] at hv
 ·simp at h
theorem kJ (hT:bc P T=true) (cQ:js P cl) (hm:P.follows .mixedOrders=true) (hK:∀ w,Kp D w0 w→K0 w) {b:eT}:∀ (n:Nat) {todo:List Item} {s:RS} {a:Act} {w:World} {todo':List Item} {s':RS},dN P T cl sz tb n todo s=some (todo',s')→dr mk D w0 K0 sz b s a w→bg s'.vc→(∀ a' w',dr mk D w0 K0 sz b s' a' w'→aC P f todo' R a' w')→aC P f todo R a w:=by
 intro n
 induction n with
 | zero=>intro todo s a w todo' s' h r hv k;simp only [dN,Option.some.injEq,Prod.mk.injEq] at h;obtain ⟨rfl,rfl⟩:=h;exact k a w r
 | succ n ih=>
  intro todo s a w todo' s' h r hv k
  unfold dN at h
  split at h
  ·exact aC.step (fun _ _=>stepR_skip) (ih h r hv k)
  ·exact aC.step (fun _ _=>stepR_label) (ih h r hv k)
  ·exact aC.step (fun _ _=>stepR_inBlock) (ih h r hv k)
  ·exact aC.step (fun _ _=>stepR_seq) (ih h r hv k)
  ·split at h
   ·rename_i hb;exact aC.step (fun _ _=>stepR_cond (r.re.bool hb)) (ih h r hv k)
   ·rename_i hb;exact aC.step (fun _ _=>stepR_cond (r.re.bool hb)) (ih h r hv k)
   ·simp only [Option.some.injEq,Prod.mk.injEq] at h;obtain ⟨rfl,rfl⟩:=h;exact k a w r
  ·exact aC.step (fun _ _=>stepR_block) (ih h r hv k)
  ·split at h
   ·rename_i hx;exact aC.step (fun _ _=>stepR_exit hx) (ih h r hv k)
   ·simp at h
  ·split at h
   ·rename_i id ops draw k0 _ s1 hr
    refine aC.code ?_
    have dt:=A9 _ _ _ h hv
    unfold sM at hr
    cases draw with
    | false=>
     simp only [cond_false] at hr
     exact Mv hT cQ hK r _ hr dt fun a' w' r'=>⟨rfl,ih h r' hv k⟩
    | true=>
     simp only [cond_true] at hr
     cases hs:Region.noSelect ops with
     | false=>simp [hs] at hr
     | true=>
      simp only [hs,cond_true] at hr
      exact Mw hT cQ hm hK (by rintro d v c a w ⟨h,-⟩;cases h) r _ hs hr dt fun a' w' r'=>⟨rfl,ih h r' hv k⟩
   ·simp at h
  ·simp only [Option.some.injEq,Prod.mk.injEq] at h;obtain ⟨rfl,rfl⟩:=h;exact k a w r
theorem n8 (hT:bc P T=true) (cQ:js P cl) (hm:P.follows .mixedOrders=true) (hK:∀ w,Kp D w0 w→K0 w) (n:Nat) {vc:List Prop} {s':RS} (h:dN P T cl sz tb n todo ⟨vc,E,M,[],[]⟩=some (todo',s')) (r:cD mk D w0 K0 sz E M a w) (hv:bg s'.vc) (k:∀ a' w',cD mk D w0 K0 sz s'.E s'.M a' w'→aC P f todo' R a' w'):aC P f todo R a w:=
 let ⟨_,rb⟩:=r.b vc
 kJ hT cQ hm hK n h rb hv fun a' w' r'=>k a' w' r'.re
end Go.Proofs.YtcnpikbbmbombaaGreatDoor
