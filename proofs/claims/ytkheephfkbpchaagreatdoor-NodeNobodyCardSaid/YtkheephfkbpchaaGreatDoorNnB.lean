/-
  nodeNobody_card, part 2 of 25: merged by program from the texts that it needs.
-/
import Derived.Test.YtkheephfkbpchaaGreatDoorNnA
set_option linter.unusedSimpArgs false
set_option linter.unusedVariables false
set_option linter.unnecessarySimpa false
namespace Go.Proofs.YtkheephfkbpchaaGreatDoor
open Go.RowKit
variable {P:Program} {T:aC} {D:List Nat} {w0:World} {K0:World→Prop} {E:List (Nat×AV)} {M:List ae} {β:Beta} {F:Nat→ai} {I X:ai} {ρ:Operand→Value} {w:World}
variable {d:Option Tmp} {ty:TypeId} {pos:String} {aft:Array Edge} {gd:Option (Nat×Bool)} {oc:Option aS} {out:Out}
def ah (l:List UInt8):List (List DV):=l.map fun b=>[.v (.int .u8 (b.toNat:Int))]
theorem Ih {K:World→Prop} {l:List UInt8} {X:Nat→List Value} {G:Nat→Nat→ai} (h:dh K 1 (ah l) X G):lay (ah l).length X=l.map fun b:UInt8=>.int .u8 b.toNat:=by
 have hl:(ah l).length=l.length:=by simp [ah]
 have hX:∀ i,i<(ah l).length→(X i).length=1:=fun i hi=>(h.hl i _ (List.getElem?_eq_getElem hi)).2
 apply List.ext_getElem?
 intro p
 have cn:=du hX
 rcases Nat.lt_or_ge p l.length with hp | hp
 ·have Sm:p<(ah l).length:=by omega
  have hg:=jD hX Sm (show 0<1 by omega)
  rw [Nat.mul_one,Nat.add_zero] at hg
  have bn:(ah l)[p]?=some [.v (.int .u8 (l[p].toNat:Int))]:=by simp [ah,List.getElem?_eq_getElem hp]
  obtain ⟨x,h1⟩:∃ x,(X p)[0]?=some x:=⟨(X p)[0]'(by rw [hX p Sm];omega),List.getElem?_eq_getElem _⟩
  have hd:=h.hr p _ 0 _ _ bn rfl h1
  generalize G p 0=GG at hd
  cases hd
  rw [hg,h1,List.getElem?_map,List.getElem?_eq_getElem hp];rfl
 ·rw [List.getElem?_eq_none (by omega),List.getElem?_eq_none (by simp;omega)]
def Ev (T:aC) (E:List (Nat×AV)) (M:List ae) (oc:Option aS) (t t':TypeId) (x:Operand):Option Out:=
 match eJ T t,bB T t',oc with
 | some (e,_,_,_),some .st,some (.res (.v (.string s)))=>(match bB T e,aB E x with
  | some (.it .u8),some (.d (.ro k rows))=>bif Nat.beq k 1 then some (lk [rows=ah s.data.toList] (.d (.v (.string s))) M) else none
  | some (.it .u8),some (.sl u n)=>(match M[u]? with | some (.rw _ k rows)=>bif Nat.beq k 1 then some ⟨[n=rows.length,rows=ah s.data.toList],.d (.v (.string s)),M,[],[],some [u]⟩ else none | _=>none)
  | _,_=>none)
 | _,_,_=>none
theorem WR (hT:aI P T=true) {t t':TypeId} {x:Operand} (h:Ev T E M oc t t' x=some out):aA P ⟨d,.convert t t' x,ty,pos,aft,gd⟩ E M out:=by
 unfold Ev at h
 split at h
 ·rename_i e _ _ _ s he aQ
  obtain ⟨zv,ok,-,-⟩:=fK hT he
  split at h
  ·rename_i k rows qv hx
   cases hk:Nat.beq k 1 with
   | false=>simp [hk] at h
   | true=>
    simp only [hk,cond_true,Option.some.injEq] at h;subst h
    obtain rfl:=Nat.eq_of_beq_eq_true hk
    refine aA.same ?_
    intro D w0 K0 β F I ρ w C hv
    obtain ⟨rfl,-⟩:=hv
    have r:=C.ev hx
    generalize hy:ρ x=y at r
    cases r with | d r=>
    cases r with
    | ro X hl gJ hs hr=>
     refine ⟨_,fun w' cQ=>wQ (.of fun _=>⟨_,rfl⟩) (A3 (l:=s.data.toList) ok.aQ (a7 hT qv) (a7 hT aQ) hy ?_ ⟨rfl,rfl⟩),.d (.v _)⟩
     have:=hs w' cQ
     rw [Ih (G:=fun _ _=>[]) ⟨hl,hr⟩] at this
     simpa [ah] using this
  ·rename_i u n qv hx
   split at h
   ·rename_i T2 k rows hM
    cases hk:Nat.beq k 1 with
    | false=>simp [hk] at h
    | true=>
     simp only [hk,cond_true,Option.some.injEq] at h;subst h
     obtain rfl:=Nat.eq_of_beq_eq_true hk
     refine aA.look ?_ (by simpa using cM hM)
     intro D w0 K0 β F I ρ w C hv
     obtain ⟨rfl,rfl,-⟩:=hv
     obtain ⟨X,G,H0,hF,cm,ra,hH⟩:=mb C.rm hM rfl (C.ev hx)
     refine ⟨_,.d (.v _),fun w' cQ=>wQ (.of fun _=>⟨_,rfl⟩) (A3 (l:=s.data.toList) ok.aQ (a7 hT qv) (a7 hT aQ) rfl ?_ ⟨rfl,rfl⟩)⟩
     have Sn:aj w' (F u):=cQ.2 u (by simp)
     rw [hF] at Sn
     have:=cm.src (aj.app.1 Sn).1
     rw [Ih ra] at this
     simpa [ah] using this
   ·simp at h
  ·simp at h
 ·simp at h
def rP (P:Program) (t:TypeId):Bool:=match P.underlying t with | some .bool=>true | _=>false
theorem HI {t:TypeId} (h:rP P t=true) (a b:Bool) (w:World):(Op.equal t (.bool a) (.bool b)).run P w=.ok (a==b) w:=by
 unfold rP at h
 split at h
 ·rename_i hu
  have:∀ m,(Op.equalIn (m+1) t (.bool a) (.bool b)).run P w=.ok (a==b) w:=by intro m;simp [Op.equalIn,Sem.run_bind,run_underlying hu]
  exact this 9999
 ·simp at h
def y5 (P:Program) (E:List (Nat×AV)) (M:List ae) (oc:Option aS) (op:BinOp) (t:TypeId) (x y:Operand):Option Out:=
 match jG (aB E x),jG (aB E y),op with
 | some a,some b,.eql=>bif rP P t then some (kF oc (a==b) M) else none
 | some a,some b,.neq=>bif rP P t then some (kF oc (!(a==b)) M) else none
 | _,_,_=>none
theorem IF {op:BinOp} {t t':TypeId} {x y:Operand} (h:y5 P E M oc op t x y=some out):aA P ⟨d,.binOp op t x y t',ty,pos,aft,gd⟩ E M out:=by
 unfold y5 at h
 split at h
 ·rename_i a b ha oS
  cases hb:rP P t with
  | false=>simp [hb] at h
  | true=>
   simp only [hb,cond_true,Option.some.injEq] at h;subst h
   exact pD (.of fun _=>⟨_,rfl⟩) fun C w Φ aE=>.pure (v:=.bool (a==b)) (by simp [execOp,C.bool ha,C.bool oS,eqGuard,binOp,HI hb]) aE
 ·rename_i a b ha oS
  cases hb:rP P t with
  | false=>simp [hb] at h
  | true=>
   simp only [hb,cond_true,Option.some.injEq] at h;subst h
   exact pD (.of fun _=>⟨_,rfl⟩) fun C w Φ aE=>.pure (v:=.bool (!(a==b))) (by simp [execOp,C.bool ha,C.bool oS,eqGuard,binOp,HI hb]) aE
 ·simp at h
def y6 (T:aC) (E:List (Nat×AV)) (M:List ae) (oc:Option aS) (op:BinOp) (t:TypeId) (x y:Operand):Option Out:=
 match op,bB T t,y,aB E x with
 | .eql,some (.sl _),.const (.slice none 0 0),some (.d (.v (.slice a _ _)))=>some (kF oc a.isNone M)
 | .eql,some (.sl _),.const (.slice none 0 0),some (.d (.ro _ rows))=>some (lk [0<rows.length] (.b false) M)
 | .eql,some (.sl _),.const (.slice none 0 0),some (.sl u n)=>(match M[u]? with | some (.rw _ _ rows)=>some ⟨[n=rows.length,0<n],.b false,M,[],[],some [u]⟩ | _=>none)
 | _,_,_,_=>none
theorem IG (hT:aI P T=true) {op:BinOp} {t t':TypeId} {x y:Operand} (h:y6 T E M oc op t x y=some out):aA P ⟨d,.binOp op t x y t',ty,pos,aft,gd⟩ E M out:=by
 unfold y6 at h
 split at h
 ·rename_i e a n c hu hx
  simp only [Option.some.injEq] at h;subst h
  refine pD (.of fun _=>⟨_,rfl⟩) ?_
  intro D w0 K0 β F I ρ w' C w Φ aE
  have r:=C.ev hx
  generalize hy:ρ x=y at r
  cases r with | d r=>cases r;exact A1 (a7 hT hu) hy (C.const _) rfl aE
 ·rename_i e k rows hu hx
  simp only [Option.some.injEq] at h;subst h
  refine kB (.of fun _=>⟨_,rfl⟩) ?_
  intro D w0 K0 β F I ρ w' C hv
  obtain ⟨nT,-⟩:=hv
  have r:=C.ev hx
  generalize hy:ρ x=y at r
  cases r with | d r=>
  cases r with
  | ro X hl gJ hs hr=>
   obtain ⟨a,c,sY,-⟩:=(hs _ C.now).row nT
   exact ⟨_,.d (.v _),fun w Φ aE=>A1 (a7 hT hu) (hy.trans sY) (C.const _) rfl aE⟩
 ·rename_i e u n hu hx
  split at h
  ·rename_i T2 k rows hM
   simp only [Option.some.injEq] at h;subst h
   refine aA.look ?_ (by simpa using cM hM)
   intro D w0 K0 β F I ρ w C hv
   obtain ⟨hn,nT,-⟩:=hv
   obtain ⟨X,G,H0,hF,cm,ra,hH⟩:=mb C.rm hM hn (C.ev hx)
   obtain ⟨b,cap,cs,fz,F5,-⟩:=cm.block nT
   exact ⟨_,.d (.v _),fun w' _=>wQ (.of fun _=>⟨_,rfl⟩) (A1 (a7 hT hu) F5 (C.const _) rfl ⟨rfl,rfl⟩)⟩
  ·simp at h
 ·simp at h
def CD (T:aC) (E:List (Nat×AV)) (M:List ae) (t t':TypeId) (x:Operand):Option Out:=
 bif Nat.beq t t' then (match eJ T t with
 | some (e,k,_,_)=>(match bB T e,aB E x with
  | some (.it .u8),some (.sl u n)=>(match M[u]? with
   | some (.rw e' k' rows)=>bif Nat.beq e e'&&Nat.beq k k'&&rows.all (fun r=>r.all DV.cp) then some ⟨[n=rows.length,0<n],.d (.ro k rows),M.set u .dead,[u],[],none⟩ else none
   | _=>none)
  | _,_=>none)
 | none=>none) else none
theorem Uv (hT:aI P T=true) {t t':TypeId} {x:Operand} (h:CD T E M t t' x=some out):aA P ⟨d,.convert t t' x,ty,pos,aft,gd⟩ E M out:=by
 unfold CD at h
 cases qw:Nat.beq t t' with
 | false=>simp [qw] at h
 | true=>
  simp only [qw,cond_true] at h
  obtain rfl:=Nat.eq_of_beq_eq_true qw
  split at h
  ·rename_i e k _ _ he
   obtain ⟨zv,ok,-,-⟩:=fK hT he
   split at h
   ·rename_i u n qv hx
    split at h
    ·rename_i e' k' rows hM
     cases hc:(Nat.beq e e'&&Nat.beq k k'&&rows.all fun r=>r.all DV.cp) with
     | false=>simp [hc] at h
     | true=>
      simp only [hc,cond_true,Option.some.injEq] at h;subst h
      simp only [Bool.and_eq_true] at hc
      obtain rfl:=Nat.eq_of_beq_eq_true hc.1.1
      obtain rfl:=Nat.eq_of_beq_eq_true hc.1.2
      intro D w0 K0 β F I ρ w C hv
      obtain ⟨hn,nT,-⟩:=hv
      obtain ⟨X,G,H0,hF,cm,ra,hH⟩:=mb C.rm hM hn (C.ev hx)
      obtain ⟨b,cap,cs,fz,F5,rfl,ej,b7,hle,yS⟩:=cm.block nT
      have R1:=C.rm.x.ec hM
      rw [hF,List.nil_append] at R1
      have hb:=hH.one
      refine Hm ok.aQ (a7 hT qv) F5 hb fun fQ=>?_
      have gR:St D w0 w ((b,.cells cs e fz)::(bA n k G++((List.range (M.set u .dead).length).flatMap (aF F u [])++I))):=R1.st.perm (by classical rw [List.perm_iff_count];intro z;simp only [List.count_append,List.count_cons,List.count_nil];omega)
      have kO:=gR.set (.cells cs e fQ)
      have R2:RM D w0 K0 (M.set u .dead) β (aF F u []) ([(b,.cells cs e fQ)]++I) (bk w b (.cells cs e fQ)):=by
       refine ⟨R1.len,fun v bl hv=>(R1.blk v bl hv).mono (fun w hw=>⟨hw.1,(aj.app.1 hw.2).2⟩) (Ext.refl _),?_⟩
       have:=(kO.perm (K:=bA n k G++((List.range (M.set u .dead).length).flatMap (aF F u [])++([(b,.cells cs e fQ)]++I))) (by classical rw [List.perm_iff_count];intro z;simp only [List.count_append,List.count_cons,List.count_nil];omega)).jA
       exact this
      refine ⟨β,_,_,R2,(Ext.refl β).b _,⟨_,rfl⟩,fun q _ hq=>by simp only [aF];rw [if_neg (by simpa using hq)],?_⟩
      refine .d (.ro X ra.hl ⟨_,_,by rw [← hn],by rw [← hn];exact hle⟩ (fun w' cQ=>?_) fun i r j c x h1 h2 h3=>?_)
      ·have aD:w'.heap[b]?=some (.cells cs e fQ):=(aj.app.1 cQ.2).1.one
       refine ⟨by rw [← hn];exact cm.1,Or.inr ⟨_,cap,by rw [← hn],fun j hj=>?_⟩⟩
       rw [add_eq,Nat.zero_add,cell_of aD]
       have nR:lay rows.length X=cs.toList.take (n*k):=by rw [← hn];exact yS.symm
       have key:∀ q,q=cs.toList.take (n*k)→∀ (hj:j<q.length),cs[j]?=some q[j]:=by
        intro q hq hj
        subst hq
        have dN:=hj
        simp only [List.length_take] at dN
        rw [List.getElem_take,← Array.getElem?_toList]
        exact List.getElem?_eq_getElem _
       exact key _ nR hj
      ·have:=(ra.hr i r j c x h1 h2 h3).cp (List.all_eq_true.1 (List.all_eq_true.1 hc.2 r (List.mem_of_getElem? h1)) c (List.mem_of_getElem? h2))
       exact this.mono fun w hw=>⟨hw.1,(aj.app.1 hw.2).2⟩
    ·simp at h
   ·simp at h
  ·simp at h
theorem Uw {t:TypeId} {xs:Array Value} {o:Nat} {v:Value} (w:World) (ht:scalar P t=true) (h:xs[o]?=some v):(part t xs o).run P w=.ok v w:=by
 simp [part,Sem.run_bind,Hf ht,h]
theorem Ux {t:TypeId} {xs:Array Value} {o n:Nat} (w:World) (ht:nC P t n=true):(part t xs o).run P w=.ok (.agg (xs.extract o (o+n))) w:=by
 unfold nC at ht
 simp only [Bool.and_eq_true] at ht
 obtain ⟨h1,h2⟩:=ht
 cases hu:P.underlying t with
 | none=>simp [hu] at h1
 | some u=>
  cases hi:P.info? t with
  | none=>simp [hi] at h2
  | some i=>
   simp only [hi,beq_iff_eq] at h2
   have ha:(isAgg t).run P w=.ok true w:=by cases u<;>simp [hu] at h1<;>simp [isAgg,Sem.run_bind,run_underlying hu]
   simp [part,Sem.run_bind,ha,sizeOf,typeInfo,hi,h2]
def oT (T:aC) (e:TypeId) (l:List AV) (o:Nat):Option AV:=iA T e l o
theorem yt (hT:aI P T=true) {K:World→Prop} {e:TypeId} {l:List AV} {o:Nat} {v:AV} (h:oT T e l o=some v) {ys:List Value} (hl:ys.length=l.length) (hr:∀ (j:Nat) c y,l[j]?=some c→ys[j]?=some y→au K β c y):
  ∃ y,au K β v y∧∀ w:World,(part e ys.toArray o).run P w=.ok y w:=by
 unfold oT iA at h
 split at h
 ·rename_i ht
  obtain ⟨y,h1,h2⟩:=Cy hl hr h
  exact ⟨y,h2,fun w=>Uw w (BU hT ht) (by simpa using h1)⟩
 ·rename_i n ht
  simp only [zl] at h
  cases hb:(o+n).ble l.length with
  | false=>simp [hb] at h
  | true=>
   simp only [hb,cond_true,Option.some.injEq] at h
   have hle:o+n≤l.length:=Nat.le_of_ble_eq_true hb
   subst h
   have he:(ys.toArray.extract o (o+n))=((ys.drop o).take n).toArray:=by
    simp [List.extract_eq_take_drop]
   refine ⟨.agg ((ys.drop o).take n).toArray,.ag _ (by simp;omega) ?_,fun w=>by rw [Ux w (Bn hT ht),he]⟩
   intro j c y h1 h2
   rw [List.getElem?_take,List.getElem?_drop] at h1 h2
   split at h1
   ·rename_i hj;rw [if_pos hj] at h2;exact hr _ _ _ h1 h2
   ·simp at h1
 ·simp at h
def zt (T:aC) (E:List (Nat×AV)) (M:List ae) (t:TypeId) (x:Operand) (f:Nat):Option Out:=
 match FP T t f,aB E x with
 | some (o,ty),some (.ag l)=>(match oT T ty l o with | some v=>some (lk [] v M) | none=>none)
 | _,_=>none
theorem JR (hT:aI P T=true) {t:TypeId} {x:Operand} {f:Nat} (h:zt T E M t x f=some out):aA P ⟨d,.field t x f,ty,pos,aft,gd⟩ E M out:=by
 unfold zt at h
 split at h
 ·rename_i o e l hf hx
  split at h
  ·rename_i v hp
   simp only [Option.some.injEq] at h;subst h
   obtain ⟨fs,q,hu,hq,rfl,rfl⟩:=Yt hT hf
   refine aA.same ?_
   intro D w0 K0 β F I ρ w C _
   have r:=C.ev hx
   generalize hy:ρ x=y at r
   cases r with
   | ag ys hl hr=>
    obtain ⟨y,h1,h2⟩:=yt hT hp hl hr
    exact ⟨y,fun w' _=>by simp only [execOp,hy,Instr.field,Sem.run_bind,run_underlying hu,Result.andThen_ok,hq,asAgg,Sem.run_pure,h2],h1⟩
  ·simp at h
 ·simp at h
def u1 (T:aC) (E:List (Nat×AV)) (M:List ae) (oc:Option aS) (t:TypeId) (x ix:Operand):Option Out:=
 match bB T t,aB E x,bN (aB E ix),oc with
 | some (.ar n e),some (.ag l),some (_,z),some (.n i)=>(match dw T e with
  | some k=>(match oT T e l (i*k) with | some v=>some (lk [z=(i:Int),i<n] v M) | none=>none)
  | none=>none)
 | _,_,_,_=>none
theorem JS (hT:aI P T=true) {t:TypeId} {x ix:Operand} (h:u1 T E M oc t x ix=some out):aA P ⟨d,.index t x ix,ty,pos,aft,gd⟩ E M out:=by
 unfold u1 at h
 split at h
 ·rename_i n e l _ z i hu hx hz
  split at h
  ·rename_i k hk
   split at h
   ·rename_i v hp
    simp only [Option.some.injEq] at h;subst h
    have aP:∀ w:World,(sizeOf e).run P w=.ok k w:=fun w=>by
     have:=dR hT hk
     cases hi:P.info? e with
     | none=>simp [hi] at this
     | some inf=>simp only [hi,Option.map_some,Option.some.injEq] at this;simp [sizeOf,typeInfo,Sem.run_bind,hi,this]
    refine aA.same ?_
    intro D w0 K0 β F I ρ w C hv
    obtain ⟨rfl,aG,-⟩:=hv
    have r:=C.ev hx
    have hi:=C.int hz
    generalize hy:ρ x=y at r
    cases r with
    | ag ys hl hr=>
     obtain ⟨y,h1,h2⟩:=yt hT hp hl hr
     refine ⟨y,fun w' _=>?_,h1⟩
     have cS:=a7 hT hu
     have hc:(0:Int)≤(i:Int)∧(i:Int)<(n:Int):=by omega
     simp only [execOp,hy,hi,Instr.index,asIntOf,Sem.run_bind,Sem.run_pure,run_underlying cS,Result.andThen_ok]
     rw [if_pos hc]
     simp only [Sem.run_bind,aP,Result.andThen_ok,Int.toNat_natCast,h2,Sem.run_pure]
   ·simp at h
  ·simp at h
 ·simp at h
def xl (T:aC) (E:List (Nat×AV)) (M:List ae) (t:TypeId) (parts:Array (Nat×Operand)):Option Out:=
 match bB T t,pL T t with
 | some (.ar _ e),some z=>(match dw T e with
  | some k=>(match kJ E (fun i=>some (i*k,k)) (fJ z) parts.toList with
   | some l=>some (lk [] (.ag l) M)
   | none=>none)
  | none=>none)
 | _,_=>none
theorem HJ (hT:aI P T=true) {t:TypeId} {parts:Array (Nat×Operand)} (h:xl T E M t parts=some out):aA P ⟨d,.build t parts,ty,pos,aft,gd⟩ E M out:=by
 unfold xl at h
 split at h
 ·rename_i n e z hu hz
  split at h
  ·rename_i k hk
   split at h
   ·rename_i l hl
    simp only [Option.some.injEq] at h;subst h
    obtain ⟨zv,qp,kX⟩:=wM hT hz
    have aP:∀ w:World,(sizeOf e).run P w=.ok k w:=fun w=>by
     have:=dR hT hk
     cases hi:P.info? e with
     | none=>simp [hi] at this
     | some inf=>simp only [hi,Option.map_some,Option.some.injEq] at this;simp [sizeOf,typeInfo,Sem.run_bind,hi,this]
    refine aA.same ?_
    intro D w0 K0 β F I ρ w C _
    obtain ⟨p1,p2⟩:=iS (K:=fun w=>K0 w∧aj w I) (β:=β) z
    obtain ⟨bD,g1,g2,g3⟩:=tP C (cs:=z.toArray) hl (by simpa using p1) (by intro j c y e1 e2;exact p2 j c y e1 (by simpa using e2))
    refine ⟨.agg bD,fun w' _=>?_,?_⟩
    ·have mQ:(parts.map fun (p:Nat×Operand)=>(p.1,ρ p.2)).toList=parts.toList.map fun p=>(p.1,ρ p.2):=by simp
     have hb:(Instr.build t (parts.map fun (p:Nat×Operand)=>(p.1,ρ p.2))).run P w'=.ok (.agg bD) w':=by
      simp only [Instr.build,Sem.run_bind,kX,Result.andThen_ok,run_underlying (a7 hT hu),aP,qp,mQ,g1,Sem.run_pure]
     simp only [execOp,Sem.run_bind]
     have:(parts.map fun (i,x)=>(i,ρ x))=parts.map fun (p:Nat×Operand)=>(p.1,ρ p.2):=rfl
     rw [this,hb];rfl
    ·have:(au (fun w=>K0 w∧aj w I) β (.ag l) (.agg bD.toList.toArray)):=.ag bD.toList (by simpa using g2) (by intro j c y e1 e2;exact g3 j c y e1 (by simpa using e2))
     simpa using this
   ·simp at h
  ·simp at h
 ·simp at h
end Go.Proofs.YtkheephfkbpchaaGreatDoor
namespace Go.Proofs.YtkheephfkbpchaaGreatDoor
open Go.RowKit
variable {P:Program} {T:aC} {D:List Nat} {w0:World} {K0:World→Prop} {E:List (Nat×AV)} {M:List ae} {β:Beta} {F:Nat→ai} {I X:ai} {ρ:Operand→Value} {w:World}
variable {d:Option Tmp} {ty:TypeId} {pos:String} {aft:Array Edge} {gd:Option (Nat×Bool)} {oc:Option aS} {out:Out}
theorem bq.jE (R:bq D w0 K0 M β F I X w) {u:Nat} {blk:ae} (h:M[u]?=some blk):aj w (F u):=by
 intro x hx
 obtain ⟨hu,-⟩:=List.getElem?_eq_some_iff.1 h
 exact R.st.holds x (List.mem_append_left _ (List.mem_flatMap.2 ⟨u,List.mem_range.2 hu,hx⟩))
theorem bq.back {X Y:ai} (R:bq D w0 K0 M β F I (X++Y) w) {u:Nat} (hu:u<M.length) (hF:F u=[]) {blk:ae} (hb:bf (fun w=>K0 w∧aj w I) β u blk X):
  bq D w0 K0 (M.set u blk) β (aF F u X) I Y w where
 len:=by rw [List.length_set];exact R.len
 blk:=by
  intro v bl hv
  rw [List.getElem?_set] at hv
  by_cases e:u=v
  ·subst e
   simp only [hu,if_pos,Option.some.injEq] at hv;subst hv
   simpa [aF] using hb
  ·rw [if_neg e] at hv
   have:aF F u X v=F v:=by simp only [aF];rw [if_neg (fun h=>e h.symm)]
   rw [this];exact R.blk v bl hv
 st:=by
  have hs:=R.st
  rw [List.length_set,range_split hu]
  rw [range_split hu,hF] at hs
  have c1:(List.range u).flatMap (aF F u X)=(List.range u).flatMap F:=eG fun a ha=>by have:=List.mem_range.1 ha;simp [aF];omega
  have c2:(List.range' (u+1) (M.length-(u+1))).flatMap (aF F u X)=(List.range' (u+1) (M.length-(u+1))).flatMap F:=eG fun a ha=>by have:=(List.mem_range'_1.1 ha).1;simp [aF];omega
  have cS:aF F u X u=X:=by simp [aF]
  rw [c1,c2,cS]
  exact hs.perm (by classical rw [List.perm_iff_count];intro z;simp only [List.count_append,List.count_nil];omega)
theorem Hu {k o m:Nat} (h:o+m≤k) (f:Nat→ai):(List.range k).flatMap f=(List.range o).flatMap f++((List.range' o m).flatMap f++(List.range' (o+m) (k-(o+m))).flatMap f):=by
 have:List.range k=List.range o++(List.range' o m++List.range' (o+m) (k-(o+m))):=by
  rw [List.range_eq_range',List.range_eq_range']
  have h1:k=o+(m+(k-(o+m))):=by omega
  conv=>lhs;rw [h1]
  rw [← List.range'_append_1,← List.range'_append_1]
  simp
 rw [this,List.flatMap_append,List.flatMap_append]
def dE (G:Nat→Nat→ai) (i o m:Nat) (Gx:Nat→ai):Nat→Nat→ai:=fun a j=>if a=i∧o≤j∧j<o+m then Gx (j-o) else G a j
theorem Bt {n k i o m:Nat} (hi:i<n) (ho:o+m≤k) (G:Nat→Nat→ai) (Gx:Nat→ai):(bA n k G++(List.range m).flatMap Gx).Perm (bA n k (dE G i o m Gx)++(List.range' o m).flatMap (G i)):=by
 unfold bA
 have c1:(List.range i).flatMap (fun a=>(List.range k).flatMap (dE G i o m Gx a))=(List.range i).flatMap (fun a=>(List.range k).flatMap (G a)):=eG fun a ha=>eG fun j _=>by have:=List.mem_range.1 ha;simp only [dE];rw [if_neg (by omega)]
 have c2:(List.range' (i+1) (n-(i+1))).flatMap (fun a=>(List.range k).flatMap (dE G i o m Gx a))=(List.range' (i+1) (n-(i+1))).flatMap (fun a=>(List.range k).flatMap (G a)):=eG fun a ha=>eG fun j _=>by have:=(List.mem_range'_1.1 ha).1;simp only [dE];rw [if_neg (by omega)]
 have c3:(List.range o).flatMap (dE G i o m Gx i)=(List.range o).flatMap (G i):=eG fun j hj=>by have:=List.mem_range.1 hj;simp only [dE];rw [if_neg (by omega)]
 have c4:(List.range' o m).flatMap (dE G i o m Gx i)=(List.range m).flatMap Gx:=by
  rw [List.range'_eq_map_range,List.flatMap_map]
  exact eG fun j hj=>by
   have:=List.mem_range.1 hj
   show dE G i o m Gx i (o+j)=Gx j
   unfold dE;rw [if_pos ⟨rfl,by omega,by omega⟩,Nat.add_sub_cancel_left]
 have c5:(List.range' (o+m) (k-(o+m))).flatMap (dE G i o m Gx i)=(List.range' (o+m) (k-(o+m))).flatMap (G i):=eG fun j hj=>by have:=(List.mem_range'_1.1 hj).1;simp only [dE];rw [if_neg (by omega)]
 rw [range_split hi (fun a=>(List.range k).flatMap (G a)),range_split hi (fun a=>(List.range k).flatMap (dE G i o m Gx a)),c1,c2]
 rw [Hu ho (G i),Hu ho (dE G i o m Gx i),c3,c4,c5]
 classical rw [List.perm_iff_count];intro z;simp only [List.count_append];omega
def ik (X:Nat→List Value) (i o:Nat) (zs:List Value):Nat→List Value:=fun a=>if a=i then (X i).take o++(zs++(X i).drop (o+zs.length)) else X a
theorem pG {α:Type} {l zs:List α} {o j:Nat} (h:o+zs.length≤l.length):(l.take o++(zs++l.drop (o+zs.length)))[j]?=if o≤j∧j<o+zs.length then zs[j-o]? else l[j]?:=by
 by_cases h1:o≤j∧j<o+zs.length
 ·rw [if_pos h1,List.getElem?_append_right (by simp;omega),List.getElem?_append_left (by simp;omega)]
  congr 1;simp;omega
 ·rw [if_neg h1]
  rcases Nat.lt_or_ge j o with hj | hj
  ·rw [List.getElem?_append_left (by simp;omega),List.getElem?_take,if_pos hj]
  ·rw [List.getElem?_append_right (by simp;omega),List.getElem?_append_right (by simp;omega),List.getElem?_drop]
   congr 1;simp;omega
theorem tS {X:Nat→List Value} {i o k:Nat} {zs:List Value} (ho:o+zs.length≤k) {a:Nat} (h:(X a).length=k):(ik X i o zs a).length=k:=by
 unfold ik;split
 ·rename_i e;subst e;simp;omega
 ·exact h
theorem JT {n k i o:Nat} {X:Nat→List Value} {zs:List Value} {cs:Array Value} (hX:∀ a,a<n→(X a).length=k) (hi:i<n) (ho:o+zs.length≤k) (ht:cs.toList.take (n*k)=lay n X) (aP:n*k≤cs.size):
  (bV cs (i*k+o) zs).toList.take (n*k)=lay n (ik X i o zs):=by
 have So:∀ a,a<n→(ik X i o zs a).length=k:=fun a ha=>tS ho (hX a ha)
 have cn:=du So
 have F6:i*k+k≤n*k:=by have:=Nat.mul_le_mul_right k (show i+1≤n from hi);rw [Nat.succ_mul] at this;exact this
 apply List.ext_getElem?
 intro p
 rcases Nat.lt_or_ge p (n*k) with hp | hp
 ·have hk:0<k:=by
   rcases Nat.eq_zero_or_pos k with h0 | h0
   ·subst h0;simp at hp
   ·exact h0
  have hd:p / k<n:=Nat.div_lt_of_lt_mul (by rw [Nat.mul_comm];exact hp)
  have hm:p%k<k:=Nat.mod_lt _ hk
  have hg:=jD So hd hm
  have Al:=jD hX hd hm
  have e:p / k*k+p%k=p:=by rw [Nat.mul_comm,Nat.div_add_mod]
  rw [e] at hg Al
  rw [hg,List.getElem?_take,if_pos hp,Array.getElem?_toList,qU _ _ _ _ (by omega)]
  have hc:cs[p]?=(X (p / k))[p%k]?:=by rw [← Al,← ht,List.getElem?_take,if_pos hp,Array.getElem?_toList]
  generalize hA:p / k=a at *
  generalize hJ:p%k=j at *
  by_cases ha:a=i
  ·subst ha
   unfold ik
   rw [if_pos rfl,pG (by rw [hX a hd];exact ho)]
   by_cases h1:o≤j∧j<o+zs.length
   ·rw [if_pos h1,if_pos (by omega)];congr 1;omega
   ·rw [if_neg h1,if_neg (by omega)];exact hc
  ·unfold ik
   rw [if_neg ha,if_neg ?_]
   ·exact hc
   ·intro h1
    rcases Nat.lt_or_gt_of_ne ha with h2 | h2
    ·have:=Nat.mul_le_mul_right k (show a+1≤i from h2);rw [Nat.succ_mul] at this;omega
    ·have:=Nat.mul_le_mul_right k (show i+1≤a from h2);rw [Nat.succ_mul] at this;omega
 ·rw [List.getElem?_eq_none (by simp [hU];omega),List.getElem?_eq_none (by omega)]
theorem dh.put {K:World→Prop} {k i o:Nat} {rows:List (List DV)} {X:Nat→List Value} {G:Nat→Nat→ai} {row xs:List DV} {zs:List Value} {Gx:Nat→ai} (h:dh K k rows X G) (bn:rows[i]?=some row) (ho:o+zs.length≤k) (hx:zs.length=xs.length) (hd:∀ (j:Nat) c y,xs[j]?=some c→zs[j]?=some y→bj K c y (Gx j)):
  dh K k (rows.set i (row.take o++(xs++row.drop (o+xs.length)))) (ik X i o zs) (dE G i o zs.length Gx):=by
 have iD:=h.hl i row bn
 constructor
 ·intro a r ha
  rw [List.getElem?_set] at ha
  by_cases e:i=a
  ·subst e
   rw [if_pos rfl] at ha
   split at ha
   ·simp only [Option.some.injEq] at ha;subst ha
    exact ⟨by simp;omega,tS ho iD.2⟩
   ·simp at ha
  ·rw [if_neg e] at ha
   have:=h.hl a r ha
   exact ⟨this.1,tS ho this.2⟩
 ·intro a r j c x ha hj mV
  rw [List.getElem?_set] at ha
  by_cases e:i=a
  ·subst e
   rw [if_pos rfl] at ha
   split at ha
   ·simp only [Option.some.injEq] at ha;subst ha
    rw [pG (by omega)] at hj
    unfold ik at mV
    rw [if_pos rfl,pG (by omega)] at mV
    unfold dE
    by_cases h1:o≤j∧j<o+zs.length
    ·rw [if_pos (by omega)] at hj
     rw [if_pos h1] at mV
     rw [if_pos ⟨rfl,h1⟩]
     exact hd _ c x hj mV
    ·rw [if_neg (by omega)] at hj
     rw [if_neg h1] at mV
     rw [if_neg (fun q=>h1 q.2)]
     exact h.hr i row j c x bn hj mV
   ·simp at ha
  ·rw [if_neg e] at ha
   unfold ik at mV
   rw [if_neg (fun q=>e q.symm)] at mV
   unfold dE
   rw [if_neg (fun q=>e q.1.symm)]
   exact h.hr a r j c x ha hj mV
def BY (T:aC) (E:List (Nat×AV)) (M:List ae) (oc:Option aS) (t:TypeId) (x y:Operand):Option Out:=
 match aB E x,aB E y,dw T t,oc with
 | some (.ep u k i o),some v,some n,some (.ix _ row)=>(match nz v with
  | some l=>(match kH M l with
   | some (vc,xs,M')=>(match M'[u]? with
    | some (.rw e k' rows)=>bif k.beq k'&&l.length.beq n&&(o+n).ble k then some ⟨(rows[i]?=some row)::vc,.d .jk,M'.set u (.rw e k (rows.set i (row.take o++(xs++row.drop (o+xs.length))))),u::se l,[],none⟩ else none
    | _=>none)
   | none=>none)
  | none=>none)
 | _,_,_,_=>none
theorem TW (hT:aI P T=true) {t:TypeId} {x y:Operand} (h:BY T E M oc t x y=some out):aA P ⟨d,.store t x y,ty,pos,aft,gd⟩ E M out:=by
 unfold BY at h
 split at h
 rotate_left
 ·simp at h
 rename_i u k i o v n i0 row hx hy hn
 split at h
 rotate_left
 ·simp at h
 rename_i l hl
 split at h
 rotate_left
 ·simp at h
 rename_i vc xs M' hp
 split at h
 rotate_left
 ·simp at h
 rename_i e k' rows hM
 cases hc:(k.beq k'&&l.length.beq n&&(o+n).ble k) with
 | false=>simp [hc] at h
 | true=>
  simp only [hc,cond_true,Option.some.injEq] at h;subst h
  simp only [Bool.and_eq_true] at hc
  obtain rfl:=Nat.eq_of_beq_eq_true hc.1.1
  have mP:=Nat.eq_of_beq_eq_true hc.1.2
  have hle:=Nat.le_of_ble_eq_true hc.2
  intro D w0 K0 β F I ρ w C hv
  obtain ⟨bn,hv⟩:=hv
  obtain ⟨yx,cT,rx⟩:=C.aJ hx
  obtain ⟨yy,eP,ry⟩:=C.aJ hy
  obtain ⟨zs,h1,h2,h3,h4⟩:=qV hl ry
  obtain ⟨lM,F',Hp,R',dd,oU⟩:=xk C.rm.x hp hv (ys:=zs) h2 h3
  rw [List.nil_append] at R'
  cases rx with
  | @ep _ _ _ _ b0 c0 hb=>
   have aG:u<M'.length:=cM hM
   have hB:=R'.blk u _ hM
   have hH:=R'.jE hM
   have R1:=R'.ec hM
   have dl:=dd.len
   obtain ⟨Gx,F7,vF⟩:=dd.to
   generalize mU:F' u=Fu at hB hH R1
   cases hB with
   | rw aD X G cH hs hr=>
    rw [hb] at aD;cases aD
    obtain ⟨hi,-⟩:=List.getElem?_eq_some_iff.1 bn
    obtain ⟨b',cap,cs,fz,he,rfl,ej,b7,cd,ht⟩:=hs.block (by omega)
    cases he
    have hw:=(aj.app.1 hH).1.one
    have hX:∀ a,a<rows.length→(X a).length=k:=fun a ha=>(cH a _ (List.getElem?_eq_getElem ha)).2
    have F6:i*k+k≤rows.length*k:=by have:=Nat.mul_le_mul_right k (show i+1≤rows.length from hi);rw [Nat.succ_mul] at this;exact this
    have aP:rows.length*k≤cs.size:=by rw [b7];exact Nat.mul_le_mul_right _ cd
    refine xg n (dR hT hn) cT eP hw (by rw [h1];simp;omega) (by omega) (by rw [h1];simpa using h4) ?_
    rw [h1]
    have ra:dh (fun w=>K0 w∧aj w I) k rows X G:=⟨cH,hr⟩
    have gL:=ra.put (o:=o) (zs:=zs) (xs:=xs) (Gx:=Gx) bn (by omega) dl vF
    have aQ:=R1.st
    have gR:St D w0 w ((b0,.cells cs e fz)::(bA rows.length k G++(Hp++((List.range (M'.set u .dead).length).flatMap (aF F' u [])++I)))):=aQ.perm (by classical rw [List.perm_iff_count];intro z;simp only [List.count_append,List.count_cons,List.cons_append,List.nil_append];omega)
    have kO:=gR.set (.cells (bV cs (i*k+o) zs) e fz)
    have gT:=Bt (n:=rows.length) (k:=k) (i:=i) (o:=o) (m:=zs.length) hi (by omega) G Gx
    rw [F7,← dl] at kO
    have R2:bq D w0 K0 (M'.set u .dead) β (aF F' u []) I (([(b0,.cells (bV cs (i*k+o) zs) e fz)]++bA rows.length k (dE G i o zs.length Gx))++(List.range' o zs.length).flatMap (G i)) _:=R1.move (kO.perm (by
     classical
     have hc:=List.perm_iff_count.1 gT
     rw [List.perm_iff_count];intro z
     have:=hc z
     simp only [List.count_append,List.count_cons,List.cons_append,List.nil_append] at this ⊢
     omega))
    have di:bf (fun w=>K0 w∧aj w I) β u (.rw e k (rows.set i (row.take o++(xs++row.drop (o+xs.length))))) ([(b0,.cells (bV cs (i*k+o) zs) e fz)]++bA rows.length k (dE G i o zs.length Gx)):=by
     have:=bf.rw (K:=fun w=>K0 w∧aj w I) (u:=u) (T:=e) (k:=k) (rows:=rows.set i (row.take o++(xs++row.drop (o+xs.length)))) (H0:=[(b0,.cells (bV cs (i*k+o) zs) e fz)]) hb (ik X i o zs) (dE G i o zs.length Gx) gL.hl (by
      rw [List.length_set]
      exact ⟨du fun a ha=>tS (by omega) (hX a ha),Or.inr ⟨_,_,_,fz,rfl,rfl,by rw [hU];exact ej,by rw [hU];exact b7,cd,JT hX hi (by omega) ht aP⟩⟩) gL.hr
     rw [List.length_set] at this;exact this
    have R3:=((R2.drop.perm (Y:=([(b0,.cells (bV cs (i*k+o) zs) e fz)]++bA rows.length k (dE G i o zs.length Gx))++[]) (by rw [List.append_nil])).back (by rw [List.length_set];exact aG) (by simp [aF]) di).nil rfl
    rw [List.set_set] at R3
    refine ⟨β,_,I,R3,(Ext.refl β).b _,aV.refl _,fun q hq gl=>?_,.d (.jk _)⟩
    simp only [List.mem_cons,not_or] at gl
    simp only [aF];rw [if_neg gl.1,if_neg gl.1]
    exact oU q gl.2
def Dl (T:aC) (E:List (Nat×AV)) (M:List ae) (oc:Option aS) (t:TypeId) (x:Operand):Option Out:=
 match aB E x,oc,mN T t with
 | some (.ep u k i o),some (.ix _ row),some .one=>(match M[u]?,row[o]? with
  | some (.rw e k' rows),some (.em T2 k2 bM)=>bif k.beq k' then some ⟨[rows[i]?=some row],.sl M.length bM.length,M.set u (.rw e k (rows.set i (row.take o++([.jk]++row.drop (o+1)))))++[.rw T2 k2 bM],[u],[],none⟩ else none
  | _,_=>none)
 | _,_,_=>none
theorem Vx (hT:aI P T=true) {t:TypeId} {x:Operand} (h:Dl T E M oc t x=some out):aA P ⟨d,.load t x,ty,pos,aft,gd⟩ E M out:=by
 unfold Dl at h
 split at h
 rotate_left
 ·simp at h
 rename_i u k i o i0 row hx e9
 split at h
 rotate_left
 ·simp at h
 rename_i e k' rows T2 k2 bM hM rM
 cases hk:k.beq k' with
 | false=>simp [hk] at h
 | true=>
  simp only [hk,cond_true,Option.some.injEq] at h;subst h
  obtain rfl:=Nat.eq_of_beq_eq_true hk
  intro D w0 K0 β F I ρ w C hv
  obtain ⟨bn,-⟩:=hv
  obtain ⟨yx,cT,rx⟩:=C.aJ hx
  have R:=C.rm.x
  have hB:=R.blk u _ hM
  have hH:=R.jE hM
  have R1:=R.ec hM
  have aG:=cM hM
  cases rx with
  | @ep _ _ _ _ b0 c0 hb=>
   generalize mU:F u=Fu at hB hH R1
   cases hB with
   | rw aD X G cH hs hr=>
    rw [hb] at aD;cases aD
    obtain ⟨hi,-⟩:=List.getElem?_eq_some_iff.1 bn
    obtain ⟨ho,-⟩:=List.getElem?_eq_some_iff.1 rM
    obtain ⟨sX,FR⟩:=cH i row bn
    obtain ⟨b',cap,cs,fz,he,rfl,ej,b7,cd,ht⟩:=hs.block (by omega)
    cases he
    have hw:=(aj.app.1 hH).1.one
    have hX:∀ a,a<rows.length→(X a).length=k:=fun a ha=>(cH a _ (List.getElem?_eq_getElem ha)).2
    have F6:i*k+k≤rows.length*k:=by have:=Nat.mul_le_mul_right k (show i+1≤rows.length from hi);rw [Nat.succ_mul] at this;exact this
    have aP:rows.length*k≤cs.size:=by rw [b7];exact Nat.mul_le_mul_right _ cd
    obtain ⟨y,hy⟩:∃ y,(X i)[o]?=some y:=⟨_,List.getElem?_eq_getElem (by omega)⟩
    have hd:=hr i row o _ y bn rM hy
    have Yx:w.cell? ⟨b0,i*k+o,none⟩=some y:=by
     rw [cell_of hw,← hy,← jD hX hi (by omega),← ht,List.getElem?_take,if_pos (by omega),Array.getElem?_toList]
    refine aM.pure (Lf (BU hT e9) cT Yx) ?_
    have ra:dh (fun w=>K0 w∧aj w I) k rows X G:=⟨cH,hr⟩
    have gL:=ra.put (o:=o) (zs:=[y]) (xs:=[.jk]) (Gx:=fun _=>[]) bn (by simp;omega) rfl (fun j c z h1 h2=>by
     cases j with
     | zero=>simp at h1;subst h1;exact .jk _
     | succ j=>simp at h1)
    have gT:=Bt (n:=rows.length) (k:=k) (i:=i) (o:=o) (m:=1) hi (by omega) G (fun _=>[])
    have cW:(List.range 1).flatMap (fun _=>([]:ai))=[]:=by simp
    have ZL:(List.range' o 1).flatMap (G i)=G i o:=by simp
    rw [cW,ZL,List.append_nil] at gT
    have R2:=R1.perm (Y:=([(b0,.cells cs e fz)]++bA rows.length k (dE G i o 1 fun _=>[]))++G i o) (by
     classical
     have hc:=List.perm_iff_count.1 gT
     rw [List.perm_iff_count];intro z
     have:=hc z
     simp only [List.count_append,List.count_nil] at this ⊢
     omega)
    have Yy:lay rows.length (ik X i o [y])=lay rows.length X:=by
     refine BV fun a ha=>?_
     unfold ik;split
     ·rename_i e;subst e
      apply List.ext_getElem?;intro j
      rw [pG (by simp;omega)]
      split
      ·rename_i h1;simp at h1
       obtain rfl:j=o:=by omega
       rw [hy];simp
      ·rfl
     ·rfl
    have di:bf (fun w=>K0 w∧aj w I) β u (.rw e k (rows.set i (row.take o++([.jk]++row.drop (o+1))))) ([(b0,.cells cs e fz)]++bA rows.length k (dE G i o 1 fun _=>[])):=by
     have:=bf.rw (K:=fun w=>K0 w∧aj w I) (u:=u) (T:=e) (k:=k) (rows:=rows.set i (row.take o++([.jk]++row.drop (o+1)))) (H0:=[(b0,.cells cs e fz)]) hb (ik X i o [y]) (dE G i o 1 fun _=>[]) gL.hl (by
      rw [List.length_set,Yy]
      exact ⟨du hX,Or.inr ⟨_,_,_,fz,rfl,rfl,ej,b7,cd,ht⟩⟩) gL.hr
     rw [List.length_set] at this;exact this
    have R3:=R2.back (by rw [List.length_set];exact aG) (by simp [aF]) di
    rw [List.set_set] at R3
    have s5:(M.set u (ae.rw e k (rows.set i (row.take o++([.jk]++row.drop (o+1)))))).length=M.length:=by rw [List.length_set]
    generalize G i o=Gio at hd R3
    cases hd with
    | em X2 F2 mW oO eS=>
     obtain ⟨a2,c2,rfl⟩:=oO.len
     have hq:(β++[(a2,c2)])[M.length]?=some (a2,c2):=by rw [← R.len];simp
     have db:=bf.rw (K:=fun w=>K0 w∧aj w I) (T:=T2) (k:=k2) (rows:=bM) hq X2 F2 mW oO eS
     rw [← s5] at db
     have R4:=((R3.perm (Y:=_++[]) (by rw [List.append_nil])).take db).nil rfl
     rw [s5] at R4
     refine ⟨_,_,I,R4,(Ext.app _ _).b _,aV.refl _,fun q mS gl=>?_,.sl hq⟩
     have kY:q≠u:=by simpa using gl
     simp only [aF]
     rw [if_neg (by omega),if_neg kY,if_neg kY]
def Dm (T:aC) (E:List (Nat×AV)) (M:List ae) (oc:Option aS) (st:TypeId) (x y:Operand):Option Out:=
 match eJ T st,aB E x,aB E y,oc with
 | some (_,k,_,_),some (.sl u n),some vy,some (.n c)=>(match M[u]?,sd M k vy with
  | some (.rw e' k' rows),some (none,_,bM)=>bif k.beq k' then some ⟨[n=rows.length,min bM.length n=c,gC bM],.d (.v (.int .i64 (c:Int))),M.set u (.rw e' k (bM.take c++rows.drop c)),[u],[],none⟩ else none
  | _,_=>none)
 | _,_,_,_=>none
theorem dh.take {K:World→Prop} {k c:Nat} {rows:List (List DV)} {X:Nat→List Value} {G:Nat→Nat→ai} (h:dh K k rows X G):dh K k (rows.take c) X G:=by
 constructor
 ·intro i r hi
  rw [List.getElem?_take] at hi
  split at hi
  ·exact h.hl i r hi
  ·simp at hi
 ·intro i r j c' x hi
  rw [List.getElem?_take] at hi
  split at hi
  ·exact h.hr i r j c' x hi
  ·simp at hi
theorem dh.drop {K:World→Prop} {k c:Nat} {rows:List (List DV)} {X:Nat→List Value} {G:Nat→Nat→ai} (h:dh K k rows X G):dh K k (rows.drop c) (fun i=>X (c+i)) (fun i=>G (c+i)):=by
 constructor
 ·intro i r hi;rw [List.getElem?_drop] at hi;exact h.hl _ r hi
 ·intro i r j c' x hi;rw [List.getElem?_drop] at hi;exact h.hr _ r j c' x hi
theorem pE {n c k:Nat} {X:Nat→List Value} (hX:∀ a,a<n→(X a).length=k) (hc:c≤n):lay c X=(lay n X).take (c*k):=by
 have h1:=rh c (n-c) X (fun i=>X (c+i))
 rw [show c+(n-c)=n by omega] at h1
 have h2:lay n (fun i=>if i<c then X i else X (c+(i-c)))=lay n X:=BV fun i hi=>by
  split
  ·rfl
  ·congr 1;omega
 rw [h2] at h1
 rw [h1,List.take_append_of_le_length (by rw [du fun a ha=>hX a (by omega)];exact Nat.le_refl _),List.take_of_length_le (by rw [du fun a ha=>hX a (by omega)];exact Nat.le_refl _)]
theorem wT {n c k:Nat} {X:Nat→List Value} (hX:∀ a,a<n→(X a).length=k) (hc:c≤n):lay (n-c) (fun i=>X (c+i))=(lay n X).drop (c*k):=by
 have h1:=rh c (n-c) X (fun i=>X (c+i))
 rw [show c+(n-c)=n by omega] at h1
 have h2:lay n (fun i=>if i<c then X i else X (c+(i-c)))=lay n X:=BV fun i hi=>by
  split
  ·rfl
  ·congr 1;omega
 rw [h2] at h1
 have hl:=du (n:=c) (k:=k) (X:=X) (fun a ha=>hX a (by omega))
 rw [h1,List.drop_append_of_le_length (by omega),List.drop_of_length_le (by omega),List.nil_append]
theorem wz {n c k:Nat} (G:Nat→Nat→ai) (hc:c≤n):bA n k G=bA c k G++bA (n-c) k (fun i=>G (c+i)):=by
 have h1:=tR c (n-c) k G (fun i=>G (c+i))
 rw [show c+(n-c)=n by omega] at h1
 rw [← h1]
 simp only [bA]
 refine eG fun i hi=>eG fun j _=>?_
 show G i j=(if i<c then G i else G (c+(i-c))) j
 split
 ·rfl
 ·congr 2;omega
theorem TJ (cs:Array Value) (zs:List Value) (h:zs.length≤cs.size):(bV cs 0 zs).toList=zs++cs.toList.drop zs.length:=by
 apply List.ext_getElem?
 intro p
 rw [Array.getElem?_toList,qU _ _ _ _ (by omega)]
 by_cases hp:p<zs.length
 ·rw [if_pos (by omega),List.getElem?_append_left hp,Nat.sub_zero]
 ·rw [if_neg (by omega),List.getElem?_append_right (by omega),List.getElem?_drop,Array.getElem?_toList]
  congr 1;omega
theorem Src.pre {size:Nat} {x:Value} {m c:Nat} {X:List Value} (h:Src w size x m X) (hc:c≤m):(Builtin.lenOf x).run P w=.ok m w∧(Builtin.firstCells size c x).run P w=.ok (X.take (c*size)).toArray w:=by
 obtain ⟨hl,hh⟩:=h
 refine ⟨(Src.first (P:=P) ⟨hl,hh⟩).1,?_⟩
 rcases hh with ⟨rfl,a,c',rfl⟩ | ⟨a,c',rfl,h⟩
 ·obtain rfl:c=0:=by omega
  have:X=[]:=List.eq_nil_of_length_eq_zero (by simpa using hl)
  subst this
  cases a with
  | none=>simp [Builtin.firstCells]
  | some a=>simp [Builtin.firstCells,loadCells,loadCellsFrom]
 ·have hlen:(X.take (c*size)).length=c*size:=by rw [List.length_take,hl];exact Nat.min_eq_left (Nat.mul_le_mul_right _ hc)
  simp only [Builtin.firstCells]
  have:=run_loadCells (P:=P) (w:=w) (a:=a) (X:=X.take (c*size)) (fun j hj=>by
   rw [h j (by simp at hj;omega),List.getElem_take])
  rw [hlen] at this;exact this
theorem Vy (hT:aI P T=true) {st xt:TypeId} {x y:Operand} (h:Dm T E M oc st x y=some out):aA P ⟨d,.call ⟨.builtin .copy,#[x,y],#[st,xt]⟩,ty,pos,aft,gd⟩ E M out:=by
 unfold Dm at h
 split at h
 rotate_left
 ·simp at h
 rename_i e k b z u n vy c he hx hy
 obtain ⟨zv,ok,-,-⟩:=fK hT he
 split at h
 rotate_left
 ·simp at h
 rename_i e' k' rows m bM hM hs
 cases hk:k.beq k' with
 | false=>simp [hk] at h
 | true=>
  simp only [hk,cond_true,Option.some.injEq] at h;subst h
  obtain rfl:=Nat.eq_of_beq_eq_true hk
  obtain ⟨vE,hm⟩:=Bf hs
  intro D w0 K0 β F I ρ w C hv
  obtain ⟨hn,p8,cW,-⟩:=hv
  subst hn
  obtain ⟨X2,a2,dD⟩:=Bs C.now vE (C.ev hy)
  have js:c≤bM.length:=by omega
  have mX:c≤rows.length:=by omega
  have aP:∀ w:World,(sizeOf e).run P w=.ok k w:=fun w=>by obtain ⟨i,hi,h1,-⟩:=ok.info;simp [sizeOf,typeInfo,Sem.run_bind,hi,h1]
  obtain ⟨hlen,ia⟩:=dD.pre (P:=P) js
  have F8:∀ a,a<bM.length→(X2 a).length=k:=fun a ha=>(a2.hl a _ (List.getElem?_eq_getElem ha)).2
  rw [← pE F8 js] at ia
  have Sp:(lay c X2).length=c*k:=du fun a ha=>F8 a (by omega)
  have pO:∀ q ∈ lay c X2,dU q=true:=fun q hq=>a2.one cW q (by rw [pE F8 js] at hq;exact List.mem_of_mem_take hq)
  obtain ⟨yx,cT,rx⟩:=C.aJ hx
  cases rx with
  | @sl _ _ c0 q0 hb=>
   have R:=C.rm.x
   have hB:=R.blk u _ hM
   have hH:=R.jE hM
   have R1:=R.ec hM
   have aG:=cM hM
   generalize mU:F u=Fu at hB hH R1
   cases hB with
   | rw aD X G cH hs hr=>
    rw [hb] at aD;cases aD
    have hX:∀ a,a<rows.length→(X a).length=k:=fun a ha=>(cH a _ (List.getElem?_eq_getElem ha)).2
    have iD:(bM.take c++rows.drop c).length=rows.length:=by simp;omega
    have ra:dh (fun w=>K0 w∧aj w I) k rows X G:=⟨cH,hr⟩
    have hti:min c bM.length=c:=by omega
    have gL:=(a2.take (c:=c)).app (ra.drop (c:=c))
    rw [List.length_take,hti] at gL
    have jF:∀ (a0:Option Addr) (c0:Nat) w',ρ x=.slice a0 rows.length c0→(∀ a:Addr,a0=some a→(storeCells a (lay c X2)).run P w=.ok () w')→(a0=none→w'=w)→(execOp ρ ⟨d,.call ⟨.builtin .copy,#[x,y],#[st,xt]⟩,ty,pos,aft,gd⟩).run P w=.ok (.value (.int .i64 (c:Int))) w':=by
     intro a0 c0 w' cT aQ eK
     have pP:Nat.min bM.length rows.length=c:=p8
     simp only [execOp,resolve,List.map_toArray,List.map,cT,Sem.run_bind,Sem.run_pure,Result.andThen_ok,invoke,builtin,Builtin.copy_,List.getElem?_toArray,List.getElem?_cons_zero,List.getElem?_cons_succ,run_underlying ok.aQ,hlen,pP,aP,ia]
     cases a0 with
     | some a=>simp only [Sem.run_bind,aQ _ rfl,Result.andThen_ok,Sem.run_pure];rfl
     | none=>rw [eK rfl];simp only [Sem.run_pure,Result.andThen_ok];rfl
    have ez:∀ {w':World} {H0':ai},St D w0 w' (H0'++(bA rows.length k G++((List.range (M.set u .dead).length).flatMap (aF F u [])++I)))→(∀ a0 c0,β[u]?=some (a0,c0)→eb e' k (.slice a0 rows.length c0) rows.length (lay c X2++(lay rows.length X).drop (c*k)) H0')→∃ β' F' I',RM D w0 K0 (M.set u (.rw e' k (bM.take c++rows.drop c))) β' F' I' w'∧dH [] β β'∧aV I I'∧(∀ v,v<M.length→v ∉ [u]→F' v=F v)∧au (fun w=>K0 w∧aj w I') β' (.d (.v (.int .i64 (c:Int)))) (.int .i64 (c:Int)):=by
     intro w' H0' aQ cm
     rw [wz G mX] at aQ
     have R2:bq D w0 K0 (M.set u .dead) β (aF F u []) I ((H0'++bA (rows.length-c) k (fun i=>G (c+i)))++bA c k G) w':=R1.move (aQ.perm (by classical rw [List.perm_iff_count];intro z;simp only [List.count_append];omega))
     have di:bf (fun w=>K0 w∧aj w I) β u (.rw e' k (bM.take c++rows.drop c)) (H0'++bA (rows.length-c) k (fun i=>G (c+i))):=by
      have nR:lay rows.length (fun i=>if i<c then X2 i else X (c+(i-c)))=lay c X2++(lay rows.length X).drop (c*k):=by
       have:=rh c (rows.length-c) X2 (fun i=>X (c+i))
       rw [show c+(rows.length-c)=rows.length by omega,wT hX mX] at this
       exact this
      have ZM:bA rows.length k (fun i=>if i<c then (fun _=>[]) else G (c+(i-c)))=bA (rows.length-c) k (fun i=>G (c+i)):=by
       have:=tR c (rows.length-c) k (fun _ _=>[]) (fun i=>G (c+i))
       rw [show c+(rows.length-c)=rows.length by omega,kv,List.nil_append] at this
       exact this
      have:=bf.rw (K:=fun w=>K0 w∧aj w I) (u:=u) (T:=e') (k:=k) (rows:=bM.take c++rows.drop c) (H0:=H0') hb _ _ gL.hl (by
       rw [iD,nR];exact cm _ _ hb) gL.hr
      rw [iD,ZM] at this;exact this
     have R3:=((R2.drop.perm (Y:=(H0'++bA (rows.length-c) k (fun i=>G (c+i)))++[]) (by rw [List.append_nil])).back (by rw [List.length_set];exact aG) (by simp [aF]) di).nil rfl
     rw [List.set_set] at R3
     refine ⟨β,_,I,R3,(Ext.refl β).b _,aV.refl _,fun q hq gl=>?_,.d (.v _)⟩
     have kY:q≠u:=by simpa using gl
     simp only [aF];rw [if_neg kY,if_neg kY]
    have Pk:=R1.st
    rcases hs.2 with ⟨h0,rfl,a,Sq⟩ | ⟨b',cap,cs,fz,oV,rfl,ej,b7,cd,ht⟩
    ·have FW:c=0:=by omega
     simp only [Value.slice.injEq] at Sq
     obtain ⟨-,-,rfl⟩:=Sq
     have mP:lay c X2=[]:=by subst FW;simp [lay]
     refine aM.pure (jF _ _ w cT (fun a _=>by rw [mP];simp [storeCells]) (fun _=>rfl)) (ez (H0':=[]) (Pk.perm (by classical rw [List.perm_iff_count];intro z;simp only [List.count_append,List.count_nil];omega)) fun a0 c0 dc=>?_)
     rw [hb] at dc;cases dc
     have:lay rows.length X=[]:=by rw [h0];simp [lay]
     rw [mP,this,List.drop_nil,List.append_nil]
     rw [h0];exact eb.nil _ _ _
    ·simp only [Value.slice.injEq] at oV
     obtain ⟨rfl,-,rfl⟩:=oV
     have hw:=(aj.app.1 hH).1.one
     have oW:c*k≤rows.length*k:=Nat.mul_le_mul_right _ mX
     have sa:rows.length*k≤cs.size:=by rw [b7];exact Nat.mul_le_mul_right _ cd
     have Li:=pz (P:=P) (lay c X2) w cs 0 0 hw (by omega) pO
     rw [Nat.add_zero] at Li
     refine aM.pure (jF _ _ _ cT (fun a ha=>by simp only [Option.some.injEq] at ha;subst ha;exact Li) (fun eK=>by simp at eK)) (ez (H0':=[(b',.cells (bV cs 0 (lay c X2)) e' fz)]) ?_ fun a0 c0 dc=>?_)
     ·have gR:St D w0 w ((b',.cells cs e' fz)::(bA rows.length k G++((List.range (M.set u .dead).length).flatMap (aF F u [])++I))):=Pk.perm (by classical rw [List.perm_iff_count];intro z;simp only [List.count_append,List.count_cons,List.cons_append,List.nil_append];omega)
      exact gR.set _
     ·rw [hb] at dc;cases dc
      refine ⟨by rw [List.length_append,List.length_drop,Sp,du hX];omega,Or.inr ⟨b',_,_,fz,rfl,rfl,by rw [hU];exact ej,by rw [hU];exact b7,cd,?_⟩⟩
      rw [TJ cs _ (by omega),List.take_append,Sp,List.take_of_length_le (by omega),← ht,List.drop_take]
def CE (T:aC) (E:List (Nat×AV)) (M:List ae) (oc:Option aS) (t:TypeId) (x y:Operand):Option Out:=
 match eJ T t,bN (aB E x),bN (aB E y),oc with
 | some (e,k,b,z),some (.i64,n),some (.i64,n'),some (.n2 m c)=>some ⟨[n=(m:Int),n'=(c:Int),m≤c,b*c≤281474976710656,c<4611686018427387904],.sl M.length m,M++[.rw e k (List.replicate m (z.map .v))],[],[],none⟩
 | _,_,_,_=>none
set_option maxRecDepth 20000 in
theorem Hh {t e k b:Nat} {z:List Value} {zv:Value} (ok:nD P t e k b zv) (hz:zv.cells=z.toArray) (cY:z.length=k) {m c:Nat} (eo:m≤c) (hb:b*c≤281474976710656) (hm:c<4611686018427387904):
  (Instr.makeSlice t (.int .i64 m) (.int .i64 c)).run P w=.ok (.slice (some ⟨w.heap.size,0,none⟩) m c) (w.alloc (.cells (lay c fun _=>z).toArray e)):=by
 obtain ⟨i,hi,h1,h2,h3⟩:=ok.info
 have hw:∀ m:Nat,m<4611686018427387904→IntKind.i64.wrap (m:Int)=m:=by
  intro m hm;simp [IntKind.wrap,IntKind.signed,IntKind.bits];omega
 have aP:∀ w:World,(sizeOf e).run P w=.ok k w:=fun w=>by simp [sizeOf,typeInfo,Sem.run_bind,hi,h1]
 have eZ:∀ w:World,(typeInfo e).run P w=.ok i w:=fun w=>by simp [typeInfo,Sem.run_bind,hi]
 have hzero:∀ w:World,(zeroValue e).run P w=.ok zv w:=fun w=>by simp [zeroValue,Sem.run_bind,eZ,h3]
 have mB:∀ (k:Nat) (w:World),(askRoom k).run P w=.ok () w:=by
  intro k w;unfold askRoom;split<;>simp [mark,Sem.run]
 have vC:∀ n:Int,asInt (.int .i64 n)=pure n:=fun n=>rfl
 have bn:∀ (cs:Array Value) (w:World),(newRow e cs).run P w=.ok ⟨w.heap.size,0,none⟩ (w.alloc (.cells cs e)):=by
  intro cs w;simp [newRow,newObj,Sem.run]
 have FV:∀ m:Nat,b*m≤281474976710656→¬ ((i.bytes:Int)*(m:Int)>2 ^ 48):=by
  intro m hb
  rw [h2]
  have e:((b*m:Nat):Int)=(b:Int)*(m:Int):=Int.natCast_mul b m
  rw [← e]
  generalize b*m=q at hb
  omega
 have CC:∀ n,n=c*k→(if n=0 then ((Array.range n).map fun i=>(#[]:Array Value)[i%(#[]:Array Value).size]!) else ((Array.range n).map fun i=>z.toArray[i%z.toArray.size]!))=(lay c fun _=>z).toArray:=by
  intro n hn
  subst hn
  rw [← tQ z c k cY]
  by_cases h0:c*k=0
  ·rw [if_pos h0,h0];simp
  ·rw [if_neg h0]
 unfold Instr.makeSlice
 simp only [Sem.run_bind,run_underlying ok.aQ,Result.andThen_ok,vC,Sem.run_pure,eZ,hw c hm,hw m (by omega)]
 have n2:=FV c hb
 have Di:¬ ((((m:Int)<0:Bool)||decide ((i.bytes:Int)*(c:Int)>2 ^ 48))=true∨(m:Int)<0∨(m:Int)>c):=by
  simp only [Bool.or_eq_true,decide_eq_true_eq]
  omega
 rw [if_neg (by simpa using Di)]
 simp only [Sem.run_bind,Result.andThen_ok,mB,aP,Int.toNat_natCast]
 have:=CC (c*k) rfl
 by_cases h0:c*k=0
 ·rw [if_pos h0] at this ⊢
  simp only [Sem.run_pure,Result.andThen_ok,Sem.run_bind,bn,this]
 ·rw [if_neg h0] at this ⊢
  simp only [Sem.run_pure,Result.andThen_ok,Sem.run_bind,hzero,hz,bn,this]
theorem Uy (hT:aI P T=true) {t:TypeId} {x y:Operand} (h:CE T E M oc t x y=some out):aA P ⟨d,.makeSlice t x y,ty,pos,aft,gd⟩ E M out:=by
 unfold CE at h
 split at h
 ·rename_i e k b z n n' m c he hx hy
  simp only [Option.some.injEq] at h;subst h
  obtain ⟨zv,ok,hz,cY⟩:=fK hT he
  intro D w0 K0 β F I ρ w C hv
  obtain ⟨rfl,rfl,eo,hb,hm,-⟩:=hv
  refine aM.pure (v:=.slice (some ⟨w.heap.size,0,none⟩) m c) (w':=w.alloc (.cells (lay c fun _=>z).toArray e)) (by simp only [execOp,C.int hx,C.int hy,Sem.run_bind,Hh ok hz cY eo hb hm,Result.andThen_ok,Sem.run_pure]) ?_
  have cn:=du (n:=c) (k:=k) (X:=fun _=>z) (fun _ _=>cY)
  have F9:=du (n:=m) (k:=k) (X:=fun _=>z) (fun _ _=>cY)
  refine ⟨_,_,I,C.rm.new (q:=(some ⟨w.heap.size,0,none⟩,c)) (Gr.alloc w _) (cV.alloc w _) ?_,(Ext.app _ _).b _,aV.refl _,fW _ _,.sl (cu C.rm _)⟩
  have:=bf.rw (K:=fun w=>K0 w∧aj w I) (β:=β++[(some ⟨w.heap.size,0,none⟩,c)]) (u:=M.length) (T:=e) (k:=k) (rows:=List.replicate m (z.map .v)) (H0:=[(w.heap.size,.cells (lay c fun _=>z).toArray e (0,0))]) (cu C.rm _) (fun _=>z) (fun _ _=>[]) (fun i r hi=>by
   rw [List.getElem?_replicate] at hi
   split at hi
   ·simp only [Option.some.injEq] at hi;subst hi;rw [List.length_map];exact ⟨cY,cY⟩
   ·simp at hi) (by
    rw [List.length_replicate]
    exact ⟨F9,Or.inr ⟨w.heap.size,c,_,(0,0),rfl,rfl,lY _,by simpa using cn,eo,(pE (n:=c) (k:=k) (X:=fun _=>z) (fun _ _=>cY) eo).symm⟩⟩) (fun i r j c x hi h1 h2=>by
    rw [List.getElem?_replicate] at hi
    split at hi
    ·simp only [Option.some.injEq] at hi;subst hi;exact A4 h1 h2
    ·simp at hi)
  rw [kv,List.append_nil] at this
  exact this
 ·simp at h
end Go.Proofs.YtkheephfkbpchaaGreatDoor
namespace Go.Proofs.YtkheephfkbpchaaGreatDoor
open Go.RowKit
variable {P:Program} {T:aC} {D:List Nat} {w0:World} {K0:World→Prop} {E:List (Nat×AV)} {M:List ae} {β:Beta} {F:Nat→ai} {I X:ai} {ρ:Operand→Value} {w:World}
variable {d:Option Tmp} {ty:TypeId} {pos:String} {aft:Array Edge} {gd:Option (Nat×Bool)} {oc:Option aS} {out:Out}
theorem ly {t e size n c l h m:Nat} {a:Option Addr} (ht:P.underlying t=some (.slice e)) (hs:(P.info? e).map (·.size)=some size) {vl vh vm:Option Value} (hb:(Instr.sliceBounds true n c vl vh vm).run P w=.ok (l,h,m) w):
  (Instr.sliceAt t (.slice a n c) vl vh vm).run P w=.ok (.slice (if m=l then a else a.map (·.add (l*size))) (h-l) (m-l)) w:=by
 cases hi:P.info? e with
 | none=>simp [hi] at hs
 | some inf=>
  simp only [hi,Option.map_some,Option.some.injEq] at hs
  have aP:(sizeOf e).run P w=.ok size w:=by simp [sizeOf,typeInfo,Sem.run_bind,hi,hs]
  simp only [Instr.sliceAt,Instr.slice,Sem.run_bind,run_underlying ht,Result.andThen_ok,hb,aP,Sem.run_pure]
def Ga (T:aC) (E:List (Nat×AV)) (M:List ae) (oc:Option aS) (t:TypeId) (x:Operand) (lo hi mx:Option Operand):Option Out:=
 match bB T t,aB E x,oc with
 | some (.sl e),some (.sl u n),some o=>(match dw T e,M[u]? with
  | some k,some (.rw Te k' rows)=>(match lo,hi,mx,o with
   | some l,none,none,.n c=>(match bN (aB E l) with
    | some (.i64,z)=>bif k.beq k' then some ⟨[z=(c:Int),c<n,n=rows.length],.sb u k c (n-c),M,[],[],some [u]⟩ else none
    | _=>none)
   | none,some h,none,.n c=>(match bN (aB E h) with
    | some (.i64,z)=>some ⟨[z=(c:Int),c≤n,n=rows.length],.sl u c,M.set u (.rw Te k' (rows.take c)),[u],[],none⟩
    | _=>none)
   | none,some h,some m,.res (.ro k2 bM)=>(match bN (aB E h),bN (aB E m) with
    | some (.i64,z),some (.i64,z')=>some ⟨[z=(n:Int),z'=(n:Int),n=rows.length,k'=k2,mn rows=bM],.d (.ro k2 bM),M.set u .dead,[u],[],none⟩
    | _,_=>none)
   | _,_,_,_=>none)
  | _,_=>none)
 | _,_,_=>none
theorem Src.cap {size n c c':Nat} {a:Option Addr} {xs:List Value} (h:Src w size (.slice a n c) n xs):Src w size (.slice a n c') n xs:=by
 refine ⟨h.1,?_⟩
 rcases h.2 with ⟨rfl,_,_,_⟩ | ⟨a',_,e,h2⟩
 ·exact Or.inl ⟨rfl,_,_,rfl⟩
 ·simp only [Value.slice.injEq] at e;obtain ⟨rfl,-,rfl⟩:=e
  exact Or.inr ⟨a',c',rfl,h2⟩
theorem bj.cap {K:World→Prop} {k n c c':Nat} {a:Option Addr} {rows:List (List DV)} {H:ai} (h:bj K (.ro k rows) (.slice a n c) H) (hc:n≤c'):bj K (.ro k rows) (.slice a n c') H:=by
 cases h with
 | ro X hl hy hs hr=>
  obtain ⟨a',c'',e,-⟩:=hy
  simp only [Value.slice.injEq] at e;obtain ⟨rfl,rfl,rfl⟩:=e
  exact .ro X hl ⟨_,_,rfl,hc⟩ (fun w hw=>(hs w hw).cap) hr
theorem Yz (hT:aI P T=true) {t:TypeId} {x:Operand} {lo hi mx:Option Operand} (h:Ga T E M oc t x lo hi mx=some out):aA P ⟨d,.slice t x lo hi mx,ty,pos,aft,gd⟩ E M out:=by
 unfold Ga at h
 split at h
 rotate_left
 ·simp at h
 rename_i e u n o ht hx
 split at h
 rotate_left
 ·simp at h
 rename_i k Te k' rows hk hM
 replace ht:=a7 hT ht
 replace hk:=dR hT hk
 split at h
 ·rename_i l c
  split at h
  rotate_left
  ·simp at h
  rename_i z hz
  cases bh:k.beq k' with
  | false=>simp [bh] at h
  | true=>
   simp only [bh,cond_true,Option.some.injEq] at h;subst h
   obtain rfl:=Nat.eq_of_beq_eq_true bh
   refine aA.look ?_ (by simpa using cM hM)
   intro D w0 K0 β F I ρ w C hv
   obtain ⟨rfl,hc,hn,-⟩:=hv
   obtain ⟨y,hy,r⟩:=C.aJ hx
   cases r with
   | @sl _ _ cc a hb=>
    obtain ⟨H,hF,hB,hH⟩:=C.rm.at hM
    cases hB with
    | rw aD X G hl hs hr=>
     rw [hb] at aD;cases aD
     obtain ⟨b',cap,cs,fz,he,rfl,ej,b7,cd,kZ⟩:=hs.block (by omega)
     simp only [Value.slice.injEq] at he;obtain ⟨rfl,-,rfl⟩:=he
     refine ⟨_,au.sb (k:=k) (o:=c) (n:=n-c) (c':=cc-c) hb,fun w' _=>?_⟩
     have:=ly (P:=P) (w:=w') (a:=some ⟨b',0,none⟩) ht hk (n:=n) (c:=cc) (l:=c) (h:=n) (m:=cc) (vl:=some (.int .i64 c)) (vh:=none) (vm:=none) (by simp [Instr.sliceBounds,fG (show c≤n by omega)])
     rw [if_neg (by omega)] at this
     simp only [execOp,hy,C.int hz,Option.map_some,Option.map_none,Sem.run_bind,this,Result.andThen_ok,Sem.run_pure,add_eq,Nat.zero_add]
 ·rename_i hh c
  split at h
  rotate_left
  ·simp at h
  rename_i z hz
  simp only [Option.some.injEq] at h;subst h
  intro D w0 K0 β F I ρ w C hv
  obtain ⟨rfl,hc,hn,-⟩:=hv
  obtain ⟨y,hy,r⟩:=C.aJ hx
  cases r with
  | @sl _ _ cc a hb=>
   have R:=C.rm.x
   have hB:=R.blk u _ hM
   have R1:=R.ec hM
   have aG:=cM hM
   generalize mU:F u=Fu at hB R1
   cases hB with
   | @rw _ _ _ _ _ H0 aD X G hl hs hr=>
    rw [hb] at aD;cases aD
    have eR:n≤cc:=by
     rcases hs.2 with ⟨h0,-,a,hq⟩ | ⟨b',cap,cs,fz,hq,-,-,-,cd,-⟩
     ·omega
     ·simp only [Value.slice.injEq] at hq;omega
    have ch:=ly (P:=P) (w:=w) (a:=a) ht hk (n:=n) (c:=cc) (l:=0) (h:=c) (m:=cc) (vl:=none) (vh:=some (.int .i64 c)) (vm:=none) (by simp [Instr.sliceBounds,fG (show c≤cc by omega)])
    have fy:(if cc=0 then a else a.map (·.add (0*k)))=a:=by
     split
     ·rfl
     ·cases a with
      | none=>rfl
      | some a=>simp [add_zero']
    rw [fy] at ch
    refine aM.pure (v:=.slice a c cc) (w':=w) (by simp only [execOp,hy,C.int hz,Option.map_some,Option.map_none,Sem.run_bind,ch,Result.andThen_ok,Sem.run_pure,Nat.sub_zero]) ?_
    have hX:∀ a,a<rows.length→(X a).length=k':=fun a ha=>(hl a _ (List.getElem?_eq_getElem ha)).2
    have gk:c≤rows.length:=by omega
    have hlen:(rows.take c).length=c:=by simp;omega
    have ra:dh (fun w=>K0 w∧aj w I) k' rows X G:=⟨hl,hr⟩
    have cm:eb Te k' (.slice a c cc) c (lay c X) H0:=by
     refine ⟨du fun i hi=>hX i (by omega),?_⟩
     rcases hs.2 with ⟨h0,e0,a',hq⟩ | ⟨b',cap,cs,fz,hq,e0,ej,h1,cd,kZ⟩
     ·simp only [Value.slice.injEq] at hq
      obtain ⟨rfl,-,rfl⟩:=hq
      obtain rfl:c=0:=by omega
      exact Or.inl ⟨rfl,e0,_,rfl⟩
     ·simp only [Value.slice.injEq] at hq
      obtain ⟨rfl,-,rfl⟩:=hq
      refine Or.inr ⟨b',cc,cs,fz,rfl,e0,ej,h1,by omega,?_⟩
      rw [pE hX gk,← kZ,List.take_take,Nat.min_eq_left (Nat.mul_le_mul_right _ gk)]
    have di:bf (fun w=>K0 w∧aj w I) β u (.rw Te k' (rows.take c)) (H0++bA c k' G):=by
     have:=bf.rw (K:=fun w=>K0 w∧aj w I) (u:=u) (T:=Te) (k:=k') (rows:=rows.take c) hb X G (ra.take (c:=c)).hl (by rw [hlen];exact cm) (ra.take (c:=c)).hr
     rw [hlen] at this;exact this
    rw [List.nil_append,wz G gk,← List.append_assoc] at R1
    have R3:=((R1.drop.perm (Y:=(H0++bA c k' G)++[]) (by rw [List.append_nil])).back (by rw [List.length_set];exact aG) (by simp [aF]) di).nil rfl
    rw [List.set_set] at R3
    refine ⟨β,_,I,R3,(Ext.refl β).b _,aV.refl _,fun q hq gl=>?_,.sl hb⟩
    have kY:q≠u:=by simpa using gl
    simp only [aF];rw [if_neg kY,if_neg kY]
 ·rename_i hh m k2 bM
  split at h
  rotate_left
  ·simp at h
  rename_i z z' hz fy
  simp only [Option.some.injEq] at h;subst h
  intro D w0 K0 β F I ρ w C hv
  obtain ⟨rfl,rfl,hn,rfl,rfl,-⟩:=hv
  obtain ⟨y,hy,r⟩:=C.aJ hx
  cases r with
  | @sl _ _ cc a hb=>
   have R:=C.rm.x
   have hB:=R.blk u _ hM
   have R1:=R.ec hM
   generalize mU:F u=Fu at hB R1
   have hd:bj (fun w=>K0 w∧aj w I) (.em Te k' rows) (.slice a n cc) Fu∧n≤cc:=by
    cases hB with
    | rw aD X G hl hs hr=>
     rw [hb] at aD;cases aD
     refine ⟨by rw [hn];exact .em X G hl hs hr,?_⟩
     rcases hs.2 with ⟨h0,-,a,hq⟩ | ⟨b',cap,cs,fz,hq,-,-,-,cd,-⟩
     ·omega
     ·simp only [Value.slice.injEq] at hq;omega
   obtain ⟨hd,eR⟩:=hd
   have ch:=ly (P:=P) (w:=w) (a:=a) ht hk (n:=n) (c:=cc) (l:=0) (h:=n) (m:=n) (vl:=none) (vh:=some (.int .i64 n)) (vm:=some (.int .i64 n)) (by simp [Instr.sliceBounds,fG eR,fG (Nat.le_refl n)])
   have hzz:(if n=0 then a else a.map (·.add (0*k)))=a:=by
    split
    ·rfl
    ·cases a with
     | none=>rfl
     | some a=>simp [add_zero']
   rw [hzz] at ch
   refine aM.pure (v:=.slice a n n) (w':=w) (by simp only [execOp,hy,C.int hz,C.int fy,Option.map_some,Option.map_none,Sem.run_bind,ch,Result.andThen_ok,Sem.run_pure,Nat.sub_zero]) ?_
   rw [List.nil_append] at R1
   have R2:RM D w0 K0 (M.set u .dead) β (aF F u []) (Fu++I) w:=by
    refine ⟨R1.len,fun v bl hv=>(R1.blk v bl hv).mono (fun w hw=>⟨hw.1,(aj.app.1 hw.2).2⟩) (Ext.refl _),?_⟩
    exact R1.st.perm (List.Perm.append_left _ List.perm_append_comm)
   refine ⟨β,_,_,R2,(Ext.refl β).b _,⟨_,rfl⟩,fun q _ hq=>by simp only [aF];rw [if_neg (by simpa using hq)],?_⟩
   have:=xi (K':=fun w=>K0 w∧aj w (Fu++I)) hd fun w hw=>⟨⟨hw.1,(aj.app.1 hw.2).2⟩,(aj.app.1 hw.2).1⟩
   rw [gb] at this
   exact .d (this.cap (Nat.le_refl _))
 ·simp at h
def BZ (T:aC) (E:List (Nat×AV)) (M:List ae) (oc:Option aS) (t:TypeId) (x ix:Operand):Option Out:=
 match bN (aB E ix),bB T t,aB E x,oc with
 | some (_,z),some (.sl e),some (.sb u k o n),some (.n i)=>(match dw T e,M[u]? with
  | some k',some (.rw _ _ rows)=>bif k.beq k' then some ⟨[z=(i:Int),i<n,o+n≤rows.length],.ep u k (o+i) 0,M,[],[],some []⟩ else none
  | _,_=>none)
 | _,_,_,_=>none
theorem TX (hT:aI P T=true) {t:TypeId} {x ix:Operand} (h:BZ T E M oc t x ix=some out):aA P ⟨d,.indexAddr t x ix,ty,pos,aft,gd⟩ E M out:=by
 unfold BZ at h
 split at h
 rotate_left
 ·simp at h
 rename_i kk z e u k o n i hz ht hx
 split at h
 rotate_left
 ·simp at h
 rename_i k' Tt k2 rows hk hM
 cases bh:k.beq k' with
 | false=>simp [bh] at h
 | true=>
  simp only [bh,cond_true,Option.some.injEq] at h;subst h
  obtain rfl:=Nat.eq_of_beq_eq_true bh
  replace ht:=a7 hT ht
  replace hk:=dR hT hk
  refine aA.look ?_ (by simp)
  intro D w0 K0 β F I ρ w C bP
  obtain ⟨rfl,hi,Sg,-⟩:=bP
  obtain ⟨y,hy,r⟩:=C.aJ hx
  cases r with
  | sb hb=>
   refine ⟨_,?_,fun _ _=>tO ht hk hy (C.int hz) (by omega) (by omega)⟩
   rw [add_eq]
   have:=au.ep (K:=fun w=>K0 w∧aj w I) (k:=k) (i:=o+i) (o:=0) hb
   rw [Nat.add_mul,Nat.add_zero] at this
   simpa using this
def CF (T:aC) (E:List (Nat×AV)) (M:List ae) (t:TypeId) (x:Operand):Option Out:=
 match eJ T t,aB E x with
 | some (_,k,_,z),some (.sb u k' o n)=>(match M[u]? with
  | some (.rw Te k2 rows)=>bif k.beq k'&&k.beq k2&&z.all dU then some ⟨[0<n,o+n≤rows.length],.d (.v (.tuple #[])),M.set u (.rw Te k2 (rows.take o++(List.replicate n (z.map .v)++rows.drop (o+n)))),[u],[],none⟩ else none
  | _=>none)
 | _,_=>none
theorem Uz (cs:Array Value) (i:Nat) (zs:List Value) (h:i+zs.length≤cs.size):(bV cs i zs).toList=cs.toList.take i++(zs++cs.toList.drop (i+zs.length)):=by
 apply List.ext_getElem?;intro p
 rw [Array.getElem?_toList,qU _ _ _ _ h,pG (by simpa using h)]
 split
 ·rfl
 ·simp
theorem Vz {l z:List Value} {i n N:Nat} (hz:z.length=n) (h1:i+n≤N) (h2:N≤l.length):(l.take i++(z++l.drop (i+n))).take N=(l.take N).take i++(z++(l.take N).drop (i+n)):=by
 subst hz
 apply List.ext_getElem?;intro p
 rw [List.getElem?_take,pG (by omega),pG (by simp;omega),List.getElem?_take]
 by_cases hp:p<N
 ·rw [if_pos hp,if_pos hp]
 ·rw [if_neg hp,if_neg hp,if_neg (by omega)]
theorem VA {z:List Value} {zv:Value} (hz:zv.cells=z.toArray) (n:Nat):(Builtin.zeroCells zv.cells n).toList=lay n fun _=>z:=by
 rw [hz];unfold Builtin.zeroCells
 have:=tQ z n z.length rfl
 simpa using this
theorem UA (hT:aI P T=true) {t:TypeId} {x:Operand} (h:CF T E M t x=some out):aA P ⟨d,.call ⟨.builtin .clear,#[x],#[t]⟩,ty,pos,aft,gd⟩ E M out:=by
 unfold CF at h
 split at h
 rotate_left
 ·simp at h
 rename_i e k b z u k' o n he hx
 split at h
 rotate_left
 ·simp at h
 rename_i Te k2 rows hM
 cases hc:(k.beq k'&&k.beq k2&&z.all dU) with
 | false=>simp [hc] at h
 | true=>
  simp only [hc,cond_true,Option.some.injEq] at h;subst h
  simp only [Bool.and_eq_true] at hc
  obtain rfl:=Nat.eq_of_beq_eq_true hc.1.1
  obtain rfl:=Nat.eq_of_beq_eq_true hc.1.2
  obtain ⟨zv,ok,hz,cY⟩:=fK hT he
  intro D w0 K0 β F I ρ w C hv
  obtain ⟨nT,oX,-⟩:=hv
  obtain ⟨y,hy,r⟩:=C.aJ hx
  have hzero:∀ w:World,(zeroValue e).run P w=.ok zv w:=fun w=>by obtain ⟨i,hi,-,-,h3⟩:=ok.info;simp [zeroValue,typeInfo,Sem.run_bind,hi,h3]
  cases r with
  | @sb _ _ _ _ b0 c0 c1 hb=>
   have R:=C.rm.x
   have hB:=R.blk u _ hM
   have hH:=R.jE hM
   have R1:=R.ec hM
   have aG:=cM hM
   generalize mU:F u=Fu at hB hH R1
   cases hB with
   | rw aD X G hl hs hr=>
    rw [hb] at aD;cases aD
    obtain ⟨b',cap,cs,fz,hq,rfl,ej,b7,cd,kZ⟩:=hs.block (by omega)
    simp only [Value.slice.injEq,Option.some.injEq,Addr.mk.injEq] at hq
    obtain ⟨⟨rfl,-⟩,-,rfl⟩:=hq
    have hw:=(aj.app.1 hH).1.one
    have hX:∀ a,a<rows.length→(X a).length=k:=fun a ha=>(hl a _ (List.getElem?_eq_getElem ha)).2
    have Am:(lay n fun _=>z).length=n*k:=du fun _ _=>cY
    have hmul:o*k+n*k≤rows.length*k:=by rw [← Nat.add_mul];exact Nat.mul_le_mul_right _ oX
    have aP:rows.length*k≤cs.size:=by rw [b7];exact Nat.mul_le_mul_right _ cd
    obtain ⟨n',rfl⟩:∃ n',n=n'+1:=⟨n-1,by omega⟩
    refine Iw (Z:=lay (n'+1) fun _=>z) ok.aQ (hzero w) hy hw (VA hz _) (by omega) (fun q hq=>?_) ?_
    ·simp only [lay,List.mem_flatMap] at hq
     obtain ⟨_,-,hq⟩:=hq
     exact List.all_eq_true.1 hc.2 q hq
    have ra:dh (fun w=>K0 w∧aj w I) k rows X G:=⟨hl,hr⟩
    have rz:dh (fun w=>K0 w∧aj w I) k (List.replicate (n'+1) (z.map DV.v)) (fun _=>z) (fun _ _=>[]):=⟨fun i r hi=>by
     rw [List.getElem?_replicate] at hi
     split at hi
     ·simp only [Option.some.injEq] at hi;subst hi;rw [List.length_map];exact ⟨cY,cY⟩
     ·simp at hi,fun i r j c x hi h1 h2=>by
     rw [List.getElem?_replicate] at hi
     split at hi
     ·simp only [Option.some.injEq] at hi;subst hi;exact A4 h1 h2
     ·simp at hi⟩
    have gL:=(ra.take (c:=o)).app (rz.app (ra.drop (c:=o+(n'+1))))
    have ho:(rows.take o).length=o:=by simp;omega
    have iD:(rows.take o++(List.replicate (n'+1) (z.map DV.v)++rows.drop (o+(n'+1)))).length=rows.length:=by simp;omega
    rw [ho,List.length_replicate] at gL
    have e1:=rh o ((n'+1)+(rows.length-(o+(n'+1)))) X (fun i=>if i<n'+1 then z else X (o+(n'+1)+(i-(n'+1))))
    rw [rh (n'+1) (rows.length-(o+(n'+1))) (fun _=>z) (fun i=>X (o+(n'+1)+i)),wT hX oX,show o+((n'+1)+(rows.length-(o+(n'+1))))=rows.length by omega] at e1
    have e2:=tR o ((n'+1)+(rows.length-(o+(n'+1)))) k G (fun i=>if i<n'+1 then (fun _=>[]) else G (o+(n'+1)+(i-(n'+1))))
    rw [tR (n'+1) (rows.length-(o+(n'+1))) k (fun _ _=>[]) (fun i=>G (o+(n'+1)+i)),kv,List.nil_append,show o+((n'+1)+(rows.length-(o+(n'+1))))=rows.length by omega] at e2
    have e3:=wz (k:=k) G (show o+(n'+1)≤rows.length by omega)
    have e4:=wz (n:=o+(n'+1)) (k:=k) G (show o≤o+(n'+1) by omega)
    have aQ:=R1.st
    rw [e3,e4] at aQ
    have gR:St D w0 w ((b0,.cells cs Te fz)::((bA o k G++bA (rows.length-(o+(n'+1))) k fun i=>G (o+(n'+1)+i))++(((bA (o+(n'+1)-o) k fun i=>G (o+i)))++((List.range (M.set u .dead).length).flatMap (aF F u [])++I)))):=aQ.perm (by classical rw [List.perm_iff_count];intro z;simp only [List.count_append,List.count_cons,List.cons_append,List.nil_append];omega)
    have kO:=gR.set (.cells (bV cs (o*k) (lay (n'+1) fun _=>z)) Te fz)
    have R2:bq D w0 K0 (M.set u .dead) β (aF F u []) I (([(b0,.cells (bV cs (o*k) (lay (n'+1) fun _=>z)) Te fz)]++(bA o k G++bA (rows.length-(o+(n'+1))) k fun i=>G (o+(n'+1)+i)))++(bA (o+(n'+1)-o) k fun i=>G (o+i))) _:=R1.move (kO.perm (by classical rw [List.perm_iff_count];intro z;simp only [List.count_append,List.count_cons,List.cons_append,List.nil_append];omega))
    have di:bf (fun w=>K0 w∧aj w I) β u (.rw Te k (rows.take o++(List.replicate (n'+1) (z.map DV.v)++rows.drop (o+(n'+1))))) ([(b0,.cells (bV cs (o*k) (lay (n'+1) fun _=>z)) Te fz)]++(bA o k G++bA (rows.length-(o+(n'+1))) k fun i=>G (o+(n'+1)+i))):=by
     have:=bf.rw (K:=fun w=>K0 w∧aj w I) (u:=u) (T:=Te) (k:=k) (rows:=rows.take o++(List.replicate (n'+1) (z.map DV.v)++rows.drop (o+(n'+1)))) (H0:=[(b0,.cells (bV cs (o*k) (lay (n'+1) fun _=>z)) Te fz)]) hb _ _ gL.hl (by
      rw [iD,e1]
      refine ⟨by rw [List.length_append,List.length_append,Am,List.length_drop,du hX,du (n:=o) fun a ha=>hX a (by omega),Nat.add_mul o];omega,Or.inr ⟨_,_,_,fz,rfl,rfl,by rw [hU];exact ej,by rw [hU];exact b7,cd,?_⟩⟩
      rw [Uz _ _ _ (by omega),Am,Vz Am (by omega) (by simpa using aP),kZ,pE (c:=o) hX (by omega),Nat.add_mul o]) gL.hr
     rw [iD,e2] at this;exact this
    have R3:=((R2.drop.perm (Y:=([(b0,.cells (bV cs (o*k) (lay (n'+1) fun _=>z)) Te fz)]++(bA o k G++bA (rows.length-(o+(n'+1))) k fun i=>G (o+(n'+1)+i)))++[]) (by rw [List.append_nil])).back (by rw [List.length_set];exact aG) (by simp [aF]) di).nil rfl
    rw [List.set_set] at R3
    refine ⟨β,_,I,R3,(Ext.refl β).b _,aV.refl _,fun q hq gl=>?_,.d (.v _)⟩
    have kY:q≠u:=by simpa using gl
    simp only [aF];rw [if_neg kY,if_neg kY]
def uH (T:aC) (E:List (Nat×AV)) (M:List ae) (oc:Option aS) (t:TypeId) (x ix:Operand):Option Out:=
 match bB T t,ga (aB E x),bN (aB E ix),oc with
 | some .st,some l,some (_,z),some (.n i)=>(match l[i]? with | some b=>some (lk [z=(i:Int)] (.d (.v (.int .u8 (b.toNat:Int)))) M) | none=>none)
 | _,_,_,_=>none
theorem IH (hT:aI P T=true) {t:TypeId} {x ix:Operand} (h:uH T E M oc t x ix=some out):aA P ⟨d,.index t x ix,ty,pos,aft,gd⟩ E M out:=by
 unfold uH at h
 split at h
 ·rename_i l k z i hu hx hz
  split at h
  ·rename_i b hb
   simp only [Option.some.injEq] at h;subst h
   refine aA.same ?_
   intro D w0 K0 β F I ρ w C hv
   obtain ⟨rfl,-⟩:=hv
   refine ⟨_,fun w' _=>?_,.d (.v _)⟩
   have h1:=C.str hx
   have h2:=C.int hz
   have h3:=a7 hT hu
   have h4:(⟨l.toArray⟩:ByteArray)[i]?=some b:=by
    obtain ⟨hi,rfl⟩:=List.getElem?_eq_some_iff.1 hb
    exact getElem?_pos (⟨l.toArray⟩:ByteArray) i (by show i<l.toArray.size;simpa using hi)
   simp [execOp,h1,h2,Instr.index,asIntOf,Sem.run_bind,run_underlying h3,h4]
  ·simp at h
 ·simp at h
def B0 (T:aC) (E:List (Nat×AV)) (M:List ae) (oc:Option aS) (t:TypeId) (x ix:Operand):Option Out:=
 match bN (aB E ix),bB T t,aB E x,oc with
 | some (_,z),some (.ar n e),some (.ep u k j o),some (.n2 i _)=>(match dw T e with
  | some sz=>bif Nat.beq k 1&&Nat.beq o 0 then some (lk [z=(i:Int),i<n] (.ep u 1 (j+i*sz) 0) M) else none
  | none=>none)
 | _,_,_,_=>none
theorem TY (hT:aI P T=true) {t:TypeId} {x ix:Operand} (h:B0 T E M oc t x ix=some out):aA P ⟨d,.indexAddr t x ix,ty,pos,aft,gd⟩ E M out:=by
 unfold B0 at h
 split at h
 rotate_left
 ·simp at h
 rename_i kk z n e u k j o i _ hz ht hx
 split at h
 rotate_left
 ·simp at h
 rename_i sz hk
 cases bh:(Nat.beq k 1&&Nat.beq o 0) with
 | false=>simp [bh] at h
 | true=>
  simp only [bh,cond_true,Option.some.injEq] at h;subst h
  simp only [Bool.and_eq_true] at bh
  obtain rfl:=Nat.eq_of_beq_eq_true bh.1
  obtain rfl:=Nat.eq_of_beq_eq_true bh.2
  replace ht:=a7 hT ht
  replace hk:=dR hT hk
  refine aA.same fun C bP=>?_
  obtain ⟨rfl,hi,-⟩:=bP
  obtain ⟨y,hy,r⟩:=C.aJ hx
  cases r with
  | ep hb=>
   refine ⟨_,fun _ _=>nj ht hk hy (C.int hz) (by omega) (by omega),?_⟩
   rw [add_eq,Int.toNat_natCast,show j*1+0+i*sz=(j+i*sz)*1+0 by omega]
   exact .ep hb
def jf:List ae→List Nat→List ae
 | M,[]=>M
 | M,u::r=>jf (M.set u .dead) r
theorem II:∀ (b:List Nat) (M:List ae),(jf M b).length=M.length
 | [],_=>rfl
 | u::r,M=>by rw [jf,II r,List.length_set]
theorem RM.die:∀ {b:List Nat} {M:List ae} {F:Nat→ai} {I:ai},RM D w0 K0 M β F I w→(∀ u ∈ b,u<M.length)→∃ F' I',RM D w0 K0 (jf M b) β F' I' w∧aV I I'∧(∀ w,aj w I'→∀ u ∈ b,aj w (F u))∧∀ u,u ∉ b→F' u=F u
 | [],M,F,I,R,_=>⟨F,I,R,aV.refl I,fun _ _ u hu=>by simp at hu,fun _ _=>rfl⟩
 | u::r,M,F,I,R,hb=>by
  have hu:=hb u (by simp)
  have R1:=R.x.ec (List.getElem?_eq_getElem hu)
  rw [List.nil_append] at R1
  have R2:RM D w0 K0 (M.set u .dead) β (aF F u []) (F u++I) w:=
   ⟨R1.len,fun v bl hv=>(R1.blk v bl hv).mono (fun w hw=>⟨hw.1,(aj.app.1 hw.2).2⟩) (Ext.refl _),R1.st.perm (List.Perm.append_left _ List.perm_append_comm)⟩
  obtain ⟨F',I',R3,g,h1,h2⟩:=R2.die (b:=r) (fun v hv=>by rw [List.length_set];exact hb v (by simp [hv]))
  refine ⟨F',I',R3,(show aV I (F u++I) from ⟨F u,rfl⟩).trans g,fun w hw v hv=>?_,fun v hv=>?_⟩
  ·by_cases e:v=u
   ·subst e;exact (aj.app.1 (g.holds w hw)).1
   ·have:=h1 w hw v ((List.mem_cons.1 hv).resolve_left e)
    simpa [aF,e] using this
  ·simp only [List.mem_cons,not_or] at hv
   rw [h2 v hv.2];simp only [aF];rw [if_neg hv.1]
def CG (P:Program) (E:List (Nat×AV)) (M:List ae) (oc:Option aS) (g:Operand) (args:Array Operand):Option Out:=
 match aB E g,jN E args.toList,oc with
 | some (.fn f bQ),some l,some (.stay told x)=>(match pK M (l++bQ) told with
  | some (vc,b)=>bif ml x&&pN M b then some ⟨cb P f told x::vc,(oR (jf M b) x).1,(oR (jf M b) x).2,b,[],none⟩ else none
  | none=>none)
 | _,_,_=>none
theorem UB {g:Operand} {args:Array Operand} {dW:Array TypeId} (h:CG P E M oc g args=some out):aA P ⟨d,.call ⟨.value g,args,dW⟩,ty,pos,aft,gd⟩ E M out:=by
 unfold CG at h
 split at h
 ·rename_i f bQ l told x hg hl
  split at h
  ·rename_i vc b Dg
   cases eQ:(ml x&&pN M b) with
   | false=>simp [eQ] at h
   | true=>
    simp only [eQ,cond_true,Option.some.injEq] at h;subst h
    simp only [Bool.and_eq_true] at eQ
    have hb:=Br eQ.2
    intro D w0 K0 β F I ρ w C hv
    obtain ⟨e6,hv⟩:=hv
    obtain ⟨y,hy,r⟩:=C.aJ hg
    cases r with
    | fn cs bC gk=>
     obtain ⟨dY,jr⟩:=C.l3 hl
     have dj:(args.toList.map ρ++cs).length=(l++bQ).length:=by rw [List.length_append,List.length_append,dY,bC]
     have p6:∀ (j:Nat) c y,(l++bQ)[j]?=some c→(args.toList.map ρ++cs)[j]?=some y→au (fun w=>K0 w∧aj w I) β c y:=by
      intro j c y h1 h2
      rcases Nat.lt_or_ge j l.length with hj | hj
      ·rw [List.getElem?_append_left hj] at h1
       rw [List.getElem?_append_left (by omega)] at h2
       exact jr j c y h1 h2
      ·rw [List.getElem?_append_right hj] at h1
       rw [List.getElem?_append_right (by omega),dY] at h2
       exact gk _ c y h1 h2
     obtain ⟨F1,I1,R1,g1,aQ,jt⟩:=C.rm.die hb
     obtain ⟨e1,e2⟩:=Bd C.rm (K':=fZ K0 I1 F1 []) Dg hv (fun w hw=>⟨⟨hw.1.1,g1.holds w hw.1.2⟩,aQ w hw.1.2⟩) dj p6
     have hm:args.map ρ=(args.toList.map ρ).toArray:=by rw [← Array.toList_map]
     refine tJ hy e6.1 hm ?_
     have kN:((args.toList.map ρ).toArray++cs.toArray:Array Value)=(args.toList.map ρ++cs).toArray:=by simp
     rw [kN]
     refine (e6.now R1 C.k (b:=[]) (by simp) e1 e2 (fun h=>absurd rfl h)).mono ?_
     rintro e w' ⟨v,rfl,I',X,R,hI,hd⟩
     refine ⟨v,rfl,?_⟩
     have R':bq D w0 K0 (jf M b) β F1 I' (X++[]) w':=by rw [List.append_nil];exact R
     obtain ⟨β',F',R2,e,f2,-,a2⟩:=CA eQ.1 R' hd
     exact ⟨β',F',I',R2.nil rfl,e.b _,g1.trans hI,fun u hu Gb=>(f2 u (by rw [II];exact hu)).trans (jt u Gb),a2⟩
  ·simp at h
 ·simp at h
end Go.Proofs.YtkheephfkbpchaaGreatDoor
namespace Go.Proofs.YtkheephfkbpchaaGreatDoor
open Go.RowKit
variable {mk:Bool} {P:Program} {T:aC} {f:FuncId} {w:World} {D:List Nat} {w0:World} {K0:World→Prop} {E:List (Nat×AV)} {M:List ae} {β:Beta} {F:Nat→ai} {I X:ai} {ρ:Operand→Value}
variable {d:Option Tmp} {ty:TypeId} {pos:String} {aft:Array Edge} {gd:Option (Nat×Bool)} {oc:Option aS} {out:Out}
def jg:List Nat→Nat→Option Nat
 | [],_=>none
 | k::r,u=>bif k.beq u then some 0 else (match jg r u with | some i=>some (i+1) | none=>none)
theorem lz:∀ {l:List Nat} {u i:Nat},jg l u=some i→l[i]?=some u
 | [],u,i,h=>by simp [jg] at h
 | k::r,u,i,h=>by
  unfold jg at h
  cases hk:k.beq u with
  | true=>simp only [hk,cond_true,Option.some.injEq] at h;subst h;simp [Nat.eq_of_beq_eq_true hk]
  | false=>
   simp only [hk,cond_false] at h
   split at h
   ·rename_i j hj;simp only [Option.some.injEq] at h;subst h;simpa using lz hj
   ·simp at h
def zu (l:List Nat):AV→Option AV
 | .d x=>some (.d x)
 | .sl u n=>(match jg l u with | some v=>some (.sl v n) | none=>none)
 | .pt u o=>(match jg l u with | some v=>some (.pt v o) | none=>none)
 | .mv u=>(match jg l u with | some v=>some (.mv v) | none=>none)
 | .yl u=>(match jg l u with | some v=>some (.yl v) | none=>none)
 | .sb u k o n=>(match jg l u with | some v=>some (.sb v k o n) | none=>none)
 | .ep u k i o=>(match jg l u with | some v=>some (.ep v k i o) | none=>none)
 | .sf u k o n q=>(match jg l u with | some v=>some (.sf v k o n q) | none=>none)
 | .rp r o=>some (.rp r o)
 | .bt bs=>some (.bt bs)
 | .uk=>some .uk
 | _=>none
def pQ (l:List Nat):List AV→Option (List AV)
 | []=>some []
 | c::r=>(match zu l c,pQ l r with | some c',some r'=>some (c'::r') | _,_=>none)
def u2 (l:List Nat):AV→Option AV
 | .fn f cs=>(match pQ l cs with | some bD=>some (.fn f bD) | none=>none)
 | .ag cs=>(match pQ l cs with | some bD=>some (.ag bD) | none=>none)
 | .tu cs=>(match pQ l cs with | some bD=>some (.tu bD) | none=>none)
 | c=>zu l c
def lF (l:List Nat):List AV→Option (List AV)
 | []=>some []
 | c::r=>(match u2 l c,lF l r with | some c',some r'=>some (c'::r') | _,_=>none)
def u3 (l:List Nat):List (Nat×AV)→Option (List (Nat×AV))
 | []=>some []
 | (t,c)::r=>(match u2 l c,u3 l r with | some c',some r'=>some ((t,c')::r') | _,_=>none)
def zw (l:List Nat):ae→Option ae
 | .bx T cs=>(match lF l cs with | some bD=>some (.bx T bD) | none=>none)
 | .rw T k rows=>some (.rw T k rows)
 | .tw a c T k rows=>some (.tw a c T k rows)
 | .nm v b=>(match jg l v with | some i=>some (.nm i b) | none=>none)
 | .gw g row=>some (.gw g row)
 | .fl T k m cs=>(match lF l cs with | some bD=>some (.fl T k m bD) | none=>none)
 | .mf _ _ _=>none
 | .il _ _ _ _=>none
 | .mp T c es=>some (.mp T c es)
 | .mu T c es=>some (.mu T c es)
 | .it (some v) a s c=>(match jg l v with | some i=>some (.it (some i) a s c) | none=>none)
 | .it none a s c=>some (.it none a s c)
 | .lp b f sz E rf=>(match u3 l E with | some E'=>some (.lp b f sz E' rf) | none=>none)
 | .dead=>some .dead
def jh (l:List Nat) (M:List ae):List Nat→Option (List ae)
 | []=>some []
 | u::r=>(match M[u]? with
  | some b=>(match zw l b,jh l M r with | some b',some r'=>some (b'::r') | _,_=>none)
  | none=>none)
def zx (l:List Nat):AV→Option AV
 | .ag cs=>(match lF l cs with | some bD=>some (.ag bD) | none=>none)
 | .tu cs=>(match lF l cs with | some bD=>some (.tu bD) | none=>none)
 | c=>u2 l c
def mC (l:List Nat) (E:List (Nat×AV)):List Nat→Option (List (Nat×AV))
 | []=>some []
 | t::r=>(match a8 E t with
  | some v=>(match zx l v,mC l E r with | some v',some r'=>some ((t,v')::r') | _,_=>none)
  | none=>none)
def ea (β:Beta):List Nat→Beta
 | []=>[]
 | u::r=>(match β[u]? with | some x=>x | none=>(none,0))::ea β r
theorem eN:∀ {l:List Nat} {i u:Nat} {x:Option Addr×Nat},l[i]?=some u→β[u]?=some x→(ea β l)[i]?=some x
 | [],i,u,x,h,_=>by simp at h
 | v::r,i,u,x,h,hx=>by
  cases i with
  | zero=>simp at h;subst h;simp [ea,hx]
  | succ i=>simp at h;simpa [ea] using eN h hx
theorem AW (β:Beta) (l:List Nat):(ea β l).length=l.length:=by induction l with | nil=>rfl | cons u r ih=>simp [ea,ih]
theorem JU {K:World→Prop} {l:List Nat} {c c':AV} (h:zu l c=some c') {y:Value} (r:au K β c y):au K (ea β l) c' y:=by
 unfold zu at h
 split at h
 ·simp only [Option.some.injEq] at h;subst h;cases r with | d r=>exact .d r
 ·split at h
  ·rename_i hv;simp only [Option.some.injEq] at h;subst h;cases r with | sl hb=>exact .sl (eN (lz hv) hb)
  ·simp at h
 ·split at h
  ·rename_i hv;simp only [Option.some.injEq] at h;subst h;cases r with | pt hb=>exact .pt (eN (lz hv) hb)
  ·simp at h
 ·split at h
  ·rename_i hv;simp only [Option.some.injEq] at h;subst h;cases r with | mv hb=>exact .mv (eN (lz hv) hb)
  ·simp at h
 ·split at h
  ·rename_i hv;simp only [Option.some.injEq] at h;subst h;cases r with | yl hb=>exact .yl (eN (lz hv) hb)
  ·simp at h
 ·split at h
  ·rename_i hv;simp only [Option.some.injEq] at h;subst h;cases r with | sb hb=>exact .sb (eN (lz hv) hb)
  ·simp at h
 ·split at h
  ·rename_i hv;simp only [Option.some.injEq] at h;subst h;cases r with | ep hb=>exact .ep (eN (lz hv) hb)
  ·simp at h
 ·split at h
  ·rename_i hv;simp only [Option.some.injEq] at h;subst h;cases r with | sf hb h1 h2 h3=>exact .sf (eN (lz hv) hb) h1 h2 h3
  ·simp at h
 ·simp only [Option.some.injEq] at h;subst h;cases r with | rp a X hl hc hr=>exact .rp a X hl hc hr
 ·simp only [Option.some.injEq] at h;subst h;cases r with | bt hd hn=>exact .bt hd hn
 ·simp only [Option.some.injEq] at h;subst h;cases r with | uk hu=>exact .uk hu
 ·simp at h
theorem wU {K:World→Prop} {l:List Nat}:∀ {cs bD:List AV},pQ l cs=some bD→bD.length=cs.length∧∀ {ys:List Value},(∀ (j:Nat) c y,cs[j]?=some c→ys[j]?=some y→au K β c y)→∀ (j:Nat) c y,bD[j]?=some c→ys[j]?=some y→au K (ea β l) c y
 | [],bD,h=>by simp only [pQ,Option.some.injEq] at h;subst h;simp
 | c::r,bD,h=>by
  unfold pQ at h
  split at h
  ·rename_i c1 r1 h1 h2
   simp only [Option.some.injEq] at h;subst h
   obtain ⟨e1,e2⟩:=wU (K:=K) h2
   refine ⟨by simp [e1],fun {ys} hr j d y h3 h4=>?_⟩
   cases ys with
   | nil=>simp at h4
   | cons z zs=>
    cases j with
    | zero=>simp at h3 h4;subst h3 h4;exact JU h1 (hr 0 _ _ rfl rfl)
    | succ j=>simp at h3 h4;exact e2 (ys:=zs) (fun j c y h5 h6=>hr (j+1) c y (by simpa using h5) (by simpa using h6)) j d y h3 h4
  ·simp at h
theorem B1 {K:World→Prop} {l:List Nat} {c c':AV} (h:u2 l c=some c') {y:Value} (r:au K β c y):au K (ea β l) c' y:=by
 unfold u2 at h
 split at h
 ·split at h
  ·rename_i hl;simp only [Option.some.injEq] at h;subst h
   cases r with | fn ys cH hr=>obtain ⟨e1,e2⟩:=wU (β:=β) (K:=K) hl;exact .fn ys (by omega) (e2 hr)
  ·simp at h
 ·split at h
  ·rename_i hl;simp only [Option.some.injEq] at h;subst h
   cases r with | ag ys cH hr=>obtain ⟨e1,e2⟩:=wU (β:=β) (K:=K) hl;exact .ag ys (by omega) (e2 hr)
  ·simp at h
 ·split at h
  ·rename_i hl;simp only [Option.some.injEq] at h;subst h
   cases r with | tu ys cH hr=>obtain ⟨e1,e2⟩:=wU (β:=β) (K:=K) hl;exact .tu ys (by omega) (e2 hr)
  ·simp at h
 ·exact JU h r
theorem q5 {K:World→Prop} {l:List Nat}:∀ {cs bD:List AV},lF l cs=some bD→bD.length=cs.length∧∀ {ys:List Value},(∀ (j:Nat) c y,cs[j]?=some c→ys[j]?=some y→au K β c y)→∀ (j:Nat) c y,bD[j]?=some c→ys[j]?=some y→au K (ea β l) c y
 | [],bD,h=>by simp only [lF,Option.some.injEq] at h;subst h;simp
 | c::r,bD,h=>by
  unfold lF at h
  split at h
  ·rename_i c1 r1 h1 h2
   simp only [Option.some.injEq] at h;subst h
   obtain ⟨e1,e2⟩:=q5 (K:=K) h2
   refine ⟨by simp [e1],fun {ys} hr j d y h3 h4=>?_⟩
   cases ys with
   | nil=>simp at h4
   | cons z zs=>
    cases j with
    | zero=>simp at h3 h4;subst h3 h4;exact B1 h1 (hr 0 _ _ rfl rfl)
    | succ j=>simp at h3 h4;exact e2 (ys:=zs) (fun j c y h5 h6=>hr (j+1) c y (by simpa using h5) (by simpa using h6)) j d y h3 h4
  ·simp at h
theorem JV {K:World→Prop} {l:List Nat} {c c':AV} (h:zx l c=some c') {y:Value} (r:au K β c y):au K (ea β l) c' y:=by
 unfold zx at h
 split at h
 ·split at h
  ·rename_i hl;simp only [Option.some.injEq] at h;subst h
   cases r with | ag ys cH hr=>obtain ⟨e1,e2⟩:=q5 (β:=β) (K:=K) hl;exact .ag ys (by omega) (e2 hr)
  ·simp at h
 ·split at h
  ·rename_i hl;simp only [Option.some.injEq] at h;subst h
   cases r with | tu ys cH hr=>obtain ⟨e1,e2⟩:=q5 (β:=β) (K:=K) hl;exact .tu ys (by omega) (e2 hr)
  ·simp at h
 ·exact B1 h r
theorem JW {K:World→Prop} {l:List Nat} {g:Nat→Value}:∀ {E E':List (Nat×AV)},u3 l E=some E'→(∀ x ∈ E,au K β x.2 (g x.1))→∀ x ∈ E',au K (ea β l) x.2 (g x.1)
 | [],E',h,_,x,hx=>by simp only [u3,Option.some.injEq] at h;subst h;cases hx
 | (t,c)::r,E',h,hr,x,hx=>by
  unfold u3 at h
  split at h
  ·rename_i c1 r1 h1 h2
   simp only [Option.some.injEq] at h;subst h
   rcases List.mem_cons.1 hx with rfl | hx
   ·exact B1 h1 (hr (t,c) List.mem_cons_self)
   ·exact JW h2 (fun y hy=>hr y (List.mem_cons_of_mem _ hy)) x hx
  ·simp at h
theorem B2 {K:World→Prop} {l:List Nat} {u i:Nat} {b b':ae} {H:ai} (hi:l[i]?=some u) (h:zw l b=some b') (r:bf K β u b H):bf K (ea β l) i b' H:=by
 unfold zw at h
 split at h
 ·split at h
  ·rename_i hl;simp only [Option.some.injEq] at h;subst h
   cases r with
   | bx hb ys cH hr=>obtain ⟨e1,e2⟩:=q5 (β:=β) (K:=K) hl;exact .bx (eN hi hb) ys (by omega) (e2 hr)
  ·simp at h
 ·simp only [Option.some.injEq] at h;subst h
  cases r with | rw hb X G hl hs hr=>exact .rw (eN hi hb) X G hl hs hr
 ·simp only [Option.some.injEq] at h;subst h
  cases r with | tw hb X G hl hs hr=>exact .tw (eN hi hb) X G hl hs hr
 ·split at h
  ·rename_i hv;simp only [Option.some.injEq] at h;subst h
   cases r with | nm hb=>exact .nm (eN (lz hv) hb)
  ·simp at h
 ·simp only [Option.some.injEq] at h;subst h
  cases r with | gw X hl hc hr=>exact .gw X hl hc hr
 ·split at h
  ·rename_i hl;simp only [Option.some.injEq] at h;subst h
   cases r with
   | fl hb ys cH hm hc hr=>obtain ⟨e1,e2⟩:=q5 (β:=β) (K:=K) hl;exact .fl (eN hi hb) ys cH (by omega) hc (e2 hr)
  ·simp at h
 ·simp at h
 ·simp at h
 ·simp only [Option.some.injEq] at h;subst h
  cases r with | mp hb vs G hl hr=>exact .mp (eN hi hb) vs G hl hr
 ·simp only [Option.some.injEq] at h;subst h
  cases r with | mu fo hp hn aG hb vs G hl hr=>exact .mu fo hp hn aG (eN hi hb) vs G hl hr
 ·split at h
  ·rename_i hv;simp only [Option.some.injEq] at h;subst h
   cases r with
   | @it b bm c since ck um seen hb hm=>
    obtain ⟨c',h'⟩:=hm _ rfl
    exact .it (bm:=bm) (eN hi hb) (fun v' cR=>by cases cR;exact ⟨c',eN (lz hv) h'⟩)
  ·simp at h
 ·simp only [Option.some.injEq] at h;subst h
  cases r with
  | @it b bm c since ck um seen hb hm=>exact .it (bm:=bm) (eN hi hb) (fun v' cR=>by cases cR)
 ·split at h
  ·rename_i hp;simp only [Option.some.injEq] at h;subst h
   cases r with | @lp b c f sz oN bz E rf tmps hb aP hr=>exact .lp (eN hi hb) aP (JW (g:=fun t=>tmps.getD t undef) hp hr)
  ·simp at h
 ·simp only [Option.some.injEq] at h;subst h
  cases r with | dead=>exact .dead i
theorem tY {l:List Nat}:∀ {k:List Nat} {M':List ae},jh l M k=some M'→M'.length=k.length∧∀ (i:Nat) b,M'[i]?=some b→∃ u b0,k[i]?=some u∧M[u]?=some b0∧zw l b0=some b
 | [],M',h=>by simp only [jh,Option.some.injEq] at h;subst h;simp
 | u::r,M',h=>by
  unfold jh at h
  split at h
  ·rename_i b hb
   split at h
   ·rename_i b' r' h1 h2
    simp only [Option.some.injEq] at h;subst h
    obtain ⟨e1,e2⟩:=tY h2
    refine ⟨by simp [e1],fun i c hc=>?_⟩
    cases i with
    | zero=>simp at hc;subst hc;exact ⟨u,b,rfl,hb,h1⟩
    | succ i=>simp at hc;simpa using e2 i c hc
   ·simp at h
  ·simp at h
theorem B3 {K:World→Prop} {l:List Nat} {ρ:Operand→Value} (hs:∀ t v,a8 E t=some v→au K β v (ρ (.tmp t))):∀ {ts:List Nat} {E':List (Nat×AV)},mC l E ts=some E'→∀ t v,a8 E' t=some v→au K (ea β l) v (ρ (.tmp t))
 | [],E',h,t,v,hv=>by simp only [mC,Option.some.injEq] at h;subst h;simp [a8] at hv
 | s::r,E',h,t,v,hv=>by
  unfold mC at h
  split at h
  ·rename_i u hu
   split at h
   ·rename_i u' r' h1 h2
    simp only [Option.some.injEq] at h;subst h
    unfold a8 at hv
    cases hk:s.beq t with
    | true=>
     simp only [hk,cond_true,Option.some.injEq] at hv;subst hv
     rw [← Nat.eq_of_beq_eq_true hk];exact JV h1 (hs s u hu)
    | false=>simp only [hk,cond_false] at hv;exact B3 hs h2 t v hv
   ·simp at h
  ·simp at h
theorem Bu:∀ {l:List Nat} {M:List ae} {F:Nat→ai} {X:ai},l.Nodup→(∀ u ∈ l,u<M.length)→bq D w0 K0 M β F I X w→∃ rest,St D w0 w (rest++(I++(X++l.flatMap F)))
 | [],M,F,X,_,_,R=>⟨_,by simpa using R.st⟩
 | u::r,M,F,X,hn,hl,R=>by
  have hu:=hl u (by simp)
  have R':=R.ec (List.getElem?_eq_getElem hu)
  simp only [List.nodup_cons] at hn
  obtain ⟨rest,h⟩:=Bu hn.2 (fun v hv=>by rw [List.length_set];exact hl v (by simp [hv])) R'
  refine ⟨rest,?_⟩
  have:r.flatMap (aF F u [])=r.flatMap F:=eG fun v hv=>by
   simp only [aF];rw [if_neg (fun e=>hn.1 (by rw [← e];exact hv))]
  rw [this] at h
  rw [List.flatMap_cons]
  simpa [List.append_assoc] using h
def nI (F:Nat→ai) (l:List Nat) (i:Nat):ai:=match l[i]? with | some u=>F u | none=>[]
theorem Bv {F:Nat→ai} {l:List Nat} {i u:Nat} (h:l[i]?=some u):nI F l i=F u:=by simp [nI,h]
theorem wV (F:Nat→ai):∀ (l:List Nat),(List.range l.length).flatMap (nI F l)=l.flatMap F
 | []=>by simp
 | u::r=>by
  rw [List.length_cons,wy,List.flatMap_cons]
  congr 1
  have:=wV F r
  exact this
def nodupB:List Nat→Bool
 | []=>true
 | u::r=>!(r.elem u)&&nodupB r
theorem jB:∀ {l:List Nat},nodupB l=true→l.Nodup
 | [],_=>by simp
 | u::r,h=>by
  simp only [nodupB,Bool.and_eq_true,Bool.not_eq_true'] at h
  rw [List.nodup_cons]
  refine ⟨?_,jB h.2⟩
  intro hu;have:=h.1;simp [hu] at this
mutual
def mapA (σ:Nat→Nat):AV→AV
 | .d x=>.d x
 | .sl u n=>.sl (σ u) n
 | .pt u o=>.pt (σ u) o
 | .mv u=>.mv (σ u)
 | .yl u=>.yl (σ u)
 | .sb u k o n=>.sb (σ u) k o n
 | .sf u k o n q=>.sf (σ u) k o n q
 | .ep u k i o=>.ep (σ u) k i o
 | .rp r o=>.rp r o
 | .bt bs=>.bt bs
 | .uk=>.uk
 | .fn f l=>.fn f (ji σ l)
 | .fm f l=>.fm f (ji σ l)
 | .ag l=>.ag (ji σ l)
 | .tu l=>.tu (ji σ l)
def ji (σ:Nat→Nat):List AV→List AV
 | []=>[]
 | c::r=>mapA σ c::ji σ r
end
theorem fe (σ:Nat→Nat) (l:List AV):ji σ l=l.map (mapA σ):=by induction l with | nil=>rfl | cons c r ih=>rw [ji,ih];rfl
theorem rj {K:World→Prop} {β β':Beta} {σ:Nat→Nat} (h:∀ (u:Nat) x,β[u]?=some x→β'[σ u]?=some x) {v:AV} {y:Value} (r:au K β v y):au K β' (mapA σ v) y:=by
 have key:∀ {l:List AV} {ys:List Value},(∀ (j:Nat) c y,l[j]?=some c→ys[j]?=some y→au K β' (mapA σ c) y)→∀ (j:Nat) c y,(ji σ l)[j]?=some c→ys[j]?=some y→au K β' c y:=by
  intro l ys hh j c y h1 h2
  rw [fe,List.getElem?_map,Option.map_eq_some_iff] at h1
  obtain ⟨c',h1,rfl⟩:=h1
  exact hh j c' y h1 h2
 induction r with
 | d h=>exact .d h
 | sl hb=>exact .sl (h _ _ hb)
 | pt hb=>exact .pt (h _ _ hb)
 | mv hb=>exact .mv (h _ _ hb)
 | yl hb=>exact .yl (h _ _ hb)
 | sb hb=>exact .sb (h _ _ hb)
 | sf hb h1 h2 h3=>exact .sf (h _ _ hb) h1 h2 h3
 | ep hb=>exact .ep (h _ _ hb)
 | rp a X hl hc hr=>exact .rp a X hl hc hr
 | bt hd hn=>exact .bt hd hn
 | uk hu=>exact .uk hu
 | fn ys hl hr ih=>exact .fn ys (by rw [fe,List.length_map];exact hl) (key ih)
 | fm ys hl hr ih=>exact .fm ys (by rw [fe,List.length_map];exact hl) (key ih)
 | ag ys hl hr ih=>exact .ag ys (by rw [fe,List.length_map];exact hl) (key ih)
 | tu ys hl hr ih=>exact .tu ys (by rw [fe,List.length_map];exact hl) (key ih)
def ef (σ:Nat→Nat):ae→ae
 | .bx T cs=>.bx T (ji σ cs)
 | .rw T k rows=>.rw T k rows
 | .tw a c T k rows=>.tw a c T k rows
 | .nm v b=>.nm (σ v) b
 | .gw g row=>.gw g row
 | .fl T k m cs=>.fl T k m (ji σ cs)
 | .mf T c es=>.mf T c (es.map fun e=>(e.1,e.2.1,mapA σ e.2.2))
 | .il um s l c=>.il (um.map σ) s l c
 | .mp T c es=>.mp T c es
 | .mu T c es=>.mu T c es
 | .it um a s c=>.it (um.map σ) a s c
 | .lp b f sz E rf=>.lp b f sz (E.map fun x=>(x.1,mapA σ x.2)) rf
 | .dead=>.dead
theorem xm {K:World→Prop} {β β':Beta} {σ:Nat→Nat} (h:∀ (u:Nat) x,β[u]?=some x→β'[σ u]?=some x) {u:Nat} {b:ae} {H:ai} (r:bf K β u b H):bf K β' (σ u) (ef σ b) H:=by
 cases r with
 | dead=>exact .dead _
 | bx hb ys hl hr=>
  refine .bx (h _ _ hb) ys (by rw [fe,List.length_map];exact hl) fun j c y h1 h2=>?_
  rw [fe,List.getElem?_map,Option.map_eq_some_iff] at h1
  obtain ⟨c',h1,rfl⟩:=h1
  exact rj h (hr j c' y h1 h2)
 | rw hb X G hl hs hr=>exact .rw (h _ _ hb) X G hl hs hr
 | tw hb X G hl hs hr=>exact .tw (h _ _ hb) X G hl hs hr
 | nm hb=>exact .nm (h _ _ hb)
 | gw X hl hc hr=>exact .gw X hl hc hr
 | fl hb ys hl hm hc hr=>
  refine .fl (h _ _ hb) ys hl (by rw [fe,List.length_map];exact hm) hc fun j c y h1 h2=>?_
  rw [fe,List.getElem?_map,Option.map_eq_some_iff] at h1
  obtain ⟨c',h1,rfl⟩:=h1
  exact rj h (hr j c' y h1 h2)
 | @mf _ _ Tm qs vD hb vs hl hr=>
  have hh:=bf.mf (K:=K) (T:=Tm) (ck:=qs) (u:=σ u) (h _ _ hb) vs (by rw [List.length_map];exact hl) (es:=List.map (fun (e:Nat×MK×AV)=>(e.1,e.2.1,mapA σ e.2.2)) vD) (fun j c y h1 h2=>by
   rw [List.getElem?_map,Option.map_eq_some_iff] at h1
   obtain ⟨c',h1,rfl⟩:=h1
   exact rj h (hr j c' y h1 h2))
  rw [wN (fun (e:Nat×MK×AV)=>(e.1,e.2.1,mapA σ e.2.2)) (fun _=>⟨rfl,rfl⟩)] at hh
  exact hh
 | mp hb vs G hl hr=>exact .mp (h _ _ hb) vs G hl hr
 | mu fo hp hn aG hb vs G hl hr=>exact .mu fo hp hn aG (h _ _ hb) vs G hl hr
 | lp hb aP hr=>
  refine .lp (h _ _ hb) aP fun x hx=>?_
  obtain ⟨x0,s4,rfl⟩:=List.mem_map.1 hx
  exact rj h (hr x0 s4)
 | @il b bm c since last ck um seen hb hm=>
  refine .il (bm:=bm) (seen:=seen) (h _ _ hb) (fun v hv=>?_)
  cases um with
  | none=>cases hv
  | some v0=>cases hv;obtain ⟨c',h'⟩:=hm v0 rfl;exact ⟨c',h _ _ h'⟩
 | @it b bm c since ck um seen hb hm=>
  refine .it (bm:=bm) (h _ _ hb) (fun v hv=>?_)
  cases um with
  | none=>cases hv
  | some v0=>cases hv;obtain ⟨c',h'⟩:=hm v0 rfl;exact ⟨c',h _ _ h'⟩
def jH (M:List ae):List Nat→List ae
 | []=>M
 | u::r=>jH (M.set u .dead) r
theorem Ii:∀ (l:List Nat) (M:List ae),(jH M l).length=M.length
 | [],_=>rfl
 | u::r,M=>by rw [jH,Ii r,List.length_set]
theorem Ij:∀ {l:List Nat} {M:List ae} {F:Nat→ai} {X:ai},l.Nodup→(∀ u ∈ l,u<M.length)→bq D w0 K0 M β F I X w→
  ∃ F0,bq D w0 K0 (jH M l) β F0 I (X++l.flatMap F) w∧(∀ u ∈ l,F0 u=[])∧∀ u,u ∉ l→F0 u=F u
 | [],M,F,X,_,_,R=>⟨F,by simpa [jH] using R,by simp,fun _ _=>rfl⟩
 | u::r,M,F,X,hn,hl,R=>by
  have hu:=hl u (by simp)
  have R':=R.ec (List.getElem?_eq_getElem hu)
  simp only [List.nodup_cons] at hn
  obtain ⟨F0,h1,h2,h3⟩:=Ij hn.2 (fun v hv=>by rw [List.length_set];exact hl v (by simp [hv])) R'
  have:r.flatMap (aF F u [])=r.flatMap F:=eG fun v hv=>by
   simp only [aF];rw [if_neg (fun e=>hn.1 (by rw [← e];exact hv))]
  rw [this] at h1
  refine ⟨F0,by rw [List.flatMap_cons,← List.append_assoc];exact h1,fun v hv=>?_,fun v hv=>?_⟩
  ·rcases List.mem_cons.1 hv with e | e
   ·subst e;rw [h3 v hn.1];simp [aF]
   ·exact h2 v e
  ·simp only [List.mem_cons,not_or] at hv
   rw [h3 v hv.2];simp only [aF];rw [if_neg hv.1]
theorem bq.put {X Y:ai} (R:bq D w0 K0 M β F I (X++Y) w) {u:Nat} (hu:u<M.length) (hF:F u=[]) {blk:ae} (hb:bf (fun w=>K0 w∧aj w I) β u blk X):
  bq D w0 K0 (M.set u blk) β (aF F u X) I Y w where
 len:=by rw [List.length_set];exact R.len
 blk:=by
  intro v bl hv
  rw [List.getElem?_set] at hv
  by_cases e:u=v
  ·subst e
   simp only [hu,if_pos,Option.some.injEq] at hv;subst hv
   simpa [aF] using hb
  ·rw [if_neg e] at hv
   have:aF F u X v=F v:=by simp only [aF];rw [if_neg (fun h=>e h.symm)]
   rw [this];exact R.blk v bl hv
 st:=by
  have hs:=R.st
  rw [List.length_set,range_split hu]
  rw [range_split hu,hF] at hs
  have c1:(List.range u).flatMap (aF F u X)=(List.range u).flatMap F:=eG fun a ha=>by have:=List.mem_range.1 ha;simp [aF];omega
  have c2:(List.range' (u+1) (M.length-(u+1))).flatMap (aF F u X)=(List.range' (u+1) (M.length-(u+1))).flatMap F:=eG fun a ha=>by have:=(List.mem_range'_1.1 ha).1;simp [aF];omega
  have cS:aF F u X u=X:=by simp [aF]
  rw [c1,c2,cS]
  exact hs.perm (by classical rw [List.perm_iff_count];intro z;simp only [List.count_append,List.count_nil];omega)
def nU (M:List ae):List Nat→List ae→List ae
 | u::r,b::bs=>nU (M.set u b) r bs
 | _,_=>M
theorem IJ:∀ {l:List Nat} {bs:List ae} {M:List ae} {F:Nat→ai} {G:Nat→ai} {Y:ai},l.Nodup→bs.length=l.length→(∀ u ∈ l,u<M.length)→(∀ u ∈ l,F u=[])→
  bq D w0 K0 M β F I ((List.range l.length).flatMap G++Y) w→(∀ (i u:Nat) b,l[i]?=some u→bs[i]?=some b→bf (fun w=>K0 w∧aj w I) β u b (G i))→
  ∃ F',bq D w0 K0 (nU M l bs) β F' I Y w∧∀ u,u ∉ l→F' u=F u
 | [],[],M,F,G,Y,_,_,_,_,R,_=>⟨F,by simpa [nU] using R,fun _ _=>rfl⟩
 | [],_::_,_,_,_,_,_,h,_,_,_,_=>by simp at h
 | _::_,[],_,_,_,_,_,h,_,_,_,_=>by simp at h
 | u::r,b::bs,M,F,G,Y,hn,hl,aG,hF,R,hb=>by
  simp only [List.nodup_cons] at hn
  rw [List.length_cons,wy,List.append_assoc] at R
  have R1:=R.put (aG u (by simp)) (hF u (by simp)) (hb 0 u b rfl rfl)
  obtain ⟨F',h1,h2⟩:=IJ (l:=r) (bs:=bs) (G:=fun i=>G (i+1)) hn.2 (by simpa using hl) (fun v hv=>by rw [List.length_set];exact aG v (by simp [hv])) (fun v hv=>by
   simp only [aF];rw [if_neg (fun e=>hn.1 (by rw [← e];exact hv))];exact hF v (by simp [hv])) R1 (fun i v c h3 h4=>hb (i+1) v c (by simpa using h3) (by simpa using h4))
  refine ⟨F',h1,fun v hv=>?_⟩
  simp only [List.mem_cons,not_or] at hv
  rw [h2 v hv.2];simp only [aF];rw [if_neg hv.1]
theorem VB {bs:List ae} {γ:Beta} {G:Nat→ai} {Y:ai} (hl:γ.length=bs.length) (R:bq D w0 K0 M β F I ((List.range bs.length).flatMap G++Y) w) (hb:∀ (i:Nat) b,bs[i]?=some b→bf (fun w=>K0 w∧aj w I) (β++γ) (M.length+i) b (G i)):
  ∃ F',bq D w0 K0 (M++bs) (β++γ) F' I Y w∧∀ u,u<M.length→F' u=F u:=by
 refine ⟨fun u=>if u<M.length then F u else G (u-M.length),⟨by simp [R.len,hl],fun u b hu=>?_,?_⟩,fun u hu=>by simp [hu]⟩
 ·rcases Nat.lt_or_ge u M.length with h | h
  ·rw [List.getElem?_append_left h] at hu
   simp only [h,if_true]
   exact (R.blk u b hu).mono (fun _ h=>h) (Ext.app _ _)
  ·rw [List.getElem?_append_right h] at hu
   have hn:¬ u<M.length:=by omega
   simp only [hn,if_false]
   have:=hb (u-M.length) b hu
   rwa [show M.length+(u-M.length)=u by omega] at this
 ·rw [List.length_append,List.range_add,List.flatMap_append,List.flatMap_map]
  have e1:(List.range M.length).flatMap (fun u=>if u<M.length then F u else G (u-M.length))=(List.range M.length).flatMap F:=eG fun u hu=>by have:=List.mem_range.1 hu;simp [this]
  have e2:(List.range bs.length).flatMap (fun i=>if M.length+i<M.length then F (M.length+i) else G (M.length+i-M.length))=(List.range bs.length).flatMap G:=eG fun i hi=>by
   rw [if_neg (by omega),Nat.add_sub_cancel_left]
  rw [e1,e2]
  exact R.st.perm (by classical rw [List.perm_iff_count];intro z;simp only [List.count_append];omega)
def bJ (P:Program) (f:FuncId) (args:List AV) (M:List ae) (x:AV) (M':List ae):Prop:=
 eu P f=true∧∀ {D:List Nat} {w0:World} {K0:World→Prop} {β:Beta} {F:Nat→ai} {I:ai} {w:World} (ys:List Value),RM D w0 K0 M β F I w→(∀ w,Kp D w0 w→K0 w)→ys.length=args.length→(∀ (j:Nat) c y,args[j]?=some c→ys[j]?=some y→au (fun w=>K0 w∧aj w I) β c y)→
  Calls P f ys.toArray w fun e w'=>∃ v,e=.returned v∧∃ β' F' I',RM D w0 K0 M' β' F' I' w'∧Ext β β'∧aV I I'∧au (fun w=>K0 w∧aj w I') β' x v
def outer (l:List Nat) (n:Nat) (i:Nat):Nat:=match l[i]? with | some u=>u | none=>n+(i-l.length)
def Dn (P:Program) (E:List (Nat×AV)) (M:List ae) (oc:Option aS) (g:Operand) (args:Array Operand):Option Out:=
 match aB E g,jN E args.toList,oc with
 | some (.fn f bQ),some vs,some (.mem l x M')=>(match lF l (vs++bQ),jh l M l with
  | some told,some Ms=>bif nodupB l&&Nat.ble l.length M'.length then some ⟨[bJ P f told Ms x M'],mapA (outer l M.length) x,nU (jH M l++(M'.drop l.length).map (ef (outer l M.length))) l ((M'.take l.length).map (ef (outer l M.length))),l,[],none⟩ else none
  | _,_=>none)
 | _,_,_=>none
theorem AX (R:RM D w0 K0 M β F I w) (hK:∀ w,Kp D w0 w→K0 w) {f:FuncId} {vs:List AV} {ys:List Value} {l:List Nat} {told:List AV} {Ms M':List ae} {x:AV} (dj:ys.length=vs.length)
  (e1:told.length=vs.length) (e2:∀ (j:Nat) c y,told[j]?=some c→ys[j]?=some y→au (fun w=>K0 w∧aj w I) (ea β l) c y) (m1:Ms.length=l.length) (m2:∀ (i:Nat) b,Ms[i]?=some b→∃ u b0,l[i]?=some u∧M[u]?=some b0∧bf (fun w=>K0 w∧aj w I) (ea β l) i b (F u)) (dy:l.Nodup) (hle:l.length≤M'.length) (e6:bJ P f told Ms x M'):
  Calls P f ys.toArray w fun e w'=>∃ v,e=.returned v∧∃ β' F' I',RM D w0 K0 (nU (jH M l++(M'.drop l.length).map (ef (outer l M.length))) l ((M'.take l.length).map (ef (outer l M.length)))) β' F' I' w'∧dH [] β β'∧aV I I'∧(∀ u,u<M.length→u ∉ l→F' u=F u)∧au (fun w=>K0 w∧aj w I') β' (mapA (outer l M.length) x) v:=by
 have aG:∀ u ∈ l,u<M.length:=by
  intro u hu
  obtain ⟨i,hi,rfl⟩:=List.getElem_of_mem hu
  obtain ⟨u',b0,g1,g2,-⟩:=m2 i Ms[i] (List.getElem?_eq_getElem (by omega))
  rw [List.getElem?_eq_getElem hi,Option.some.injEq] at g1
  rw [g1];exact cM g2
 obtain ⟨F0,R0,hF0,jt⟩:=Ij dy aG R.x
 rw [List.nil_append] at R0
 have Gc:=Ii l M
 have hfi:=wV F l
 have An:St D w0 w (l.flatMap F++((List.range (jH M l).length).flatMap F0++I)):=R0.st.perm (by classical rw [List.perm_iff_count];intro z;simp only [List.count_append];omega)
 have hKk:∀ w',Kp (keys (l.flatMap F)) w w'→K0 w'∧aj w' I:=fun w' k=>by
  have t:St (keys (l.flatMap F)) w w' []:=⟨k,by simp [keys],by simp [keys],aj.nil _⟩
  have s':=St.call An rfl t
  rw [List.nil_append] at s'
  exact ⟨hK _ s'.kp,(aj.app.1 s'.holds).2⟩
 have RMs:RM (keys (l.flatMap F)) w (fun w=>K0 w∧aj w I) Ms (ea β l) (nI F l) [] w:=by
  refine ⟨by rw [AW,m1],fun i b hb=>?_,?_⟩
  ·obtain ⟨u,b0,g1,g2,g3⟩:=m2 i b hb
   rw [Bv g1]
   exact g3.mono (fun w hw=>hw.1) (Ext.refl _)
  ·rw [m1,hfi,List.append_nil]
   exact St.start An.tN.nd An.tN.holds
 refine (e6.2 _ RMs hKk (by omega) (fun j c y h1 h2=>(e2 j c y h1 h2).mono (fun w hw=>hw.1) (Ext.refl _))).mono ?_
 rintro e w' ⟨v,rfl,β',F',I',R',hE,-,hr⟩
 refine ⟨v,rfl,?_⟩
 have s2:=St.call An rfl R'.st
 have afV:l.length≤β'.length:=by rw [R'.len];exact hle
 have He:∀ (i:Nat) q,β'[i]?=some q→(β++β'.drop l.length)[outer l M.length i]?=some q:=by
  intro i q hq
  unfold outer
  rcases Nat.lt_or_ge i l.length with hi | hi
  ·have vG:l[i]?=some l[i]:=List.getElem?_eq_getElem hi
   rw [vG]
   have hu:=aG l[i] (List.getElem_mem hi)
   have Gb:l[i]<β.length:=by rw [R.len];exact hu
   obtain ⟨q',Sr⟩:∃ q',β[l[i]]?=some q':=⟨_,List.getElem?_eq_getElem Gb⟩
   have:=hE i _ (eN vG Sr)
   rw [hq,Option.some.injEq] at this
   rw [List.getElem?_append_left (by rw [R.len];exact hu),Sr,this]
  ·rw [List.getElem?_eq_none hi]
   dsimp only
   rw [List.getElem?_append_right (by rw [R.len];omega),R.len,Nat.add_sub_cancel_left,List.getElem?_drop,show l.length+(i-l.length)=i by omega];exact hq
 have bh:∀ w,K0 w∧aj w (I'++I)→(K0 w∧aj w I)∧aj w I':=fun w hw=>⟨⟨hw.1,(aj.app.1 hw.2).2⟩,(aj.app.1 hw.2).1⟩
 have YA:(List.range M'.length).flatMap F'=(List.range l.length).flatMap F'++(List.range ((M'.drop l.length).map (ef (outer l M.length))).length).flatMap fun i=>F' (l.length+i):=by
  rw [List.length_map,List.length_drop]
  conv=>lhs;rw [show M'.length=l.length+(M'.length-l.length) by omega,List.range_add,List.flatMap_append,List.flatMap_map]
 have R2:bq D w0 K0 (jH M l) β F0 (I'++I) ((List.range ((M'.drop l.length).map (ef (outer l M.length))).length).flatMap (fun i=>F' (l.length+i))++(List.range l.length).flatMap F') w':=by
  refine ⟨R0.len,fun u b hb=>(R0.blk u b hb).mono (fun w hw=>(bh w hw).1) (Ext.refl _),?_⟩
  rw [YA] at s2
  exact s2.perm (by classical rw [List.perm_iff_count];intro z;simp only [List.count_append];omega)
 obtain ⟨F2,R3,gV⟩:=VB (γ:=β'.drop l.length) (by rw [List.length_drop,R'.len,List.length_map,List.length_drop]) R2 (fun i b hb=>by
  rw [List.getElem?_map,Option.map_eq_some_iff] at hb
  obtain ⟨b0,hb,rfl⟩:=hb
  rw [List.getElem?_drop] at hb
  have:=(xm He (R'.blk _ b0 hb)).mono bh (Ext.refl _)
  have ho:outer l M.length (l.length+i)=M.length+i:=by unfold outer;rw [List.getElem?_eq_none (by omega)];dsimp only;omega
  rw [ho] at this
  rw [Gc];exact this)
 have R3':=R3.perm (Y:=(List.range l.length).flatMap F'++[]) (by rw [List.append_nil])
 obtain ⟨F3,R4,Ao⟩:=IJ (bs:=(M'.take l.length).map (ef (outer l M.length))) dy (by simp;omega) (fun u hu=>by have:=aG u hu;rw [List.length_append];omega) (fun u hu=>by rw [gV u (by rw [Gc];exact aG u hu)];exact hF0 u hu) R3' (fun i u b h1 h2=>by
  rw [List.getElem?_map,Option.map_eq_some_iff] at h2
  obtain ⟨b0,h2,rfl⟩:=h2
  rw [List.getElem?_take] at h2
  split at h2
  ·have:=(xm He (R'.blk i b0 h2)).mono bh (Ext.refl _)
   have ho:outer l M.length i=u:=by unfold outer;rw [h1]
   rw [ho] at this;exact this
  ·simp at h2)
 refine ⟨_,F3,I'++I,R4.nil rfl,(Ext.app _ _).b _,⟨I',rfl⟩,fun u hu Gd=>?_,(rj He hr).mono bh (Ext.refl _)⟩
 rw [Ao u Gd,gV u (by rw [Gc];exact hu),jt u Gd]
theorem T1 (R:RM D w0 K0 M β F I w) (hK:∀ w,Kp D w0 w→K0 w) {f:FuncId} {vs:List AV} {ys:List Value} {l:List Nat} {told:List AV} {Ms M':List ae} {x:AV} (dj:ys.length=vs.length) (eH:∀ (j:Nat) c y,vs[j]?=some c→ys[j]?=some y→au (fun w=>K0 w∧aj w I) β c y)
  (Dp:lF l vs=some told) (vH:jh l M l=some Ms) (dy:l.Nodup) (hle:l.length≤M'.length) (e6:bJ P f told Ms x M'):
  Calls P f ys.toArray w fun e w'=>∃ v,e=.returned v∧∃ β' F' I',RM D w0 K0 (nU (jH M l++(M'.drop l.length).map (ef (outer l M.length))) l ((M'.take l.length).map (ef (outer l M.length)))) β' F' I' w'∧dH [] β β'∧aV I I'∧(∀ u,u<M.length→u ∉ l→F' u=F u)∧au (fun w=>K0 w∧aj w I') β' (mapA (outer l M.length) x) v:=by
 obtain ⟨e1,e2⟩:=q5 (β:=β) (K:=fun w=>K0 w∧aj w I) Dp
 obtain ⟨m1,m2⟩:=tY vH
 refine AX R hK dj e1 (e2 eH) m1 (fun i b hb=>?_) dy hle e6
 obtain ⟨u,b0,g1,g2,g3⟩:=m2 i b hb
 exact ⟨u,b0,g1,g2,B2 g1 g3 (R.blk u b0 g2)⟩
theorem VC {g:Operand} {args:Array Operand} {dW:Array TypeId} (h:Dn P E M oc g args=some out):aA P ⟨d,.call ⟨.value g,args,dW⟩,ty,pos,aft,gd⟩ E M out:=by
 unfold Dn at h
 split at h
 ·rename_i f bQ vs l x M' hg Ge
  split at h
  ·rename_i told Ms Dp vH
   cases hc:(nodupB l&&Nat.ble l.length M'.length) with
   | false=>simp only [hc,cond_false,reduceCtorEq] at h
   | true=>
    simp only [hc,cond_true,Option.some.injEq] at h;subst h
    simp only [Bool.and_eq_true] at hc
    have dy:=jB hc.1
    have hle:=Nat.le_of_ble_eq_true hc.2
    intro D w0 K0 β F I ρ w C hv
    obtain ⟨e6,-⟩:=hv
    obtain ⟨y,hy,r⟩:=C.aJ hg
    cases r with
    | fn cs bC gk=>
     obtain ⟨dY,jr⟩:=C.l3 Ge
     have dj:(args.toList.map ρ++cs).length=(vs++bQ).length:=by rw [List.length_append,List.length_append,dY,bC]
     have p6:∀ (j:Nat) c y,(vs++bQ)[j]?=some c→(args.toList.map ρ++cs)[j]?=some y→au (fun w=>K0 w∧aj w I) β c y:=by
      intro j c y h1 h2
      rcases Nat.lt_or_ge j vs.length with hj | hj
      ·rw [List.getElem?_append_left hj] at h1
       rw [List.getElem?_append_left (by omega)] at h2
       exact jr j c y h1 h2
      ·rw [List.getElem?_append_right hj] at h1
       rw [List.getElem?_append_right (by omega),dY] at h2
       exact gk _ c y h1 h2
     have hm:args.map ρ=(args.toList.map ρ).toArray:=by rw [← Array.toList_map]
     refine tJ hy e6.1 hm ?_
     have kN:((args.toList.map ρ).toArray++cs.toArray:Array Value)=(args.toList.map ρ++cs).toArray:=by simp
     rw [kN]
     exact T1 C.rm C.k dj p6 Dp vH dy hle e6
  ·simp at h
 ·simp at h
end Go.Proofs.YtkheephfkbpchaaGreatDoor
namespace Go.Proofs.YtkheephfkbpchaaGreatDoor
open Go.RowKit
def pR (es:Array MapEntry) (seen:Array Nat):Array MapEntry:=es.filter fun e=>!seen.contains e.born
section
variable {P:Program} {ρ:Operand→Value} {w:World} {Φ:Value→World→Prop} {d:Option Tmp} {ty t k e:TypeId} {pos:String} {aft:Array Edge} {gd:Option (Nat×Bool)} {x:Operand}
def wW:Obj→Bool
 | .cells _ _ _=>false
 | _=>true
theorem kx {r:Nat} {o:Obj} (h:w.heap[r]?=some o) (ho:wW o=true):(getObj r).run P w=.ok o w:=by
 cases o<;>simp [wW] at ho<;>simp [getObj,Sem.run,h]
theorem tT {r:Nat} {o:Obj} (h:w.heap[r]?=some o) (ho:wW o=true) (o':Obj):(setObj r o').run P w=.ok () (bk w r o'):=by
 cases o<;>simp [wW] at ho<;>simp [setObj,Sem.run,h,bk]
theorem Bw {bm:Nat} {es:Array MapEntry} {clock:Nat} (ht:P.underlying t=some (.map k e)) (hx:ρ x=.map (some bm)) (hb:w.heap[bm]?=some (.map es clock)) (aE:∀ b w',Gr w w'→cV w w' [(b,.mapIter (some bm) clock #[] clock)]→Φ (.pointer (some ⟨b,0,none⟩)) w'):aM P ⟨d,.range t x,ty,pos,aft,gd⟩ ρ w Φ:=
 .pure (v:=.pointer (some ⟨w.heap.size,0,none⟩)) (w':=w.alloc (.mapIter (some bm) clock #[] clock)) (by simp [execOp,hx,Instr.range,Sem.run_bind,run_underlying ht,kx hb rfl,newObj,Sem.run]) (aE _ _ (Gr.alloc _ _) (cV.alloc _ _))
theorem WS {ri bm since c0 clock:Nat} {seen:Array Nat} {es:Array MapEntry} (hx:ρ x=.pointer (some ⟨ri,0,none⟩)) (hi:w.heap[ri]?=some (.mapIter (some bm) since seen c0)) (hb:w.heap[bm]?=some (.map es clock)) (hold:∀ x ∈ es.toList,x.born<since) (hsc:since≤c0)
  (h0:(pR es seen).size=0→Φ (.tuple #[.bool false]) w)
  (h1:∀ en ∈ (pR es seen).toList,∀ w1,Gr w w1→w1.heap=w.heap→Φ (.tuple #[.bool true,en.key,en.val]) (bk w1 ri (.mapIter (some bm) since (seen.push en.born) clock))):aM P ⟨d,.next x false,ty,pos,aft,gd⟩ ρ w Φ:=by
 have key:((pR es seen).size=0∧(Instr.next (.pointer (some ⟨ri,0,none⟩)) false ty).run P w=.ok (.tuple #[.bool false]) w)∨∃ en ∈ (pR es seen).toList,∃ w1,Gr w w1∧w1.heap=w.heap∧(Instr.next (.pointer (some ⟨ri,0,none⟩)) false ty).run P w=.ok (.tuple #[.bool true,en.key,en.val]) (bk w1 ri (.mapIter (some bm) since (seen.push en.born) clock)):=by
  simp only [Instr.next,Sem.run_bind,kx hi rfl,kx hb rfl,Result.andThen,next_test_false seen es since c0 hold hsc,Bool.false_eq_true,if_false]
  unfold pR
  have dI:∀ x ∈ (Array.filter (fun e=>!seen.contains e.born) es).toList,x.born<since:=fun x hx=>hold x (by simp at hx ⊢;exact hx.1)
  generalize Array.filter (fun e=>!seen.contains e.born) es=L at dI ⊢
  have e1:L.filter (fun x=>decide (x.born<since))=L:=Array.filter_eq_self.2 (fun x hx=>by simpa using dI x (by simpa using hx))
  have e2:L.filter (fun x=>decide (x.born≥since))=#[]:=by
   rw [Array.filter_eq_empty_iff]
   intro x hx
   have:=dI x (by simpa using hx)
   simp
   omega
  simp only [e1,e2,Array.append_empty]
  by_cases h0:L.size=0
  ·left
   have:L=#[]:=Array.eq_empty_of_size_eq_zero h0
   subst this
   refine ⟨rfl,?_⟩
   simp [choose,Sem.run,Question.forced]
  ·right
   have dM:L.isEmpty=false:=by simp [Array.isEmpty,h0]
   simp only [dM,Bool.false_eq_true,if_false,Array.empty_append,Array.size_map]
   have kU:∃ (j:Nat) (w1:World),j<L.size∧Gr w w1∧w1.heap=w.heap∧(choose (Question.mapNext L.size)).run P w=.ok j w1:=by
    by_cases hf:L.size≤1
    ·exact ⟨0,w,by omega,Gr.refl _,rfl,by simp [choose,Sem.run,Question.forced,hf]⟩
    ·exact ⟨_,w.drew,Nat.mod_lt _ (by omega),Gr.drew w,rfl,by
      simp only [choose,Sem.run,Question.forced,decide_eq_true_eq,hf,if_false,Question.cut]
      rfl⟩
   obtain ⟨j,w1,hj,hg,hh,ch⟩:=kU
   refine ⟨L[j],by simp,w1,hg,hh,?_⟩
   have Ss:w1.heap[ri]?=some (.mapIter (some bm) since seen c0):=by rw [hh];exact hi
   simp only [ch,Array.getElem?_map,Array.getElem?_eq_getElem hj,Option.map_some,Sem.run_bind,Result.andThen,tT Ss rfl]
   rfl
 rcases key with ⟨hz,hr⟩ | ⟨en,qx,w1,hg,hh,hr⟩
 ·exact .pure (by simp only [execOp,hx,Sem.run_bind,hr,Result.andThen_ok,Sem.run_pure]) (h0 hz)
 ·exact .pure (by simp only [execOp,hx,Sem.run_bind,hr,Result.andThen_ok,Sem.run_pure]) (h1 en qx w1 hg hh)
end
end Go.Proofs.YtkheephfkbpchaaGreatDoor
namespace Go.Proofs.YtkheephfkbpchaaGreatDoor
open Go.RowKit Go.Maps
variable {P:Program} {T:aC} {D:List Nat} {w0:World} {K0:World→Prop} {E:List (Nat×AV)} {M:List ae} {β:Beta} {F:Nat→ai} {I:ai} {ρ:Operand→Value} {w:World} {d:Option Tmp} {ty:TypeId} {pos:String} {aft:Array Edge} {gd:Option (Nat×Bool)} {oc:Option aS} {out:Out}
theorem MK.inj {a b:MK} (h:a.val=b.val):a=b:=by
 cases a with
 | i k n=>cases b with
  | i k' n'=>simp only [MK.val,Value.int.injEq] at h;obtain ⟨rfl,rfl⟩:=h;rfl
  | a l=>simp [MK.val] at h
 | a l=>cases b with
  | i k' n'=>simp [MK.val] at h
  | a l'=>
   simp only [MK.val,Value.agg.injEq] at h
   replace h:(l.map fun x=>Value.int x.1 x.2)=l'.map fun x=>Value.int x.1 x.2:=by simpa using congrArg Array.toList h
   congr 1
   induction l generalizing l' with
   | nil=>cases l' with | nil=>rfl | cons=>simp at h
   | cons x r ih=>cases l' with
    | nil=>simp at h
    | cons x' r'=>
     simp only [List.map_cons,List.cons.injEq,Value.int.injEq] at h
     obtain ⟨⟨h1,h2⟩,h3⟩:=h
     rw [ih r' h3,Prod.ext h1 h2]
def iT (P:Program) (K:TypeId) (ks:List MK):Prop:=Keyed P K∧∀ k ∈ ks,∃ l,keyOf P K k.val=some l
def vI:List AV→Option (List (IntKind×Int))
 | []=>some []
 | .d (.v (.int k n))::r=>(match vI r with | some s=>some ((k,n)::s) | none=>none)
 | _=>none
def oY:AV→Option MK
 | .d (.v (.int k n))=>some (.i k n)
 | .ag l=>(match vI l with | some r=>some (.a r) | none=>none)
 | _=>none
theorem Lj {K:World→Prop}:∀ {l:List AV} {r:List (IntKind×Int)} {ys:List Value},vI l=some r→ys.length=l.length→(∀ (j:Nat) c y,l[j]?=some c→ys[j]?=some y→au K β c y)→ys=r.map fun x=>.int x.1 x.2
 | [],r,ys,h,hl,hr=>by simp only [vI,Option.some.injEq] at h;subst h;simpa using hl
 | c::l,r,ys,h,hl,hr=>by
  unfold vI at h
  split at h
  ·simp at *
  ·rename_i k n l' he
   cases he
   split at h
   ·rename_i s hs
    simp only [Option.some.injEq] at h;subst h
    cases ys with
    | nil=>simp at hl
    | cons y ys=>
     have h0:=hr 0 _ y rfl rfl
     have ih:=Lj (ys:=ys) hs (by simpa using hl) (fun j c z h1 h2=>hr (j+1) c z h1 h2)
     cases h0 with | d h0=>cases h0;simp [ih]
   ·simp at h
  ·simp at h
theorem nA {K:World→Prop} {v:AV} {k:MK} {y:Value} (h:oY v=some k) (r:au K β v y):y=k.val:=by
 unfold oY at h
 split at h
 ·simp only [Option.some.injEq] at h;subst h
  cases r with | d r=>cases r;rfl
 ·split at h
  ·rename_i s hs
   simp only [Option.some.injEq] at h;subst h
   cases r with | ag ys hl hr=>rw [Lj hs hl hr];rfl
  ·simp at h
 ·simp at h
def vJ:MK→AV
 | .i k n=>.d (.v (.int k n))
 | .a l=>.ag (l.map fun x=>.d (.v (.int x.1 x.2)))
theorem Lk {K:World→Prop} (k:MK):au K β (vJ k) k.val:=by
 cases k with
 | i k n=>exact .d (.v _)
 | a l=>
  refine .ag _ (by simp) fun j c y h1 h2=>?_
  rw [List.getElem?_map] at h1 h2
  cases hx:l[j]? with
  | none=>rw [hx] at h1;cases h1
  | some x=>rw [hx] at h1 h2;simp at h1 h2;subst h1 h2;exact .d (.v _)
theorem JX {es:List (Nat×MK×DV)} {vs:List Value} (hl:vs.length=es.length):(cP es vs).length=es.length:=by simp [cP,hl]
theorem CH {es:List (Nat×MK×DV)} {vs:List Value} {j:Nat} {en:MapEntry} (hl:vs.length=es.length) (h:(cP es vs)[j]?=some en):∃ e v,es[j]?=some e∧vs[j]?=some v∧en={ key:=e.2.1.val,val:=v,born:=e.1 }:=by
 unfold cP at h
 rw [List.getElem?_map] at h
 cases hz:(es.zip vs)[j]? with
 | none=>rw [hz] at h;cases h
 | some x=>
  rw [hz] at h;simp at h
  rw [List.getElem?_zip_eq_some] at hz
  exact ⟨x.1,x.2,hz.1,hz.2,h.symm⟩
theorem CI {es:List (Nat×MK×DV)} {vs:List Value} {j:Nat} {e:Nat×MK×DV} {v:Value} (h1:es[j]?=some e) (h2:vs[j]?=some v):(cP es vs)[j]?=some { key:=e.2.1.val,val:=v,born:=e.1 }:=by
 unfold cP
 rw [List.getElem?_map,(List.getElem?_zip_eq_some (i:=j) (z:=(e,v))).2 ⟨h1,h2⟩];rfl
theorem IK {es:List (Nat×MK×DV)} {vs:List Value} (hl:vs.length=es.length):(cP es vs).map (·.born)=es.map (·.1):=by
 apply List.ext_getElem?
 intro j
 rw [List.getElem?_map,List.getElem?_map]
 cases h:(cP es vs)[j]? with
 | none=>
  rw [List.getElem?_eq_none_iff,JX hl] at h
  rw [List.getElem?_eq_none (by omega)];rfl
 | some en=>
  obtain ⟨e,v,h1,h2,rfl⟩:=CH hl h
  rw [h1];rfl
theorem VD {es:List (Nat×MK×DV)} {vs:List Value} (hl:vs.length=es.length) (c:Nat) (k:MK) (x:DV) (v:Value):(cP es vs).toArray.push { key:=k.val,val:=v,born:=c }=(cP (es++[(c,k,x)]) (vs++[v])).toArray:=by
 unfold cP
 rw [List.zip_append hl.symm]
 simp
theorem rl {K:TypeId} {es:List (Nat×MK×DV)} {vs:List Value} (hl:vs.length=es.length) {k:MK} (hk:iT P K (k::es.map fun e=>e.2.1)) (w:World):
  ((Instr.findKey K k.val (cP es vs)).run P w=.ok none w∧∀ e ∈ es,e.2.1≠k)∨∃ j e v,(Instr.findKey K k.val (cP es vs)).run P w=.ok (some (j,v)) w∧es[j]?=some e∧vs[j]?=some v∧e.2.1=k:=by
 obtain ⟨L,cI⟩:=hk
 obtain ⟨l,fA⟩:=cI k (by simp)
 have dj:∀ en ∈ cP es vs,∃ l,keyOf P K en.key=some l:=by
  intro en qx
  obtain ⟨j,hj,rfl⟩:=List.getElem_of_mem qx
  obtain ⟨e,v,h1,h2,h3⟩:=CH hl (List.getElem?_eq_getElem hj)
  rw [h3]
  exact cI e.2.1 (List.mem_cons_of_mem _ (List.mem_map_of_mem (f:=fun e:Nat×MK×DV=>e.2.1) (List.mem_of_getElem? h1)))
 rcases L.find w fA (cP es vs) dj with h | ⟨j,en,h1,h2,h3⟩
 ·refine .inl ⟨h.1,fun e he hek=>?_⟩
  obtain ⟨j,hj,rfl⟩:=List.getElem_of_mem he
  have hv:vs[j]?=some vs[j]:=List.getElem?_eq_getElem (by omega)
  exact h.2 _ (List.mem_of_getElem? (CI (List.getElem?_eq_getElem hj) hv)) (by rw [hek])
 ·obtain ⟨e,v,e1,e2,rfl⟩:=CH hl h2
  exact .inr ⟨j,e,v,h1,e1,e2,MK.inj h3⟩
def Bx (T:aC) (M:List ae) (t:TypeId) (r:Option Operand):Option Out:=match bB T t,r with
 | some (.mp _ _),none=>some ⟨[],.mv M.length,M++[.mp t 0 []],[],[],none⟩
 | _,_=>none
theorem TK {t:TypeId} {r:Option Operand} (h:Bx T M t r=some out):aA P ⟨d,.makeMap t r,ty,pos,aft,gd⟩ E M out:=by
 unfold Bx at h
 split at h
 ·simp only [Option.some.injEq] at h;subst h
  intro D w0 K0 β F I ρ w C _
  refine HF fun b w' g n=>?_
  exact ⟨_,_,I,C.rm.new (q:=(some ⟨b,0,none⟩,0)) g n (.mp (es:=[]) (cu C.rm _) [] (fun _=>[]) rfl (by simp)),(Ext.app _ _).b _,aV.refl _,fW _ _,.mv (cu C.rm _)⟩
 ·simp at h
def vK:List AV→Option (List DV)
 | []=>some []
 | .d x::r=>(match vK r with | some s=>some (x::s) | none=>none)
 | _=>none
def Gf:AV→Option DV
 | .d x=>some x
 | .ag l=>(match vK l with | some s=>some (.ag s) | none=>none)
 | _=>none
theorem Ll:∀ {l:List AV} {s:List DV},vK l=some s→l=s.map .d
 | [],s,h=>by simp only [vK,Option.some.injEq] at h;subst h;rfl
 | c::r,s,h=>by
  unfold vK at h
  split at h
  ·simp at *
  ·rename_i x r' he
   cases he
   split at h
   ·rename_i s' hs
    simp only [Option.some.injEq] at h;subst h
    rw [Ll hs];rfl
   ·simp at h
  ·simp at h
theorem YB {K:World→Prop} {v:AV} {x:DV} {y:Value} (h:Gf v=some x) (r:au K β v y):bj K x y []:=by
 unfold Gf at h
 split at h
 ·simp only [Option.some.injEq] at h;subst h
  cases r with | d r=>exact r
 ·split at h
  ·rename_i s hs
   simp only [Option.some.injEq] at h;subst h
   obtain rfl:=Ll hs
   cases r with
   | ag ys hl hr=>
    have:=bj.ag (K:=K) (l:=s) ys (fun _=>[]) (by simpa using hl) (fun j c y h1 h2=>by
     have:=hr j (.d c) y (by rw [List.getElem?_map,h1];rfl) h2
     cases this with | d h=>exact h)
    rw [show (List.range s.length).flatMap (fun _=>([]:ai))=[] by simp] at this
    exact this
  ·simp at h
 ·simp at h
def zy (M:List ae) (oc:Option aS) (v:AV):Option DV:=match oc with
 | some (.n i)=>(match v,M[i]? with | .pt u o,some (.nm u' b)=>bif u.beq u'&&o.beq 0 then some (.v (.pointer (some ⟨b,0,none⟩))) else none | _,_=>none)
 | _=>Gf v
theorem JY (R:RM D w0 K0 M β F I w) {v:AV} {x:DV} {y:Value} (h:zy M oc v=some x) (r:au (fun w=>K0 w∧aj w I) β v y):bj (fun w=>K0 w∧aj w I) x y []:=by
 unfold zy at h
 split at h
 ·split at h
  ·rename_i u o u' b hM
   cases hc:(u.beq u'&&o.beq 0) with
   | false=>simp [hc] at h
   | true=>
    simp only [hc,cond_true,Option.some.injEq] at h;subst h
    simp only [Bool.and_eq_true] at hc
    obtain rfl:=Nat.eq_of_beq_eq_true hc.1
    obtain rfl:=Nat.eq_of_beq_eq_true hc.2
    have hB:=R.blk _ _ hM
    generalize F _=G at hB
    cases hB with
    | nm hb=>cases r with | pt aD=>rw [aD] at hb;cases hb;exact .v _
  ·simp at h
 ·exact YB h r
def DV.la:DV→Bool
 | .ag l=>l.all DV.cp
 | x=>x.cp
theorem bj.YC {K:World→Prop} {x:DV} {y:Value} {H:ai} (h:bj K x y H) (hc:x.cp=true):H=[]:=by
 cases h with
 | v=>rfl
 | jk=>rfl
 | ro=>rfl
 | em=>simp [DV.cp] at hc
 | ag=>simp [DV.cp] at hc
 | tu=>simp [DV.cp] at hc
 | pb=>simp [DV.cp] at hc
theorem bj.B4 {K:World→Prop} {x:DV} {y:Value} {H:ai} (h:bj K x y H) (hc:x.la=true):H=[]:=by
 cases h with
 | v=>rfl
 | jk=>rfl
 | ro=>rfl
 | em=>simp [DV.la,DV.cp] at hc
 | tu=>simp [DV.la,DV.cp] at hc
 | pb=>simp [DV.la,DV.cp] at hc
 | @ag l ys F hl hr=>
  simp only [DV.la] at hc
  rw [List.flatMap_eq_nil_iff]
  intro j hj
  have hj:=List.mem_range.1 hj
  have h1:=List.getElem?_eq_getElem hj
  exact (hr j _ _ h1 (List.getElem?_eq_getElem (by omega))).YC (List.all_eq_true.1 hc _ (List.mem_of_getElem? h1))
def DV.Aq:DV→AV
 | .ag l=>.ag (l.map .d)
 | x=>.d x
theorem bj.Aq {K:World→Prop} {x:DV} {y:Value} {H:ai} (h:bj K x y H) (hc:x.la=true):au K β x.Aq y:=by
 have hn:=h.B4 hc
 subst hn
 cases x with
 | ag l=>
  generalize hH:([]:ai)=H at h
  cases h with
  | ag ys F hl hr=>
   simp only [DV.la] at hc
   refine .ag ys (by simpa using hl) fun j c y h1 h2=>?_
   rw [List.getElem?_map,Option.map_eq_some_iff] at h1
   obtain ⟨c',h1,rfl⟩:=h1
   exact .d ((hr j c' y h1 h2).cp (List.all_eq_true.1 hc _ (List.mem_of_getElem? h1)))
 | _=>exact .d h
theorem UC (G:Nat→ai) (n:Nat):(List.range (n+1)).flatMap (aF G n [])=(List.range n).flatMap G:=by rw [Bb,List.append_nil]
theorem UD {G:Nat→ai} {n j:Nat} (h:G j=[]):(List.range n).flatMap (aF G j [])=(List.range n).flatMap G:=by
 rw [List.flatMap_def,List.flatMap_def];congr 1
 apply List.map_congr_left;intro a _
 simp only [aF];split
 ·rename_i e;rw [e,h]
 ·rfl
theorem rn (es:List (Nat×MK×DV)) (vs:List Value) (i:Nat):(cP es vs)[i]?=(match es[i]?,vs[i]? with | some e,some v=>some { key:=e.2.1.val,val:=v,born:=e.1 } | _,_=>none):=by
 unfold cP
 rw [List.getElem?_map]
 cases h1:es[i]? with
 | none=>
  have:(es.zip vs)[i]?=none:=by rw [List.getElem?_eq_none_iff] at h1 ⊢;simp;omega
  rw [this];rfl
 | some e=>
  cases h2:vs[i]? with
  | none=>
   have:(es.zip vs)[i]?=none:=by rw [List.getElem?_eq_none_iff] at h2 ⊢;simp;omega
   rw [this];rfl
  | some v=>rw [(List.getElem?_zip_eq_some (i:=i) (z:=(e,v))).2 ⟨h1,h2⟩];rfl
theorem WT {es:List (Nat×MK×DV)} {vs:List Value} {j b:Nat} {k:MK} {x:DV} (hl:vs.length=es.length) (x':DV) (v:Value) (hj:es[j]?=some (b,k,x)):
  (cP es vs).toArray.modify j (fun en=>{ en with key:=k.val,val:=v })=(cP (es.modify j fun e=>(e.1,e.2.1,x')) (vs.set j v)).toArray:=by
 apply Array.ext'
 rw [Array.toList_modify]
 apply List.ext_getElem?
 intro i
 rw [List.getElem?_modify,rn,rn,List.getElem?_modify,List.getElem?_set]
 by_cases e:j=i
 ·subst e
  have aG:=(List.getElem?_eq_some_iff.1 hj).1
  rw [hj,if_pos rfl,if_pos (by omega),List.getElem?_eq_getElem (show j<vs.length by omega)]
  simp
 ·simp only [if_neg e]
  cases es[i]?<;>cases vs[i]?<;>simp
def rE (P:Program) (T:aC) (E:List (Nat×AV)) (M:List ae) (oc:Option aS) (t:TypeId) (m k x:Operand):Option Out:=
 match bB T t,aB E m,aB E k,aB E x with
 | some (.mp K _),some (.mv u),some ak,some ax=>(match oY ak,zy M oc ax,M[u]?,oc with
  | some mk,some dv,some (.mp t' c es),some (.b false)=>some ⟨[iT P K (mk::es.map fun e=>e.2.1),∀ e ∈ es,e.2.1≠mk],.d .jk,M.set u (.mp t' (c+1) (es++[(c,mk,dv)])),[u],[],none⟩
  | some mk,some dv,some (.mp t' c es),some (.n _)=>some ⟨[iT P K (mk::es.map fun e=>e.2.1),∀ e ∈ es,e.2.1≠mk],.d .jk,M.set u (.mp t' (c+1) (es++[(c,mk,dv)])),[u],[],none⟩
  | some mk,some dv,some (.mp t' c es),some (.mk j k' x)=>some ⟨[iT P K (mk::es.map fun e=>e.2.1),k'=mk,(es.map fun e=>e.2.1).Nodup,x.la=true,∃ b,es[j]?=some (b,k',x)],.d .jk,M.set u (.mp t' c (es.modify j fun e=>(e.1,e.2.1,dv))),[u],[],none⟩
  | _,_,_,_=>none)
 | _,_,_,_=>none
theorem HK (hT:aI P T=true) {t:TypeId} {m k x:Operand} (h:rE P T E M oc t m k x=some out) {D:List Nat} {w0:World} {K0:World→Prop} {β:Beta} {F:Nat→ai} {I:ai} {ρ:Operand→Value} {w:World} (C:Ctx D w0 K0 E M β F I ρ w) (hv:br out.vc):
  ∃ w',(Instr.mapUpdate t (ρ m) (ρ k) (ρ x)).run P w=.ok () w'∧∃ β' F' I',RM D w0 K0 out.M β' F' I' w'∧dH out.mv β β'∧aV I I'∧(∀ u,u<M.length→u ∉ out.tc→F' u=F u)∧au (fun w=>K0 w∧aj w I') β' out.av undef:=by
 unfold rE at h
 split at h
 ·rename_i K Te u ak ax ht hm hk hx
  obtain ⟨ym,er,rm⟩:=C.aJ hm
  obtain ⟨yk,gX,rk⟩:=C.aJ hk
  obtain ⟨yx,cT,rx⟩:=C.aJ hx
  have fresh:∀ {mk:MK} {dv:DV} {t' c:Nat} {es:List (Nat×MK×DV)},oY ak=some mk→zy M oc ax=some dv→M[u]?=some (.mp t' c es)→iT P K (mk::es.map fun e=>e.2.1)→(∀ e ∈ es,e.2.1≠mk)→
    ∃ w',(Instr.mapUpdate t (ρ m) (ρ k) (ρ x)).run P w=.ok () w'∧∃ β' F' I',RM D w0 K0 (M.set u (.mp t' (c+1) (es++[(c,mk,dv)]))) β' F' I' w'∧dH [] β β'∧aV I I'∧(∀ v,v<M.length→v ∉ [u]→F' v=F v)∧au (fun w=>K0 w∧aj w I') β' (.d .jk) undef:=by
   intro mk dv t' c es cB qy hM cI eK
   have ek:=nA cB rk
   have hd:=JY C.rm qy rx
   cases rm with
   | mv hb=>
    obtain ⟨H,hF,hB,hH⟩:=C.rm.at hM
    cases hB with
    | mp aD vs G hl hr=>
     rw [hb] at aD;cases aD
     have hw:=hH.one
     have hg:=ni (P:=P) hw
     obtain ⟨l,fA⟩:=cI.2 mk (by simp)
     rcases rl hl cI w with hf | ⟨j,e,v,-,h1,-,h3⟩
     ·have di:bf (fun w=>K0 w∧aj w I) β u (.mp t' (c+1) (es++[(c,mk,dv)])) ((_,.map (cP (es++[(c,mk,dv)]) (vs++[yx])).toArray (c+1))::(List.range (es++[(c,mk,dv)]).length).flatMap (aF G es.length [])):=.mp hb (vs++[yx]) _ (by simp [hl]) (by
       intro j e y h1 h2
       rcases Nat.lt_or_ge j es.length with hj | hj
       ·rw [List.getElem?_append_left hj] at h1;rw [List.getElem?_append_left (by omega)] at h2
        simp only [aF];rw [if_neg (by omega)];exact hr j e y h1 h2
       ·rw [List.getElem?_append_right hj] at h1;rw [List.getElem?_append_right (by omega),hl] at h2
        cases hz:j-es.length with
        | zero=>
         rw [hz] at h1 h2;simp at h1 h2;subst h1 h2
         simp only [aF];rw [if_pos (by omega)];exact hd
        | succ n=>rw [hz] at h1;simp at h1)
      rw [List.length_append,List.length_singleton,UC] at di
      refine ⟨bk w _ (.map (cP (es++[(c,mk,dv)]) (vs++[yx])).toArray (c+1)),?_,β,_,I,C.rm.set hM hF di,(Ext.refl β).b _,aV.refl _,fun v hv hn=>by simp only [aF];rw [if_neg (by simpa using hn)],.d (.jk _)⟩
      rw [er,gX,cT,ek]
      unfold Instr.mapUpdate
      have hc:(Instr.checkKey false 10000 K mk.val).run P w=.ok () w:=cI.1.check w _ fA
      simp only [Sem.run_bind,run_underlying (a7 hT ht),Result.andThen_ok,hg,hc,hf.1,tH hw,VD hl c mk dv yx]
     ·exact absurd h3 (eK e (List.mem_of_getElem? h1))
  split at h
  ·rename_i mk dv t' c es cB hM qy
   simp only [Option.some.injEq] at h;subst h
   obtain ⟨cI,eK,-⟩:=hv
   exact fresh cB qy hM cI eK
  ·rename_i mk dv t' c es n cB hM qy
   simp only [Option.some.injEq] at h;subst h
   obtain ⟨cI,eK,-⟩:=hv
   exact fresh cB qy hM cI eK
  ·rename_i mk dv t' c es j k' xo cB hM qy
   simp only [Option.some.injEq] at h;subst h
   obtain ⟨cI,rfl,dy,jq,⟨b,hj⟩,-⟩:=hv
   have ek:=nA cB rk
   have hd:=JY C.rm qy rx
   cases rm with
   | @mv _ bb cc hb=>
    obtain ⟨H,hF,hB,hH⟩:=C.rm.at hM
    cases hB with
    | mp aD vs G hl hr=>
     rw [hb] at aD;cases aD
     have hw:=hH.one
     have hg:=ni (P:=P) hw
     obtain ⟨l,fA⟩:=cI.2 k' (by simp)
     obtain ⟨sg,-⟩:=List.getElem?_eq_some_iff.1 hj
     have gM:vs[j]?=some vs[j]:=List.getElem?_eq_getElem (by omega)
     have Gg:G j=[]:=(hr j _ _ hj gM).B4 jq
     rcases rl hl cI w with hf | ⟨j',e,v,hf,h1,-,h3⟩
     ·exact absurd rfl (hf.2 _ (List.mem_of_getElem? hj))
     ·have qz:j'=j:=by
       have a1:(es.map fun e=>e.2.1)[j']?=some k':=by rw [List.getElem?_map,h1];simp [h3]
       have a2:(es.map fun e=>e.2.1)[j]?=some k':=by rw [List.getElem?_map,hj];rfl
       exact (List.getElem?_inj (by have:=(List.getElem?_eq_some_iff.1 h1).1;simpa using this) dy).1 (a1.trans a2.symm)
      subst qz
      have di:bf (fun w=>K0 w∧aj w I) β u (.mp t' c (es.modify j' fun e=>(e.1,e.2.1,dv))) ((_,.map (cP (es.modify j' fun e=>(e.1,e.2.1,dv)) (vs.set j' yx)).toArray c)::(List.range (es.modify j' fun e=>(e.1,e.2.1,dv)).length).flatMap (aF G j' [])):=.mp hb (vs.set j' yx) _ (by simp [hl]) (by
       intro i e y h1 h2
       rw [List.getElem?_modify] at h1;rw [List.getElem?_set] at h2
       simp only [aF]
       by_cases hi:j'=i
       ·subst hi
        rw [hj] at h1;simp at h1;subst h1
        rw [if_pos rfl,if_pos (by omega)] at h2;simp only [Option.some.injEq] at h2;subst h2
        rw [if_pos rfl];exact hd
       ·rw [if_neg hi] at h2
        simp only [if_neg hi] at h1
        rw [if_neg (fun e=>hi e.symm)]
        cases qA:es[i]? with
        | none=>rw [qA] at h1;simp at h1
        | some e0=>rw [qA] at h1;simp at h1;subst h1;exact hr i _ y qA h2)
      rw [List.length_modify,UD Gg] at di
      refine ⟨bk w _ (.map (cP (es.modify j' fun e=>(e.1,e.2.1,dv)) (vs.set j' yx)).toArray c),?_,β,_,I,C.rm.set hM hF di,(Ext.refl β).b _,aV.refl _,fun v hv hn=>by simp only [aF];rw [if_neg (by simpa using hn)],.d (.jk _)⟩
      rw [er,gX,cT,ek]
      unfold Instr.mapUpdate
      have hc:(Instr.checkKey false 10000 K k'.val).run P w=.ok () w:=cI.1.check w _ fA
      have aQ:(Instr.keyThatStays ((((cP es vs).toArray[j']?).map (·.key)).getD k'.val) k'.val).run P w=.ok k'.val w:=by
       have:(cP es vs).toArray[j']?=some { key:=k'.val,val:=vs[j'],born:=b }:=by simpa using CI hj gM
       rw [this];exact cI.1.stays w fA
      simp only [Sem.run_bind,run_underlying (a7 hT ht),Result.andThen_ok,hg,hc,hf,aQ,tH hw,WT hl dv yx hj]
  ·simp at h
 ·simp at h
theorem Ik (hT:aI P T=true) {t:TypeId} {m k x:Operand} (h:rE P T E M oc t m k x=some out):aA P ⟨d,.mapUpdate t m k x,ty,pos,aft,gd⟩ E M out∧aA P ⟨d,.insert t m k x,ty,pos,aft,gd⟩ E M out:=by
 have e:out.rd=none:=by
  unfold rE at h
  split at h
  ·split at h
   ·simp only [Option.some.injEq] at h;subst h;rfl
   ·simp only [Option.some.injEq] at h;subst h;rfl
   ·simp only [Option.some.injEq] at h;subst h;rfl
   ·simp at h
  ·simp at h
 constructor
 ·unfold aA;rw [e]
  intro D w0 K0 β F I ρ w C hv
  obtain ⟨w',hr,aE⟩:=HK hT h C hv
  exact Hs rfl rfl rfl hr aE
 ·unfold aA;rw [e]
  intro D w0 K0 β F I ρ w C hv
  obtain ⟨w',hr,aE⟩:=HK hT h C hv
  exact .skip (by simp only [execOp,Sem.run_bind,hr,Result.andThen_ok,Sem.run_pure]) aE
def CJ (P:Program) (t:TypeId) (z:Value):Prop:=∀ w:World,(zeroValue t).run P w=.ok z w
def mD (M:List ae) (x:DV):Option Nat→Option AV
 | none=>bif x.la then some x.Aq else none
 | some i=>(match x,M[i]? with | .v (.pointer (some ⟨_,_,_⟩)),some (.nm u _)=>some (.pt u 0) | _,_=>none)
def sh (M:List ae) (x:DV):Option Nat→Prop
 | none=>True
 | some i=>(match M[i]? with | some (.nm _ b)=>x=.v (.pointer (some ⟨b,0,none⟩)) | _=>False)
theorem JZ {K:World→Prop} {F:Nat→ai} {x:DV} {i:Option Nat} {v:AV} {y:Value} {H:ai} (h:mD M x i=some v) (hp:sh M x i) (hM:∀ (u:Nat) blk,M[u]?=some blk→bf K β u blk (F u)) (r:bj K x y H):au K β v y:=by
 cases i with
 | none=>
  simp only [mD] at h
  cases hc:x.la with
  | false=>simp [hc] at h
  | true=>simp only [hc,cond_true,Option.some.injEq] at h;subst h;exact r.Aq hc
 | some i=>
  simp only [mD] at h
  split at h
  ·rename_i a o g u b Su
   simp only [Option.some.injEq] at h;subst h
   simp only [sh,Su] at hp
   cases hp
   have hB:=hM i _ Su
   generalize F i=G at hB
   cases hB with
   | nm hb=>cases r;exact .pt hb
  ·simp at h
def Dq (P:Program) (T:aC) (E:List (Nat×AV)) (M:List ae) (oc:Option aS) (t:TypeId) (m k:Operand) (ok:Bool):Option Out:=
 match bB T t,aB E m,aB E k with
 | some (.mp K Te),some (.mv u),some ak=>(match oY ak,M[u]? with
  | some mk,some (.mp _ _ es)=>(match oc with
   | some (.mk j k' x)=>(match mD M x none with
    | some v=>some ⟨[iT P K (mk::es.map fun e=>e.2.1),k'=mk,(es.map fun e=>e.2.1).Nodup,∃ b,es[j]?=some (b,k',x)],bif ok then .tu [v,.b true] else v,M,[],[],some [u]⟩
    | none=>none)
   | some (.Sf j k' x i)=>(match mD M x (some i) with
    | some v=>some ⟨[iT P K (mk::es.map fun e=>e.2.1),k'=mk,(es.map fun e=>e.2.1).Nodup,(∃ b,es[j]?=some (b,k',x))∧sh M x (some i)],bif ok then .tu [v,.b true] else v,M,[],[],some [u]⟩
    | none=>none)
   | some (.b false)=>(match pL T Te,mN T Te with
    | some [z],some .one=>some ⟨[iT P K (mk::es.map fun e=>e.2.1),CJ P Te z,∀ e ∈ es,e.2.1≠mk],bif ok then .tu [.d (.v z),.b false] else .d (.v z),M,[],[],some [u]⟩
    | some l,some (.many _)=>some ⟨[iT P K (mk::es.map fun e=>e.2.1),CJ P Te (.agg l.toArray),∀ e ∈ es,e.2.1≠mk],bif ok then .tu [.ag (fJ l),.b false] else .ag (fJ l),M,[],[],some [u]⟩
    | _,_=>none)
   | _=>none)
  | _,_=>none)
 | _,_,_=>none
theorem rq {K:World→Prop} {a b:AV} {x y:Value} (h1:au K β a x) (h2:au K β b y):au K β (.tu [a,b]) (.tuple #[x,y]):=by
 refine .tu [x,y] rfl fun j c z e1 e2=>?_
 match j with
 | 0=>simp at e1 e2;subst e1 e2;exact h1
 | 1=>simp at e1 e2;subst e1 e2;exact h2
 | j+2=>simp at e1
theorem VE (hT:aI P T=true) {t:TypeId} {m k:Operand} {ok:Bool} (h:Dq P T E M oc t m k ok=some out):aA P ⟨d,.lookup t m k ok,ty,pos,aft,gd⟩ E M out:=by
 unfold Dq at h
 split at h
 ·rename_i K Te u ak ht hm hk
  split at h
  ·rename_i mk t' c es cB hM
   have aG:=(List.getElem?_eq_some_iff.1 hM).1
   have qB:∀ {j:Nat} {k':MK} {x:DV} {i:Option Nat} {v:AV} {D:List Nat} {w0:World} {K0:World→Prop} {β:Beta} {F:Nat→ai} {I:ai} {ρ:Operand→Value} {w:World},mD M x i=some v→Ctx D w0 K0 E M β F I ρ w→iT P K (mk::es.map fun e=>e.2.1)→k'=mk→(es.map fun e=>e.2.1).Nodup→(∃ b,es[j]?=some (b,k',x))→sh M x i→
     ∃ y,au (fun w=>K0 w∧aj w I) β (bif ok then .tu [v,.b true] else v) y∧∀ w',fZ K0 I F [u] w'→(execOp ρ ⟨d,.lookup t m k ok,ty,pos,aft,gd⟩).run P w'=.ok (.value y) w':=by
    intro j k' x i v D w0 K0 β F I ρ w hv C cI bh dy hj hp
    subst bh
    obtain ⟨b,hj⟩:=hj
    obtain ⟨ym,er,rm⟩:=C.aJ hm
    obtain ⟨yk,gX,rk⟩:=C.aJ hk
    have ek:=nA cB rk
    cases rm with
    | @mv _ bb cc hb=>
     obtain ⟨H,hF,hB,-⟩:=C.rm.at hM
     cases hB with
     | mp aD vs G hl hr=>
      rw [hb] at aD;cases aD
      obtain ⟨Sv,-⟩:=List.getElem?_eq_some_iff.1 hj
      have gM:vs[j]?=some vs[j]:=List.getElem?_eq_getElem (by omega)
      have hx:=JZ hv hp C.rm.blk (hr j _ _ hj gM)
      refine ⟨if ok then .tuple #[vs[j],.bool true] else vs[j],?_,fun w' hs=>?_⟩
      ·cases ok with
       | true=>exact rq hx (.d (.v _))
       | false=>exact hx
      ·have hH:=hs.2 u (by simp)
       rw [hF] at hH
       have hw:=hH.one
       obtain ⟨l,fA⟩:=cI.2 k' (by simp)
       have eS:(Instr.lookup t (.map (some bb)) yk ok).run P w'=.ok (if ok then .tuple #[vs[j],.bool true] else vs[j]) w':=by
        rw [ek]
        unfold Instr.lookup
        have hc:∀ em,(Instr.checkKey em 10000 K k'.val).run P w'=.ok () w':=fun em=>cI.1.check w' _ fA
        rcases rl hl cI w' with hf | ⟨j',e,v,hf,h1,h2,h3⟩
        ·exact absurd rfl (hf.2 _ (List.mem_of_getElem? hj))
        ·have qz:j'=j:=by
          have a1:(es.map fun e=>e.2.1)[j']?=some k':=by rw [List.getElem?_map,h1];simp [h3]
          have a2:(es.map fun e=>e.2.1)[j]?=some k':=by rw [List.getElem?_map,hj];rfl
          exact (List.getElem?_inj (by have:=(List.getElem?_eq_some_iff.1 h1).1;simpa using this) dy).1 (a1.trans a2.symm)
         subst qz
         rw [gM] at h2;cases h2
         simp only [Sem.run_bind,run_underlying (a7 hT ht),Result.andThen_ok,ni hw,Sem.run_pure,hc,hf]
       simp only [execOp,er,gX,Sem.run_bind,eS,Result.andThen_ok,Sem.run_pure]
   have Pm:∀ {z:Value} {v:AV} {D:List Nat} {w0:World} {K0:World→Prop} {β:Beta} {F:Nat→ai} {I:ai} {ρ:Operand→Value} {w:World},au (fun w=>K0 w∧aj w I) β v z→Ctx D w0 K0 E M β F I ρ w→iT P K (mk::es.map fun e=>e.2.1)→CJ P Te z→(∀ e ∈ es,e.2.1≠mk)→
     ∃ y,au (fun w=>K0 w∧aj w I) β (bif ok then .tu [v,.b false] else v) y∧∀ w',fZ K0 I F [u] w'→(execOp ρ ⟨d,.lookup t m k ok,ty,pos,aft,gd⟩).run P w'=.ok (.value y) w':=by
    intro z v D w0 K0 β F I ρ w hv C cI kX eK
    obtain ⟨ym,er,rm⟩:=C.aJ hm
    obtain ⟨yk,gX,rk⟩:=C.aJ hk
    have ek:=nA cB rk
    cases rm with
    | @mv _ bb cc hb=>
     obtain ⟨H,hF,hB,-⟩:=C.rm.at hM
     cases hB with
     | mp aD vs G hl hr=>
      rw [hb] at aD;cases aD
      refine ⟨if ok then .tuple #[z,.bool false] else z,?_,fun w' hs=>?_⟩
      ·cases ok with
       | true=>exact rq hv (.d (.v _))
       | false=>exact hv
      ·have hH:=hs.2 u (by simp)
       rw [hF] at hH
       have hw:=hH.one
       obtain ⟨l,fA⟩:=cI.2 mk (by simp)
       have eS:(Instr.lookup t (.map (some bb)) yk ok).run P w'=.ok (if ok then .tuple #[z,.bool false] else z) w':=by
        rw [ek]
        unfold Instr.lookup
        have hc:∀ em,(Instr.checkKey em 10000 K mk.val).run P w'=.ok () w':=fun em=>cI.1.check w' _ fA
        rcases rl hl cI w' with hf | ⟨j',e,v,-,h1,-,h3⟩
        ·simp only [Sem.run_bind,run_underlying (a7 hT ht),Result.andThen_ok,ni hw,Sem.run_pure,hc,hf.1,kX w']
        ·exact absurd h3 (eK _ (List.mem_of_getElem? h1))
       simp only [execOp,er,gX,Sem.run_bind,eS,Result.andThen_ok,Sem.run_pure]
   split at h
   ·rename_i j k' x
    split at h
    ·rename_i v hv
     simp only [Option.some.injEq] at h;subst h
     refine aA.look (fun C hq=>?_) (by simpa using aG)
     obtain ⟨q1,q2,q3,q4,-⟩:=hq
     exact qB hv C q1 q2 q3 q4 trivial
    ·simp at h
   ·rename_i j k' x i
    split at h
    ·rename_i v hv
     simp only [Option.some.injEq] at h;subst h
     refine aA.look (fun C hq=>?_) (by simpa using aG)
     obtain ⟨q1,q2,q3,q4,-⟩:=hq
     exact qB hv C q1 q2 q3 q4.1 q4.2
    ·simp at h
   ·split at h
    ·rename_i z hz vB
     simp only [Option.some.injEq] at h;subst h
     refine aA.look (fun C hq=>?_) (by simpa using aG)
     obtain ⟨q1,q2,q3,-⟩:=hq
     exact Pm (.d (.v _)) C q1 q2 q3
    ·rename_i l n hz vB
     simp only [Option.some.injEq] at h;subst h
     refine aA.look (fun C hq=>?_) (by simpa using aG)
     obtain ⟨q1,q2,q3,-⟩:=hq
     exact Pm (.ag l (by simp [fJ]) (iS l).2) C q1 q2 q3
    ·simp at h
   ·simp at h
  ·simp at h
 ·simp at h
def CK (T:aC) (E:List (Nat×AV)) (M:List ae) (t:TypeId) (x:Operand):Option Out:=match bB T t,aB E x with
 | some (.mp _ _),some (.mv u)=>(match M[u]? with
  | some (.mp _ c _)=>some ⟨[],.pt M.length 0,M++[.it (some u) c [] c],[],[],none⟩
  | some (.mu _ c _)=>some ⟨[],.pt M.length 0,M++[.it (some u) c [] c],[],[],none⟩
  | _=>none)
 | _,_=>none
theorem UE (hT:aI P T=true) {t:TypeId} {x:Operand} (h:CK T E M t x=some out):aA P ⟨d,.range t x,ty,pos,aft,gd⟩ E M out:=by
 unfold CK at h
 split at h
 ·rename_i K Te u ht hx
  split at h
  ·rename_i t' c es hM
   simp only [Option.some.injEq] at h;subst h
   intro D w0 K0 β F I ρ w C _
   obtain ⟨ym,er,rm⟩:=C.aJ hx
   cases rm with
   | @mv _ bb cc hb=>
    obtain ⟨H,hF,hB,hH⟩:=C.rm.at hM
    cases hB with
    | mp aD vs G hl hr=>
     rw [hb] at aD;cases aD
     refine Bw (a7 hT ht) er hH.one fun b w' g n=>?_
     refine ⟨_,_,I,C.rm.new (q:=(some ⟨b,0,none⟩,0)) g n (.it (bm:=bb) (seen:=[]) (cu C.rm _) fun v hv=>?_),(Ext.app _ _).b _,aV.refl _,fW _ _,.pt (cu C.rm _)⟩
     cases hv
     exact ⟨_,Ext.app _ _ _ _ hb⟩
  ·rename_i t' c es hM
   simp only [Option.some.injEq] at h;subst h
   intro D w0 K0 β F I ρ w C _
   obtain ⟨ym,er,rm⟩:=C.aJ hx
   cases rm with
   | @mv _ bb cc hb=>
    obtain ⟨H,hF,hB,hH⟩:=C.rm.at hM
    cases hB with
    | mu fo hp dy aG aD vs G hl hr=>
     rw [hb] at aD;cases aD
     refine Bw (a7 hT ht) er hH.one fun b w' g n=>?_
     refine ⟨_,_,I,C.rm.new (q:=(some ⟨b,0,none⟩,0)) g n (.it (bm:=bb) (seen:=[]) (cu C.rm _) fun v hv=>?_),(Ext.app _ _).b _,aV.refl _,fW _ _,.pt (cu C.rm _)⟩
     cases hv
     exact ⟨_,Ext.app _ _ _ _ hb⟩
  ·simp at h
 ·simp at h
theorem HL {ri bm since clock:Nat} {seen:Array Nat} {es:Array MapEntry} {en:MapEntry} {w:World} (hi:w.heap[ri]?=some (.mapIter (some bm) since (seen.push en.born) clock)) (hb:w.heap[bm]?=some (.map es clock)) (he:en ∈ es.toList) (hn:(es.toList.map (·.born)).Nodup):(Instr.entry (.pointer (some ⟨ri,0,none⟩))).run P w=.ok (.tuple #[en.key,en.val]) w:=by
 have hf:es.find? (·.born==en.born)=some en:=by rw [← Array.find?_toList];exact find_born en es.toList hn he
 simp only [Instr.entry,Sem.run_bind,kx hi rfl,kx hb rfl,Result.andThen,Array.back?_push,bne_self_eq_false,Bool.false_eq_true,if_false,hf]
 rfl
def CL (E:List (Nat×AV)) (M:List ae) (oc:Option aS) (x:Operand):Option Out:=match aB E x,oc with
 | some (.pt ui o),some (.mk j k dv)=>(match M[ui]?,mD M dv none with
  | some (.it (some um) _ seen c),some v=>(match M[um]? with
   | some (.mp _ ck es)=>bif Nat.beq o 0 then some ⟨[∃ b s,es[j]?=some (b,k,dv)∧seen=s++[b],(es.map fun e=>e.1).Nodup,c=ck],.tu [vJ k,v],M,[],[],some [ui,um]⟩ else none
   | _=>none)
  | _,_=>none)
 | some (.pt ui o),some (.Sf j k dv i)=>(match M[ui]?,mD M dv (some i) with
  | some (.it (some um) _ seen c),some v=>(match M[um]? with
   | some (.mp _ ck es)=>bif Nat.beq o 0 then some ⟨[(∃ b s,es[j]?=some (b,k,dv)∧seen=s++[b]),(es.map fun e=>e.1).Nodup,c=ck,sh M dv (some i)],.tu [vJ k,v],M,[],[],some [ui,um]⟩ else none
   | _=>none)
  | _,_=>none)
 | _,_=>none
theorem UF {x:Operand} (h:CL E M oc x=some out):aA P ⟨d,.entry x,ty,pos,aft,gd⟩ E M out:=by
 have main:∀ {ui o j:Nat} {k:MK} {dv:DV} {i:Option Nat} {v:AV} {um:Nat} {since:Nat} {seen:List Nat} {c:Nat} {t' ck:Nat} {es:List (Nat×MK×DV)} {D:List Nat} {w0:World} {K0:World→Prop} {β:Beta} {F:Nat→ai} {I:ai} {ρ:Operand→Value} {w:World},
   aB E x=some (.pt ui o)→M[ui]?=some (.it (some um) since seen c)→mD M dv i=some v→M[um]?=some (.mp t' ck es)→Nat.beq o 0=true→Ctx D w0 K0 E M β F I ρ w→(∃ b s,es[j]?=some (b,k,dv)∧seen=s++[b])→(es.map fun e=>e.1).Nodup→c=ck→sh M dv i→
   ∃ y,au (fun w=>K0 w∧aj w I) β (.tu [vJ k,v]) y∧∀ w',fZ K0 I F [ui,um] w'→(execOp ρ ⟨d,.entry x,ty,pos,aft,gd⟩).run P w'=.ok (.value y) w':=by
  intro ui o j k dv i v um since seen c t' ck es D w0 K0 β F I ρ w hx hI hv hM ho C hj dy hc hp
  obtain rfl:=Nat.eq_of_beq_eq_true ho
  subst hc
  obtain ⟨b,s,hj,rfl⟩:=hj
  obtain ⟨ym,er,rm⟩:=C.aJ hx
  cases rm with
  | @pt _ _ bi ci hb=>
   obtain ⟨H1,jt,mY,-⟩:=C.rm.at hI
   obtain ⟨H2,gV,mZ,-⟩:=C.rm.at hM
   cases mY with
   | it oZ hm=>
    rw [hb] at oZ;cases oZ
    obtain ⟨c',eT⟩:=hm um rfl
    cases mZ with
    | mp aD vs G hl hr=>
     rw [eT] at aD;cases aD
     obtain ⟨Sv,-⟩:=List.getElem?_eq_some_iff.1 hj
     have gM:vs[j]?=some vs[j]:=List.getElem?_eq_getElem (by omega)
     have hy:=JZ hv hp C.rm.blk (hr j _ _ hj gM)
     refine ⟨.tuple #[k.val,vs[j]],rq (Lk k) hy,fun w' hs=>?_⟩
     have g1:=hs.2 ui (by simp)
     have g2:=hs.2 um (by simp)
     rw [jt] at g1;rw [gV] at g2
     have q1:=g1.one
     have q2:=g2.one
     have he:=List.mem_of_getElem? (CI hj gM)
     have eS:=HL (P:=P) (seen:=s.toArray) (en:={ key:=k.val,val:=vs[j],born:=b }) (by simpa using q1) q2 (by simpa using he) (by simpa [IK hl] using dy)
     simp only [execOp,er,Sem.run_bind,eS,Result.andThen_ok,Sem.run_pure]
 unfold CL at h
 split at h
 ·rename_i ui o j k dv hx
  split at h
  ·rename_i um since seen c v hI hv
   split at h
   ·rename_i t' ck es hM
    cases ho:Nat.beq o 0 with
    | false=>simp [ho] at h
    | true=>
     simp only [ho,cond_true,Option.some.injEq] at h;subst h
     have Ew:=(List.getElem?_eq_some_iff.1 hI).1
     have Ex:=(List.getElem?_eq_some_iff.1 hM).1
     refine aA.look (fun C hq=>?_) (by simp;exact ⟨Ew,Ex⟩)
     obtain ⟨q1,q2,q3,-⟩:=hq
     exact main hx hI hv hM ho C q1 q2 q3 trivial
   ·simp at h
  ·simp at h
 ·rename_i ui o j k dv i hx
  split at h
  ·rename_i um since seen c v hI hv
   split at h
   ·rename_i t' ck es hM
    cases ho:Nat.beq o 0 with
    | false=>simp [ho] at h
    | true=>
     simp only [ho,cond_true,Option.some.injEq] at h;subst h
     have Ew:=(List.getElem?_eq_some_iff.1 hI).1
     have Ex:=(List.getElem?_eq_some_iff.1 hM).1
     refine aA.look (fun C hq=>?_) (by simp;exact ⟨Ew,Ex⟩)
     obtain ⟨q1,q2,q3,q4,-⟩:=hq
     exact main hx hI hv hM ho C q1 q2 q3 q4
   ·simp at h
  ·simp at h
 ·simp at h
def B5 (P:Program) (T:aC) (E:List (Nat×AV)) (M:List ae) (oc:Option aS) (t:TypeId) (m k:Operand):Option Out:=
 match bB T t,aB E m,aB E k with
 | some (.mp K _),some (.mv u),some ak=>(match oY ak,M[u]?,oc with
  | some mk,some (.mp t' c es),some (.mk j k' x)=>some ⟨[iT P K (mk::es.map fun e=>e.2.1),k'=mk,(es.map fun e=>e.2.1).Nodup,x.la=true,∃ b,es[j]?=some (b,k',x)],.d .jk,M.set u (.mp t' c (es.eraseIdx j)),[u],[],none⟩
  | _,_,_=>none)
 | _,_,_=>none
theorem UG {es:List (Nat×MK×DV)} {vs:List Value} {j:Nat} (hl:vs.length=es.length) (hj:j<es.length):(cP es vs).toArray.eraseIdxIfInBounds j=(cP (es.eraseIdx j) (vs.eraseIdx j)).toArray:=by
 apply Array.ext'
 have h1:((cP es vs).toArray.eraseIdxIfInBounds j).toList=(cP es vs).eraseIdx j:=by
  have:j<(cP es vs).length:=by rw [JX hl];exact hj
  simp [Array.eraseIdxIfInBounds,this]
 rw [h1]
 apply List.ext_getElem?
 intro i
 rw [List.getElem?_eraseIdx,rn,rn,rn,List.getElem?_eraseIdx,List.getElem?_eraseIdx]
 split<;>rfl
theorem T3 {G:Nat→ai} {n j:Nat} (hj:j<n) (h:G j=[]):(List.range (n-1)).flatMap (fun i=>G (if i<j then i else i+1))=(List.range n).flatMap G:=by
 rw [range_split hj,h,List.nil_append]
 have hn:n-1=j+(n-(j+1)):=by omega
 have e1:List.range (n-1)=List.range j++List.range' j (n-(j+1)):=by
  rw [hn,List.range_eq_range',List.range_eq_range',← List.range'_append_1];simp
 rw [e1,List.flatMap_append]
 congr 1
 ·exact eG fun a ha=>by have:=List.mem_range.1 ha;rw [if_pos this]
 ·have e2:List.range' (j+1) (n-(j+1))=(List.range' j (n-(j+1))).map (·+1):=by rw [show (fun x=>x+1)=fun x=>1+x from funext fun x=>Nat.add_comm x 1,List.map_add_range',Nat.add_comm]
  rw [e2,List.flatMap_map]
  exact eG fun a ha=>by have:=(List.mem_range'_1.1 ha).1;rw [if_neg (by omega)]
theorem T4 (hT:aI P T=true) {t u':TypeId} {m k:Operand} (h:B5 P T E M oc t m k=some out):aA P ⟨d,.call ⟨.builtin .delete,#[m,k],#[t,u']⟩,ty,pos,aft,gd⟩ E M out:=by
 unfold B5 at h
 split at h
 ·rename_i K Te u ak ht hm hk
  split at h
  ·rename_i mk t' c es j k' x cB hM
   simp only [Option.some.injEq] at h;subst h
   intro D w0 K0 β F I ρ w C hv
   obtain ⟨cI,rfl,dy,jq,⟨b,hj⟩,-⟩:=hv
   obtain ⟨ym,er,rm⟩:=C.aJ hm
   obtain ⟨yk,gX,rk⟩:=C.aJ hk
   have ek:=nA cB rk
   cases rm with
   | @mv _ bb cc hb=>
    obtain ⟨H,hF,hB,hH⟩:=C.rm.at hM
    cases hB with
    | mp aD vs G hl hr=>
     rw [hb] at aD;cases aD
     have hw:=hH.one
     have hg:=ni (P:=P) hw
     obtain ⟨l,fA⟩:=cI.2 k' (by simp)
     obtain ⟨sg,-⟩:=List.getElem?_eq_some_iff.1 hj
     have gM:vs[j]?=some vs[j]:=List.getElem?_eq_getElem (by omega)
     have Gg:G j=[]:=(hr j _ _ hj gM).B4 jq
     rcases rl hl cI w with hf | ⟨j',e,v,hf,h1,-,h3⟩
     ·exact absurd rfl (hf.2 _ (List.mem_of_getElem? hj))
     ·have qz:j'=j:=by
       have a1:(es.map fun e=>e.2.1)[j']?=some k':=by rw [List.getElem?_map,h1];simp [h3]
       have a2:(es.map fun e=>e.2.1)[j]?=some k':=by rw [List.getElem?_map,hj];rfl
       exact (List.getElem?_inj (by have:=(List.getElem?_eq_some_iff.1 h1).1;simpa using this) dy).1 (a1.trans a2.symm)
      subst qz
      have hle:(es.eraseIdx j').length=es.length-1:=by rw [List.length_eraseIdx,if_pos sg]
      have di:bf (fun w=>K0 w∧aj w I) β u (.mp t' c (es.eraseIdx j')) ((_,.map (cP (es.eraseIdx j') (vs.eraseIdx j')).toArray c)::(List.range (es.eraseIdx j').length).flatMap fun i=>G (if i<j' then i else i+1)):=.mp hb (vs.eraseIdx j') _ (by rw [hle,List.length_eraseIdx,if_pos (by omega)];omega) (by
       intro i e y h1 h2
       rw [List.getElem?_eraseIdx] at h1 h2
       split at h1
       ·rename_i hi;rw [if_pos hi] at h2 ⊢;exact hr i e y h1 h2
       ·rename_i hi;rw [if_neg hi] at h2 ⊢;exact hr (i+1) e y h1 h2)
      rw [hle,T3 sg Gg] at di
      refine Vo rfl rfl (r:=.tuple #[]) (w':=bk w _ (.map (cP (es.eraseIdx j') (vs.eraseIdx j')).toArray c)) ?_ ⟨β,_,I,C.rm.set hM hF di,(Ext.refl β).b _,aV.refl _,fun v hv hn=>by simp only [aF];rw [if_neg (by simpa using hn)],.d (.jk _)⟩
      rw [er,gX,ek]
      unfold Builtin.delete_
      have hc:∀ em,(Instr.checkKey em 10000 K k'.val).run P w=.ok () w:=fun em=>cI.1.check w _ fA
      simp only [List.getElem?_toArray,List.getElem?_cons_zero,List.getElem?_cons_succ,Sem.run_bind,run_underlying (a7 hT ht),Result.andThen_ok,hg,hc,hf,tH hw,UG hl sg,Sem.run_pure]
  ·simp at h
 ·simp at h
end Go.Proofs.YtkheephfkbpchaaGreatDoor
namespace Go.Proofs.YtkheephfkbpchaaGreatDoor
open Go.RowKit
variable {P:Program} {T:aC} {E:List (Nat×AV)} {M:List ae}
variable {d:Option Tmp} {ty:TypeId} {pos:String} {aft:Array Edge} {gd:Option (Nat×Bool)} {oc:Option aS} {out:Out}
def B6 (T:aC) (E:List (Nat×AV)) (M:List ae) (oc:Option aS) (t:TypeId) (x ix:Operand):Option Out:=
 match bN (aB E ix),bB T t,aB E x,oc with
 | some (_,z),some (.ar n e),some (.ep u k j o),some (.n2 i _)=>(match dw T e with
  | some sz=>bif Nat.beq k sz&&Nat.beq o 0 then some (lk [z=(i:Int),i<n] (.ep u k (j+i) 0) M) else none
  | none=>none)
 | _,_,_,_=>none
theorem T5 (hT:aI P T=true) {t:TypeId} {x ix:Operand} (h:B6 T E M oc t x ix=some out):aA P ⟨d,.indexAddr t x ix,ty,pos,aft,gd⟩ E M out:=by
 unfold B6 at h
 split at h
 rotate_left
 ·simp at h
 rename_i kk z n e u k j o i _ hz ht hx
 split at h
 rotate_left
 ·simp at h
 rename_i sz hk
 cases bh:(Nat.beq k sz&&Nat.beq o 0) with
 | false=>simp [bh] at h
 | true=>
  simp only [bh,cond_true,Option.some.injEq] at h;subst h
  simp only [Bool.and_eq_true] at bh
  obtain rfl:=Nat.eq_of_beq_eq_true bh.1
  obtain rfl:=Nat.eq_of_beq_eq_true bh.2
  replace ht:=a7 hT ht
  replace hk:=dR hT hk
  refine aA.same fun C bP=>?_
  obtain ⟨rfl,hi,-⟩:=bP
  obtain ⟨y,hy,r⟩:=C.aJ hx
  cases r with
  | ep hb=>
   refine ⟨_,fun _ _=>nj ht hk hy (C.int hz) (by omega) (by omega),?_⟩
   rw [add_eq,Int.toNat_natCast,show j*k+0+i*k=(j+i)*k+0 by rw [Nat.add_mul];omega]
   exact .ep hb
theorem VF {k:Nat} {rows:List (List DV)} {X:Nat→List Value} (hl:∀ (i:Nat) r,rows[i]?=some r→r.length=k∧(X i).length=k) {R:DV→Value→Prop} (hr:∀ (i:Nat) (r:List DV) (j:Nat) c x,rows[i]?=some r→r[j]?=some c→(X i)[j]?=some x→R c x):
  (lay rows.length X).length=rows.flatten.length∧∀ (p:Nat) c x,rows.flatten[p]?=some c→(lay rows.length X)[p]?=some x→R c x:=by
 induction rows generalizing X with
 | nil=>simp [lay]
 | cons r0 rows ih=>
  have hs:lay (rows.length+1) X=X 0++lay rows.length (fun i=>X (i+1)):=by
   unfold lay
   rw [List.range_succ_eq_map,List.flatMap_cons,List.flatMap_map]
  obtain ⟨h1,h2⟩:=ih (X:=fun i=>X (i+1)) (fun i r h=>hl (i+1) r (by simpa using h)) (fun i r j c x a b e=>hr (i+1) r j c x (by simpa using a) b e)
  obtain ⟨l1,l2⟩:=hl 0 r0 rfl
  rw [List.length_cons,hs,List.flatten_cons]
  refine ⟨by rw [List.length_append,List.length_append,h1,l1,l2],fun p c x a b=>?_⟩
  rcases Nat.lt_or_ge p k with hp | hp
  ·rw [List.getElem?_append_left (by omega)] at a b
   exact hr 0 r0 p c x rfl a b
  ·rw [List.getElem?_append_right (by omega)] at a b
   rw [l1] at a;rw [l2] at b
   exact h2 _ c x a b
def CM (T:aC) (E:List (Nat×AV)) (M:List ae) (oc:Option aS) (t:TypeId) (x:Operand):Option Out:=
 match aB E x,oc,mN T t with
 | some (.ep u k i o),some (.res (.ag ds)),some (.many n)=>(match M[u]? with
  | some (.rw _ k' rows)=>bif Nat.beq k k'&&Nat.beq i 0&&Nat.beq o 0&&Nat.beq n ds.length&&ds.all DV.cp&&Nat.blt 0 n then some ⟨[rows.flatten=ds],.ag (ds.map .d),M,[],[],some [u]⟩ else none
  | _=>none)
 | _,_,_=>none
theorem UH (hT:aI P T=true) {t:TypeId} {x:Operand} (h:CM T E M oc t x=some out):aA P ⟨d,.load t x,ty,pos,aft,gd⟩ E M out:=by
 unfold CM at h
 split at h
 rotate_left
 ·simp at h
 rename_i u k i o ds n hv ht
 split at h
 rotate_left
 ·simp at h
 rename_i Tt k' rows hM
 cases hk:(Nat.beq k k'&&Nat.beq i 0&&Nat.beq o 0&&Nat.beq n ds.length&&ds.all DV.cp&&Nat.blt 0 n) with
 | false=>simp [hk] at h
 | true=>
  simp only [hk,cond_true,Option.some.injEq] at h;subst h
  simp only [Bool.and_eq_true,Nat.blt_eq] at hk
  obtain ⟨⟨⟨⟨⟨hk,hi⟩,ho⟩,hn⟩,jq⟩,Ar⟩:=hk
  obtain rfl:=Nat.eq_of_beq_eq_true hk
  obtain rfl:=Nat.eq_of_beq_eq_true hi
  obtain rfl:=Nat.eq_of_beq_eq_true ho
  obtain rfl:=Nat.eq_of_beq_eq_true hn
  refine aA.look ?_ (by simpa using cM hM)
  intro D w0 K0 β F I ρ w C bP
  obtain ⟨rfl,-⟩:=bP
  obtain ⟨y,hy,r⟩:=C.aJ hv
  cases r with
  | ep hb=>
   obtain ⟨H,hF,hB,hH⟩:=C.rm.at hM
   cases hB with
   | rw aD X G hl hs hr=>
    rw [hb] at aD;cases aD
    obtain ⟨f1,f2⟩:=VF (R:=fun c x=>c.cp=true→bj (fun w=>K0 w∧aj w I) c x []) hl (fun i r j c x a b e hc=>(hr i r j c x a b e).cp hc)
    have iD:0<rows.length:=by
     rcases Nat.eq_zero_or_pos rows.length with h0 | h0
     ·rw [List.length_eq_zero_iff.1 h0] at Ar;simp at Ar
     ·exact h0
    obtain ⟨b',cap,cs,fz,he,rfl,ej,b7,FN,kZ⟩:=hs.block iD
    cases he
    refine ⟨.agg (lay rows.length X).toArray,.ag _ (by rw [List.length_map];exact f1) (fun j c z h1 h2=>?_),fun w' vz=>H3 (lay rows.length X) (by rw [f1];exact Bn hT ht) hy (fun j hj=>?_)⟩
    ·simp only [List.getElem?_map,Option.map_eq_some_iff] at h1
     obtain ⟨c',h1,rfl⟩:=h1
     exact .d (f2 j c' z h1 h2 (List.all_eq_true.1 jq c' (List.mem_of_getElem? h1)))
    ·have cQ:aj w' _:=vz.2 u (by simp)
     rw [hF] at cQ
     have hw:=(aj.app.1 cQ).1.one
     rw [add_eq,cell_of hw,Nat.zero_mul,Nat.zero_add]
     try rw [Nat.zero_add]
     have e1:(lay rows.length X)[j]?=some (lay rows.length X)[j]:=List.getElem?_eq_getElem hj
     rw [← e1,← kZ,List.getElem?_take,if_pos,Array.getElem?_toList]
     have cn:(lay rows.length X).length=rows.length*k:=du fun a ha=>(hl a _ (List.getElem?_eq_getElem ha)).2
     omega
def vL:List AV→Option (List DV)
 | []=>some []
 | .d x::r=>(match vL r with | some l=>some (x::l) | none=>none)
 | _=>none
theorem Lm:∀ {l:List AV} {ds:List DV},vL l=some ds→l=ds.map .d
 | [],ds,h=>by simp only [vL,Option.some.injEq] at h;subst h;rfl
 | c::r,ds,h=>by
  unfold vL at h
  split at h
  ·simp_all
  ·rename_i x r' heq
   simp only [List.cons.injEq] at heq
   obtain ⟨rfl,rfl⟩:=heq
   split at h
   ·rename_i l hl
    simp only [Option.some.injEq] at h;subst h
    rw [Lm hl];rfl
   ·cases h
  ·cases h
def Dr (T:aC) (E:List (Nat×AV)) (M:List ae) (oc:Option aS) (t:TypeId) (x ix:Operand):Option Out:=
 match bB T t,aB E x,bN (aB E ix),oc with
 | some (.ar n e),some (.ag l),some (_,z),some (.ix i row)=>(match dw T e,mN T e,vL l with
  | some k,some (.many k'),some ds=>bif Nat.beq k k'&&Nat.beq row.length k&&Nat.blt 0 k then some (lk [z=(i:Int),i<n,(ds.drop (i*k)).take k=row] (.ag (row.map .d)) M) else none
  | _,_,_=>none)
 | _,_,_,_=>none
theorem VG (hT:aI P T=true) {t:TypeId} {x ix:Operand} (h:Dr T E M oc t x ix=some out):aA P ⟨d,.index t x ix,ty,pos,aft,gd⟩ E M out:=by
 unfold Dr at h
 split at h
 rotate_left
 ·simp at h
 rename_i n e l _ z i row hu hx hz
 split at h
 rotate_left
 ·simp at h
 rename_i k k' ds hk e9 Gh
 cases hc:(Nat.beq k k'&&Nat.beq row.length k&&Nat.blt 0 k) with
 | false=>simp [hc] at h
 | true=>
  simp only [hc,cond_true,Option.some.injEq] at h;subst h
  simp only [Bool.and_eq_true,Nat.blt_eq] at hc
  obtain ⟨⟨bh,hrk⟩,hk0⟩:=hc
  obtain rfl:=Nat.eq_of_beq_eq_true bh
  have iD:=Nat.eq_of_beq_eq_true hrk
  obtain rfl:=Lm Gh
  have aP:∀ w:World,(sizeOf e).run P w=.ok k w:=fun w=>by
   have:=dR hT hk
   cases hi:P.info? e with
   | none=>simp [hi] at this
   | some inf=>simp only [hi,Option.map_some,Option.some.injEq] at this;simp [sizeOf,typeInfo,Sem.run_bind,hi,this]
  refine aA.same ?_
  intro D w0 K0 β F I ρ w C hv
  obtain ⟨rfl,aG,bn,-⟩:=hv
  have r:=C.ev hx
  have hi:=C.int hz
  have hp:oT T e (ds.map AV.d) (i*k)=some (.ag (row.map .d)):=by
   have hle:i*k+k≤(ds.map AV.d).length:=by
    have:=congrArg List.length bn
    rw [List.length_take,List.length_drop,iD] at this
    rw [List.length_map];omega
   simp only [oT,iA,e9,zl,Nat.ble_eq_true_of_le hle,cond_true,← bn,List.map_take,List.map_drop]
  generalize hy:ρ x=y at r
  cases r with
  | ag ys hl hr=>
   obtain ⟨y,h1,h2⟩:=yt hT hp hl hr
   refine ⟨y,fun w' _=>?_,h1⟩
   have cS:=a7 hT hu
   have hc:(0:Int)≤(i:Int)∧(i:Int)<(n:Int):=by omega
   simp only [execOp,hy,hi,Instr.index,asIntOf,Sem.run_bind,Sem.run_pure,run_underlying cS,Result.andThen_ok]
   rw [if_pos hc]
   simp only [Sem.run_bind,aP,Result.andThen_ok,Int.toNat_natCast,h2,Sem.run_pure]
end Go.Proofs.YtkheephfkbpchaaGreatDoor
namespace Go.Proofs.YtkheephfkbpchaaGreatDoor
open Go.RowKit
variable {P:Program} {T:aC} {E:List (Nat×AV)} {M:List ae}
variable {d:Option Tmp} {ty:TypeId} {pos:String} {aft:Array Edge} {gd:Option (Nat×Bool)} {oc:Option aS} {out:Out}
theorem YD {y:Nat} {code:BoundsCode} {w:World}:(Instr.sliceBound (.int .i64 0) y code).run P w=.ok 0 w:=fG (v:=0) (Nat.zero_le y)
theorem IL {K:World→Prop} (k:Nat) (a:Option Addr) (c:Nat):bj K (.ro k []) (.slice a 0 c) []:=
 .ro (fun _=>[]) (by simp) ⟨a,c,rfl,Nat.zero_le _⟩ (fun w _=>⟨by simp [lay],Or.inl ⟨rfl,a,c,rfl⟩⟩) (by simp)
def Ey (T:aC) (E:List (Nat×AV)) (M:List ae) (oc:Option aS) (t:TypeId) (x:Operand) (lo hi mx:Option Operand):Option Out:=
 match bB T t,aB E x,oc with
 | some (.sl e),some (.sl u n),some o=>(match dw T e,M[u]? with
  | some k,some (.rw _ k' rows)=>(match lo,hi,mx,o with
   | none,some h,none,.n2 c _=>(match bN (aB E h) with
    | some (.i64,z)=>bif k.beq k' then some ⟨[z=(c:Int),0<c,c≤n,n=rows.length],.sb u k 0 c,M,[],[],some []⟩ else none
    | _=>none)
   | none,some h,none,.res (.ro k2 [])=>(match bN (aB E h) with
    | some (.i64,z)=>some ⟨[z=0,n=rows.length],.d (.ro k2 []),M,[],[],some []⟩
    | _=>none)
   | some l,none,none,.res (.ro k2 [])=>(match bN (aB E l) with
    | some (.i64,z)=>some ⟨[z=(n:Int),n=rows.length],.d (.ro k2 []),M,[],[],some []⟩
    | _=>none)
   | _,_,_,_=>none)
  | _,_=>none)
 | _,_,_=>none
theorem WU (hT:aI P T=true) {t:TypeId} {x:Operand} {lo hi mx:Option Operand} (h:Ey T E M oc t x lo hi mx=some out):aA P ⟨d,.slice t x lo hi mx,ty,pos,aft,gd⟩ E M out:=by
 unfold Ey at h
 split at h
 rotate_left
 ·simp at h
 rename_i e u n o ht hx
 split at h
 rotate_left
 ·simp at h
 rename_i k Te k' rows hk hM
 replace ht:=a7 hT ht
 replace hk:=dR hT hk
 have Pn:∀ {D:List Nat} {w0:World} {K0:World→Prop} {β:Beta} {F:Nat→ai} {I:ai} {ρ:Operand→Value} {w:World} {a:Option Addr} {cc:Nat},Ctx D w0 K0 E M β F I ρ w→β[u]?=some (a,cc)→n=rows.length→n≤cc∧(0<n→∃ b,a=some ⟨b,0,none⟩):=by
  intro D w0 K0 β F I ρ w a cc C hb hn
  obtain ⟨H,hF,hB,hH⟩:=C.rm.at hM
  cases hB with
  | rw aD X G hl hs hr=>
   rw [hb] at aD;cases aD
   rcases hs.2 with ⟨h0,-,a,hq⟩ | ⟨b',cap,cs,fz,hq,-,-,-,cd,-⟩
   ·exact ⟨by omega,fun h=>by omega⟩
   ·simp only [Value.slice.injEq] at hq;exact ⟨by omega,fun _=>⟨b',hq.1⟩⟩
 split at h
 ·rename_i hh c _
  split at h
  rotate_left
  ·simp at h
  rename_i z hz
  cases bh:k.beq k' with
  | false=>simp [bh] at h
  | true=>
   simp only [bh,cond_true,Option.some.injEq] at h;subst h
   refine aA.look ?_ (by simp)
   intro D w0 K0 β F I ρ w C hv
   obtain ⟨rfl,h0,hc,hn,-⟩:=hv
   obtain ⟨y,hy,r⟩:=C.aJ hx
   cases r with
   | @sl _ _ cc a hb=>
    obtain ⟨h1,h2⟩:=Pn C hb hn
    obtain ⟨b',rfl⟩:=h2 (by omega)
    refine ⟨_,au.sb (k:=k) (o:=0) (n:=c) (c':=cc) hb,fun w' _=>?_⟩
    have:=ly (P:=P) (w:=w') (a:=some ⟨b',0,none⟩) ht hk (n:=n) (c:=cc) (l:=0) (h:=c) (m:=cc) (vl:=none) (vh:=some (.int .i64 c)) (vm:=none) (by simp [Instr.sliceBounds,fG (show c≤cc by omega)])
    rw [if_neg (by omega)] at this
    simp only [execOp,hy,C.int hz,Option.map_some,Option.map_none,Sem.run_bind,this,Result.andThen_ok,Sem.run_pure,add_eq,Nat.zero_add,Nat.sub_zero]
 ·rename_i hh k2
  split at h
  rotate_left
  ·simp at h
  rename_i z hz
  simp only [Option.some.injEq] at h;subst h
  refine aA.look ?_ (by simp)
  intro D w0 K0 β F I ρ w C hv
  obtain ⟨rfl,hn,-⟩:=hv
  obtain ⟨y,hy,r⟩:=C.aJ hx
  cases r with
  | @sl _ _ cc a hb=>
   have:=fun w'=>ly (P:=P) (w:=w') (a:=a) ht hk (n:=n) (c:=cc) (l:=0) (h:=0) (m:=cc) (vl:=none) (vh:=some (.int .i64 0)) (vm:=none) (by simp [Instr.sliceBounds,YD])
   refine ⟨_,.d (IL k2 _ _),fun w' _=>by simp only [execOp,hy,C.int hz,Option.map_some,Option.map_none,Sem.run_bind,this,Result.andThen_ok,Sem.run_pure,Nat.sub_self];rfl⟩
 ·rename_i l k2
  split at h
  rotate_left
  ·simp at h
  rename_i z hz
  simp only [Option.some.injEq] at h;subst h
  refine aA.look ?_ (by simp)
  intro D w0 K0 β F I ρ w C hv
  obtain ⟨rfl,hn,-⟩:=hv
  obtain ⟨y,hy,r⟩:=C.aJ hx
  cases r with
  | @sl _ _ cc a hb=>
   obtain ⟨h1,-⟩:=Pn C hb hn
   have:=fun w'=>ly (P:=P) (w:=w') (a:=a) ht hk (n:=n) (c:=cc) (l:=n) (h:=n) (m:=cc) (vl:=some (.int .i64 n)) (vh:=none) (vm:=none) (by simp [Instr.sliceBounds,fG (Nat.le_refl n)])
   refine ⟨_,.d (IL k2 _ _),fun w' _=>by simp only [execOp,hy,C.int hz,Option.map_some,Option.map_none,Sem.run_bind,this,Result.andThen_ok,Sem.run_pure,Nat.sub_self];rfl⟩
 ·simp at h
def CpR (rows:List (List DV)):Prop:=∀ r ∈ rows,∀ c ∈ r,c.cp=true
theorem VH {Te k N o m cc c':Nat} {a:Option Addr} {X:Nat→List Value} {H:ai} {w:World} (hs:eb Te k (.slice a N cc) N (lay N X) H) (hw:aj w H) (hX:∀ i,i<N→(X i).length=k) (h:o+m≤N) {b:Nat} (ha:a=some ⟨b,0,none⟩):
  Src w k (.slice (some ⟨b,o*k,none⟩) m c') m (lay m fun i=>X (o+i)):=by
 subst ha
 refine ⟨du fun i hi=>hX (o+i) (by omega),?_⟩
 rcases Nat.eq_zero_or_pos m with rfl | hm
 ·exact Or.inl ⟨rfl,_,_,rfl⟩
 obtain ⟨b',cap,cs,fz,he,rfl,ej,b7,cd,kZ⟩:=hs.block (by omega)
 simp only [Value.slice.injEq,Option.some.injEq,Addr.mk.injEq] at he
 obtain ⟨⟨rfl,-⟩,-⟩:=he
 refine Or.inr ⟨_,_,rfl,fun j hj=>?_⟩
 have cn:(lay m fun i=>X (o+i)).length=m*k:=du fun i hi=>hX (o+i) (by omega)
 have e1:lay m (fun i=>X (o+i))=((lay N X).drop (o*k)).take (m*k):=by
  rw [← wT (n:=N) (c:=o) hX (by omega)]
  exact pE (n:=N-o) (c:=m) (X:=fun i=>X (o+i)) (fun i hi=>hX (o+i) (by omega)) (by omega)
 have cB:(o+m)*k≤N*k:=Nat.mul_le_mul_right k h
 rw [Nat.add_mul] at cB
 rw [add_eq,cell_of hw.one]
 have e2:(lay m fun i=>X (o+i))[j]?=some (lay m fun i=>X (o+i))[j]:=List.getElem?_eq_getElem hj
 rw [← e2,e1,List.getElem?_take,if_pos (by omega),List.getElem?_drop,← kZ,List.getElem?_take,if_pos (by omega),Array.getElem?_toList]
theorem xn {K:World→Prop} {k n c o c':Nat} {a:Option Addr} {rows:List (List DV)} (h:bj K (.ro k rows) (.slice a n c) []) (ho:o≤c') (hc:c'≤rows.length):bj K (.ro k ((rows.take c').drop o)) (.slice (if c=o then a else a.map (·.add (o*k))) (c'-o) (c-o)) []:=by
 cases h with
 | ro X hl hy hs hr=>
  obtain ⟨a',c'',e,cd⟩:=hy
  simp only [Value.slice.injEq] at e;obtain ⟨rfl,rfl,rfl⟩:=e
  have hX:∀ i,i<rows.length→(X i).length=k:=fun i hi=>(hl i _ (List.getElem?_eq_getElem hi)).2
  have hlen:((rows.take c').drop o).length=c'-o:=by simp;omega
  have eC:∀ (i:Nat) r,((rows.take c').drop o)[i]?=some r→rows[o+i]?=some r:=fun i r hi=>by
   rw [List.getElem?_drop,List.getElem?_take] at hi
   split at hi
   ·exact hi
   ·cases hi
  refine .ro (fun i=>X (o+i)) (fun i r hi=>hl (o+i) r (eC i r hi)) ⟨_,_,by rw [hlen],by rw [hlen];omega⟩ (fun w hw=>?_) fun i r j x y h1 h2 h3=>hr (o+i) r j x y (eC i r h1) h2 h3
  rw [hlen]
  refine ⟨du fun i hi=>hX (o+i) (by omega),?_⟩
  rcases Nat.eq_zero_or_pos (c'-o) with h0 | hm
  ·exact Or.inl ⟨h0,_,_,by rw [h0]⟩
  rcases (hs w hw).2 with ⟨h0,-⟩ | ⟨a0,c0,e,rM⟩
  ·omega
  simp only [Value.slice.injEq] at e;obtain ⟨rfl,-,rfl⟩:=e
  refine Or.inr ⟨a0.add (o*k),_,by rw [if_neg (by omega)];rfl,fun j hj=>?_⟩
  have cn:(lay (c'-o) fun i=>X (o+i)).length=(c'-o)*k:=du fun i hi=>hX (o+i) (by omega)
  have e1:lay (c'-o) (fun i=>X (o+i))=((lay rows.length X).drop (o*k)).take ((c'-o)*k):=by
   rw [← wT (n:=rows.length) (c:=o) hX (by omega)]
   exact pE (n:=rows.length-o) (c:=c'-o) (X:=fun i=>X (o+i)) (fun i hi=>hX (o+i) (by omega)) (by omega)
  have cB:(o+(c'-o))*k≤rows.length*k:=Nat.mul_le_mul_right k (by omega)
  rw [Nat.add_mul] at cB
  have hN:(lay rows.length X).length=rows.length*k:=du hX
  have o0:o*k+j<(lay rows.length X).length:=by omega
  rw [Addr.pC,rM (o*k+j) o0,← List.getElem?_eq_getElem o0,← List.getElem?_eq_getElem hj,e1,List.getElem?_take,if_pos (by omega),List.getElem?_drop]
def u4 (T:aC) (E:List (Nat×AV)) (M:List ae) (oc:Option aS) (t:TypeId) (x:Operand) (lo hi mx:Option Operand):Option Out:=
 match bB T t,aB E x,oc with
 | some (.sl e),some (.d (.ro k' rows)),some (.n2 c o)=>(match dw T e with
  | some k=>(match lo,hi,mx with
   | none,some h,none=>(match bN (aB E h) with
    | some (.i64,z)=>bif k.beq k' then some ⟨[z=(c:Int),c≤rows.length],.d (.ro k (rows.take c)),M,[],[],some []⟩ else none
    | _=>none)
   | none,some h,some m=>(match bN (aB E h),bN (aB E m) with
    | some (.i64,z),some (.i64,z')=>bif k.beq k' then some ⟨[z=(c:Int),z'=(c:Int),c≤rows.length],.d (.ro k (rows.take c)),M,[],[],some []⟩ else none
    | _,_=>none)
   | some l,none,none=>(match bN (aB E l) with
    | some (.i64,z)=>bif k.beq k' then some ⟨[z=(o:Int),o≤rows.length],.d (.ro k (rows.drop o)),M,[],[],some []⟩ else none
    | _=>none)
   | some l,some h,none=>(match bN (aB E l),bN (aB E h) with
    | some (.i64,z),some (.i64,z')=>bif k.beq k' then some ⟨[z=(o:Int),z'=(c:Int),o≤c,c≤rows.length],.d (.ro k ((rows.take c).drop o)),M,[],[],some []⟩ else none
    | _,_=>none)
   | _,_,_=>none)
  | _=>none)
 | _,_,_=>none
theorem J0 (hT:aI P T=true) {t:TypeId} {x:Operand} {lo hi mx:Option Operand} (h:u4 T E M oc t x lo hi mx=some out):aA P ⟨d,.slice t x lo hi mx,ty,pos,aft,gd⟩ E M out:=by
 unfold u4 at h
 split at h
 rotate_left
 ·simp at h
 rename_i e k' rows c o ht hx
 split at h
 rotate_left
 ·simp at h
 rename_i k hk
 replace ht:=a7 hT ht
 replace hk:=dR hT hk
 split at h
 ·rename_i hh
  split at h
  rotate_left
  ·simp at h
  rename_i z hz
  cases bh:k.beq k' with
  | false=>simp [bh] at h
  | true=>
   simp only [bh,cond_true,Option.some.injEq] at h;subst h
   obtain rfl:=Nat.eq_of_beq_eq_true bh
   refine aA.look ?_ (by simp)
   intro D w0 K0 β F I ρ w C hv
   obtain ⟨rfl,hc,-⟩:=hv
   obtain ⟨y,hy,r⟩:=C.aJ hx
   cases r with | d r=>
   obtain ⟨a,n,cc,rfl,hle,cd⟩:∃ a n cc,y=.slice a n cc∧n=rows.length∧rows.length≤cc:=by
    cases r with | ro X hl lb hs hr=>obtain ⟨a,cc,rfl,h2⟩:=lb;exact ⟨_,_,_,rfl,rfl,h2⟩
   subst hle
   have p:=xn r (o:=0) (c':=c) (Nat.zero_le _) hc
   rw [List.drop_zero] at p
   refine ⟨_,.d p,fun w' _=>?_⟩
   have:=ly (P:=P) (w:=w') (a:=a) ht hk (n:=rows.length) (c:=cc) (l:=0) (h:=c) (m:=cc) (vl:=none) (vh:=some (.int .i64 c)) (vm:=none) (by simp [Instr.sliceBounds,fG (show c≤cc by omega)])
   simp only [execOp,hy,C.int hz,Option.map_some,Option.map_none,Sem.run_bind,this,Result.andThen_ok,Sem.run_pure]
 ·rename_i hh mm
  split at h
  rotate_left
  ·simp at h
  rename_i z z' hz fy
  cases bh:k.beq k' with
  | false=>simp [bh] at h
  | true=>
   simp only [bh,cond_true,Option.some.injEq] at h;subst h
   obtain rfl:=Nat.eq_of_beq_eq_true bh
   refine aA.look ?_ (by simp)
   intro D w0 K0 β F I ρ w C hv
   obtain ⟨rfl,rfl,hc,-⟩:=hv
   obtain ⟨y,hy,r⟩:=C.aJ hx
   cases r with | d r=>
   obtain ⟨a,n,cc,rfl,hle,cd⟩:∃ a n cc,y=.slice a n cc∧n=rows.length∧rows.length≤cc:=by
    cases r with | ro X hl lb hs hr=>obtain ⟨a,cc,rfl,h2⟩:=lb;exact ⟨_,_,_,rfl,rfl,h2⟩
   subst hle
   have p:=xn r (o:=0) (c':=c) (Nat.zero_le _) hc
   rw [List.drop_zero] at p
   have hb:∀ q:Nat,(if q=0 then a else a.map (·.add (0*k)))=a:=by
    intro q
    rw [Nat.zero_mul]
    split
    ·rfl
    ·cases a with
     | none=>rfl
     | some a=>simp [add_zero']
   rw [hb cc] at p
   refine ⟨_,.d (p.cap (c':=c-0) (Nat.le_refl _)),fun w' _=>?_⟩
   have:=ly (P:=P) (w:=w') (a:=a) ht hk (n:=rows.length) (c:=cc) (l:=0) (h:=c) (m:=c) (vl:=none) (vh:=some (.int .i64 c)) (vm:=some (.int .i64 c)) (by simp [Instr.sliceBounds,fG (show c≤cc by omega),fG (Nat.le_refl c)])
   rw [hb c] at this
   simp only [execOp,hy,C.int hz,C.int fy,Option.map_some,Option.map_none,Sem.run_bind,this,Result.andThen_ok,Sem.run_pure]
 ·rename_i l
  split at h
  rotate_left
  ·simp at h
  rename_i z hz
  cases bh:k.beq k' with
  | false=>simp [bh] at h
  | true=>
   simp only [bh,cond_true,Option.some.injEq] at h;subst h
   obtain rfl:=Nat.eq_of_beq_eq_true bh
   refine aA.look ?_ (by simp)
   intro D w0 K0 β F I ρ w C hv
   obtain ⟨rfl,hc,-⟩:=hv
   obtain ⟨y,hy,r⟩:=C.aJ hx
   cases r with | d r=>
   obtain ⟨a,n,cc,rfl,hle,cd⟩:∃ a n cc,y=.slice a n cc∧n=rows.length∧rows.length≤cc:=by
    cases r with | ro X hl lb hs hr=>obtain ⟨a,cc,rfl,h2⟩:=lb;exact ⟨_,_,_,rfl,rfl,h2⟩
   subst hle
   have p:=xn r (o:=o) (c':=rows.length) hc (Nat.le_refl _)
   rw [List.take_length] at p
   refine ⟨_,.d p,fun w' _=>?_⟩
   have:=ly (P:=P) (w:=w') (a:=a) ht hk (n:=rows.length) (c:=cc) (l:=o) (h:=rows.length) (m:=cc) (vl:=some (.int .i64 o)) (vh:=none) (vm:=none) (by simp [Instr.sliceBounds,fG hc])
   simp only [execOp,hy,C.int hz,Option.map_some,Option.map_none,Sem.run_bind,this,Result.andThen_ok,Sem.run_pure]
 ·rename_i l hh
  split at h
  rotate_left
  ·simp at h
  rename_i z z' hz fy
  cases bh:k.beq k' with
  | false=>simp [bh] at h
  | true=>
   simp only [bh,cond_true,Option.some.injEq] at h;subst h
   obtain rfl:=Nat.eq_of_beq_eq_true bh
   refine aA.look ?_ (by simp)
   intro D w0 K0 β F I ρ w C hv
   obtain ⟨rfl,rfl,ho,hc,-⟩:=hv
   obtain ⟨y,hy,r⟩:=C.aJ hx
   cases r with | d r=>
   obtain ⟨a,n,cc,rfl,hle,cd⟩:∃ a n cc,y=.slice a n cc∧n=rows.length∧rows.length≤cc:=by
    cases r with | ro X hl lb hs hr=>obtain ⟨a,cc,rfl,h2⟩:=lb;exact ⟨_,_,_,rfl,rfl,h2⟩
   subst hle
   have p:=xn r (o:=o) (c':=c) ho hc
   refine ⟨_,.d p,fun w' _=>?_⟩
   have:=ly (P:=P) (w:=w') (a:=a) ht hk (n:=rows.length) (c:=cc) (l:=o) (h:=c) (m:=cc) (vl:=some (.int .i64 o)) (vh:=some (.int .i64 c)) (vm:=none) (by simp [Instr.sliceBounds,fG (show c≤cc by omega),fG ho])
   simp only [execOp,hy,C.int hz,C.int fy,Option.map_some,Option.map_none,Sem.run_bind,this,Result.andThen_ok,Sem.run_pure]
 ·simp at h
def Ds (T:aC) (E:List (Nat×AV)) (M:List ae) (st xt:TypeId) (x y:Operand):Option Out:=
 match eJ T st,bB T xt,aB E x,aB E y with
 | some (e,k,b,_),some (.sl e'),some vx,some (.sb v k2 o m)=>bif e.beq e'&&k.beq k2 then (match p7 M e k vx,M[v]? with
  | some (some u,n,rows),some (.rw _ k3 kK)=>bif k.beq k3&&!(u.beq v) then some ⟨[n=rows.length,o+m≤kK.length,CpR kK]++u0 n m b ((kK.drop o).take m),.sl u (n+m),(M.map (fX [u])).set u (.rw e k (rows++(kK.drop o).take m)),[u],[u],none⟩ else none
  | _,_=>none) else none
 | _,_,_,_=>none
theorem VI (hT:aI P T=true) {st xt:TypeId} {x y:Operand} (h:Ds T E M st xt x y=some out):aA P ⟨d,.call ⟨.builtin .append,#[x,y],#[st,xt]⟩,ty,pos,aft,gd⟩ E M out:=by
 unfold Ds at h
 split at h
 rotate_left
 ·simp at h
 rename_i e k b z e' vx v k2 o m he hu hx hy
 cases ke:(e.beq e'&&k.beq k2) with
 | false=>simp [ke] at h
 | true=>
  simp only [ke,cond_true] at h
  simp only [Bool.and_eq_true] at ke
  obtain rfl:=Nat.eq_of_beq_eq_true ke.1
  obtain rfl:=Nat.eq_of_beq_eq_true ke.2
  split at h
  rotate_left
  ·simp at h
  rename_i u n rows Tv k3 kK hd Sw
  cases bh:(k.beq k3&&!(u.beq v)) with
  | false=>simp [bh] at h
  | true=>
   simp only [bh,cond_true,Option.some.injEq] at h;subst h
   simp only [Bool.and_eq_true,Bool.not_eq_true'] at bh
   obtain rfl:=Nat.eq_of_beq_eq_true bh.1
   have dM:v≠u:=fun e=>by rw [e] at bh;simp at bh
   obtain ⟨rfl,hM⟩:=wD hd
   intro D w0 K0 β F I ρ w C hv
   obtain ⟨hn,ho,jq,h1,h2,h3,-⟩:=hv
   obtain ⟨X1,G1,H0,hF,cm,a1,-⟩:=mb C.rm hM hn (C.ev hx)
   obtain ⟨y',lb,ry⟩:=C.aJ hy
   cases ry with
   | @sb _ _ _ _ bb cc c' oS=>
    obtain ⟨Hv,hFv,hBv,hHv⟩:=C.rm.at Sw
    cases hBv with
    | rw aD X G hl hs hr=>
     rw [oS] at aD;cases aD
     have hX:∀ i,i<kK.length→(X i).length=k:=fun i hi=>(hl i _ (List.getElem?_eq_getElem hi)).2
     have dD:=VH (c':=c') hs (aj.app.1 hHv).1 hX ho rfl
     have As:m=((kK.drop o).take m).length:=by simp;omega
     have eC:∀ (i:Nat) r,((kK.drop o).take m)[i]?=some r→kK[o+i]?=some r∧r ∈ kK:=fun i r hi=>by
      rw [List.getElem?_take,List.getElem?_drop] at hi
      split at hi
      ·exact ⟨hi,List.mem_of_getElem? hi⟩
      ·simp at hi
     have a2:dh (fun w=>K0 w∧aj w I) k ((kK.drop o).take m) (fun i=>X (o+i)) (fun _ _=>[]):=⟨fun i r hi=>hl (o+i) r (eC i r hi).1,fun i r j c x h4 h5 h6=>(hr (o+i) r j c x (eC i r h4).1 h5 h6).cp (jq r (eC i r h4).2 c (List.mem_of_getElem? h5))⟩
     have R1:=C.rm.x.ec hM
     rw [hF,List.nil_append] at R1
     have aG:u<(M.set u .dead).length:=by rw [List.length_set];exact cM hM
     refine (xj hT he rfl lb (R1.perm (Y:=(H0++bA n k G1)++[]) (by rw [List.append_nil])) aG (by simp [aF]) cm hn As a1 rfl a2 (by rw [kv]) (dD.app (a7 hT hu)) h1 h2 h3).mono ?_
     rintro v' w' ⟨β',F',R',hE,iC,gN⟩
     rw [wu] at R'
     exact ⟨β',F',I,R',hE,aV.refl _,fun q _ hq=>by have mS:q≠u:=(by simpa using hq);rw [iC q mS];simp only [aF];rw [if_neg mS],gN⟩
end Go.Proofs.YtkheephfkbpchaaGreatDoor
namespace Go.Proofs.YtkheephfkbpchaaGreatDoor
open Go.RowKit
variable {P:Program} {T:aC} {D:List Nat} {w0:World} {K0:World→Prop} {E:List (Nat×AV)} {M:List ae} {β:Beta} {F:Nat→ai} {I X:ai} {ρ:Operand→Value} {w:World}
variable {d:Option Tmp} {ty:TypeId} {pos:String} {aft:Array Edge} {gd:Option (Nat×Bool)} {oc:Option aS} {out:Out}
def B7 (T:aC) (E:List (Nat×AV)) (M:List ae) (oc:Option aS) (t:TypeId) (x ix:Operand):Option Out:=
 match bB T t,aB E x,bN (aB E ix),oc with
 | some (.sl e),some (.d (.v (.slice a n _))),some (_,z),some (.n2 i v)=>(match dw T e,M[v]? with
  | some k,some (.tw a' _ _ k' rows)=>bif k.beq k' then some ⟨[z=(i:Int),a=a',i<n,n=rows.length],.ep v k i 0,M,[],[],some []⟩ else none
  | _,_=>none)
 | _,_,_,_=>none
theorem T6 (hT:aI P T=true) {t:TypeId} {x ix:Operand} (h:B7 T E M oc t x ix=some out):aA P ⟨d,.indexAddr t x ix,ty,pos,aft,gd⟩ E M out:=by
 unfold B7 at h
 split at h
 rotate_left
 ·simp at h
 rename_i e a n ca kk z i v ht hv hz
 replace ht:=a7 hT ht
 split at h
 rotate_left
 ·simp at h
 rename_i k a' c' T' k' rows hk hM
 replace hk:=dR hT hk
 cases bh:k.beq k' with
 | false=>simp [bh] at h
 | true=>
  simp only [bh,cond_true,Option.some.injEq] at h;subst h
  obtain rfl:=Nat.eq_of_beq_eq_true bh
  refine aA.look (fun C bP=>?_) (by simp)
  obtain ⟨rfl,rfl,hi,Sg,-⟩:=bP
  obtain ⟨y,hy,r⟩:=C.aJ hv
  cases r with | d r=>
  cases r with | v=>
  obtain ⟨H,-,hB,-⟩:=C.rm.at hM
  cases hB with
  | tw hb X G hl hs hr=>
   obtain ⟨b',cap,cs,fz,he,-⟩:=hs.block (by omega)
   cases he
   exact ⟨_,by rw [add_eq];simpa using au.ep (k:=k) (i:=i) (o:=0) hb,fun _ _=>tO ht hk hy (C.int hz) (by omega) (by omega)⟩
def B8 (T:aC) (E:List (Nat×AV)) (M:List ae) (oc:Option aS) (t:TypeId) (x y:Operand):Option Out:=
 match aB E x,aB E y,dw T t,oc with
 | some (.ep u k i o),some v,some n,some (.ix _ row)=>(match nz v with
  | some l=>(match kH M l with
   | some (vc,xs,M')=>(match M'[u]? with
    | some (.tw a c e k' rows)=>bif k.beq k'&&l.length.beq n&&(o+n).ble k then some ⟨(rows[i]?=some row)::vc,.d .jk,M'.set u (.tw a c e k (rows.set i (row.take o++(xs++row.drop (o+xs.length))))),u::se l,[],none⟩ else none
    | _=>none)
   | none=>none)
  | none=>none)
 | _,_,_,_=>none
theorem T7 (hT:aI P T=true) {t:TypeId} {x y:Operand} (h:B8 T E M oc t x y=some out):aA P ⟨d,.store t x y,ty,pos,aft,gd⟩ E M out:=by
 unfold B8 at h
 split at h
 rotate_left
 ·simp at h
 rename_i u k i o v n i0 row hx hy hn
 split at h
 rotate_left
 ·simp at h
 rename_i l hl
 split at h
 rotate_left
 ·simp at h
 rename_i vc xs M' hp
 split at h
 rotate_left
 ·simp at h
 rename_i aa ca e k' rows hM
 cases hc:(k.beq k'&&l.length.beq n&&(o+n).ble k) with
 | false=>simp [hc] at h
 | true=>
  simp only [hc,cond_true,Option.some.injEq] at h;subst h
  simp only [Bool.and_eq_true] at hc
  obtain rfl:=Nat.eq_of_beq_eq_true hc.1.1
  have mP:=Nat.eq_of_beq_eq_true hc.1.2
  have hle:=Nat.le_of_ble_eq_true hc.2
  intro D w0 K0 β F I ρ w C hv
  obtain ⟨bn,hv⟩:=hv
  obtain ⟨yx,cT,rx⟩:=C.aJ hx
  obtain ⟨yy,eP,ry⟩:=C.aJ hy
  obtain ⟨zs,h1,h2,h3,h4⟩:=qV hl ry
  obtain ⟨lM,F',Hp,R',dd,oU⟩:=xk C.rm.x hp hv (ys:=zs) h2 h3
  rw [List.nil_append] at R'
  cases rx with
  | @ep _ _ _ _ b0 c0 hb=>
   have aG:u<M'.length:=cM hM
   have hB:=R'.blk u _ hM
   have hH:=R'.jE hM
   have R1:=R'.ec hM
   have dl:=dd.len
   obtain ⟨Gx,F7,vF⟩:=dd.to
   generalize mU:F' u=Fu at hB hH R1
   cases hB with
   | tw aD X G cH hs hr=>
    rw [hb] at aD;cases aD
    obtain ⟨hi,-⟩:=List.getElem?_eq_some_iff.1 bn
    obtain ⟨b',cap,cs,fz,he,rfl,ej,b7,cd,ht⟩:=hs.block (by omega)
    cases he
    have hw:=(aj.app.1 hH).1.one
    have hX:∀ a,a<rows.length→(X a).length=k:=fun a ha=>(cH a _ (List.getElem?_eq_getElem ha)).2
    have F6:i*k+k≤rows.length*k:=by have:=Nat.mul_le_mul_right k (show i+1≤rows.length from hi);rw [Nat.succ_mul] at this;exact this
    have aP:rows.length*k≤cs.size:=by rw [b7];exact Nat.mul_le_mul_right _ cd
    refine xg n (dR hT hn) cT eP hw (by rw [h1];simp;omega) (by omega) (by rw [h1];simpa using h4) ?_
    rw [h1]
    have ra:dh (fun w=>K0 w∧aj w I) k rows X G:=⟨cH,hr⟩
    have gL:=ra.put (o:=o) (zs:=zs) (xs:=xs) (Gx:=Gx) bn (by omega) dl vF
    have aQ:=R1.st
    have gR:St D w0 w ((b0,.cells cs e fz)::(bA rows.length k G++(Hp++((List.range (M'.set u .dead).length).flatMap (aF F' u [])++I)))):=aQ.perm (by classical rw [List.perm_iff_count];intro z;simp only [List.count_append,List.count_cons,List.cons_append,List.nil_append];omega)
    have kO:=gR.set (.cells (bV cs (i*k+o) zs) e fz)
    have gT:=Bt (n:=rows.length) (k:=k) (i:=i) (o:=o) (m:=zs.length) hi (by omega) G Gx
    rw [F7,← dl] at kO
    have R2:bq D w0 K0 (M'.set u .dead) β (aF F' u []) I (([(b0,.cells (bV cs (i*k+o) zs) e fz)]++bA rows.length k (dE G i o zs.length Gx))++(List.range' o zs.length).flatMap (G i)) _:=R1.move (kO.perm (by
     classical
     have hc:=List.perm_iff_count.1 gT
     rw [List.perm_iff_count];intro z
     have:=hc z
     simp only [List.count_append,List.count_cons,List.cons_append,List.nil_append] at this ⊢
     omega))
    have di:bf (fun w=>K0 w∧aj w I) β u (.tw (some ⟨b0,0,none⟩) ca e k (rows.set i (row.take o++(xs++row.drop (o+xs.length))))) ([(b0,.cells (bV cs (i*k+o) zs) e fz)]++bA rows.length k (dE G i o zs.length Gx)):=by
     have:=bf.tw (K:=fun w=>K0 w∧aj w I) (u:=u) (T:=e) (k:=k) (rows:=rows.set i (row.take o++(xs++row.drop (o+xs.length)))) (H0:=[(b0,.cells (bV cs (i*k+o) zs) e fz)]) hb (ik X i o zs) (dE G i o zs.length Gx) gL.hl (by
      rw [List.length_set]
      exact ⟨du fun a ha=>tS (by omega) (hX a ha),Or.inr ⟨_,_,_,fz,rfl,rfl,by rw [hU];exact ej,by rw [hU];exact b7,cd,JT hX hi (by omega) ht aP⟩⟩) gL.hr
     rw [List.length_set] at this;exact this
    have R3:=((R2.drop.perm (Y:=([(b0,.cells (bV cs (i*k+o) zs) e fz)]++bA rows.length k (dE G i o zs.length Gx))++[]) (by rw [List.append_nil])).back (by rw [List.length_set];exact aG) (by simp [aF]) di).nil rfl
    rw [List.set_set] at R3
    refine ⟨β,_,I,R3,(Ext.refl β).b _,aV.refl _,fun q hq gl=>?_,.d (.jk _)⟩
    simp only [List.mem_cons,not_or] at gl
    simp only [aF];rw [if_neg gl.1,if_neg gl.1]
    exact oU q gl.2
def CN (T:aC) (E:List (Nat×AV)) (M:List ae) (oc:Option aS) (t:TypeId) (x:Operand):Option Out:=
 match aB E x with
 | some (.ep u k i o)=>(match oc with
  | some (.ix _ row)=>(match M[u]? with | some (.tw _ _ _ k' rows)=>bif k.beq k'&&row.all DV.cp then (match iA T t (row.map .d) o with | some v=>some ⟨[rows[i]?=some row],v,M,[],[],some [u]⟩ | none=>none) else none | _=>none)
  | _=>none)
 | _=>none
theorem UI (hT:aI P T=true) {t:TypeId} {x:Operand} (h:CN T E M oc t x=some out):aA P ⟨d,.load t x,ty,pos,aft,gd⟩ E M out:=by
 unfold CN at h
 split at h
 ·rename_i u k i o hv
  split at h
  ·rename_i i0 row
   split at h
   rotate_left
   ·simp at h
   rename_i aw cw Tt k' rows hM
   cases hk:(k.beq k'&&row.all DV.cp) with
   | false=>simp [hk] at h
   | true=>
    simp only [hk,cond_true] at h
    simp only [Bool.and_eq_true] at hk
    obtain ⟨hk,jq⟩:=hk
    obtain rfl:=Nat.eq_of_beq_eq_true hk
    split at h
    ·rename_i v e9
     simp only [Option.some.injEq] at h;subst h
     refine aA.look ?_ (by simpa using cM hM)
     intro D w0 K0 β F I ρ w C bP
     obtain ⟨bn,-⟩:=bP
     obtain ⟨y,hy,r⟩:=C.aJ hv
     cases r with
     | ep hb=>
      obtain ⟨H,hF,hB,hH⟩:=C.rm.at hM
      cases hB with
      | tw aD X G hl hs hr=>
       rw [hb] at aD;cases aD
       obtain ⟨sX,FR⟩:=hl i row bn
       obtain ⟨hi,-⟩:=List.getElem?_eq_some_iff.1 bn
       obtain ⟨b',cap,cs,fz,he,rfl,ej,b7,hn,ht⟩:=hs.block (by omega)
       cases he
       have cH:(X i).length=(row.map AV.d).length:=by rw [List.length_map];omega
       obtain ⟨y',h1,h2⟩:=pJ hT (a:=⟨_,i*k,none⟩) (R:=au (fun w=>K0 w∧aj w I) β) (fun l ys=>au.ag ys) e9 (hy.trans (by rw [add_eq])) cH (fun j c z h1 h2=>by
        simp only [List.getElem?_map,Option.map_eq_some_iff] at h1
        obtain ⟨c',h1,rfl⟩:=h1
        exact .d ((hr i row j c' z bn h1 h2).cp (List.all_eq_true.1 jq c' (List.mem_of_getElem? h1))))
       refine ⟨y',h1,fun w' vz=>h2 w' fun j z hj=>?_⟩
       have cQ:aj w' _:=vz.2 u (by simp)
       rw [hF] at cQ
       have hw:=(aj.app.1 cQ).1.one
       obtain ⟨dN,-⟩:=List.getElem?_eq_some_iff.1 hj
       rw [add_eq,cell_of hw,← hj,← jD (fun i hi=>(hl i _ (List.getElem?_eq_getElem hi)).2) hi (by omega),← ht,List.getElem?_take,if_pos,Array.getElem?_toList]
       have:=Nat.mul_le_mul_right k (show i+1≤rows.length from hi);rw [Nat.succ_mul] at this;omega
    ·simp at h
  ·simp at h
 ·simp at h
end Go.Proofs.YtkheephfkbpchaaGreatDoor
namespace Go.Proofs.YtkheephfkbpchaaGreatDoor
open Go.RowKit
variable {P:Program} {T:aC} {E:List (Nat×AV)} {M:List ae} {d:Option Tmp} {ty:TypeId} {pos:String} {aft:Array Edge} {gd:Option (Nat×Bool)} {oc:Option aS} {out:Out}
def gg (P:Program) (t:TypeId):Prop:=P.underlying t=some (.pointer (P.pointee t))
theorem T8 {ρ:Operand→Value} {w:World} {Φ:Value→World→Prop} {x:Operand} {t t':TypeId} {o:Option Addr} {c:Bool} (ht:gg P t) (h:ρ x=.pointer o) (hn:ρ (.const (.pointer none))=.pointer none) (hc:(!o.isNone)=c) (aE:Φ (.bool c) w):aM P ⟨d,.binOp .neq t x (.const (.pointer none)) t',ty,pos,aft,gd⟩ ρ w Φ:=by
 subst hc
 exact .pure (v:=.bool !o.isNone) (by simp [execOp,h,hn,eqGuard,binOp,Op.equal,Op.maxDepth,run_equalIn_pointer_nil w 9999 t o ht]) aE
def u5:Option AV→Option Bool
 | some (.pt _ _)=>some false
 | some (.ep _ _ _ _)=>some false
 | some (.rp _ _)=>some false
 | some (.d (.v (.pointer none)))=>some true
 | _=>none
def uI (P:Program) (E:List (Nat×AV)) (M:List ae) (op:BinOp) (t:TypeId) (x y:Operand):Option Out:=
 match op,y,u5 (aB E x) with
 | .eql,.const (.pointer none),some c=>some (lk [gg P t] (.b c) M)
 | .neq,.const (.pointer none),some c=>some (lk [gg P t] (.b (!c)) M)
 | _,_,_=>none
theorem J1 {K:World→Prop} {β:Beta} {v:Option AV} {a:AV} {c:Bool} {y:Value} (h:u5 v=some c) (hv:v=some a) (r:au K β a y):∃ o,y=.pointer o∧o.isNone=c:=by
 subst hv
 unfold u5 at h
 split at h
 ·rename_i hx;cases hx;simp only [Option.some.injEq] at h;subst h
  cases r with | pt hb=>exact ⟨_,rfl,rfl⟩
 ·rename_i hx;cases hx;simp only [Option.some.injEq] at h;subst h
  cases r with | ep hb=>exact ⟨_,rfl,rfl⟩
 ·rename_i hx;cases hx;simp only [Option.some.injEq] at h;subst h
  cases r with | rp a X hl hc hr=>exact ⟨_,rfl,rfl⟩
 ·rename_i hx;cases hx;simp only [Option.some.injEq] at h;subst h
  cases r with | d r=>cases r;exact ⟨_,rfl,rfl⟩
 ·simp at h
theorem IM {op:BinOp} {t t':TypeId} {x y:Operand} (h:uI P E M op t x y=some out):aA P ⟨d,.binOp op t x y t',ty,pos,aft,gd⟩ E M out:=by
 unfold uI at h
 split at h
 ·rename_i c hx
  simp only [Option.some.injEq] at h;subst h
  refine kB (.of fun _=>⟨_,rfl⟩) ?_
  intro D w0 K0 β F I ρ w' C hv
  obtain ⟨hp,-⟩:=hv
  cases qC:aB E x with
  | none=>rw [qC] at hx;simp [u5] at hx
  | some a=>
   obtain ⟨o,ho,hc⟩:=J1 hx qC (C.ev qC)
   exact ⟨_,.d (.v _),fun w Φ aE=>Vm hp ho (C.const _) hc aE⟩
 ·rename_i c hx
  simp only [Option.some.injEq] at h;subst h
  refine kB (.of fun _=>⟨_,rfl⟩) ?_
  intro D w0 K0 β F I ρ w' C hv
  obtain ⟨hp,-⟩:=hv
  cases qC:aB E x with
  | none=>rw [qC] at hx;simp [u5] at hx
  | some a=>
   obtain ⟨o,ho,hc⟩:=J1 hx qC (C.ev qC)
   exact ⟨_,.d (.v _),fun w Φ aE=>T8 hp ho (C.const _) (by rw [hc]) aE⟩
 ·simp at h
def lI (g:Nat):List ae→Option (List DV)
 | []=>none
 | .gw g' row::r=>bif g'.beq g then some row else lI g r
 | _::r=>lI g r
theorem xp {g:Nat} {row:List DV}:∀ {M:List ae},lI g M=some row→∃ u:Nat,M[u]?=some (ae.gw g row)
 | [],h=>by simp [lI] at h
 | b::r,h=>by
  have next:lI g r=some row→∃ u:Nat,(b::r)[u]?=some (ae.gw g row):=fun h=>by
   obtain ⟨u,hu⟩:=xp h
   exact ⟨u+1,by simpa using hu⟩
  cases b with
  | gw g' p9=>
   simp only [lI] at h
   cases hc:g'.beq g with
   | true=>
    simp only [hc,cond_true,Option.some.injEq] at h;subst h
    obtain rfl:=Nat.eq_of_beq_eq_true hc
    exact ⟨0,rfl⟩
   | false=>
    simp only [hc,cond_false] at h
    exact next h
  | _=>simp only [lI] at h;exact next h
def B9 (T:aC) (E:List (Nat×AV)) (M:List ae) (oc:Option aS) (t:TypeId) (x ix:Operand):Option Out:=
 match x,bN (aB E ix),bB T t,oc with
 | .global g,some (_,z),some (.ar n e),some (.ix i [c])=>(match dw T e,lI g M with
  | some k,some row=>bif k.beq 1 then some (lk [z=(i:Int),i<n,row[i]?=some c] (.rp [c] 0) M) else none
  | _,_=>none)
 | _,_,_,_=>none
theorem T9 (hT:aI P T=true) {t:TypeId} {x ix:Operand} (h:B9 T E M oc t x ix=some out):aA P ⟨d,.indexAddr t x ix,ty,pos,aft,gd⟩ E M out:=by
 unfold B9 at h
 split at h
 rotate_left
 ·simp at h
 rename_i g kk z n e i c hz ht
 split at h
 rotate_left
 ·simp at h
 rename_i k row hk hg
 cases hc:k.beq 1 with
 | false=>simp [hc] at h
 | true=>
  simp only [hc,cond_true,Option.some.injEq] at h;subst h
  obtain rfl:=Nat.eq_of_beq_eq_true hc
  refine aA.same fun C bP=>?_
  obtain ⟨rfl,hi,bn,-⟩:=bP
  obtain ⟨u,hu⟩:=xp hg
  obtain ⟨H,-,hB,-⟩:=C.rm.at hu
  cases hB with
  | gw X hl eR hr=>
   have aG:i<X.length:=by have:=(List.getElem?_eq_some_iff.1 bn).1;omega
   have hx:X[i]?=some X[i]:=List.getElem?_eq_getElem aG
   have e0:(⟨g,0,none⟩:Addr).add (((i:Nat):Int).toNat*1)=((⟨g,0,none⟩:Addr).add i).add 0:=by rw [add_zero'];simp
   refine ⟨_,fun _ _=>nj (a7 hT ht) (dR hT hk) (C.Eh g) (C.int hz) (by simp) (by simp;omega),?_⟩
   rw [e0]
   refine .rp _ [X[i]] rfl (fun w' cQ j y hj=>?_) (fun j c' y h1 h2=>?_)
   ·cases j with
    | zero=>simp at hj;subst hj;rw [add_zero'];exact eR w' cQ i _ hx
    | succ j=>simp at hj
   ·cases j with
    | zero=>simp at h1 h2;subst h1;subst h2;exact hr i _ _ bn hx
    | succ j=>simp at h1
section
variable {ρ:Operand→Value} {w:World}
theorem UJ {w:World} {b:Nat} {c:Array Value} {e:TypeId} (hb:w.heap[b]?=some (.cells c e (0,0))):w.freeze ⟨b,c.size,none⟩ 1=bk w b (.cells c e (c.size,c.size+1)):=by
 unfold World.freeze bk
 rw [if_neg (by decide)]
 congr 1
 apply Array.ext_getElem?
 intro j
 have aG:=kz hb
 rw [Array.getElem?_modify,Array.getElem?_setIfInBounds]
 by_cases e':b=j
 ·subst e'
  have hg:w.heap[b]=.cells c e (0,0):=by rw [Array.getElem?_eq_getElem aG] at hb;exact Option.some.inj hb
  simp [aG,hg]
 ·simp [e']
theorem Ln {t t' e:TypeId} {x:Operand} {bs:List UInt8} (ht:P.underlying t=some .string) (b3:P.underlying t'=some (.slice e)) (he:P.underlying e=some (.int .u8)) (hx:ρ x=.string ⟨bs.toArray⟩):
  ∃ (k:Nat) (c:Array Value),bs.length≤k∧c=(bs.map fun b:UInt8=>Value.int .u8 b.toNat).toArray++Array.replicate (k-bs.length) (Value.int .u8 0)∧
   (execOp ρ ⟨d,.convert t t' x,ty,pos,aft,gd⟩).run P w=.ok (.value (.slice (some ⟨w.heap.size,0,none⟩) bs.length k)) (bk (w.drew.alloc (.cells c e (0,0))) w.heap.size (.cells c e (c.size,c.size+1))):=by
 refine ⟨(Question.appendCap bs.length 0 e).cut (w.tape w.drawn (.appendCap bs.length 0 e)),_,by simp [Question.cut],rfl,?_⟩
 generalize hk:(Question.appendCap bs.length 0 e).cut (w.tape w.drawn (.appendCap bs.length 0 e))=k
 generalize eR:(bs.map fun b:UInt8=>Value.int .u8 b.toNat).toArray++Array.replicate (k-bs.length) (Value.int .u8 0)=c
 have kU:(choose (.appendCap bs.length 0 e)).run P w=.ok k w.drew:=by
  rw [← hk];simp [choose,Sem.run,Question.forced]
 have bn:∀ (cs:Array Value) (w:World),(newRow e cs).run P w=.ok ⟨w.heap.size,0,none⟩ (w.alloc (.cells cs e)):=by
  intro cs w;simp [newRow,newObj,Sem.run]
 have cB:(markStringish ⟨w.heap.size,0,none⟩).run P (w.drew.alloc (.cells c e (0,0)))=.ok () (bk (w.drew.alloc (.cells c e (0,0))) w.heap.size (.cells c e (c.size,c.size+1))):=by
  have hb:(w.drew.alloc (.cells c e (0,0))).heap[w.heap.size]?=some (.cells c e (0,0)):=Bi w.drew _
  have mO:(w.drew.alloc (.cells c e (0,0))).shape? w.heap.size=some (e,c.size):=by unfold World.shape?;rw [hb]
  have:=UJ hb
  unfold markStringish
  simp only [Sem.run_bind]
  have h1:(shape w.heap.size).run P (w.drew.alloc (.cells c e (0,0)))=.ok (some (e,c.size)) (w.drew.alloc (.cells c e (0,0))):=by
   simp [shape,Sem.run,mO]
  rw [h1]
  simp only [Result.andThen_ok]
  simp [freeze,Sem.run,this]
 have Dt:(Conv.stringToBytes e ⟨bs.toArray⟩).run P w=.ok (.slice (some ⟨w.heap.size,0,none⟩) bs.length k) (bk (w.drew.alloc (.cells c e (0,0))) w.heap.size (.cells c e (c.size,c.size+1))):=by
  have aP:(⟨bs.toArray⟩:ByteArray).size=bs.length:=by simp [ByteArray.size]
  unfold Conv.stringToBytes
  simp only [aP,Sem.run_bind,kU,Result.andThen_ok,bn,Sem.run_pure]
  have b7:((Array.map (fun b:UInt8=>Value.int .u8 (b.toNat:Int)) bs.toArray)++Array.replicate (k-bs.length) (Value.int .u8 0))=c:=by rw [← eR];simp
  rw [b7]
  have hd:w.drew.heap.size=w.heap.size:=rfl
  rw [hd,cB]
  rfl
 simp only [execOp,hx,convert,Sem.run_bind,run_underlying ht,run_underlying b3,run_underlying he,Result.andThen_ok,Dt,Sem.run_pure]
theorem CO {n:Nat} (f:Nat→Value):lay n (fun i=>[f i])=(List.range n).map f:=by
 unfold lay
 induction n with
 | zero=>rfl
 | succ n ih=>rw [List.range_succ,List.flatMap_append,List.map_append,ih];rfl
end
theorem CP (w:World) (o:Obj):Gr w (w.drew.alloc o)∧cV w (w.drew.alloc o) [(w.heap.size,o)]:=⟨(Gr.drew w).trans (Gr.alloc w.drew o),(cV.alloc w.drew o).ahead (Gr.drew w)⟩
def Du (T:aC) (E:List (Nat×AV)) (M:List ae) (t t':TypeId) (x:Operand):Option Out:=
 match bB T t,bB T t',ga (aB E x) with
 | some .st,some (.sl e),some bs=>(match bB T e with
  | some (.it .u8)=>some ⟨[],.d (.ro 1 (ah bs)),M,[],[],none⟩
  | _=>none)
 | _,_,_=>none
theorem VJ (hT:aI P T=true) {t t':TypeId} {x:Operand} (h:Du T E M t t' x=some out):aA P ⟨d,.convert t t' x,ty,pos,aft,gd⟩ E M out:=by
 unfold Du at h
 split at h
 rotate_left
 ·cases h
 rename_i e bs ht b3 hs
 split at h
 rotate_left
 ·cases h
 rename_i he
 simp only [Option.some.injEq] at h;subst h
 intro D w0 K0 β F I ρ w C _
 have u6:=C.str (x:=x) (l:=bs) hs
 obtain ⟨k,c,hk,hc,ch⟩:=Ln (d:=d) (ty:=ty) (pos:=pos) (aft:=aft) (gd:=gd) (w:=w) (a7 hT ht) (a7 hT b3) (a7 hT he) u6
 refine aM.pure ch ?_
 have s1:St D w0 (w.drew.alloc (.cells c e (0,0))) ((w.heap.size,.cells c e (0,0))::((List.range M.length).flatMap F++I)):=C.rm.st.new (CP w (.cells c e (0,0))).1 (CP w (.cells c e (0,0))).2
 have s2:=s1.set (.cells c e (c.size,c.size+1))
 have R2:RM D w0 K0 M β F ([(w.heap.size,.cells c e (c.size,c.size+1))]++I) (bk (w.drew.alloc (.cells c e (0,0))) w.heap.size (.cells c e (c.size,c.size+1))):=by
  refine ⟨C.rm.len,fun v bl hv=>(C.rm.blk v bl hv).mono (fun w hw=>⟨hw.1,(aj.app.1 hw.2).2⟩) (Ext.refl _),?_⟩
  exact s2.perm (by classical rw [List.perm_iff_count];intro z;simp only [List.count_append,List.count_cons,List.count_nil];omega)
 refine ⟨β,F,_,R2,(Ext.refl β).b _,⟨_,rfl⟩,fun _ _ _=>rfl,?_⟩
 have hlen:(ah bs).length=bs.length:=by simp [ah]
 refine .d (.ro (fun i=>[Value.int .u8 (bs.getD i 0).toNat]) (fun i r hi=>?_) ⟨_,_,by rw [hlen],by rw [hlen];exact hk⟩ (fun w' cQ=>?_) fun i r j cc z h1 h2 h3=>?_)
 ·simp only [ah,List.getElem?_map,Option.map_eq_some_iff] at hi
  obtain ⟨b,-,rfl⟩:=hi;exact ⟨rfl,rfl⟩
 ·have aD:w'.heap[w.heap.size]?=some (.cells c e (c.size,c.size+1)):=(aj.app.1 cQ.2).1.one
  rw [hlen,CO]
  refine ⟨by simp,Or.inr ⟨_,k,rfl,fun j hj=>?_⟩⟩
  rw [add_eq,Nat.zero_add,cell_of aD,hc]
  have dN:j<bs.length:=by simpa using hj
  rw [Array.getElem?_append_left (by simpa using dN)]
  simp [dN,List.getD_eq_getElem?_getD]
 ·simp only [ah,List.getElem?_map,Option.map_eq_some_iff] at h1
  obtain ⟨b,hb,rfl⟩:=h1
  cases j with
  | succ j=>simp at h2
  | zero=>
   simp at h2 h3;subst h2;subst h3
   simp only [List.getD_eq_getElem?_getD,hb,Option.getD_some]
   exact .v _
theorem UK (w:World) (o o':Obj):bk (w.alloc o) w.heap.size o'=w.alloc o':=by
 unfold bk World.alloc
 congr 1
 apply Array.ext_getElem?
 intro j
 rw [Array.getElem?_setIfInBounds,Array.getElem?_push,Array.getElem?_push]
 by_cases h:w.heap.size=j
 ·subst h;simp
 ·rw [if_neg h,if_neg (fun e=>h e.symm),if_neg (fun e=>h e.symm)]
def Dv (T:aC) (E:List (Nat×AV)) (M:List ae) (t t':TypeId) (x:Operand):Option Out:=
 match bB T t,bB T t',ga (aB E x) with
 | some .st,some (.sl e),some bs=>(match bB T e with
  | some (.it .u8)=>some ⟨[],.sl M.length bs.length,M++[.rw e 1 (ah bs)],[],[],none⟩
  | _=>none)
 | _,_,_=>none
theorem VK (hT:aI P T=true) {t t':TypeId} {x:Operand} (h:Dv T E M t t' x=some out):aA P ⟨d,.convert t t' x,ty,pos,aft,gd⟩ E M out:=by
 unfold Dv at h
 split at h
 rotate_left
 ·cases h
 rename_i e bs ht b3 hs
 split at h
 rotate_left
 ·cases h
 rename_i he
 simp only [Option.some.injEq] at h;subst h
 intro D w0 K0 β F I ρ w C _
 have u6:=C.str (x:=x) (l:=bs) hs
 obtain ⟨k,c,hk,hc,ch⟩:=Ln (d:=d) (ty:=ty) (pos:=pos) (aft:=aft) (gd:=gd) (w:=w) (a7 hT ht) (a7 hT b3) (a7 hT he) u6
 have Sx:=UK w.drew (.cells c e (0,0)) (.cells c e (c.size,c.size+1))
 have aP:w.drew.heap.size=w.heap.size:=rfl
 rw [aP] at Sx
 rw [Sx] at ch
 refine aM.pure ch ?_
 obtain ⟨gr,nf⟩:=CP w (.cells c e (c.size,c.size+1))
 have hlen:(ah bs).length=bs.length:=by simp [ah]
 refine ⟨_,_,I,C.rm.new (q:=(some ⟨w.heap.size,0,none⟩,k)) gr nf ?_,(Ext.app _ _).b _,aV.refl _,fW _ _,.sl (cu C.rm _)⟩
 have b7:c.size=k:=by rw [hc];simp;omega
 have:=bf.rw (K:=fun w=>K0 w∧aj w I) (β:=β++[(some ⟨w.heap.size,0,none⟩,k)]) (u:=M.length) (T:=e) (k:=1) (rows:=ah bs) (H0:=[(w.heap.size,.cells c e (c.size,c.size+1))]) (cu C.rm _) (fun i=>[Value.int .u8 (bs.getD i 0).toNat]) (fun _ _=>[]) (fun i r hi=>by
  simp only [ah,List.getElem?_map,Option.map_eq_some_iff] at hi
  obtain ⟨b,-,rfl⟩:=hi;exact ⟨rfl,rfl⟩) (by
  rw [hlen,CO]
  refine ⟨by simp,Or.inr ⟨w.heap.size,k,_,_,rfl,rfl,fun i hi h=>by have:=h.1;simp at this;omega,by omega,hk,?_⟩⟩
  rw [hc]
  apply List.ext_getElem?
  intro j
  rw [List.getElem?_take]
  split
  ·rename_i hj
   have dN:j<bs.length:=by omega
   rw [Array.getElem?_toList,Array.getElem?_append_left (by simpa using dN)]
   simp [dN,List.getD_eq_getElem?_getD]
  ·rename_i hj
   symm;simp;omega) (fun i r j q x hi h1 h2=>by
  simp only [ah,List.getElem?_map,Option.map_eq_some_iff] at hi
  obtain ⟨b,hb,rfl⟩:=hi
  cases j with
  | succ j=>simp at h1
  | zero=>
   simp at h1 h2;subst h1;subst h2
   simp only [List.getD_eq_getElem?_getD,hb,Option.getD_some]
   exact .v _)
 rw [kv,List.append_nil] at this
 exact this
end Go.Proofs.YtkheephfkbpchaaGreatDoor
namespace Go.Proofs.YtkheephfkbpchaaGreatDoor
open Go.RowKit
variable {P:Program} {T:aC} {D:List Nat} {w0:World} {K0:World→Prop} {E:List (Nat×AV)} {M:List ae} {β:Beta} {F:Nat→ai} {I X:ai} {ρ:Operand→Value} {w:World}
variable {d:Option Tmp} {ty:TypeId} {pos:String} {aft:Array Edge} {gd:Option (Nat×Bool)} {oc:Option aS} {out:Out}
def zz (l:List UInt8):AV:=.d (.v (.string ⟨l.toArray⟩))
theorem J2 (l:List UInt8):(⟨l.toArray⟩:ByteArray).size=l.length:=by simp [ByteArray.size]
theorem WV {op:BinOp} {t t':TypeId} {x y:Operand} {a b:List UInt8} (hop:op=.add) (hx:ρ x=.string ⟨a.toArray⟩) (hy:ρ y=.string ⟨b.toArray⟩) (hle:a.length+b.length≤9223372036854775807):
  (execOp ρ ⟨d,.binOp op t x y t',ty,pos,aft,gd⟩).run P w=.ok (.value (.string ⟨(a++b).toArray⟩)) w:=by
 subst hop
 have hn:¬ (((a.length+b.length:Nat):Int)>IntKind.i64.max):=by simp [IntKind.max,IntKind.signed,IntKind.bits];omega
 have fx:(⟨a.toArray⟩:ByteArray)++⟨b.toArray⟩=⟨(a++b).toArray⟩:=by
  apply ByteArray.ext;simp
 simp only [execOp,hx,hy,eqGuard,binOp,Op.stringOp,Sem.run_bind,Sem.run_pure,Result.andThen_ok,J2]
 rw [if_neg hn,fx]
 simp
def Ez (E:List (Nat×AV)) (M:List ae) (op:BinOp) (x y:Operand):Option Out:=
 match op,ga (aB E x),ga (aB E y) with
 | .add,some a,some b=>some (lk [a.length+b.length≤9223372036854775807] (zz (a++b)) M)
 | _,_,_=>none
theorem WW {op:BinOp} {t t':TypeId} {x y:Operand} (h:Ez E M op x y=some out):aA P ⟨d,.binOp op t x y t',ty,pos,aft,gd⟩ E M out:=by
 unfold Ez at h
 split at h
 ·rename_i a b ha hb
  simp only [Option.some.injEq] at h;subst h
  exact aA.same fun C hv=>⟨_,fun w' _=>WV rfl (C.str ha) (C.str hb) hv.1,.d (.v _)⟩
 ·cases h
theorem Ua {t:TypeId} {x ix:Operand} {l:List UInt8} {k:IntKind} {i:Nat} {u:UInt8} (ht:P.underlying t=some .string) (hx:ρ x=.string ⟨l.toArray⟩) (hi:ρ ix=.int k (i:Int)) (hu:l[i]?=some u):
  (execOp ρ ⟨d,.index t x ix,ty,pos,aft,gd⟩).run P w=.ok (.value (.int .u8 (u.toNat:Int))) w:=by
 have h4:(⟨l.toArray⟩:ByteArray)[i]?=some u:=by
  obtain ⟨hi,rfl⟩:=List.getElem?_eq_some_iff.1 hu
  exact getElem?_pos (⟨l.toArray⟩:ByteArray) i (by show i<l.toArray.size;simpa using hi)
 simp [execOp,hx,hi,Instr.index,asIntOf,Sem.run_bind,run_underlying ht,h4]
def Dw (T:aC) (E:List (Nat×AV)) (M:List ae) (oc:Option aS) (t:TypeId) (x ix:Operand):Option Out:=
 match bB T t,ga (aB E x),bN (aB E ix),oc with
 | some .st,some l,some (_,z),some (.ix i [c])=>some (lk [z=(i:Int),∃ u:UInt8,l[i]?=some u∧c=.v (.int .u8 (u.toNat:Int))] (.d c) M)
 | _,_,_,_=>none
theorem VL (hT:aI P T=true) {t:TypeId} {x ix:Operand} (h:Dw T E M oc t x ix=some out):aA P ⟨d,.index t x ix,ty,pos,aft,gd⟩ E M out:=by
 unfold Dw at h
 split at h
 ·rename_i l k z i c hu hx hz
  simp only [Option.some.injEq] at h;subst h
  refine aA.same fun C hv=>?_
  obtain ⟨rfl,⟨u,h1,rfl⟩,-⟩:=hv
  exact ⟨_,fun w' _=>Ua (a7 hT hu) (C.str hx) (C.int hz) h1,.d (.v _)⟩
 ·cases h
theorem adh (l:List UInt8) (o c:Nat):(⟨l.toArray⟩:ByteArray).extract o c=⟨((l.take c).drop o).toArray⟩:=by
 apply ByteArray.ext
 rw [ByteArray.data_extract]
 apply Array.toList_inj.1
 simp [Array.toList_extract,List.extract_eq_take_drop,List.drop_take]
theorem By {t:TypeId} {x:Operand} {lo hi:Option Operand} {l:List UInt8} {o c:Nat} (ht:P.underlying t=some .string) (hx:ρ x=.string ⟨l.toArray⟩)
  (hb:(Instr.sliceBounds false l.length l.length (lo.map ρ) (hi.map ρ) none).run P w=.ok (o,c,l.length) w):
  (execOp ρ ⟨d,.slice t x lo hi none,ty,pos,aft,gd⟩).run P w=.ok (.value (.string ⟨((l.take c).drop o).toArray⟩)) w:=by
 simp only [execOp,hx,Option.map_none,Instr.sliceAt,Instr.slice,Sem.run_bind,run_underlying ht,Result.andThen_ok,Option.isSome_none,Bool.false_eq_true,if_false,J2,hb,Sem.run_pure,adh]
def EA (T:aC) (E:List (Nat×AV)) (M:List ae) (oc:Option aS) (t:TypeId) (x:Operand) (lo hi mx:Option Operand):Option Out:=
 match bB T t,ga (aB E x),oc,mx with
 | some .st,some l,some (.n2 c o),none=>(match lo,hi with
  | none,some h=>(match bN (aB E h) with
   | some (.i64,z)=>some (lk [z=(c:Int),c≤l.length] (zz (l.take c)) M)
   | _=>none)
  | some lo,none=>(match bN (aB E lo) with
   | some (.i64,z)=>some (lk [z=(o:Int),o≤l.length] (zz (l.drop o)) M)
   | _=>none)
  | some lo,some h=>(match bN (aB E lo),bN (aB E h) with
   | some (.i64,z),some (.i64,z')=>some (lk [z=(o:Int),z'=(c:Int),o≤c,c≤l.length] (zz ((l.take c).drop o)) M)
   | _,_=>none)
  | _,_=>none)
 | _,_,_,_=>none
theorem WX (hT:aI P T=true) {t:TypeId} {x:Operand} {lo hi mx:Option Operand} (h:EA T E M oc t x lo hi mx=some out):aA P ⟨d,.slice t x lo hi mx,ty,pos,aft,gd⟩ E M out:=by
 unfold EA at h
 split at h
 rotate_left
 ·cases h
 rename_i l c o hu hx
 replace hu:=a7 hT hu
 split at h
 ·rename_i hh
  split at h
  rotate_left
  ·cases h
  rename_i z hz
  simp only [Option.some.injEq] at h;subst h
  refine aA.same ?_
  intro D w0 K0 β F I ρ w C hv
  obtain ⟨rfl,hc,-⟩:=hv
  refine ⟨.string ⟨(l.take c).toArray⟩,fun w' _=>?_,.d (.v _)⟩
  have:=By (P:=P) (ρ:=ρ) (w:=w') (d:=d) (ty:=ty) (pos:=pos) (aft:=aft) (gd:=gd) (lo:=none) (hi:=some hh) (o:=0) (c:=c) hu (C.str hx) (by simp [Instr.sliceBounds,C.int hz,fG hc])
  simpa using this
 ·rename_i ll
  split at h
  rotate_left
  ·cases h
  rename_i z hz
  simp only [Option.some.injEq] at h;subst h
  refine aA.same ?_
  intro D w0 K0 β F I ρ w C hv
  obtain ⟨rfl,ho,-⟩:=hv
  refine ⟨.string ⟨(l.drop o).toArray⟩,fun w' _=>?_,.d (.v _)⟩
  have:=By (P:=P) (ρ:=ρ) (w:=w') (d:=d) (ty:=ty) (pos:=pos) (aft:=aft) (gd:=gd) (lo:=some ll) (hi:=none) (o:=o) (c:=l.length) hu (C.str hx) (by simp [Instr.sliceBounds,C.int hz,fG ho])
  simpa using this
 ·rename_i ll hh
  split at h
  rotate_left
  ·cases h
  rename_i z z' hz fy
  simp only [Option.some.injEq] at h;subst h
  refine aA.same fun C hv=>?_
  obtain ⟨rfl,rfl,ho,hc,-⟩:=hv
  refine ⟨.string ⟨((l.take c).drop o).toArray⟩,fun w' _=>?_,.d (.v _)⟩
  exact By hu (C.str hx) (by simp [Instr.sliceBounds,C.int hz,C.int fy,fG hc,fG ho])
 ·cases h
def Dx (T:aC) (E:List (Nat×AV)) (M:List ae) (oc:Option aS) (t:TypeId) (x ix:Operand):Option Out:=
 match x,bN (aB E ix),bB T t,oc with
 | .global g,some (_,z),some (.ar n e),some (.ix i row)=>(match dw T e,lI g M with
  | some k,some u7=>some (lk [z=(i:Int),i<n,(u7.drop (i*k)).take k=row] (.rp row 0) M)
  | _,_=>none)
 | _,_,_,_=>none
theorem VM (hT:aI P T=true) {t:TypeId} {x ix:Operand} (h:Dx T E M oc t x ix=some out):aA P ⟨d,.indexAddr t x ix,ty,pos,aft,gd⟩ E M out:=by
 unfold Dx at h
 split at h
 rotate_left
 ·cases h
 rename_i g kk z n e i row hz ht
 split at h
 rotate_left
 ·cases h
 rename_i k u7 hk hg
 simp only [Option.some.injEq] at h;subst h
 refine aA.same fun C bP=>?_
 obtain ⟨rfl,hi,rfl,-⟩:=bP
 obtain ⟨u,hu⟩:=xp hg
 obtain ⟨H,-,hB,-⟩:=C.rm.at hu
 cases hB with
 | gw X hl eR hr=>
  have e0:(⟨g,0,none⟩:Addr).add (((i:Nat):Int).toNat*k)=((⟨g,0,none⟩:Addr).add (i*k)).add 0:=by rw [add_zero'];simp
  refine ⟨_,fun _ _=>nj (a7 hT ht) (dR hT hk) (C.Eh g) (C.int hz) (by simp) (by simp;omega),?_⟩
  rw [e0]
  refine .rp _ ((X.drop (i*k)).take k) (by simp [hl]) (fun w' cQ j y hj=>?_) (fun j c' y h1 h2=>?_)
  ·rw [List.getElem?_take] at hj
   split at hj
   ·rw [List.getElem?_drop] at hj
    rw [Addr.pC];exact eR w' cQ _ y hj
   ·cases hj
  ·rw [List.getElem?_take] at h1 h2
   split at h1
   ·rename_i hj
    rw [if_pos hj] at h2
    rw [List.getElem?_drop] at h1 h2
    exact hr _ _ _ h1 h2
   ·cases h1
theorem J3 (K:World→Prop) (bs:List UInt8):dh K 1 (ah bs) (fun i=>[Value.int .u8 (bs.getD i 0).toNat]) (fun _ _=>[]):=by
 refine ⟨fun i r hi=>?_,fun i r j cc z h1 h2 h3=>?_⟩
 ·simp only [ah,List.getElem?_map,Option.map_eq_some_iff] at hi
  obtain ⟨b,-,rfl⟩:=hi;exact ⟨rfl,rfl⟩
 ·simp only [ah,List.getElem?_map,Option.map_eq_some_iff] at h1
  obtain ⟨b,hb,rfl⟩:=h1
  cases j with
  | succ j=>simp at h2
  | zero=>
   simp at h2 h3;subst h2;subst h3
   simp only [List.getD_eq_getElem?_getD,hb,Option.getD_some]
   exact .v _
theorem IN (bs:List UInt8):lay bs.length (fun i=>[Value.int .u8 (bs.getD i 0).toNat])=bs.map fun b:UInt8=>Value.int .u8 (b.toNat:Int):=by
 rw [CO]
 apply List.ext_getElem
 ·simp
 ·intro i h1 h2
  simp only [List.length_map,List.length_range] at h1
  simp [List.getD_eq_getElem?_getD,List.getElem?_eq_getElem h1]
theorem IP (bs:List UInt8):gC (ah bs):=by simp [gC,AV.one,dU,ah]
def Dy (T:aC) (E:List (Nat×AV)) (M:List ae) (st xt:TypeId) (x y:Operand):Option Out:=
 match eJ T st,bB T xt,ga (aB E y),aB E x with
 | some (e,k,b,_),some .st,some bs,some vx=>bif k.beq 1 then (match p7 M e k vx with
  | some (some u,n,rows)=>some ⟨[n=rows.length,(2*(n+bs.length)+192)*b≤281474976710656,n+bs.length<4611686018427387904],.sl u (n+bs.length),(M.map (fX [u])).set u (.rw e k (rows++ah bs)),[u],[u],none⟩
  | some (none,_,_)=>some ⟨[(2*(0+bs.length)+192)*b≤281474976710656,0+bs.length<4611686018427387904],.sl M.length bs.length,M++[.rw e k (ah bs)],[],[],none⟩
  | none=>none) else none
 | _,_,_,_=>none
theorem VN (hT:aI P T=true) {st xt:TypeId} {x y:Operand} (h:Dy T E M st xt x y=some out):aA P ⟨d,.call ⟨.builtin .append,#[x,y],#[st,xt]⟩,ty,pos,aft,gd⟩ E M out:=by
 unfold Dy at h
 split at h
 rotate_left
 ·cases h
 rename_i e k b z bs vx he hu hs hx
 cases ju:k.beq 1 with
 | false=>simp [ju] at h
 | true=>
  simp only [ju,cond_true] at h
  obtain rfl:=Nat.eq_of_beq_eq_true ju
  have Sy:(ah bs).length=bs.length:=by simp [ah]
  split at h
  ·rename_i u n rows hd
   simp only [Option.some.injEq] at h;subst h
   obtain ⟨rfl,hM⟩:=wD hd
   intro D w0 K0 β F I ρ w C hv
   obtain ⟨hn,h1,h2,-⟩:=hv
   obtain ⟨X1,G1,H0,hF,cm,a1,-⟩:=mb C.rm hM hn (C.ev hx)
   have R1:=C.rm.x.ec hM
   rw [hF,List.nil_append] at R1
   have aG:u<(M.set u .dead).length:=by rw [List.length_set];exact cM hM
   have dD:lC P xt w 1 (ρ y) bs.length (lay bs.length fun i=>[Value.int .u8 (bs.getD i 0).toNat]):=by
    rw [IN,C.str hs];exact lC.str (a7 hT hu)
   refine (xj hT he rfl rfl (R1.perm (Y:=(H0++bA n 1 G1)++[]) (by rw [List.append_nil])) aG (by simp [aF]) cm hn Sy.symm a1 rfl (J3 _ bs) (by rw [kv]) dD h1 h2 (IP bs)).mono ?_
   rintro v' w' ⟨β',F',R',hE,iC,hr⟩
   rw [wu] at R'
   exact ⟨β',F',I,R',hE,aV.refl _,fun q _ hq=>by have mS:q≠u:=(by simpa using hq);rw [iC q mS];simp only [aF];rw [if_neg mS],hr⟩
  ·rename_i n0 r0 hd
   simp only [Option.some.injEq] at h;subst h
   obtain rfl:=Be hd
   intro D w0 K0 β F I ρ w C hv
   obtain ⟨h1,h2,-⟩:=hv
   have mR:ρ x=.slice none 0 0:=by have:=C.ev hx;generalize ρ x=q at this;cases this with | d r=>cases r;rfl
   have dD:lC P xt w 1 (ρ y) bs.length (lay bs.length fun i=>[Value.int .u8 (bs.getD i 0).toNat]):=by
    rw [IN,C.str hs];exact lC.str (a7 hT hu)
   refine (BW hT he mR rfl C.rm.x Sy.symm (J3 _ bs) (by rw [kv]) dD h1 h2 (IP bs)).mono ?_
   rintro v' w' ⟨β',F',R',hE,iC,hr⟩
   exact ⟨β',F',I,R',hE.b _,aV.refl _,fun q hq _=>iC q hq,hr⟩
  ·cases h
def CQ (E:List (Nat×AV)) (M:List ae) (r:Value) (c x y:Operand):Option Out:=
 match aB E c,aB E x,aB E y with
 | some (.d (.v vc)),some (.d (.v vx)),some (.d (.v vy))=>some (lk [∃ b:Bool,vc=.bool b∧(bif b then vx else vy)=r] (.d (.v r)) M)
 | _,_,_=>none
theorem Ctx.val (C:Ctx D w0 K0 E M β F I ρ w) {x:Operand} {v:Value} (h:aB E x=some (.d (.v v))):ρ x=v:=by
 obtain ⟨y,hy,r⟩:=C.aJ h
 cases r with | d r=>cases r;exact hy
theorem UL {r:Value} {c x y:Operand} (h:CQ E M r c x y=some out):aA P ⟨d,.pick c x y,ty,pos,aft,gd⟩ E M out:=by
 unfold CQ at h
 split at h
 ·rename_i vc vx vy hc hx hy
  simp only [Option.some.injEq] at h;subst h
  refine kB wR fun C bP=>?_
  obtain ⟨⟨b,rfl,rfl⟩,-⟩:=bP
  refine ⟨_,.d (.v _),fun w Φ aE=>Yp (C.val hc) (C.val hx) (C.val hy) ?_⟩
  cases b<;>exact aE
 ·cases h
def Po (P:Program) (t t':TypeId):Bool:=match P.underlying t,P.underlying t' with
 | some (.pointer s),some .unsafePointer=>(match P.info? s with | some j=>!(j.size==0) | none=>false)
 | _,_=>false
def Pp (P:Program) (t t' T n:Nat):Bool:=match P.underlying t,P.underlying t' with
 | some .unsafePointer,some (.pointer u)=>(P.info? u).isSome&&liesAt P P.depth T (n / P.cellsOf T) 0 u 1
 | _,_=>false
def CR (P:Program) (E:List (Nat×AV)) (M:List ae) (oc:Option aS) (t t':TypeId) (x:Operand):Option Out:=
 match aB E x,oc with
 | some (.pt u 0),some (.b c)=>(match M[u]? with
  | some (.bx Tb cells)=>some ⟨[(bif c then Po P t t' else Pp P t t' Tb cells.length)=true,0<cells.length],.pt u 0,M,[],[],some [u]⟩
  | _=>none)
 | _,_=>none
theorem IQ {w:World} {b:Nat} {c:Array Value} {t:TypeId} {fr:Nat×Nat} (h:w.heap[b]?=some (.cells c t fr)):w.shape? b=some (t,c.size):=by
 unfold World.shape?;rw [h]
theorem UM {t t':TypeId} {x:Operand} (h:CR P E M oc t t' x=some out):aA P ⟨d,.convert t t' x,ty,pos,aft,gd⟩ E M out:=by
 unfold CR at h
 split at h
 rotate_left
 ·cases h
 rename_i u c hx
 split at h
 rotate_left
 ·cases h
 rename_i Tb cells hM
 simp only [Option.some.injEq] at h;subst h
 refine aA.look ?_ (by simpa using cM hM)
 intro D w0 K0 β F I ρ w C hv
 obtain ⟨hc,h0,-⟩:=hv
 obtain ⟨y,hy,r⟩:=C.aJ hx
 cases r with
 | @pt _ _ b cc hb=>
  refine ⟨_,.pt hb,fun w' hs=>?_⟩
  obtain ⟨H,hF,hB,-⟩:=C.rm.at hM
  have hH:aj w' (F u):=hs.2 u (by simp)
  rw [hF] at hH
  cases hB with
  | bx aD ys hl hr=>
   rw [hb] at aD;cases aD
   have mO:=IQ hH.one
   have aP:ys.toArray.size=cells.length:=by simp [hl]
   rw [aP] at mO
   have key:(convert t t' (.pointer (some ⟨b,0,none⟩))).run P w'=.ok (.pointer (some ⟨b,0,none⟩)) w':=by
    cases c with
    | true=>
     simp only [cond_true] at hc
     unfold Po at hc
     split at hc
     ·rename_i s h1 h2
      split at hc
      ·rename_i j hj
       exact Go.Lib.run_to_unsafe w' ⟨b,0,none⟩ h1 h2 hj (by simpa using hc) mO h0
      ·cases hc
     ·cases hc
    | false=>
     simp only [cond_false] at hc
     unfold Pp at hc
     split at hc
     ·rename_i s h1 h2
      rw [Bool.and_eq_true] at hc
      obtain ⟨j,hj⟩:=Option.isSome_iff_exists.1 hc.1
      exact Go.Lib.run_from_unsafe w' ⟨b,0,none⟩ h1 h2 hj mO hc.2
     ·cases hc
   simp only [execOp,hy,Sem.run_bind,key,Result.andThen_ok,Sem.run_pure]
def zA (P:Program) (t:TypeId):Bool:=match P.underlying t with | some (.pointer te)=>(P.info? te).isSome | _=>false
def EB (P:Program) (E:List (Nat×AV)) (M:List ae) (op:BinOp) (t:TypeId) (x y:Operand):Option Out:=
 match op,aB E x,aB E y with
 | .eql,some (.pt u o),some (.pt v q)=>bif Nat.beq u v&&Nat.beq o q then some (lk [zA P t=true] (.b true) M) else none
 | .neq,some (.pt u o),some (.pt v q)=>bif Nat.beq u v&&Nat.beq o q then some (lk [zA P t=true] (.b false) M) else none
 | _,_,_=>none
theorem J4 {t:TypeId} (h:zA P t=true):∃ te j,P.underlying t=some (.pointer te)∧P.info? te=some j:=by
 unfold zA at h
 split at h
 ·rename_i te h1
  obtain ⟨j,hj⟩:=Option.isSome_iff_exists.1 h
  exact ⟨te,j,h1,hj⟩
 ·cases h
theorem WY {op:BinOp} {t t':TypeId} {x y:Operand} (h:EB P E M op t x y=some out):aA P ⟨d,.binOp op t x y t',ty,pos,aft,gd⟩ E M out:=by
 unfold EB at h
 split at h
 ·rename_i u o v q hx hy
  cases hc:(Nat.beq u v&&Nat.beq o q) with
  | false=>simp [hc] at h
  | true=>
   simp only [hc,cond_true,Option.some.injEq] at h;subst h
   rw [Bool.and_eq_true] at hc
   obtain rfl:=Nat.eq_of_beq_eq_true hc.1
   obtain rfl:=Nat.eq_of_beq_eq_true hc.2
   refine aA.same fun C hv=>?_
   obtain ⟨te,j,h1,h2⟩:=J4 hv.1
   obtain ⟨y1,e1,r1⟩:=C.aJ hx
   obtain ⟨y2,e2,r2⟩:=C.aJ hy
   cases r1 with
   | pt hb=>
    cases r2 with
    | pt db=>
     rw [hb] at db;cases db
     refine ⟨_,fun w' _=>?_,.d (.v _)⟩
     simp only [execOp,e1,e2,eqGuard,Sem.run_bind,Sem.run_pure,Result.andThen_ok,run_eql_ptr_same w' _ h1 h2,Bool.not_true,Bool.false_eq_true,if_false]
 ·rename_i u o v q hx hy
  cases hc:(Nat.beq u v&&Nat.beq o q) with
  | false=>simp [hc] at h
  | true=>
   simp only [hc,cond_true,Option.some.injEq] at h;subst h
   rw [Bool.and_eq_true] at hc
   obtain rfl:=Nat.eq_of_beq_eq_true hc.1
   obtain rfl:=Nat.eq_of_beq_eq_true hc.2
   refine aA.same fun C hv=>?_
   obtain ⟨te,j,h1,h2⟩:=J4 hv.1
   obtain ⟨y1,e1,r1⟩:=C.aJ hx
   obtain ⟨y2,e2,r2⟩:=C.aJ hy
   cases r1 with
   | pt hb=>
    cases r2 with
    | pt db=>
     rw [hb] at db;cases db
     refine ⟨_,fun w' _=>?_,.d (.v _)⟩
     simp only [execOp,e1,e2,eqGuard,Sem.run_bind,Sem.run_pure,Result.andThen_ok,Go.Lib.run_neq_ptr_same w' _ h1 h2,Bool.not_true,Bool.false_eq_true,if_false]
 ·cases h
def ZN (P:Program) (f:FuncId):Prop:=∃ fn,P.funcs[f]?=some fn∧(fn.name == "runtime.NumGoroutine")=false∧fn.body.isNone=true∧Extern.findNext fn=none∧Extern.find fn=some Extern.AbiNoEscape.same
def CS (P:Program) (E:List (Nat×AV)) (M:List ae) (g:Operand) (args:Array Operand):Option Out:=
 match aB E g,args with
 | some (.fn f []),⟨[x]⟩=>(match aB E x with | some (.pt u o)=>some (lk [ZN P f] (.pt u o) M) | _=>none)
 | _,_=>none
theorem UN {g:Operand} {args:Array Operand} {dW:Array TypeId} (h:CS P E M g args=some out):aA P ⟨d,.call ⟨.value g,args,dW⟩,ty,pos,aft,gd⟩ E M out:=by
 unfold CS at h
 split at h
 ·rename_i f x hg
  split at h
  ·rename_i u o hx
   simp only [Option.some.injEq] at h;subst h
   refine aA.same fun C hv=>?_
   obtain ⟨⟨fn,h1,h2,h3,h4,h5⟩,-⟩:=hv
   obtain ⟨yg,eg,rg⟩:=C.aJ hg
   obtain ⟨yx,ex,rx⟩:=C.aJ hx
   refine ⟨yx,fun w' _=>?_,rx⟩
   cases rg with
   | fn cs hl hr=>
    have b7:cs=[]:=List.eq_nil_of_length_eq_zero (by simpa using hl)
    subst b7
    have:=run_callFunc_extern h1 h2 h3 h4 h5 #[yx] w'
    simp only [Go.Lib.run_noEscape,Result.andThen_ok] at this
    simp [execOp,resolve,eg,ex,Deferred.ofValue,invoke,this]
  ·cases h
 ·cases h
def CT (E:List (Nat×AV)) (M:List ae) (x:Operand):Option Out:=
 match aB E x with
 | some (.sl u n)=>(match M[u]? with | some (.rw _ k rows)=>bif k.beq 1 then some ⟨[n=rows.length,0<n],.ep u 1 0 0,M,[],[],some [u]⟩ else none | _=>none)
 | _=>none
theorem UO {t:TypeId} {x:Operand} (h:CT E M x=some out):aA P ⟨d,.call ⟨.builtin .unsafeSliceData,#[x],#[t]⟩,ty,pos,aft,gd⟩ E M out:=by
 unfold CT at h
 split at h
 rotate_left
 ·cases h
 rename_i u n hx
 split at h
 rotate_left
 ·cases h
 rename_i Tr k rows hM
 cases ju:k.beq 1 with
 | false=>simp [ju] at h
 | true=>
  simp only [ju,cond_true,Option.some.injEq] at h;subst h
  obtain rfl:=Nat.eq_of_beq_eq_true ju
  refine aA.look ?_ (by simpa using cM hM)
  intro D w0 K0 β F I ρ w C hv
  obtain ⟨hn,h0,-⟩:=hv
  obtain ⟨y,hy,r⟩:=C.aJ hx
  cases r with
  | @sl _ _ cc a hb=>
   obtain ⟨H,hF,hB,-⟩:=C.rm.at hM
   cases hB with
   | rw aD X G hl hs hr=>
    rw [hb] at aD;cases aD
    obtain ⟨b',cap,cs,fz,he,rfl,ej,b7,cd,kZ⟩:=hs.block (by omega)
    simp only [Value.slice.injEq] at he;obtain ⟨rfl,-,rfl⟩:=he
    refine ⟨.pointer (some ⟨b',0,none⟩),by simpa using au.ep (k:=1) (i:=0) (o:=0) hb,fun w' _=>?_⟩
    have:=Go.Lib.run_unsafeSliceData_row (P:=P) w' #[t] ty ⟨b',0,none⟩ n cc (by omega)
    simp only [execOp,resolve,List.map_toArray,List.map,hy,Sem.run_bind,Sem.run_pure,Result.andThen_ok,invoke,builtin,this]
theorem WZ {w:World} {b n:Nat} {c:Array Value} {e:TypeId} {fz:Nat×Nat} (hb:w.heap[b]?=some (.cells c e fz)) (hn:n≠0):∃ fQ,w.freeze ⟨b,0,none⟩ n=bk w b (.cells c e fQ):=by
 obtain ⟨lo,hi⟩:=fz
 refine ⟨if lo==hi then (0,0+n) else (min lo 0,max hi (0+n)),?_⟩
 unfold World.freeze bk
 rw [if_neg hn]
 congr 1
 apply Array.ext_getElem?
 intro j
 have aG:=kz hb
 rw [Array.getElem?_modify,Array.getElem?_setIfInBounds]
 by_cases e':b=j
 ·subst e'
  have hg:w.heap[b]=.cells c e (lo,hi):=by rw [Array.getElem?_eq_getElem aG] at hb;exact Option.some.inj hb
  simp [aG,hg]
 ·simp [e']
def Pq (P:Program) (t T:TypeId):Bool:=match P.underlying t with | some (.pointer e)=>Nat.beq e T&&Nat.beq (P.cellsOf e) 1 | _=>false
def Dz (P:Program) (E:List (Nat×AV)) (M:List ae) (oc:Option aS) (t:TypeId) (x y:Operand):Option Out:=
 match aB E x,bN (aB E y),oc with
 | some (.ep u 1 0 0),some (.i64,z),some (.res (.v (.string s)))=>(match M[u]? with
  | some (.rw Tr k rows)=>bif k.beq 1 then some ⟨[z=(rows.length:Int),0<rows.length,rows=ah s.data.toList,Pq P t Tr=true,rows.length≤9223372036854775807],.d (.v (.string s)),M.set u .dead,[u],[],none⟩ else none
  | _=>none)
 | _,_,_=>none
theorem VO {t t2:TypeId} {x y:Operand} (h:Dz P E M oc t x y=some out):aA P ⟨d,.call ⟨.builtin .unsafeString,#[x,y],#[t,t2]⟩,ty,pos,aft,gd⟩ E M out:=by
 unfold Dz at h
 split at h
 rotate_left
 ·cases h
 rename_i u z s hx hz
 split at h
 rotate_left
 ·cases h
 rename_i Tr k rows hM
 cases ju:k.beq 1 with
 | false=>simp [ju] at h
 | true=>
  simp only [ju,cond_true,Option.some.injEq] at h;subst h
  obtain rfl:=Nat.eq_of_beq_eq_true ju
  intro D w0 K0 β F I ρ w C hv
  obtain ⟨rfl,h0,m3,s6,hmx,-⟩:=hv
  generalize hl:s.data.toList=bs at m3
  have hs:s=⟨bs.toArray⟩:=by rw [← hl]
  subst hs
  have hlen:rows.length=bs.length:=by rw [m3];simp [ah]
  obtain ⟨yx,ex,rx⟩:=C.aJ hx
  have Sz:=C.int hz
  cases rx with
  | @ep _ _ _ _ b cc hb=>
   have R1:=C.rm.x.ec hM
   have hB:=C.rm.blk u _ hM
   have hH:=C.rm.jE hM
   generalize mU:F u=Fu at hB R1 hH
   cases hB with
   | @rw _ _ _ _ _ H0 aD X G cH hsr hr=>
    rw [hb] at aD;cases aD
    obtain ⟨b',cap,cs,fz,he,rfl,ej,b7,cd,kZ⟩:=hsr.block (by omega)
    simp only [Value.slice.injEq,Option.some.injEq,Addr.mk.injEq] at he;obtain ⟨⟨rfl,-⟩,-,rfl⟩:=he
    have hw:w.heap[b]?=some (.cells cs Tr fz):=(aj.app.1 hH).1.one
    have ch:(Builtin.unsafeString_ #[t,t2] ty #[.pointer (some ⟨b,0,none⟩),.int .i64 bs.length]).run P w=.ok (.string ⟨bs.toArray⟩) (w.freeze ⟨b,0,none⟩ bs.length):=by
     unfold Pq at s6
     split at s6
     ·rename_i e he
      rw [Bool.and_eq_true] at s6
      obtain rfl:=Nat.eq_of_beq_eq_true s6.1
      refine Go.Lib.run_unsafeString_row w t t2 ty e he (Nat.eq_of_beq_eq_true s6.2) b cs.size (IQ hw) bs (by intro hn;rw [hn,List.length_nil] at hlen;omega) (by rw [b7,← hlen];omega) (by omega) fun j q hj=>?_
      rw [add_eq,Nat.zero_add,cell_of hw]
      have s7:=(List.getElem?_eq_some_iff.1 hj).1
      have e1:(cs.toList.take (rows.length*1))[j]?=cs[j]?:=by rw [List.getElem?_take,if_pos (by omega),Array.getElem?_toList]
      rw [← e1,kZ]
      have bn:(ah bs)[j]?=some [.v (.int .u8 (q.toNat:Int))]:=by simp [ah,hj]
      rw [← m3] at bn
      obtain ⟨sX,FR⟩:=cH j _ bn
      have hg:=jD (n:=rows.length) (k:=1) (X:=X) (fun i hi=>(cH i _ (List.getElem?_eq_getElem hi)).2) (i:=j) (j:=0) (by omega) (by omega)
      rw [Nat.mul_one,Nat.add_zero] at hg
      obtain ⟨v0,ct⟩:∃ v0,(X j)[0]?=some v0:=⟨(X j)[0]'(by omega),List.getElem?_eq_getElem _⟩
      have hd:=hr j _ 0 _ _ bn rfl ct
      generalize G j 0=GG at hd
      cases hd
      rw [hg,ct]
     ·cases s6
    obtain ⟨fQ,kW⟩:=WZ (n:=bs.length) hw (by omega)
    rw [kW] at ch
    have hex:(execOp ρ ⟨d,.call ⟨.builtin .unsafeString,#[x,y],#[t,t2]⟩,ty,pos,aft,gd⟩).run P w=.ok (.value (.string ⟨bs.toArray⟩)) (bk w b (.cells cs Tr fQ)):=by
     rw [hlen] at Sz
     simp only [execOp,resolve,List.map_toArray,List.map,ex,Sz,Nat.zero_mul,Nat.zero_add,Sem.run_bind,Sem.run_pure,Result.andThen_ok,invoke,builtin,ch]
    refine aM.pure hex ?_
    have R2:=(R1.perm (Y:=[(b,.cells cs Tr fz)]++bA rows.length 1 G) (by rw [List.nil_append])).drop
    have aQ:=(R2.st.perm (K:=(b,.cells cs Tr fz)::((List.range (M.set u .dead).length).flatMap (aF F u [])++I)) (by classical rw [List.perm_iff_count];intro z;simp only [List.count_append,List.count_cons,List.count_nil];omega)).set (.cells cs Tr fQ)
    refine ⟨β,aF F u [],[(b,.cells cs Tr fQ)]++I,⟨R2.len,fun v bl hv=>(R2.blk v bl hv).mono (fun w hw=>⟨hw.1,(aj.app.1 hw.2).2⟩) (Ext.refl _),?_⟩,(Ext.refl β).b _,⟨_,rfl⟩,fun v hv hn=>by simp only [aF];rw [if_neg (by simpa using hn)],.d (.v _)⟩
    exact aQ.perm (by classical rw [List.perm_iff_count];intro z;simp only [List.count_append,List.count_cons,List.count_nil];omega)
end Go.Proofs.YtkheephfkbpchaaGreatDoor
namespace Go.Proofs.YtkheephfkbpchaaGreatDoor
open Go.RowKit
variable {P:Program} {T:aC} {D:List Nat} {w0:World} {K0:World→Prop} {E:List (Nat×AV)} {M:List ae} {β:Beta} {F:Nat→ai} {I X:ai} {ρ:Operand→Value} {w:World}
variable {d:Option Tmp} {ty:TypeId} {pos:String} {aft:Array Edge} {gd:Option (Nat×Bool)} {oc:Option aS} {out:Out}
def DA (T:aC) (E:List (Nat×AV)) (M:List ae) (t:TypeId) (x:Operand):Option Out:=
 match bB T t,aB E x with
 | some (.sl _),some (.d (.v (.slice none 0 0)))=>some (lk [] (.n 0) M)
 | _,_=>none
theorem VP {x:Operand} {t e n c:Nat} {a:Option Addr} (ht:P.underlying t=some (.slice e)) (hx:ρ x=.slice a n c) (w:World):(execOp ρ ⟨d,.call ⟨.builtin .cap,#[x],#[t]⟩,ty,pos,aft,gd⟩).run P w=.ok (.value (.int .i64 (c:Int))) w:=by
 have:(Builtin.cap_ #[t] ty #[.slice a n c]).run P w=.ok (.int .i64 (c:Int)) w:=by
  unfold Builtin.cap_
  simp only [List.getElem?_toArray,List.getElem?_cons_zero,Sem.run_bind,run_underlying ht,Result.andThen_ok,Sem.run_pure];rfl
 simp only [execOp,resolve,List.map_toArray,List.map,hx,Sem.run_bind,Sem.run_pure,Result.andThen_ok,invoke,builtin,this]
theorem VQ (hT:aI P T=true) {t:TypeId} {x:Operand} (h:DA T E M t x=some out):aA P ⟨d,.call ⟨.builtin .cap,#[x],#[t]⟩,ty,pos,aft,gd⟩ E M out:=by
 unfold DA at h
 split at h
 ·rename_i e ht hx
  simp only [Option.some.injEq] at h;subst h
  have b3:=a7 hT ht
  refine aA.same fun C bP=>?_
  obtain ⟨y,hy,r⟩:=C.aJ hx
  cases r with
  | d hd=>cases hd;exact ⟨_,fun w' _=>VP b3 hy w',.d (.v _)⟩
 ·cases h
def Pr (P:Program) (f e:Nat):Prop:=∃ fn t,P.funcs[f]?=some fn∧(fn.name == "runtime.NumGoroutine")=false∧fn.body.isNone=true∧Extern.findNext fn=none∧Extern.find fn=some (Extern.BytealgMakeNoZero.makeNoZero fn.params fn.resultTypes)∧fn.resultTypes=#[t]∧P.underlying t=some (.slice e)
def DB (P:Program) (E:List (Nat×AV)) (M:List ae) (oc:Option aS) (g:Operand) (args:Array Operand):Option Out:=
 match aB E g,args,oc with
 | some (.fn f []),⟨[x]⟩,some (.n2 m e)=>(match bN (aB E x) with
  | some (.i64,z)=>some ⟨[Pr P f e,z=(m:Int),m≤281474976710656],.sl M.length m,M++[.rw e 1 (List.replicate m [.jk])],[],[],none⟩
  | _=>none)
 | _,_,_=>none
theorem VR {f e m:Nat} (h:Pr P f e) (hm:m≤281474976710656) (w:World):∃ (c:Nat) (cs:Array Value),m≤c∧cs.size=c∧(callFunc f #[.int .i64 (m:Int)]).run P w=.ok (.value (.slice (some ⟨w.heap.size,0,none⟩) m c)) (w.drew.drew.alloc (.cells cs e (0,0))):=by
 obtain ⟨fn,t,h1,h2,h3,h4,h5,h6,h7⟩:=h
 obtain ⟨cs,hr,hc,-⟩:=Go.Lib.run_makeNoZero (P:=P) (w:=w) fn.params t e h7 m hm
 refine ⟨cs.size,cs,hc,rfl,?_⟩
 rw [run_callFunc_extern h1 h2 h3 h4 h5,h6,hr];rfl
theorem VS {g:Operand} {args:Array Operand} {dW:Array TypeId} (h:DB P E M oc g args=some out):aA P ⟨d,.call ⟨.value g,args,dW⟩,ty,pos,aft,gd⟩ E M out:=by
 unfold DB at h
 split at h
 ·rename_i f x m e hg
  split at h
  ·rename_i z hx
   simp only [Option.some.injEq] at h;subst h
   intro D w0 K0 β F I ρ w C hv
   obtain ⟨hN,rfl,hm,-⟩:=hv
   obtain ⟨yg,eg,rg⟩:=C.aJ hg
   have ex:=C.int hx
   cases rg with
   | fn cs hl hr=>
    have b7:cs=[]:=List.eq_nil_of_length_eq_zero (by simpa using hl)
    subst b7
    obtain ⟨c,cs,h1,h2,h3⟩:=VR hN hm w
    refine aM.pure (v:=.slice (some ⟨w.heap.size,0,none⟩) m c) (w':=w.drew.drew.alloc (.cells cs e (0,0))) (by simp [execOp,resolve,eg,ex,Deferred.ofValue,invoke,h3]) ?_
    have gr:Gr w (w.drew.drew.alloc (.cells cs e (0,0))):=((Gr.drew w).trans (Gr.drew w.drew)).trans (Gr.alloc w.drew.drew _)
    have nf:cV w (w.drew.drew.alloc (.cells cs e (0,0))) [(w.heap.size,.cells cs e (0,0))]:=(cV.alloc w.drew.drew (.cells cs e (0,0))).ahead ((Gr.drew w).trans (Gr.drew w.drew))
    refine ⟨_,_,I,C.rm.new (q:=(some ⟨w.heap.size,0,none⟩,c)) gr nf ?_,(Ext.app _ _).b _,aV.refl _,fW _ _,.sl (cu C.rm _)⟩
    have hX:∀ i,i<m→([cs[i]!]:List Value).length=1:=fun _ _=>rfl
    have nR:lay m (fun i=>[cs[i]!])=cs.toList.take m:=by
     have key:∀ k,k≤cs.size→lay k (fun i=>[cs[i]!])=cs.toList.take k:=by
      intro k
      induction k with
      | zero=>intro _;simp [lay]
      | succ k ih=>
       intro hk
       have:=ih (by omega)
       simp only [lay] at this ⊢
       rw [List.range_succ,List.flatMap_append,this,List.take_add_one,Array.getElem?_toList,Array.getElem?_eq_getElem (by omega)]
       simp [getElem!_pos cs k (by omega)]
     exact key m (by omega)
    have:=bf.rw (K:=fun w=>K0 w∧aj w I) (β:=β++[(some ⟨w.heap.size,0,none⟩,c)]) (u:=M.length) (T:=e) (k:=1) (rows:=List.replicate m [.jk]) (H0:=[(w.heap.size,.cells cs e (0,0))]) (cu C.rm _) (fun i=>[cs[i]!]) (fun _ _=>[]) (fun i r hi=>by
     rw [List.getElem?_replicate] at hi
     split at hi
     ·simp only [Option.some.injEq] at hi;subst hi;exact ⟨rfl,rfl⟩
     ·simp at hi) (by
     rw [List.length_replicate]
     exact ⟨by rw [nR];simp;omega,Or.inr ⟨w.heap.size,c,_,(0,0),rfl,rfl,lY _,by rw [h2];omega,h1,by rw [nR];simp⟩⟩) (fun i r j q x hi h1 h2=>by
     rw [List.getElem?_replicate] at hi
     split at hi
     ·simp only [Option.some.injEq] at hi;subst hi
      cases j with
      | succ j=>simp at h1
      | zero=>simp at h1;subst h1;exact .jk _
     ·simp at hi)
    rw [kv,List.append_nil] at this
    exact this
  ·cases h
 ·cases h
end Go.Proofs.YtkheephfkbpchaaGreatDoor
namespace Go.Proofs.YtkheephfkbpchaaGreatDoor
open Go.RowKit
variable {P:Program} {T:aC} {D:List Nat} {w0:World} {K0:World→Prop} {E:List (Nat×AV)} {M:List ae} {β:Beta} {F:Nat→ai} {I:ai} {ρ:Operand→Value} {w:World}
variable {d:Option Tmp} {ty:TypeId} {pos:String} {aft:Array Edge} {gd:Option (Nat×Bool)} {oc:Option aS} {out:Out}
theorem rF {K:World→Prop} {u b c e k m m2 o:Nat} {cells l:List AV} {ys zs:List Value} (hb:β[u]?=some (some ⟨b,0,none⟩,c)) (hl:ys.length=c*k) (hm:cells.length=m*k) (hr:∀ (j:Nat) c y,cells[j]?=some c→ys[j]?=some y→au K β c y)
  (cY:zs.length=l.length) (hz:∀ (j:Nat) c y,l[j]?=some c→zs[j]?=some y→au K β c y) (ho:o≤cells.length) (SA:m2≤c) (hlen:(cells.take o++(l++cells.drop (o+l.length))).length=m2*k):
  bf K β u (.fl e k m2 (cells.take o++(l++cells.drop (o+l.length)))) [(b,.cells (bV ys.toArray o zs) e (0,0))]:=by
 have oW:m2*k≤c*k:=Nat.mul_le_mul_right _ SA
 have Dk:=hlen
 simp only [List.length_append,List.length_take,List.length_drop] at Dk
 have hle:o+zs.length≤ys.toArray.size:=by simp;omega
 have he:(bV ys.toArray o zs)=(bV ys.toArray o zs).toList.toArray:=by simp
 rw [he]
 refine .fl hb _ (by rw [Array.length_toList,hU];simpa using hl) hlen SA ?_
 intro j c z e1 e2
 rw [Array.getElem?_toList,qU _ _ _ _ hle] at e2
 by_cases hj:o≤j∧j<o+zs.length
 ·rw [if_pos hj] at e2
  rw [List.getElem?_append_right (by simp;omega),List.getElem?_append_left (by simp;omega)] at e1
  refine hz (j-o) c z ?_ e2
  rw [← e1];congr 1;simp;omega
 ·rw [if_neg hj] at e2
  rw [List.getElem?_toArray] at e2
  refine hr j c z ?_ e2
  rcases Nat.lt_or_ge j o with oQ | oQ
  ·rw [List.getElem?_append_left (by simp;omega),List.getElem?_take,if_pos oQ] at e1;exact e1
  ·rw [List.getElem?_append_right (by simp;omega),List.getElem?_append_right (by simp;omega),List.getElem?_drop] at e1
   rw [← e1];congr 1;simp;omega
theorem Ca {α:Type} {k:Nat}:∀ {rows:List (List α)},(∀ r ∈ rows,r.length=k)→rows.flatten.length=rows.length*k∧∀ (i j:Nat) r,rows[i]?=some r→j<k→rows.flatten[i*k+j]?=r[j]?
 | [],_=>⟨by simp,by simp⟩
 | r::rs,h=>by
  have hr:=h r (by simp)
  obtain ⟨h1,h2⟩:=Ca (rows:=rs) (fun x hx=>h x (by simp [hx]))
  refine ⟨by simp [h1,hr,Nat.succ_mul,Nat.add_comm],fun i j q hq hj=>?_⟩
  cases i with
  | zero=>simp at hq;subst hq;rw [Nat.zero_mul,Nat.zero_add,List.flatten_cons,List.getElem?_append_left (by omega)]
  | succ i=>
   simp at hq
   rw [List.flatten_cons,List.getElem?_append_right (by rw [Nat.succ_mul];omega),← h2 i j q hq hj]
   congr 1;rw [Nat.succ_mul];omega
theorem Cb {K:World→Prop} {l:List AV} {X:List Value} (h:l.all AV.one=true) (hl:X.length=l.length) (hr:∀ (j:Nat) c z,l[j]?=some c→X[j]?=some z→au K β c z):∀ q ∈ X,dU q=true:=by
 intro q hq
 obtain ⟨j,hj,rfl⟩:=List.getElem_of_mem hq
 have dN:j<l.length:=by omega
 exact AV.yo (hr j _ _ (List.getElem?_eq_getElem dN) (List.getElem?_eq_getElem hj)) (List.all_eq_true.1 h _ (List.getElem_mem dN))
def CU (T:aC) (E:List (Nat×AV)) (M:List ae) (oc:Option aS) (st:TypeId) (x y:Operand):Option Out:=
 match eJ T st,aB E x,aB E y,oc with
 | some (_,k,_,_),some (.sf u k' 0 n _),some (.d (.ro k3 rows)),some (.res (.ag ds))=>(match M[u]? with
  | some (.fl e2 k2 m cells)=>bif k.beq k'&&(k.beq k2&&(k.beq k3&&n.ble m)) then some ⟨[gC rows,(rows.flatten.map AV.d).take (min rows.length n*k)++cells.drop ((rows.flatten.map AV.d).take (min rows.length n*k)).length=ds.map AV.d],.d (.v (.int .i64 ((min rows.length n:Nat):Int))),M.set u (.fl e2 k2 m (ds.map .d)),[u],[],none⟩ else none
  | _=>none)
 | _,_,_,_=>none
theorem UP (hT:aI P T=true) {st xt:TypeId} {x y:Operand} (h:CU T E M oc st x y=some out):aA P ⟨d,.call ⟨.builtin .copy,#[x,y],#[st,xt]⟩,ty,pos,aft,gd⟩ E M out:=by
 unfold CU at h
 split at h
 rotate_left
 ·simp at h
 rename_i e k b z u k' n q k3 rows ds he hx hy
 obtain ⟨zv,ok,-,-⟩:=fK hT he
 split at h
 rotate_left
 ·simp at h
 rename_i e2 k2 m cells hM
 cases hc:(k.beq k'&&(k.beq k2&&(k.beq k3&&n.ble m))) with
 | false=>simp [hc] at h
 | true=>
 simp only [hc,cond_true,Option.some.injEq] at h;subst h
 simp only [Bool.and_eq_true] at hc
 obtain ⟨c1,c2,c4,c3⟩:=hc
 obtain rfl:=Nat.eq_of_beq_eq_true c1
 obtain rfl:=Nat.eq_of_beq_eq_true c2
 obtain rfl:=Nat.eq_of_beq_eq_true c4
 have oX:=Nat.le_of_ble_eq_true c3
 intro D w0 K0 β F I ρ w C hv
 obtain ⟨cW,Gh,-⟩:=hv
 obtain ⟨yx,cT,rx⟩:=C.aJ hx
 obtain ⟨yy,eP,ry⟩:=C.aJ hy
 obtain ⟨X,ra,hs⟩:=BX C.now ry
 have hX:∀ i,i<rows.length→(X i).length=k:=fun i hi=>(ra.hl i _ (List.getElem?_eq_getElem hi)).2
 have dj:∀ r ∈ rows,r.length=k:=fun r hr=>by
  obtain ⟨i,hi,rfl⟩:=List.getElem_of_mem hr
  exact (ra.hl i _ (List.getElem?_eq_getElem hi)).1
 obtain ⟨f1,f2⟩:=Ca dj
 have cn:=du hX
 have s2:(lay rows.length X).length=(rows.flatten.map AV.d).length:=by rw [cn,List.length_map,f1]
 have s3:∀ (j:Nat) c z,(rows.flatten.map AV.d)[j]?=some c→(lay rows.length X)[j]?=some z→au (fun w=>K0 w∧aj w I) β c z:=fun j c z e1 e2=>by
  have s7:j<rows.length*k:=by rw [← cn];exact (List.getElem?_eq_some_iff.1 e2).1
  have hk:0<k:=by
   rcases Nat.eq_zero_or_pos k with h0 | h0
   ·subst h0;simp at s7
   ·exact h0
  have hd:j / k<rows.length:=Nat.div_lt_of_lt_mul (by rw [Nat.mul_comm];exact s7)
  have hm:j%k<k:=Nat.mod_lt _ hk
  have e:j / k*k+j%k=j:=by rw [Nat.mul_comm,Nat.div_add_mod]
  have bn:rows[j / k]?=some rows[j / k]:=List.getElem?_eq_getElem hd
  have g1:=jD hX hd hm
  have g2:=f2 _ _ _ bn hm
  rw [e] at g1 g2
  rw [g1] at e2
  rw [List.getElem?_map,g2,Option.map_eq_some_iff] at e1
  obtain ⟨c',e1,rfl⟩:=e1
  exact .d (ra.hr _ _ _ c' z bn e1 e2)
 have ZO:(rows.flatten.map AV.d).all AV.one=true:=by
  unfold gC at cW
  rw [List.all_eq_true] at cW ⊢
  intro c hc
  obtain ⟨c',h1,rfl⟩:=List.mem_map.1 hc
  obtain ⟨r,h2,h3⟩:=List.mem_flatten.1 h1
  exact List.all_eq_true.1 (cW r h2) c' h3
 have pO:=Cb ZO s2 s3
 have p8:min rows.length n≤rows.length:=Nat.min_le_left _ _
 obtain ⟨hlen,ia⟩:=hs.pre (P:=P) p8
 have aP:∀ w:World,(sizeOf e).run P w=.ok k w:=fun w=>by obtain ⟨i,hi,h1,-⟩:=ok.info;simp [sizeOf,typeInfo,Sem.run_bind,hi,h1]
 cases rx with
 | @sf _ _ _ _ bb cc cap _ hb cd hn hq=>
 obtain ⟨H,hF,hB,hH⟩:=C.rm.at hM
 cases hB with
 | fl aD ys hl hm eo hr=>
 rw [hb] at aD;cases aD
 have hw:=hH.one
 have a1:n*k≤m*k:=Nat.mul_le_mul_right _ oX
 have a2:m*k≤ys.length:=by rw [hl];exact Nat.mul_le_mul_right _ eo
 have a4:min rows.length n*k≤n*k:=Nat.mul_le_mul_right _ (Nat.min_le_right _ _)
 have a5:min rows.length n*k≤rows.length*k:=Nat.mul_le_mul_right _ p8
 have gT:=pz (P:=P) ((lay rows.length X).take (min rows.length n*k)) w ys.toArray (0*k) 0 hw (by simp;omega) (fun q hq=>pO q (List.mem_of_mem_take hq))
 simp only [Nat.add_zero] at gT
 refine aM.pure (v:=.int .i64 ((min rows.length n:Nat):Int)) (w':=bk w bb (.cells (bV ys.toArray (0*k) ((lay rows.length X).take (min rows.length n*k))) e2 (0,0))) ?_ ?_
 ·have pP:Nat.min rows.length n=min rows.length n:=rfl
  simp only [execOp,resolve,List.map_toArray,List.map,cT,eP,Sem.run_bind,Sem.run_pure,Result.andThen_ok,invoke,builtin,Builtin.copy_,List.getElem?_toArray,List.getElem?_cons_zero,List.getElem?_cons_succ,run_underlying ok.aQ,hlen,pP,aP,ia,gT]
  rfl
 ·have s8:=rF (K:=fun w=>K0 w∧aj w I) (e:=e2) (m2:=m) (o:=0*k) (l:=(rows.flatten.map AV.d).take (min rows.length n*k)) (zs:=(lay rows.length X).take (min rows.length n*k)) hb hl hm hr (by rw [List.length_take,List.length_take,s2]) (fun j c z e1 e2=>by
    rw [List.getElem?_take] at e1 e2
    split at e1
    ·rename_i hj;rw [if_pos hj] at e2;exact s3 j c z e1 e2
    ·simp at e1) (by omega) eo (by
    simp only [List.length_append,List.length_take,List.length_drop]
    omega)
  rw [Nat.zero_mul,List.take_zero,List.nil_append,Nat.zero_add,Gh] at s8
  rw [Nat.zero_mul]
  exact ⟨β,_,I,C.rm.set hM hF s8,(Ext.refl β).b _,aV.refl _,fun v hv hn=>by simp only [aF];rw [if_neg (by simpa using hn)],.d (.v _)⟩
def DC (T:aC) (E:List (Nat×AV)) (M:List ae) (oc:Option aS) (t:TypeId) (x ix:Operand):Option Out:=
 match bB T t,aB E x,bN (aB E ix),oc with
 | some (.ar n e),some (.ag l),some (_,z),some (.ix i [c])=>(match dw T e with
  | some k=>some (lk [z=(i:Int),i<n,oT T e l (i*k)=some (.d c)] (.d c) M)
  | none=>none)
 | _,_,_,_=>none
theorem VT (hT:aI P T=true) {t:TypeId} {x ix:Operand} (h:DC T E M oc t x ix=some out):aA P ⟨d,.index t x ix,ty,pos,aft,gd⟩ E M out:=by
 unfold DC at h
 split at h
 ·rename_i n e l _ z i c hu hx hz
  split at h
  ·rename_i k hk
   simp only [Option.some.injEq] at h;subst h
   have aP:∀ w:World,(sizeOf e).run P w=.ok k w:=fun w=>by
    have:=dR hT hk
    cases hi:P.info? e with
    | none=>simp [hi] at this
    | some inf=>simp only [hi,Option.map_some,Option.some.injEq] at this;simp [sizeOf,typeInfo,Sem.run_bind,hi,this]
   refine aA.same ?_
   intro D w0 K0 β F I ρ w C hv
   obtain ⟨rfl,aG,hp,-⟩:=hv
   have r:=C.ev hx
   have hi:=C.int hz
   generalize hy:ρ x=y at r
   cases r with
   | ag ys hl hr=>
    obtain ⟨y,h1,h2⟩:=yt hT hp hl hr
    refine ⟨y,fun w' _=>?_,h1⟩
    have cS:=a7 hT hu
    have hc:(0:Int)≤(i:Int)∧(i:Int)<(n:Int):=by omega
    simp only [execOp,hy,hi,Instr.index,asIntOf,Sem.run_bind,Sem.run_pure,run_underlying cS,Result.andThen_ok]
    rw [if_pos hc]
    simp only [Sem.run_bind,aP,Result.andThen_ok,Int.toNat_natCast,h2,Sem.run_pure]
  ·simp at h
 ·simp at h
def CV (T:aC) (E:List (Nat×AV)) (M:List ae) (t:TypeId) (x:Operand):Option Out:=
 match aB E x with
 | some (.pt u o)=>(match M[u]? with
  | some (.fl _ _ _ cells)=>(match iA T t cells o with | some v=>some ⟨[],v,M,[],[],some [u]⟩ | none=>none)
  | _=>none)
 | _=>none
theorem UQ (hT:aI P T=true) {t:TypeId} {x:Operand} (h:CV T E M t x=some out):aA P ⟨d,.load t x,ty,pos,aft,gd⟩ E M out:=by
 unfold CV at h
 split at h
 ·rename_i u o hv
  split at h
  ·rename_i Tt k m cells hM
   split at h
   ·rename_i v e9
    simp only [Option.some.injEq] at h;subst h
    refine aA.look (fun C _=>?_) (by simpa using cM hM)
    obtain ⟨y,hy,r⟩:=C.aJ hv
    cases r with
    | pt hb=>
     obtain ⟨H,hF,hB,hH⟩:=C.rm.at hM
     cases hB with
     | fl aD ys hl hm hc hr=>
      rw [hb] at aD;cases aD
      have hlen:cells.length≤ys.length:=by rw [hl,hm];exact Nat.mul_le_mul_right _ hc
      obtain ⟨y',h1,h2⟩:=pJ hT (a:=⟨_,0,none⟩) (ys:=ys.take cells.length) (fun l ys=>au.ag ys) e9 (hy.trans (by rw [add_eq,Nat.zero_add])) (by simp;omega) (fun j c z e1 e2=>hr j c z e1 (by
       rw [List.getElem?_take] at e2
       split at e2
       ·exact e2
       ·simp at e2))
      refine ⟨y',h1,fun w' hs=>h2 w' fun j z hj=>?_⟩
      have hw:aj w' _:=hs.2 u (by simp)
      rw [hF] at hw
      rw [List.getElem?_take] at hj
      split at hj
      ·rw [add_eq,cell_of hw.one,Nat.zero_add];simpa using hj
      ·simp at hj
   ·simp at h
  ·simp at h
 ·simp at h
def Ps:List Value→Bool
 | .nilFunc::_=>true
 | _=>false
def xq (T:aC) (M:List ae) (t:TypeId):Option Out:=
 match bB T t,pL T t with
 | some (.ar n e),some l=>(match dw T e with
  | some k=>bif l.length.beq (n*k)&&!Ps l then some ⟨[],.pt M.length 0,M++[.fl t k n (fJ l)],[],[],none⟩ else none
  | none=>none)
 | _,_=>none
theorem HM (hT:aI P T=true) {t:TypeId} (h:xq T M t=some out):aA P ⟨d,.alloc t,ty,pos,aft,gd⟩ E M out:=by
 unfold xq at h
 split at h
 rotate_left
 ·simp at h
 rename_i n e l ht hz
 split at h
 rotate_left
 ·simp at h
 rename_i k hk
 cases hc:(l.length.beq (n*k)&&!Ps l) with
 | false=>simp [hc] at h
 | true=>
  simp only [hc,cond_true,Option.some.injEq] at h;subst h
  have cn:=Nat.eq_of_beq_eq_true (Bool.and_eq_true_iff.1 hc).1
  obtain ⟨z,qp,kX⟩:=wM hT hz
  intro D w0 K0 β F I ρ w C _
  refine Iv (kX w) fun b w' g n'=>?_
  rw [qp] at n'
  obtain ⟨h1,h2⟩:=iS (K:=fun w=>K0 w∧aj w I) (β:=β++[(some ⟨b,0,none⟩,n)]) l
  exact ⟨_,_,I,C.rm.new (q:=(some ⟨b,0,none⟩,n)) g n' (.fl (cu C.rm _) l cn (by rw [← h1,cn]) (Nat.le_refl _) h2),(Ext.app _ _).b _,aV.refl _,fW _ _,.pt (cu C.rm _)⟩
def zB (T:aC) (E:List (Nat×AV)) (M:List ae) (t:TypeId) (x:Operand) (lo hi mx:Option Operand):Option Out:=
 match bB T t,aB E x,lo,hi,mx with
 | some (.ar n e),some (.pt u 0),none,none,none=>(match dw T e,M[u]? with
  | some k,some (.fl _ k2 m _)=>bif k.beq k2&&(n.ble m&&Nat.blt 0 n) then some (lk [] (.sf u k 0 n (some n)) M) else none
  | _,_=>none)
 | _,_,_,_,_=>none
theorem J5 (hT:aI P T=true) {t:TypeId} {x:Operand} {lo hi mx:Option Operand} (h:zB T E M t x lo hi mx=some out):aA P ⟨d,.slice t x lo hi mx,ty,pos,aft,gd⟩ E M out:=by
 unfold zB at h
 split at h
 rotate_left
 ·simp at h
 rename_i n e u ht hx
 split at h
 rotate_left
 ·simp at h
 rename_i k T2 k2 m cells hk hM
 cases hc:(k.beq k2&&(n.ble m&&Nat.blt 0 n)) with
 | false=>simp [hc] at h
 | true=>
  simp only [hc,cond_true,Option.some.injEq] at h;subst h
  simp only [Bool.and_eq_true] at hc
  obtain ⟨c1,c2,c3⟩:=hc
  obtain rfl:=Nat.eq_of_beq_eq_true c1
  have hnm:=Nat.le_of_ble_eq_true c2
  have nT:0<n:=by simpa [Nat.blt_eq] using c3
  have b3:=a7 hT ht
  refine aA.same fun {D w0 K0 β F I ρ w} C _=>?_
  obtain ⟨y,hy,r⟩:=C.aJ hx
  cases r with
  | @pt _ _ b c hb=>
   obtain ⟨H,hF,hB,hH⟩:=C.rm.at hM
   cases hB with
   | fl aD ys hl hm eo hr=>
    rw [hb] at aD;cases aD
    have hs:=au.sf (K:=fun w=>K0 w∧aj w I) (u:=u) (k:=k) (o:=0) (n:=n) (cap:=n) (q:=some n) hb (by omega) (Nat.le_refl _) rfl
    rw [Nat.zero_mul] at hs
    refine ⟨_,fun w' _=>?_,hs⟩
    have aP:(sizeOf e).run P w'=.ok k w':=by
     have:=dR hT hk
     cases dm:P.info? e with
     | none=>simp [dm] at this
     | some inf=>simp only [dm,Option.map_some,Option.some.injEq] at this;simp [sizeOf,typeInfo,Sem.run_bind,dm,this]
    have Ar:¬ n=0:=by omega
    simp [execOp,hy,Instr.sliceAt,Instr.sureAddr,Instr.sliceBounds,Sem.run_bind,run_underlying b3,aP,Ar,add_eq]
end Go.Proofs.YtkheephfkbpchaaGreatDoor
