/-
  vsyncAlone_holds, part 2 of 7: merged by program from the texts that it needs.
-/
import Derived.Test.YtgkdnnmcjjabdaaGreatVaA
set_option linter.unusedSimpArgs false
set_option linter.unusedVariables false
set_option linter.unnecessarySimpa false
namespace Go.Proofs.YtgkdnnmcjjabdaaGreat
open Go.RowKit
variable {P:Program} {T:aD} {D:List Nat} {w0:World} {K0:World→Prop} {E:List (Nat×AV)} {M:List af} {β:Beta} {F:Nat→ah} {I X:ah} {ρ:Operand→Value} {w:World}
variable {d:Option Tmp} {ty:TypeId} {pos:String} {aft:Array Edge} {gd:Option (Nat×Bool)} {oc:Option aW} {out:Out}
def aj (l:List UInt8):List (List DV):=l.map fun b=>[.v (.int .u8 (b.toNat:Int))]
theorem FA {K:World→Prop} {l:List UInt8} {X:Nat→List Value} {G:Nat→Nat→ah} (h:dt K 1 (aj l) X G):lay (aj l).length X=l.map fun b:UInt8=>.int .u8 b.toNat:=by
 have hl:(aj l).length=l.length:=by simp [aj]
 have hX:∀ i,i<(aj l).length→(X i).length=1:=fun i hi=>(h.hl i _ (List.getElem?_eq_getElem hi)).2
 apply List.ext_getElem?
 intro p
 have cI:=dA hX
 rcases Nat.lt_or_ge p l.length with hp | hp
 ·have J3:p<(aj l).length:=by omega
  have hg:=jh hX J3 (show 0<1 by omega)
  rw [Nat.mul_one,Nat.add_zero] at hg
  have bu:(aj l)[p]?=some [.v (.int .u8 (l[p].toNat:Int))]:=by simp [aj,List.getElem?_eq_getElem hp]
  obtain ⟨x,h1⟩:∃ x,(X p)[0]?=some x:=⟨(X p)[0]'(by rw [hX p J3];omega),List.getElem?_eq_getElem _⟩
  have hd:=h.hr p _ 0 _ _ bu rfl h1
  generalize G p 0=GG at hd
  cases hd
  rw [hg,h1,List.getElem?_map,List.getElem?_eq_getElem hp];rfl
 ·rw [List.getElem?_eq_none (by omega),List.getElem?_eq_none (by simp;omega)]
def Cw (T:aD) (E:List (Nat×AV)) (M:List af) (oc:Option aW) (t t':TypeId) (x:Operand):Option Out:=
 match eL T t,bE T t',oc with
 | some (e,_,_,_),some .st,some (.res (.v (.string s)))=>(match bE T e,aC E x with
  | some (.it .u8),some (.d (.ro k rows))=>bif Nat.beq k 1 then some (lk [rows=aj s.data.toList] (.d (.v (.string s))) M) else none
  | some (.it .u8),some (.sl u n)=>(match M[u]? with | some (.rw _ k rows)=>bif Nat.beq k 1 then some ⟨[n=rows.length,rows=aj s.data.toList],.d (.v (.string s)),M,[],[],some [u]⟩ else none | _=>none)
  | _,_=>none)
 | _,_,_=>none
theorem Pv (hT:aP P T=true) {t t':TypeId} {x:Operand} (h:Cw T E M oc t t' x=some out):aB P ⟨d,.convert t t' x,ty,pos,aft,gd⟩ E M out:=by
 unfold Cw at h
 split at h
 ·rename_i e _ _ _ s he aU
  obtain ⟨zv,ok,-,-⟩:=fN hT he
  split at h
  ·rename_i k rows o7 hx
   cases hk:Nat.beq k 1 with
   | false=>simp [hk] at h
   | true=>
    simp only [hk,cond_true,Option.some.injEq] at h;subst h
    obtain rfl:=Nat.eq_of_beq_eq_true hk
    refine aB.same ?_
    intro D w0 K0 β F I ρ w C hv
    obtain ⟨rfl,-⟩:=hv
    have r:=C.ev hx
    generalize hy:ρ x=y at r
    cases r with | d r=>
    cases r with
    | ro X hl gK hs hr=>
     refine ⟨_,fun w' c8=>vf (.of fun _=>⟨_,rfl⟩) (yE (l:=s.data.toList) ok.aU (bj hT o7) (bj hT aU) hy ?_ ⟨rfl,rfl⟩),.d (.v _)⟩
     have:=hs w' c8
     rw [FA (G:=fun _ _=>[]) ⟨hl,hr⟩] at this
     simpa [aj] using this
  ·rename_i u n o7 hx
   split at h
   ·rename_i T2 k rows hM
    cases hk:Nat.beq k 1 with
    | false=>simp [hk] at h
    | true=>
     simp only [hk,cond_true,Option.some.injEq] at h;subst h
     obtain rfl:=Nat.eq_of_beq_eq_true hk
     refine aB.look ?_ (by simpa using cT hM)
     intro D w0 K0 β F I ρ w C hv
     obtain ⟨rfl,rfl,-⟩:=hv
     obtain ⟨X,G,H0,hF,cn,ra,hH⟩:=lz C.rm hM rfl (C.ev hx)
     refine ⟨_,.d (.v _),fun w' c8=>vf (.of fun _=>⟨_,rfl⟩) (yE (l:=s.data.toList) ok.aU (bj hT o7) (bj hT aU) rfl ?_ ⟨rfl,rfl⟩)⟩
     have J4:ai w' (F u):=c8.2 u (by simp)
     rw [hF] at J4
     have:=cn.src (ai.app.1 J4).1
     rw [FA ra] at this
     simpa [aj] using this
   ·simp at h
  ·simp at h
 ·simp at h
def qp (P:Program) (t:TypeId):Bool:=match P.underlying t with | some .bool=>true | _=>false
theorem EM {t:TypeId} (h:qp P t=true) (a b:Bool) (w:World):(Op.equal t (.bool a) (.bool b)).run P w=.ok (a==b) w:=by
 unfold qp at h
 split at h
 ·rename_i hu
  have:∀ m,(Op.equalIn (m+1) t (.bool a) (.bool b)).run P w=.ok (a==b) w:=by intro m;simp [Op.equalIn,Sem.run_bind,run_underlying hu]
  exact this 9999
 ·simp at h
def wH (P:Program) (E:List (Nat×AV)) (M:List af) (oc:Option aW) (op:BinOp) (t:TypeId) (x y:Operand):Option Out:=
 match kO (aC E x),kO (aC E y),op with
 | some a,some b,.eql=>bif qp P t then some (jS oc (a==b) M) else none
 | some a,some b,.neq=>bif qp P t then some (jS oc (!(a==b)) M) else none
 | _,_,_=>none
theorem Gh {op:BinOp} {t t':TypeId} {x y:Operand} (h:wH P E M oc op t x y=some out):aB P ⟨d,.binOp op t x y t',ty,pos,aft,gd⟩ E M out:=by
 unfold wH at h
 split at h
 ·rename_i a b ha tL
  cases hb:qp P t with
  | false=>simp [hb] at h
  | true=>
   simp only [hb,cond_true,Option.some.injEq] at h;subst h
   exact oa (.of fun _=>⟨_,rfl⟩) fun C w Φ aI=>.pure (v:=.bool (a==b)) (by simp [execOp,C.bool ha,C.bool tL,eqGuard,binOp,EM hb]) aI
 ·rename_i a b ha tL
  cases hb:qp P t with
  | false=>simp [hb] at h
  | true=>
   simp only [hb,cond_true,Option.some.injEq] at h;subst h
   exact oa (.of fun _=>⟨_,rfl⟩) fun C w Φ aI=>.pure (v:=.bool (!(a==b))) (by simp [execOp,C.bool ha,C.bool tL,eqGuard,binOp,EM hb]) aI
 ·simp at h
def wI (T:aD) (E:List (Nat×AV)) (M:List af) (oc:Option aW) (op:BinOp) (t:TypeId) (x y:Operand):Option Out:=
 match op,bE T t,y,aC E x with
 | .eql,some (.sl _),.const (.slice none 0 0),some (.d (.v (.slice a _ _)))=>some (jS oc a.isNone M)
 | .eql,some (.sl _),.const (.slice none 0 0),some (.d (.ro _ rows))=>some (lk [0<rows.length] (.b false) M)
 | .eql,some (.sl _),.const (.slice none 0 0),some (.sl u n)=>(match M[u]? with | some (.rw _ _ rows)=>some ⟨[n=rows.length,0<n],.b false,M,[],[],some [u]⟩ | _=>none)
 | _,_,_,_=>none
theorem Gi (hT:aP P T=true) {op:BinOp} {t t':TypeId} {x y:Operand} (h:wI T E M oc op t x y=some out):aB P ⟨d,.binOp op t x y t',ty,pos,aft,gd⟩ E M out:=by
 unfold wI at h
 split at h
 ·rename_i e a n c hu hx
  simp only [Option.some.injEq] at h;subst h
  refine oa (.of fun _=>⟨_,rfl⟩) ?_
  intro D w0 K0 β F I ρ w' C w Φ aI
  have r:=C.ev hx
  generalize hy:ρ x=y at r
  cases r with | d r=>cases r;exact yC (bj hT hu) hy (C.const _) rfl aI
 ·rename_i e k rows hu hx
  simp only [Option.some.injEq] at h;subst h
  refine jM (.of fun _=>⟨_,rfl⟩) ?_
  intro D w0 K0 β F I ρ w' C hv
  obtain ⟨kS,-⟩:=hv
  have r:=C.ev hx
  generalize hy:ρ x=y at r
  cases r with | d r=>
  cases r with
  | ro X hl gK hs hr=>
   obtain ⟨a,c,q5,-⟩:=(hs _ C.now).row kS
   exact ⟨_,.d (.v _),fun w Φ aI=>yC (bj hT hu) (hy.trans q5) (C.const _) rfl aI⟩
 ·rename_i e u n hu hx
  split at h
  ·rename_i T2 k rows hM
   simp only [Option.some.injEq] at h;subst h
   refine aB.look ?_ (by simpa using cT hM)
   intro D w0 K0 β F I ρ w C hv
   obtain ⟨hn,kS,-⟩:=hv
   obtain ⟨X,G,H0,hF,cn,ra,hH⟩:=lz C.rm hM hn (C.ev hx)
   obtain ⟨b,cap,cs,fz,Dr,-⟩:=cn.block kS
   exact ⟨_,.d (.v _),fun w' _=>vf (.of fun _=>⟨_,rfl⟩) (yC (bj hT hu) Dr (C.const _) rfl ⟨rfl,rfl⟩)⟩
  ·simp at h
 ·simp at h
def AF (T:aD) (E:List (Nat×AV)) (M:List af) (t t':TypeId) (x:Operand):Option Out:=
 bif Nat.beq t t' then (match eL T t with
 | some (e,k,_,_)=>(match bE T e,aC E x with
  | some (.it .u8),some (.sl u n)=>(match M[u]? with
   | some (.rw e' k' rows)=>bif Nat.beq e e'&&Nat.beq k k'&&rows.all (fun r=>r.all DV.cp) then some ⟨[n=rows.length,0<n],.d (.ro k rows),M.set u .dead,[u],[],none⟩ else none
   | _=>none)
  | _,_=>none)
 | none=>none) else none
theorem MC (hT:aP P T=true) {t t':TypeId} {x:Operand} (h:AF T E M t t' x=some out):aB P ⟨d,.convert t t' x,ty,pos,aft,gd⟩ E M out:=by
 unfold AF at h
 cases o8:Nat.beq t t' with
 | false=>simp [o8] at h
 | true=>
  simp only [o8,cond_true] at h
  obtain rfl:=Nat.eq_of_beq_eq_true o8
  split at h
  ·rename_i e k _ _ he
   obtain ⟨zv,ok,-,-⟩:=fN hT he
   split at h
   ·rename_i u n o7 hx
    split at h
    ·rename_i e' k' rows hM
     cases hc:(Nat.beq e e'&&Nat.beq k k'&&rows.all fun r=>r.all DV.cp) with
     | false=>simp [hc] at h
     | true=>
      simp only [hc,cond_true,Option.some.injEq] at h;subst h
      simp only [Bool.and_eq_true] at hc
      obtain rfl:=Nat.eq_of_beq_eq_true hc.1.1
      obtain rfl:=Nat.eq_of_beq_eq_true hc.1.2
      intro D w0 K0 β F I ρ w C hv
      obtain ⟨hn,kS,-⟩:=hv
      obtain ⟨X,G,H0,hF,cn,ra,hH⟩:=lz C.rm hM hn (C.ev hx)
      obtain ⟨b,cap,cs,fz,Dr,rfl,et,cd,hle,wy⟩:=cn.block kS
      have R1:=C.rm.x.dX hM
      rw [hF,List.nil_append] at R1
      have hb:=hH.one
      refine Ew ok.aU (bj hT o7) Dr hb fun fT=>?_
      have gZ:St D w0 w ((b,.cells cs e fz)::(bq n k G++((List.range (M.set u .dead).length).flatMap (aL F u [])++I))):=R1.st.perm (by classical rw [List.perm_iff_count];intro z;simp only [List.count_append,List.count_cons,List.count_nil];omega)
      have j6:=gZ.set (.cells cs e fT)
      have R2:RM D w0 K0 (M.set u .dead) β (aL F u []) ([(b,.cells cs e fT)]++I) (bB w b (.cells cs e fT)):=by
       refine ⟨R1.len,fun v bl hv=>(R1.blk v bl hv).mono (fun w hw=>⟨hw.1,(ai.app.1 hw.2).2⟩) (Ext.refl _),?_⟩
       have:=(j6.perm (K:=bq n k G++((List.range (M.set u .dead).length).flatMap (aL F u [])++([(b,.cells cs e fT)]++I))) (by classical rw [List.perm_iff_count];intro z;simp only [List.count_append,List.count_cons,List.count_nil];omega)).je
       exact this
      refine ⟨β,_,_,R2,(Ext.refl β).b _,⟨_,rfl⟩,fun q _ hq=>by simp only [aL];rw [if_neg (by simpa using hq)],?_⟩
      refine .d (.ro X ra.hl ⟨_,_,by rw [← hn],by rw [← hn];exact hle⟩ (fun w' c8=>?_) fun i r j c x h1 h2 h3=>?_)
      ·have aE:w'.heap[b]?=some (.cells cs e fT):=(ai.app.1 c8.2).1.one
       refine ⟨by rw [← hn];exact cn.1,Or.inr ⟨_,cap,by rw [← hn],fun j hj=>?_⟩⟩
       rw [add_eq,Nat.zero_add,cell_of aE]
       have nh:lay rows.length X=cs.toList.take (n*k):=by rw [← hn];exact wy.symm
       have key:∀ q,q=cs.toList.take (n*k)→∀ (hj:j<q.length),cs[j]?=some q[j]:=by
        intro q hq hj
        subst hq
        have eu:=hj
        simp only [List.length_take] at eu
        rw [List.getElem_take,← Array.getElem?_toList]
        exact List.getElem?_eq_getElem _
       exact key _ nh hj
      ·have:=(ra.hr i r j c x h1 h2 h3).cp (List.all_eq_true.1 (List.all_eq_true.1 hc.2 r (List.mem_of_getElem? h1)) c (List.mem_of_getElem? h2))
       exact this.mono fun w hw=>⟨hw.1,(ai.app.1 hw.2).2⟩
    ·simp at h
   ·simp at h
  ·simp at h
theorem n7 {t:TypeId} {xs:Array Value} {o:Nat} {v:Value} (w:World) (ht:scalar P t=true) (h:xs[o]?=some v):(part t xs o).run P w=.ok v w:=by
 simp [part,Sem.run_bind,Ep ht,h]
theorem yT {t:TypeId} {xs:Array Value} {o n:Nat} (w:World) (ht:m4 P t n=true):(part t xs o).run P w=.ok (.agg (xs.extract o (o+n))) w:=by
 unfold m4 at ht
 simp only [Bool.and_eq_true] at ht
 obtain ⟨h1,h2⟩:=ht
 cases hu:P.underlying t with
 | none=>simp [hu] at h1
 | some u=>
  cases hi:P.info? t with
  | none=>simp [hi] at h2
  | some i=>
   simp only [hi,beq_iff_eq] at h2
   have ha:(isAgg t).run P w=.ok true w:=by cases u<;>simp [hu] at h1<;>simp [isAgg,Sem.run_bind,run_underlying hu]
   simp [part,Sem.run_bind,ha,sizeOf,typeInfo,hi,h2]
def nG (T:aD) (e:TypeId) (l:List AV) (o:Nat):Option AV:=iB T e l o
theorem v5 (hT:aP P T=true) {K:World→Prop} {e:TypeId} {l:List AV} {o:Nat} {v:AV} (h:nG T e l o=some v) {ys:List Value} (hl:ys.length=l.length) (hr:∀ (j:Nat) c y,l[j]?=some c→ys[j]?=some y→aq K β c y):
  ∃ y,aq K β v y∧∀ w:World,(part e ys.toArray o).run P w=.ok y w:=by
 unfold nG iB at h
 split at h
 ·rename_i ht
  obtain ⟨y,h1,h2⟩:=Ay hl hr h
  exact ⟨y,h2,fun w=>n7 w (zP hT ht) (by simpa using h1)⟩
 ·rename_i n ht
  simp only [wV] at h
  cases hb:(o+n).ble l.length with
  | false=>simp [hb] at h
  | true=>
   simp only [hb,cond_true,Option.some.injEq] at h
   have hle:o+n≤l.length:=Nat.le_of_ble_eq_true hb
   subst h
   have he:(ys.toArray.extract o (o+n))=((ys.drop o).take n).toArray:=by
    simp [List.extract_eq_take_drop]
   refine ⟨.agg ((ys.drop o).take n).toArray,.ag _ (by simp;omega) ?_,fun w=>by rw [yT w (zb hT ht),he]⟩
   intro j c y h1 h2
   rw [List.getElem?_take,List.getElem?_drop] at h1 h2
   split at h1
   ·rename_i hj;rw [if_pos hj] at h2;exact hr _ _ _ h1 h2
   ·simp at h1
 ·simp at h
def w7 (T:aD) (E:List (Nat×AV)) (M:List af) (t:TypeId) (x:Operand) (f:Nat):Option Out:=
 match Di T t f,aC E x with
 | some (o,ty),some (.ag l)=>(match nG T ty l o with | some v=>some (lk [] v M) | none=>none)
 | _,_=>none
theorem Hf (hT:aP P T=true) {t:TypeId} {x:Operand} {f:Nat} (h:w7 T E M t x f=some out):aB P ⟨d,.field t x f,ty,pos,aft,gd⟩ E M out:=by
 unfold w7 at h
 split at h
 ·rename_i o e l hf hx
  split at h
  ·rename_i v hp
   simp only [Option.some.injEq] at h;subst h
   obtain ⟨fs,q,hu,hq,rfl,rfl⟩:=QV hT hf
   refine aB.same ?_
   intro D w0 K0 β F I ρ w C _
   have r:=C.ev hx
   generalize hy:ρ x=y at r
   cases r with
   | ag ys hl hr=>
    obtain ⟨y,h1,h2⟩:=v5 hT hp hl hr
    exact ⟨y,fun w' _=>by simp only [execOp,hy,Instr.field,Sem.run_bind,run_underlying hu,Result.andThen_ok,hq,asAgg,Sem.run_pure,h2],h1⟩
  ·simp at h
 ·simp at h
def sX (T:aD) (E:List (Nat×AV)) (M:List af) (oc:Option aW) (t:TypeId) (x ix:Operand):Option Out:=
 match bE T t,aC E x,bN (aC E ix),oc with
 | some (.ar n e),some (.ag l),some (_,z),some (.n i)=>(match dB T e with
  | some k=>(match nG T e l (i*k) with | some v=>some (lk [z=(i:Int),i<n] v M) | none=>none)
  | none=>none)
 | _,_,_,_=>none
theorem Hg (hT:aP P T=true) {t:TypeId} {x ix:Operand} (h:sX T E M oc t x ix=some out):aB P ⟨d,.index t x ix,ty,pos,aft,gd⟩ E M out:=by
 unfold sX at h
 split at h
 ·rename_i n e l _ z i hu hx hz
  split at h
  ·rename_i k hk
   split at h
   ·rename_i v hp
    simp only [Option.some.injEq] at h;subst h
    have aX:∀ w:World,(sizeOf e).run P w=.ok k w:=fun w=>by
     have:=dV hT hk
     cases hi:P.info? e with
     | none=>simp [hi] at this
     | some inf=>simp only [hi,Option.map_some,Option.some.injEq] at this;simp [sizeOf,typeInfo,Sem.run_bind,hi,this]
    refine aB.same ?_
    intro D w0 K0 β F I ρ w C hv
    obtain ⟨rfl,aH,-⟩:=hv
    have r:=C.ev hx
    have hi:=C.int hz
    generalize hy:ρ x=y at r
    cases r with
    | ag ys hl hr=>
     obtain ⟨y,h1,h2⟩:=v5 hT hp hl hr
     refine ⟨y,fun w' _=>?_,h1⟩
     have c9:=bj hT hu
     have hc:(0:Int)≤(i:Int)∧(i:Int)<(n:Int):=by omega
     simp only [execOp,hy,hi,Instr.index,asIntOf,Sem.run_bind,Sem.run_pure,run_underlying c9,Result.andThen_ok]
     rw [if_pos hc]
     simp only [Sem.run_bind,aX,Result.andThen_ok,Int.toNat_natCast,h2,Sem.run_pure]
   ·simp at h
  ·simp at h
 ·simp at h
def vG (T:aD) (E:List (Nat×AV)) (M:List af) (t:TypeId) (parts:Array (Nat×Operand)):Option Out:=
 match bE T t,ox T t with
 | some (.ar _ e),some z=>(match dB T e with
  | some k=>(match jV E (fun i=>some (i*k,k)) (fM z) parts.toList with
   | some l=>some (lk [] (.ag l) M)
   | none=>none)
  | none=>none)
 | _,_=>none
theorem EN (hT:aP P T=true) {t:TypeId} {parts:Array (Nat×Operand)} (h:vG T E M t parts=some out):aB P ⟨d,.build t parts,ty,pos,aft,gd⟩ E M out:=by
 unfold vG at h
 split at h
 ·rename_i n e z hu hz
  split at h
  ·rename_i k hk
   split at h
   ·rename_i l hl
    simp only [Option.some.injEq] at h;subst h
    obtain ⟨zv,o4,ke⟩:=va hT hz
    have aX:∀ w:World,(sizeOf e).run P w=.ok k w:=fun w=>by
     have:=dV hT hk
     cases hi:P.info? e with
     | none=>simp [hi] at this
     | some inf=>simp only [hi,Option.map_some,Option.some.injEq] at this;simp [sizeOf,typeInfo,Sem.run_bind,hi,this]
    refine aB.same ?_
    intro D w0 K0 β F I ρ w C _
    obtain ⟨p1,p2⟩:=iG (K:=fun w=>K0 w∧ai w I) (β:=β) z
    obtain ⟨bH,g1,g2,g3⟩:=rP C (cs:=z.toArray) hl (by simpa using p1) (by intro j c y e1 e2;exact p2 j c y e1 (by simpa using e2))
    refine ⟨.agg bH,fun w' _=>?_,?_⟩
    ·have me:(parts.map fun (p:Nat×Operand)=>(p.1,ρ p.2)).toList=parts.toList.map fun p=>(p.1,ρ p.2):=by simp
     have hb:(Instr.build t (parts.map fun (p:Nat×Operand)=>(p.1,ρ p.2))).run P w'=.ok (.agg bH) w':=by
      simp only [Instr.build,Sem.run_bind,ke,Result.andThen_ok,run_underlying (bj hT hu),aX,o4,me,g1,Sem.run_pure]
     simp only [execOp,Sem.run_bind]
     have:(parts.map fun (i,x)=>(i,ρ x))=parts.map fun (p:Nat×Operand)=>(p.1,ρ p.2):=rfl
     rw [this,hb];rfl
    ·have:(aq (fun w=>K0 w∧ai w I) β (.ag l) (.agg bH.toList.toArray)):=.ag bH.toList (by simpa using g2) (by intro j c y e1 e2;exact g3 j c y e1 (by simpa using e2))
     simpa using this
   ·simp at h
  ·simp at h
 ·simp at h
end Go.Proofs.YtgkdnnmcjjabdaaGreat
namespace Go.Proofs.YtgkdnnmcjjabdaaGreat
open Go.RowKit
variable {P:Program} {T:aD} {D:List Nat} {w0:World} {K0:World→Prop} {E:List (Nat×AV)} {M:List af} {β:Beta} {F:Nat→ah} {I X:ah} {ρ:Operand→Value} {w:World}
variable {d:Option Tmp} {ty:TypeId} {pos:String} {aft:Array Edge} {gd:Option (Nat×Bool)} {oc:Option aW} {out:Out}
theorem bA.jm (R:bA D w0 K0 M β F I X w) {u:Nat} {blk:af} (h:M[u]?=some blk):ai w (F u):=by
 intro x hx
 obtain ⟨hu,-⟩:=List.getElem?_eq_some_iff.1 h
 exact R.st.holds x (List.mem_append_left _ (List.mem_flatMap.2 ⟨u,List.mem_range.2 hu,hx⟩))
theorem bA.back {X Y:ah} (R:bA D w0 K0 M β F I (X++Y) w) {u:Nat} (hu:u<M.length) (hF:F u=[]) {blk:af} (hb:bn (fun w=>K0 w∧ai w I) β u blk X):
  bA D w0 K0 (M.set u blk) β (aL F u X) I Y w where
 len:=by rw [List.length_set];exact R.len
 blk:=by
  intro v bl hv
  rw [List.getElem?_set] at hv
  by_cases e:u=v
  ·subst e
   simp only [hu,if_pos,Option.some.injEq] at hv;subst hv
   simpa [aL] using hb
  ·rw [if_neg e] at hv
   have:aL F u X v=F v:=by simp only [aL];rw [if_neg (fun h=>e h.symm)]
   rw [this];exact R.blk v bl hv
 st:=by
  have hs:=R.st
  rw [List.length_set,range_split hu]
  rw [range_split hu,hF] at hs
  have c1:(List.range u).flatMap (aL F u X)=(List.range u).flatMap F:=eG fun a ha=>by have:=List.mem_range.1 ha;simp [aL];omega
  have c2:(List.range' (u+1) (M.length-(u+1))).flatMap (aL F u X)=(List.range' (u+1) (M.length-(u+1))).flatMap F:=eG fun a ha=>by have:=(List.mem_range'_1.1 ha).1;simp [aL];omega
  have c9:aL F u X u=X:=by simp [aL]
  rw [c1,c2,c9]
  exact hs.perm (by classical rw [List.perm_iff_count];intro z;simp only [List.count_append,List.count_nil];omega)
theorem EB {k o m:Nat} (h:o+m≤k) (f:Nat→ah):(List.range k).flatMap f=(List.range o).flatMap f++((List.range' o m).flatMap f++(List.range' (o+m) (k-(o+m))).flatMap f):=by
 have:List.range k=List.range o++(List.range' o m++List.range' (o+m) (k-(o+m))):=by
  rw [List.range_eq_range',List.range_eq_range']
  have h1:k=o+(m+(k-(o+m))):=by omega
  conv=>lhs;rw [h1]
  rw [← List.range'_append_1,← List.range'_append_1]
  simp
 rw [this,List.flatMap_append,List.flatMap_append]
def dM (G:Nat→Nat→ah) (i o m:Nat) (Gx:Nat→ah):Nat→Nat→ah:=fun a j=>if a=i∧o≤j∧j<o+m then Gx (j-o) else G a j
theorem zh {n k i o m:Nat} (hi:i<n) (ho:o+m≤k) (G:Nat→Nat→ah) (Gx:Nat→ah):(bq n k G++(List.range m).flatMap Gx).Perm (bq n k (dM G i o m Gx)++(List.range' o m).flatMap (G i)):=by
 unfold bq
 have c1:(List.range i).flatMap (fun a=>(List.range k).flatMap (dM G i o m Gx a))=(List.range i).flatMap (fun a=>(List.range k).flatMap (G a)):=eG fun a ha=>eG fun j _=>by have:=List.mem_range.1 ha;simp only [dM];rw [if_neg (by omega)]
 have c2:(List.range' (i+1) (n-(i+1))).flatMap (fun a=>(List.range k).flatMap (dM G i o m Gx a))=(List.range' (i+1) (n-(i+1))).flatMap (fun a=>(List.range k).flatMap (G a)):=eG fun a ha=>eG fun j _=>by have:=(List.mem_range'_1.1 ha).1;simp only [dM];rw [if_neg (by omega)]
 have c3:(List.range o).flatMap (dM G i o m Gx i)=(List.range o).flatMap (G i):=eG fun j hj=>by have:=List.mem_range.1 hj;simp only [dM];rw [if_neg (by omega)]
 have c4:(List.range' o m).flatMap (dM G i o m Gx i)=(List.range m).flatMap Gx:=by
  rw [List.range'_eq_map_range,List.flatMap_map]
  exact eG fun j hj=>by
   have:=List.mem_range.1 hj
   show dM G i o m Gx i (o+j)=Gx j
   unfold dM;rw [if_pos ⟨rfl,by omega,by omega⟩,Nat.add_sub_cancel_left]
 have c5:(List.range' (o+m) (k-(o+m))).flatMap (dM G i o m Gx i)=(List.range' (o+m) (k-(o+m))).flatMap (G i):=eG fun j hj=>by have:=(List.mem_range'_1.1 hj).1;simp only [dM];rw [if_neg (by omega)]
 rw [range_split hi (fun a=>(List.range k).flatMap (G a)),range_split hi (fun a=>(List.range k).flatMap (dM G i o m Gx a)),c1,c2]
 rw [EB ho (G i),EB ho (dM G i o m Gx i),c3,c4,c5]
 classical rw [List.perm_iff_count];intro z;simp only [List.count_append];omega
def iy (X:Nat→List Value) (i o:Nat) (zs:List Value):Nat→List Value:=fun a=>if a=i then (X i).take o++(zs++(X i).drop (o+zs.length)) else X a
theorem oh {α:Type} {l zs:List α} {o j:Nat} (h:o+zs.length≤l.length):(l.take o++(zs++l.drop (o+zs.length)))[j]?=if o≤j∧j<o+zs.length then zs[j-o]? else l[j]?:=by
 by_cases h1:o≤j∧j<o+zs.length
 ·rw [if_pos h1,List.getElem?_append_right (by simp;omega),List.getElem?_append_left (by simp;omega)]
  congr 1;simp;omega
 ·rw [if_neg h1]
  rcases Nat.lt_or_ge j o with hj | hj
  ·rw [List.getElem?_append_left (by simp;omega),List.getElem?_take,if_pos hj]
  ·rw [List.getElem?_append_right (by simp;omega),List.getElem?_append_right (by simp;omega),List.getElem?_drop]
   congr 1;simp;omega
theorem rS {X:Nat→List Value} {i o k:Nat} {zs:List Value} (ho:o+zs.length≤k) {a:Nat} (h:(X a).length=k):(iy X i o zs a).length=k:=by
 unfold iy;split
 ·rename_i e;subst e;simp;omega
 ·exact h
theorem Hh {n k i o:Nat} {X:Nat→List Value} {zs:List Value} {cs:Array Value} (hX:∀ a,a<n→(X a).length=k) (hi:i<n) (ho:o+zs.length≤k) (ht:cs.toList.take (n*k)=lay n X) (aX:n*k≤cs.size):
  (bS cs (i*k+o) zs).toList.take (n*k)=lay n (iy X i o zs):=by
 have J5:∀ a,a<n→(iy X i o zs a).length=k:=fun a ha=>rS ho (hX a ha)
 have cI:=dA J5
 have Ds:i*k+k≤n*k:=by have:=Nat.mul_le_mul_right k (show i+1≤n from hi);rw [Nat.succ_mul] at this;exact this
 apply List.ext_getElem?
 intro p
 rcases Nat.lt_or_ge p (n*k) with hp | hp
 ·have hk:0<k:=by
   rcases Nat.eq_zero_or_pos k with h0 | h0
   ·subst h0;simp at hp
   ·exact h0
  have hd:p / k<n:=Nat.div_lt_of_lt_mul (by rw [Nat.mul_comm];exact hp)
  have hm:p%k<k:=Nat.mod_lt _ hk
  have hg:=jh J5 hd hm
  have xM:=jh hX hd hm
  have e:p / k*k+p%k=p:=by rw [Nat.mul_comm,Nat.div_add_mod]
  rw [e] at hg xM
  rw [hg,List.getElem?_take,if_pos hp,Array.getElem?_toList,pD _ _ _ _ (by omega)]
  have hc:cs[p]?=(X (p / k))[p%k]?:=by rw [← xM,← ht,List.getElem?_take,if_pos hp,Array.getElem?_toList]
  generalize hA:p / k=a at *
  generalize hJ:p%k=j at *
  by_cases ha:a=i
  ·subst ha
   unfold iy
   rw [if_pos rfl,oh (by rw [hX a hd];exact ho)]
   by_cases h1:o≤j∧j<o+zs.length
   ·rw [if_pos h1,if_pos (by omega)];congr 1;omega
   ·rw [if_neg h1,if_neg (by omega)];exact hc
  ·unfold iy
   rw [if_neg ha,if_neg ?_]
   ·exact hc
   ·intro h1
    rcases Nat.lt_or_gt_of_ne ha with h2 | h2
    ·have:=Nat.mul_le_mul_right k (show a+1≤i from h2);rw [Nat.succ_mul] at this;omega
    ·have:=Nat.mul_le_mul_right k (show i+1≤a from h2);rw [Nat.succ_mul] at this;omega
 ·rw [List.getElem?_eq_none (by simp [ib];omega),List.getElem?_eq_none (by omega)]
theorem dt.put {K:World→Prop} {k i o:Nat} {rows:List (List DV)} {X:Nat→List Value} {G:Nat→Nat→ah} {row xs:List DV} {zs:List Value} {Gx:Nat→ah} (h:dt K k rows X G) (bu:rows[i]?=some row) (ho:o+zs.length≤k) (hx:zs.length=xs.length) (hd:∀ (j:Nat) c y,xs[j]?=some c→zs[j]?=some y→bw K c y (Gx j)):
  dt K k (rows.set i (row.take o++(xs++row.drop (o+xs.length)))) (iy X i o zs) (dM G i o zs.length Gx):=by
 have iD:=h.hl i row bu
 constructor
 ·intro a r ha
  rw [List.getElem?_set] at ha
  by_cases e:i=a
  ·subst e
   rw [if_pos rfl] at ha
   split at ha
   ·simp only [Option.some.injEq] at ha;subst ha
    exact ⟨by simp;omega,rS ho iD.2⟩
   ·simp at ha
  ·rw [if_neg e] at ha
   have:=h.hl a r ha
   exact ⟨this.1,rS ho this.2⟩
 ·intro a r j c x ha hj ml
  rw [List.getElem?_set] at ha
  by_cases e:i=a
  ·subst e
   rw [if_pos rfl] at ha
   split at ha
   ·simp only [Option.some.injEq] at ha;subst ha
    rw [oh (by omega)] at hj
    unfold iy at ml
    rw [if_pos rfl,oh (by omega)] at ml
    unfold dM
    by_cases h1:o≤j∧j<o+zs.length
    ·rw [if_pos (by omega)] at hj
     rw [if_pos h1] at ml
     rw [if_pos ⟨rfl,h1⟩]
     exact hd _ c x hj ml
    ·rw [if_neg (by omega)] at hj
     rw [if_neg h1] at ml
     rw [if_neg (fun q=>h1 q.2)]
     exact h.hr i row j c x bu hj ml
   ·simp at ha
  ·rw [if_neg e] at ha
   unfold iy at ml
   rw [if_neg (fun q=>e q.symm)] at ml
   unfold dM
   rw [if_neg (fun q=>e q.1.symm)]
   exact h.hr a r j c x ha hj ml
def zT (T:aD) (E:List (Nat×AV)) (M:List af) (oc:Option aW) (t:TypeId) (x y:Operand):Option Out:=
 match aC E x,aC E y,dB T t,oc with
 | some (.ep u k i o),some v,some n,some (.ix _ row)=>(match mV v with
  | some l=>(match jU M l with
   | some (vc,xs,M')=>(match M'[u]? with
    | some (.rw e k' rows)=>bif k.beq k'&&l.length.beq n&&(o+n).ble k then some ⟨(rows[i]?=some row)::vc,.d .jk,M'.set u (.rw e k (rows.set i (row.take o++(xs++row.drop (o+xs.length))))),u::qI l,[],none⟩ else none
    | _=>none)
   | none=>none)
  | none=>none)
 | _,_,_,_=>none
theorem LR (hT:aP P T=true) {t:TypeId} {x y:Operand} (h:zT T E M oc t x y=some out):aB P ⟨d,.store t x y,ty,pos,aft,gd⟩ E M out:=by
 unfold zT at h
 split at h
 rotate_left
 ·simp at h
 rename_i u k i o v n i0 row hx hy hn
 split at h
 rotate_left
 ·simp at h
 rename_i l hl
 split at h
 rotate_left
 ·simp at h
 rename_i vc xs M' hp
 split at h
 rotate_left
 ·simp at h
 rename_i e k' rows hM
 cases hc:(k.beq k'&&l.length.beq n&&(o+n).ble k) with
 | false=>simp [hc] at h
 | true=>
  simp only [hc,cond_true,Option.some.injEq] at h;subst h
  simp only [Bool.and_eq_true] at hc
  obtain rfl:=Nat.eq_of_beq_eq_true hc.1.1
  have mc:=Nat.eq_of_beq_eq_true hc.1.2
  have hle:=Nat.le_of_ble_eq_true hc.2
  intro D w0 K0 β F I ρ w C hv
  obtain ⟨bu,hv⟩:=hv
  obtain ⟨yx,da,rx⟩:=C.aR hx
  obtain ⟨yy,eS,ry⟩:=C.aR hy
  obtain ⟨zs,h1,h2,h3,h4⟩:=pE hl ry
  obtain ⟨lM,F',Hp,R',dd,nH⟩:=vF C.rm.x hp hv (ys:=zs) h2 h3
  rw [List.nil_append] at R'
  cases rx with
  | @ep _ _ _ _ b0 c0 hb=>
   have aH:u<M'.length:=cT hM
   have hB:=R'.blk u _ hM
   have hH:=R'.jm hM
   have R1:=R'.dX hM
   have dl:=dd.len
   obtain ⟨Gx,Dt,tK⟩:=dd.to
   generalize mj:F' u=Fu at hB hH R1
   cases hB with
   | rw aE X G cM hs hr=>
    rw [hb] at aE;cases aE
    obtain ⟨hi,-⟩:=List.getElem?_eq_some_iff.1 bu
    obtain ⟨b',cap,cs,fz,he,rfl,et,cd,ch,ht⟩:=hs.block (by omega)
    cases he
    have hw:=(ai.app.1 hH).1.one
    have hX:∀ a,a<rows.length→(X a).length=k:=fun a ha=>(cM a _ (List.getElem?_eq_getElem ha)).2
    have Ds:i*k+k≤rows.length*k:=by have:=Nat.mul_le_mul_right k (show i+1≤rows.length from hi);rw [Nat.succ_mul] at this;exact this
    have aX:rows.length*k≤cs.size:=by rw [cd];exact Nat.mul_le_mul_right _ ch
    refine vB n (dV hT hn) da eS hw (by rw [h1];simp;omega) (by omega) (by rw [h1];simpa using h4) ?_
    rw [h1]
    have ra:dt (fun w=>K0 w∧ai w I) k rows X G:=⟨cM,hr⟩
    have gM:=ra.put (o:=o) (zs:=zs) (xs:=xs) (Gx:=Gx) bu (by omega) dl tK
    have aU:=R1.st
    have gZ:St D w0 w ((b0,.cells cs e fz)::(bq rows.length k G++(Hp++((List.range (M'.set u .dead).length).flatMap (aL F' u [])++I)))):=aU.perm (by classical rw [List.perm_iff_count];intro z;simp only [List.count_append,List.count_cons,List.cons_append,List.nil_append];omega)
    have j6:=gZ.set (.cells (bS cs (i*k+o) zs) e fz)
    have g6:=zh (n:=rows.length) (k:=k) (i:=i) (o:=o) (m:=zs.length) hi (by omega) G Gx
    rw [Dt,← dl] at j6
    have R2:bA D w0 K0 (M'.set u .dead) β (aL F' u []) I (([(b0,.cells (bS cs (i*k+o) zs) e fz)]++bq rows.length k (dM G i o zs.length Gx))++(List.range' o zs.length).flatMap (G i)) _:=R1.move (j6.perm (by
     classical
     have hc:=List.perm_iff_count.1 g6
     rw [List.perm_iff_count];intro z
     have:=hc z
     simp only [List.count_append,List.count_cons,List.cons_append,List.nil_append] at this ⊢
     omega))
    have dw:bn (fun w=>K0 w∧ai w I) β u (.rw e k (rows.set i (row.take o++(xs++row.drop (o+xs.length))))) ([(b0,.cells (bS cs (i*k+o) zs) e fz)]++bq rows.length k (dM G i o zs.length Gx)):=by
     have:=bn.rw (K:=fun w=>K0 w∧ai w I) (u:=u) (T:=e) (k:=k) (rows:=rows.set i (row.take o++(xs++row.drop (o+xs.length)))) (H0:=[(b0,.cells (bS cs (i*k+o) zs) e fz)]) hb (iy X i o zs) (dM G i o zs.length Gx) gM.hl (by
      rw [List.length_set]
      exact ⟨dA fun a ha=>rS (by omega) (hX a ha),Or.inr ⟨_,_,_,fz,rfl,rfl,by rw [ib];exact et,by rw [ib];exact cd,ch,Hh hX hi (by omega) ht aX⟩⟩) gM.hr
     rw [List.length_set] at this;exact this
    have R3:=((R2.drop.perm (Y:=([(b0,.cells (bS cs (i*k+o) zs) e fz)]++bq rows.length k (dM G i o zs.length Gx))++[]) (by rw [List.append_nil])).back (by rw [List.length_set];exact aH) (by simp [aL]) dw).nil rfl
    rw [List.set_set] at R3
    refine ⟨β,_,I,R3,(Ext.refl β).b _,aZ.refl _,fun q hq gm=>?_,.d (.jk _)⟩
    simp only [List.mem_cons,not_or] at gm
    simp only [aL];rw [if_neg gm.1,if_neg gm.1]
    exact nH q gm.2
def Bs (T:aD) (E:List (Nat×AV)) (M:List af) (oc:Option aW) (t:TypeId) (x:Operand):Option Out:=
 match aC E x,oc,ma T t with
 | some (.ep u k i o),some (.ix _ row),some .one=>(match M[u]?,row[o]? with
  | some (.rw e k' rows),some (.em T2 k2 bL)=>bif k.beq k' then some ⟨[rows[i]?=some row],.sl M.length bL.length,M.set u (.rw e k (rows.set i (row.take o++([.jk]++row.drop (o+1)))))++[.rw T2 k2 bL],[u],[],none⟩ else none
  | _,_=>none)
 | _,_,_=>none
theorem NR (hT:aP P T=true) {t:TypeId} {x:Operand} (h:Bs T E M oc t x=some out):aB P ⟨d,.load t x,ty,pos,aft,gd⟩ E M out:=by
 unfold Bs at h
 split at h
 rotate_left
 ·simp at h
 rename_i u k i o i0 row hx e8
 split at h
 rotate_left
 ·simp at h
 rename_i e k' rows T2 k2 bL hM qn
 cases hk:k.beq k' with
 | false=>simp [hk] at h
 | true=>
  simp only [hk,cond_true,Option.some.injEq] at h;subst h
  obtain rfl:=Nat.eq_of_beq_eq_true hk
  intro D w0 K0 β F I ρ w C hv
  obtain ⟨bu,-⟩:=hv
  obtain ⟨yx,da,rx⟩:=C.aR hx
  have R:=C.rm.x
  have hB:=R.blk u _ hM
  have hH:=R.jm hM
  have R1:=R.dX hM
  have aH:=cT hM
  cases rx with
  | @ep _ _ _ _ b0 c0 hb=>
   generalize mj:F u=Fu at hB hH R1
   cases hB with
   | rw aE X G cM hs hr=>
    rw [hb] at aE;cases aE
    obtain ⟨hi,-⟩:=List.getElem?_eq_some_iff.1 bu
    obtain ⟨ho,-⟩:=List.getElem?_eq_some_iff.1 qn
    obtain ⟨qZ,Dk⟩:=cM i row bu
    obtain ⟨b',cap,cs,fz,he,rfl,et,cd,ch,ht⟩:=hs.block (by omega)
    cases he
    have hw:=(ai.app.1 hH).1.one
    have hX:∀ a,a<rows.length→(X a).length=k:=fun a ha=>(cM a _ (List.getElem?_eq_getElem ha)).2
    have Ds:i*k+k≤rows.length*k:=by have:=Nat.mul_le_mul_right k (show i+1≤rows.length from hi);rw [Nat.succ_mul] at this;exact this
    have aX:rows.length*k≤cs.size:=by rw [cd];exact Nat.mul_le_mul_right _ ch
    obtain ⟨y,hy⟩:∃ y,(X i)[o]?=some y:=⟨_,List.getElem?_eq_getElem (by omega)⟩
    have hd:=hr i row o _ y bu qn hy
    have QZ:w.cell? ⟨b0,i*k+o,none⟩=some y:=by
     rw [cell_of hw,← hy,← jh hX hi (by omega),← ht,List.getElem?_take,if_pos (by omega),Array.getElem?_toList]
    refine aS.pure (Ia (zP hT e8) da QZ) ?_
    have ra:dt (fun w=>K0 w∧ai w I) k rows X G:=⟨cM,hr⟩
    have gM:=ra.put (o:=o) (zs:=[y]) (xs:=[.jk]) (Gx:=fun _=>[]) bu (by simp;omega) rfl (fun j c z h1 h2=>by
     cases j with
     | zero=>simp at h1;subst h1;exact .jk _
     | succ j=>simp at h1)
    have g6:=zh (n:=rows.length) (k:=k) (i:=i) (o:=o) (m:=1) hi (by omega) G (fun _=>[])
    have db:(List.range 1).flatMap (fun _=>([]:ah))=[]:=by simp
    have Sd:(List.range' o 1).flatMap (G i)=G i o:=by simp
    rw [db,Sd,List.append_nil] at g6
    have R2:=R1.perm (Y:=([(b0,.cells cs e fz)]++bq rows.length k (dM G i o 1 fun _=>[]))++G i o) (by
     classical
     have hc:=List.perm_iff_count.1 g6
     rw [List.perm_iff_count];intro z
     have:=hc z
     simp only [List.count_append,List.count_nil] at this ⊢
     omega)
    have Q0:lay rows.length (iy X i o [y])=lay rows.length X:=by
     refine zQ fun a ha=>?_
     unfold iy;split
     ·rename_i e;subst e
      apply List.ext_getElem?;intro j
      rw [oh (by simp;omega)]
      split
      ·rename_i h1;simp at h1
       obtain rfl:j=o:=by omega
       rw [hy];simp
      ·rfl
     ·rfl
    have dw:bn (fun w=>K0 w∧ai w I) β u (.rw e k (rows.set i (row.take o++([.jk]++row.drop (o+1))))) ([(b0,.cells cs e fz)]++bq rows.length k (dM G i o 1 fun _=>[])):=by
     have:=bn.rw (K:=fun w=>K0 w∧ai w I) (u:=u) (T:=e) (k:=k) (rows:=rows.set i (row.take o++([.jk]++row.drop (o+1)))) (H0:=[(b0,.cells cs e fz)]) hb (iy X i o [y]) (dM G i o 1 fun _=>[]) gM.hl (by
      rw [List.length_set,Q0]
      exact ⟨dA hX,Or.inr ⟨_,_,_,fz,rfl,rfl,et,cd,ch,ht⟩⟩) gM.hr
     rw [List.length_set] at this;exact this
    have R3:=R2.back (by rw [List.length_set];exact aH) (by simp [aL]) dw
    rw [List.set_set] at R3
    have q9:(M.set u (af.rw e k (rows.set i (row.take o++([.jk]++row.drop (o+1)))))).length=M.length:=by rw [List.length_set]
    generalize G i o=V8 at hd R3
    cases hd with
    | em X2 F2 g9 nD eU=>
     obtain ⟨a2,c2,rfl⟩:=nD.len
     have hq:(β++[(a2,c2)])[M.length]?=some (a2,c2):=by rw [← R.len];simp
     have cv:=bn.rw (K:=fun w=>K0 w∧ai w I) (T:=T2) (k:=k2) (rows:=bL) hq X2 F2 g9 nD eU
     rw [← q9] at cv
     have R4:=((R3.perm (Y:=_++[]) (by rw [List.append_nil])).take cv).nil rfl
     rw [q9] at R4
     refine ⟨_,_,I,R4,(Ext.app _ _).b _,aZ.refl _,fun q mh gm=>?_,.sl hq⟩
     have kf:q≠u:=by simpa using gm
     simp only [aL]
     rw [if_neg (by omega),if_neg kf,if_neg kf]
def Bt (T:aD) (E:List (Nat×AV)) (M:List af) (oc:Option aW) (st:TypeId) (x y:Operand):Option Out:=
 match eL T st,aC E x,aC E y,oc with
 | some (_,k,_,_),some (.sl u n),some vy,some (.n c)=>(match M[u]?,qH M k vy with
  | some (.rw e' k' rows),some (none,_,bL)=>bif k.beq k' then some ⟨[n=rows.length,min bL.length n=c,bY bL],.d (.v (.int .i64 (c:Int))),M.set u (.rw e' k (bL.take c++rows.drop c)),[u],[],none⟩ else none
  | _,_=>none)
 | _,_,_,_=>none
theorem dt.take {K:World→Prop} {k c:Nat} {rows:List (List DV)} {X:Nat→List Value} {G:Nat→Nat→ah} (h:dt K k rows X G):dt K k (rows.take c) X G:=by
 constructor
 ·intro i r hi
  rw [List.getElem?_take] at hi
  split at hi
  ·exact h.hl i r hi
  ·simp at hi
 ·intro i r j c' x hi
  rw [List.getElem?_take] at hi
  split at hi
  ·exact h.hr i r j c' x hi
  ·simp at hi
theorem dt.drop {K:World→Prop} {k c:Nat} {rows:List (List DV)} {X:Nat→List Value} {G:Nat→Nat→ah} (h:dt K k rows X G):dt K k (rows.drop c) (fun i=>X (c+i)) (fun i=>G (c+i)):=by
 constructor
 ·intro i r hi;rw [List.getElem?_drop] at hi;exact h.hl _ r hi
 ·intro i r j c' x hi;rw [List.getElem?_drop] at hi;exact h.hr _ r j c' x hi
theorem ob {n c k:Nat} {X:Nat→List Value} (hX:∀ a,a<n→(X a).length=k) (hc:c≤n):lay c X=(lay n X).take (c*k):=by
 have h1:=pU c (n-c) X (fun i=>X (c+i))
 rw [show c+(n-c)=n by omega] at h1
 have h2:lay n (fun i=>if i<c then X i else X (c+(i-c)))=lay n X:=zQ fun i hi=>by
  split
  ·rfl
  ·congr 1;omega
 rw [h2] at h1
 rw [h1,List.take_append_of_le_length (by rw [dA fun a ha=>hX a (by omega)];exact Nat.le_refl _),List.take_of_length_le (by rw [dA fun a ha=>hX a (by omega)];exact Nat.le_refl _)]
theorem vj {n c k:Nat} {X:Nat→List Value} (hX:∀ a,a<n→(X a).length=k) (hc:c≤n):lay (n-c) (fun i=>X (c+i))=(lay n X).drop (c*k):=by
 have h1:=pU c (n-c) X (fun i=>X (c+i))
 rw [show c+(n-c)=n by omega] at h1
 have h2:lay n (fun i=>if i<c then X i else X (c+(i-c)))=lay n X:=zQ fun i hi=>by
  split
  ·rfl
  ·congr 1;omega
 rw [h2] at h1
 have hl:=dA (n:=c) (k:=k) (X:=X) (fun a ha=>hX a (by omega))
 rw [h1,List.drop_append_of_le_length (by omega),List.drop_of_length_le (by omega),List.nil_append]
theorem uJ {n c k:Nat} (G:Nat→Nat→ah) (hc:c≤n):bq n k G=bq c k G++bq (n-c) k (fun i=>G (c+i)):=by
 have h1:=rR c (n-c) k G (fun i=>G (c+i))
 rw [show c+(n-c)=n by omega] at h1
 rw [← h1]
 simp only [bq]
 refine eG fun i hi=>eG fun j _=>?_
 show G i j=(if i<c then G i else G (c+(i-c))) j
 split
 ·rfl
 ·congr 2;omega
theorem LF (cs:Array Value) (zs:List Value) (h:zs.length≤cs.size):(bS cs 0 zs).toList=zs++cs.toList.drop zs.length:=by
 apply List.ext_getElem?
 intro p
 rw [Array.getElem?_toList,pD _ _ _ _ (by omega)]
 by_cases hp:p<zs.length
 ·rw [if_pos (by omega),List.getElem?_append_left hp,Nat.sub_zero]
 ·rw [if_neg (by omega),List.getElem?_append_right (by omega),List.getElem?_drop,Array.getElem?_toList]
  congr 1;omega
theorem Src.pre {size:Nat} {x:Value} {m c:Nat} {X:List Value} (h:Src w size x m X) (hc:c≤m):(Builtin.lenOf x).run P w=.ok m w∧(Builtin.firstCells size c x).run P w=.ok (X.take (c*size)).toArray w:=by
 obtain ⟨hl,hh⟩:=h
 refine ⟨(Src.first (P:=P) ⟨hl,hh⟩).1,?_⟩
 rcases hh with ⟨rfl,a,c',rfl⟩ | ⟨a,c',rfl,h⟩
 ·obtain rfl:c=0:=by omega
  have:X=[]:=List.eq_nil_of_length_eq_zero (by simpa using hl)
  subst this
  cases a with
  | none=>simp [Builtin.firstCells]
  | some a=>simp [Builtin.firstCells,loadCells,loadCellsFrom]
 ·have hlen:(X.take (c*size)).length=c*size:=by rw [List.length_take,hl];exact Nat.min_eq_left (Nat.mul_le_mul_right _ hc)
  simp only [Builtin.firstCells]
  have:=run_loadCells (P:=P) (w:=w) (a:=a) (X:=X.take (c*size)) (fun j hj=>by
   rw [h j (by simp at hj;omega),List.getElem_take])
  rw [hlen] at this;exact this
theorem NS (hT:aP P T=true) {st xt:TypeId} {x y:Operand} (h:Bt T E M oc st x y=some out):aB P ⟨d,.call ⟨.builtin .copy,#[x,y],#[st,xt]⟩,ty,pos,aft,gd⟩ E M out:=by
 unfold Bt at h
 split at h
 rotate_left
 ·simp at h
 rename_i e k b z u n vy c he hx hy
 obtain ⟨zv,ok,-,-⟩:=fN hT he
 split at h
 rotate_left
 ·simp at h
 rename_i e' k' rows m bL hM hs
 cases hk:k.beq k' with
 | false=>simp [hk] at h
 | true=>
  simp only [hk,cond_true,Option.some.injEq] at h;subst h
  obtain rfl:=Nat.eq_of_beq_eq_true hk
  obtain ⟨tI,hm⟩:=yS hs
  intro D w0 K0 β F I ρ w C hv
  obtain ⟨hn,oQ,db,-⟩:=hv
  subst hn
  obtain ⟨X2,a2,dL⟩:=zg C.now tI (C.ev hy)
  have iY:c≤bL.length:=by omega
  have mn:c≤rows.length:=by omega
  have aX:∀ w:World,(sizeOf e).run P w=.ok k w:=fun w=>by obtain ⟨i,hi,h1,-⟩:=ok.info;simp [sizeOf,typeInfo,Sem.run_bind,hi,h1]
  obtain ⟨hlen,ij⟩:=dL.pre (P:=P) iY
  have Du:∀ a,a<bL.length→(X2 a).length=k:=fun a ha=>(a2.hl a _ (List.getElem?_eq_getElem ha)).2
  rw [← ob Du iY] at ij
  have J6:(lay c X2).length=c*k:=dA fun a ha=>Du a (by omega)
  have oA:∀ q ∈ lay c X2,cD q=true:=fun q hq=>a2.one db q (by rw [ob Du iY] at hq;exact List.mem_of_mem_take hq)
  obtain ⟨yx,da,rx⟩:=C.aR hx
  cases rx with
  | @sl _ _ c0 q0 hb=>
   have R:=C.rm.x
   have hB:=R.blk u _ hM
   have hH:=R.jm hM
   have R1:=R.dX hM
   have aH:=cT hM
   generalize mj:F u=Fu at hB hH R1
   cases hB with
   | rw aE X G cM hs hr=>
    rw [hb] at aE;cases aE
    have hX:∀ a,a<rows.length→(X a).length=k:=fun a ha=>(cM a _ (List.getElem?_eq_getElem ha)).2
    have iD:(bL.take c++rows.drop c).length=rows.length:=by simp;omega
    have ra:dt (fun w=>K0 w∧ai w I) k rows X G:=⟨cM,hr⟩
    have Ul:min c bL.length=c:=by omega
    have gM:=(a2.take (c:=c)).app (ra.drop (c:=c))
    rw [List.length_take,Ul] at gM
    have jn:∀ (a0:Option Addr) (c0:Nat) w',ρ x=.slice a0 rows.length c0→(∀ a:Addr,a0=some a→(storeCells a (lay c X2)).run P w=.ok () w')→(a0=none→w'=w)→(execOp ρ ⟨d,.call ⟨.builtin .copy,#[x,y],#[st,xt]⟩,ty,pos,aft,gd⟩).run P w=.ok (.value (.int .i64 (c:Int))) w':=by
     intro a0 c0 w' da aU ew
     have oB:Nat.min bL.length rows.length=c:=oQ
     simp only [execOp,resolve,List.map_toArray,List.map,da,Sem.run_bind,Sem.run_pure,Result.andThen_ok,invoke,builtin,Builtin.copy_,List.getElem?_toArray,List.getElem?_cons_zero,List.getElem?_cons_succ,run_underlying ok.aU,hlen,oB,aX,ij]
     cases a0 with
     | some a=>simp only [Sem.run_bind,aU _ rfl,Result.andThen_ok,Sem.run_pure];rfl
     | none=>rw [ew rfl];simp only [Sem.run_pure,Result.andThen_ok];rfl
    have eB:∀ {w':World} {H0':ah},St D w0 w' (H0'++(bq rows.length k G++((List.range (M.set u .dead).length).flatMap (aL F u [])++I)))→(∀ a0 c0,β[u]?=some (a0,c0)→dI e' k (.slice a0 rows.length c0) rows.length (lay c X2++(lay rows.length X).drop (c*k)) H0')→∃ β' F' I',RM D w0 K0 (M.set u (.rw e' k (bL.take c++rows.drop c))) β' F' I' w'∧dS [] β β'∧aZ I I'∧(∀ v,v<M.length→v ∉ [u]→F' v=F v)∧aq (fun w=>K0 w∧ai w I') β' (.d (.v (.int .i64 (c:Int)))) (.int .i64 (c:Int)):=by
     intro w' H0' aU cn
     rw [uJ G mn] at aU
     have R2:bA D w0 K0 (M.set u .dead) β (aL F u []) I ((H0'++bq (rows.length-c) k (fun i=>G (c+i)))++bq c k G) w':=R1.move (aU.perm (by classical rw [List.perm_iff_count];intro z;simp only [List.count_append];omega))
     have dw:bn (fun w=>K0 w∧ai w I) β u (.rw e' k (bL.take c++rows.drop c)) (H0'++bq (rows.length-c) k (fun i=>G (c+i))):=by
      have nh:lay rows.length (fun i=>if i<c then X2 i else X (c+(i-c)))=lay c X2++(lay rows.length X).drop (c*k):=by
       have:=pU c (rows.length-c) X2 (fun i=>X (c+i))
       rw [show c+(rows.length-c)=rows.length by omega,vj hX mn] at this
       exact this
      have Se:bq rows.length k (fun i=>if i<c then (fun _=>[]) else G (c+(i-c)))=bq (rows.length-c) k (fun i=>G (c+i)):=by
       have:=rR c (rows.length-c) k (fun _ _=>[]) (fun i=>G (c+i))
       rw [show c+(rows.length-c)=rows.length by omega,jI,List.nil_append] at this
       exact this
      have:=bn.rw (K:=fun w=>K0 w∧ai w I) (u:=u) (T:=e') (k:=k) (rows:=bL.take c++rows.drop c) (H0:=H0') hb _ _ gM.hl (by
       rw [iD,nh];exact cn _ _ hb) gM.hr
      rw [iD,Se] at this;exact this
     have R3:=((R2.drop.perm (Y:=(H0'++bq (rows.length-c) k (fun i=>G (c+i)))++[]) (by rw [List.append_nil])).back (by rw [List.length_set];exact aH) (by simp [aL]) dw).nil rfl
     rw [List.set_set] at R3
     refine ⟨β,_,I,R3,(Ext.refl β).b _,aZ.refl _,fun q hq gm=>?_,.d (.v _)⟩
     have kf:q≠u:=by simpa using gm
     simp only [aL];rw [if_neg kf,if_neg kf]
    have IW:=R1.st
    rcases hs.2 with ⟨h0,rfl,a,J7⟩ | ⟨b',cap,cs,fz,nI,rfl,et,cd,ch,ht⟩
    ·have Dn:c=0:=by omega
     simp only [Value.slice.injEq] at J7
     obtain ⟨-,-,rfl⟩:=J7
     have mc:lay c X2=[]:=by subst Dn;simp [lay]
     refine aS.pure (jn _ _ w da (fun a _=>by rw [mc];simp [storeCells]) (fun _=>rfl)) (eB (H0':=[]) (IW.perm (by classical rw [List.perm_iff_count];intro z;simp only [List.count_append,List.count_nil];omega)) fun a0 c0 dq=>?_)
     rw [hb] at dq;cases dq
     have:lay rows.length X=[]:=by rw [h0];simp [lay]
     rw [mc,this,List.drop_nil,List.append_nil]
     rw [h0];exact dI.nil _ _ _
    ·simp only [Value.slice.injEq] at nI
     obtain ⟨rfl,-,rfl⟩:=nI
     have hw:=(ai.app.1 hH).1.one
     have nJ:c*k≤rows.length*k:=Nat.mul_le_mul_right _ mn
     have qF:rows.length*k≤cs.size:=by rw [cd];exact Nat.mul_le_mul_right _ ch
     have Ie:=n4 (P:=P) (lay c X2) w cs 0 0 hw (by omega) oA
     rw [Nat.add_zero] at Ie
     refine aS.pure (jn _ _ _ da (fun a ha=>by simp only [Option.some.injEq] at ha;subst ha;exact Ie) (fun ew=>by simp at ew)) (eB (H0':=[(b',.cells (bS cs 0 (lay c X2)) e' fz)]) ?_ fun a0 c0 dq=>?_)
     ·have gZ:St D w0 w ((b',.cells cs e' fz)::(bq rows.length k G++((List.range (M.set u .dead).length).flatMap (aL F u [])++I))):=IW.perm (by classical rw [List.perm_iff_count];intro z;simp only [List.count_append,List.count_cons,List.cons_append,List.nil_append];omega)
      exact gZ.set _
     ·rw [hb] at dq;cases dq
      refine ⟨by rw [List.length_append,List.length_drop,J6,dA hX];omega,Or.inr ⟨b',_,_,fz,rfl,rfl,by rw [ib];exact et,by rw [ib];exact cd,ch,?_⟩⟩
      rw [LF cs _ (by omega),List.take_append,J6,List.take_of_length_le (by omega),← ht,List.drop_take]
def AG (T:aD) (E:List (Nat×AV)) (M:List af) (oc:Option aW) (t:TypeId) (x y:Operand):Option Out:=
 match eL T t,bN (aC E x),bN (aC E y),oc with
 | some (e,k,b,z),some (.i64,n),some (.i64,n'),some (.n2 m c)=>some ⟨[n=(m:Int),n'=(c:Int),m≤c,b*c≤281474976710656,c<4611686018427387904],.sl M.length m,M++[.rw e k (List.replicate m (z.map .v))],[],[],none⟩
 | _,_,_,_=>none
set_option maxRecDepth 20000 in
theorem Es {t e k b:Nat} {z:List Value} {zv:Value} (ok:m5 P t e k b zv) (hz:zv.cells=z.toArray) (di:z.length=k) {m c:Nat} (ey:m≤c) (hb:b*c≤281474976710656) (hm:c<4611686018427387904):
  (Instr.makeSlice t (.int .i64 m) (.int .i64 c)).run P w=.ok (.slice (some ⟨w.heap.size,0,none⟩) m c) (w.alloc (.cells (lay c fun _=>z).toArray e)):=by
 obtain ⟨i,hi,h1,h2,h3⟩:=ok.info
 have hw:∀ m:Nat,m<4611686018427387904→IntKind.i64.wrap (m:Int)=m:=by
  intro m hm;simp [IntKind.wrap,IntKind.signed,IntKind.bits];omega
 have aX:∀ w:World,(sizeOf e).run P w=.ok k w:=fun w=>by simp [sizeOf,typeInfo,Sem.run_bind,hi,h1]
 have e6:∀ w:World,(typeInfo e).run P w=.ok i w:=fun w=>by simp [typeInfo,Sem.run_bind,hi]
 have hzero:∀ w:World,(zeroValue e).run P w=.ok zv w:=fun w=>by simp [zeroValue,Sem.run_bind,e6,h3]
 have lW:∀ (k:Nat) (w:World),(askRoom k).run P w=.ok () w:=by
  intro k w;unfold askRoom;split<;>simp [mark,Sem.run]
 have tF:∀ n:Int,asInt (.int .i64 n)=pure n:=fun n=>rfl
 have bu:∀ (cs:Array Value) (w:World),(newRow e cs).run P w=.ok ⟨w.heap.size,0,none⟩ (w.alloc (.cells cs e)):=by
  intro cs w;simp [newRow,newObj,Sem.run]
 have xL:∀ m:Nat,b*m≤281474976710656→¬ ((i.bytes:Int)*(m:Int)>2 ^ 48):=by
  intro m hb
  rw [h2]
  have e:((b*m:Nat):Int)=(b:Int)*(m:Int):=Int.natCast_mul b m
  rw [← e]
  generalize b*m=q at hb
  omega
 have AE:∀ n,n=c*k→(if n=0 then ((Array.range n).map fun i=>(#[]:Array Value)[i%(#[]:Array Value).size]!) else ((Array.range n).map fun i=>z.toArray[i%z.toArray.size]!))=(lay c fun _=>z).toArray:=by
  intro n hn
  subst hn
  rw [← rQ z c k di]
  by_cases h0:c*k=0
  ·rw [if_pos h0,h0];simp
  ·rw [if_neg h0]
 unfold Instr.makeSlice
 simp only [Sem.run_bind,run_underlying ok.aU,Result.andThen_ok,tF,Sem.run_pure,e6,hw c hm,hw m (by omega)]
 have n2:=xL c hb
 have Bp:¬ ((((m:Int)<0:Bool)||decide ((i.bytes:Int)*(c:Int)>2 ^ 48))=true∨(m:Int)<0∨(m:Int)>c):=by
  simp only [Bool.or_eq_true,decide_eq_true_eq]
  omega
 rw [if_neg (by simpa using Bp)]
 simp only [Sem.run_bind,Result.andThen_ok,lW,aX,Int.toNat_natCast]
 have:=AE (c*k) rfl
 by_cases h0:c*k=0
 ·rw [if_pos h0] at this ⊢
  simp only [Sem.run_pure,Result.andThen_ok,Sem.run_bind,bu,this]
 ·rw [if_neg h0] at this ⊢
  simp only [Sem.run_pure,Result.andThen_ok,Sem.run_bind,hzero,hz,bu,this]
theorem MD (hT:aP P T=true) {t:TypeId} {x y:Operand} (h:AG T E M oc t x y=some out):aB P ⟨d,.makeSlice t x y,ty,pos,aft,gd⟩ E M out:=by
 unfold AG at h
 split at h
 ·rename_i e k b z n n' m c he hx hy
  simp only [Option.some.injEq] at h;subst h
  obtain ⟨zv,ok,hz,di⟩:=fN hT he
  intro D w0 K0 β F I ρ w C hv
  obtain ⟨rfl,rfl,ey,hb,hm,-⟩:=hv
  refine aS.pure (v:=.slice (some ⟨w.heap.size,0,none⟩) m c) (w':=w.alloc (.cells (lay c fun _=>z).toArray e)) (by simp only [execOp,C.int hx,C.int hy,Sem.run_bind,Es ok hz di ey hb hm,Result.andThen_ok,Sem.run_pure]) ?_
  have cI:=dA (n:=c) (k:=k) (X:=fun _=>z) (fun _ _=>di)
  have Dv:=dA (n:=m) (k:=k) (X:=fun _=>z) (fun _ _=>di)
  refine ⟨_,_,I,C.rm.new (q:=(some ⟨w.heap.size,0,none⟩,c)) (Gr.alloc w _) (cQ.alloc w _) ?_,(Ext.app _ _).b _,aZ.refl _,ft _ _,.sl (cH C.rm _)⟩
  have:=bn.rw (K:=fun w=>K0 w∧ai w I) (β:=β++[(some ⟨w.heap.size,0,none⟩,c)]) (u:=M.length) (T:=e) (k:=k) (rows:=List.replicate m (z.map .v)) (H0:=[(w.heap.size,.cells (lay c fun _=>z).toArray e (0,0))]) (cH C.rm _) (fun _=>z) (fun _ _=>[]) (fun i r hi=>by
   rw [List.getElem?_replicate] at hi
   split at hi
   ·simp only [Option.some.injEq] at hi;subst hi;rw [List.length_map];exact ⟨di,di⟩
   ·simp at hi) (by
    rw [List.length_replicate]
    exact ⟨Dv,Or.inr ⟨w.heap.size,c,_,(0,0),rfl,rfl,la _,by simpa using cI,ey,(ob (n:=c) (k:=k) (X:=fun _=>z) (fun _ _=>di) ey).symm⟩⟩) (fun i r j c x hi h1 h2=>by
    rw [List.getElem?_replicate] at hi
    split at hi
    ·simp only [Option.some.injEq] at hi;subst hi;exact yF h1 h2
    ·simp at hi)
  rw [jI,List.append_nil] at this
  exact this
 ·simp at h
end Go.Proofs.YtgkdnnmcjjabdaaGreat
namespace Go.Proofs.YtgkdnnmcjjabdaaGreat
open Go.RowKit
variable {P:Program} {T:aD} {D:List Nat} {w0:World} {K0:World→Prop} {E:List (Nat×AV)} {M:List af} {β:Beta} {F:Nat→ah} {I X:ah} {ρ:Operand→Value} {w:World}
variable {d:Option Tmp} {ty:TypeId} {pos:String} {aft:Array Edge} {gd:Option (Nat×Bool)} {oc:Option aW} {out:Out}
theorem kE {t e size n c l h m:Nat} {a:Option Addr} (ht:P.underlying t=some (.slice e)) (hs:(P.info? e).map (·.size)=some size) {vl vh vm:Option Value} (hb:(Instr.sliceBounds true n c vl vh vm).run P w=.ok (l,h,m) w):
  (Instr.sliceAt t (.slice a n c) vl vh vm).run P w=.ok (.slice (if m=l then a else a.map (·.add (l*size))) (h-l) (m-l)) w:=by
 cases hi:P.info? e with
 | none=>simp [hi] at hs
 | some inf=>
  simp only [hi,Option.map_some,Option.some.injEq] at hs
  have aX:(sizeOf e).run P w=.ok size w:=by simp [sizeOf,typeInfo,Sem.run_bind,hi,hs]
  simp only [Instr.sliceAt,Instr.slice,Sem.run_bind,run_underlying ht,Result.andThen_ok,hb,aX,Sem.run_pure]
def Dw (T:aD) (E:List (Nat×AV)) (M:List af) (oc:Option aW) (t:TypeId) (x:Operand) (lo hi mx:Option Operand):Option Out:=
 match bE T t,aC E x,oc with
 | some (.sl e),some (.sl u n),some o=>(match dB T e,M[u]? with
  | some k,some (.rw Te k' rows)=>(match lo,hi,mx,o with
   | some l,none,none,.n c=>(match bN (aC E l) with
    | some (.i64,z)=>bif k.beq k' then some ⟨[z=(c:Int),c<n,n=rows.length],.sb u k c (n-c),M,[],[],some [u]⟩ else none
    | _=>none)
   | none,some h,none,.n c=>(match bN (aC E h) with
    | some (.i64,z)=>some ⟨[z=(c:Int),c≤n,n=rows.length],.sl u c,M.set u (.rw Te k' (rows.take c)),[u],[],none⟩
    | _=>none)
   | none,some h,some m,.res (.ro k2 bL)=>(match bN (aC E h),bN (aC E m) with
    | some (.i64,z),some (.i64,z')=>some ⟨[z=(n:Int),z'=(n:Int),n=rows.length,k'=k2,bO rows=bL],.d (.ro k2 bL),M.set u .dead,[u],[],none⟩
    | _,_=>none)
   | _,_,_,_=>none)
  | _,_=>none)
 | _,_,_=>none
theorem Src.cap {size n c c':Nat} {a:Option Addr} {xs:List Value} (h:Src w size (.slice a n c) n xs):Src w size (.slice a n c') n xs:=by
 refine ⟨h.1,?_⟩
 rcases h.2 with ⟨rfl,_,_,_⟩ | ⟨a',_,e,h2⟩
 ·exact Or.inl ⟨rfl,_,_,rfl⟩
 ·simp only [Value.slice.injEq] at e;obtain ⟨rfl,-,rfl⟩:=e
  exact Or.inr ⟨a',c',rfl,h2⟩
theorem bw.cap {K:World→Prop} {k n c c':Nat} {a:Option Addr} {rows:List (List DV)} {H:ah} (h:bw K (.ro k rows) (.slice a n c) H) (hc:n≤c'):bw K (.ro k rows) (.slice a n c') H:=by
 cases h with
 | ro X hl hy hs hr=>
  obtain ⟨a',Um,e,-⟩:=hy
  simp only [Value.slice.injEq] at e;obtain ⟨rfl,rfl,rfl⟩:=e
  exact .ro X hl ⟨_,_,rfl,hc⟩ (fun w hw=>(hs w hw).cap) hr
theorem Q1 (hT:aP P T=true) {t:TypeId} {x:Operand} {lo hi mx:Option Operand} (h:Dw T E M oc t x lo hi mx=some out):aB P ⟨d,.slice t x lo hi mx,ty,pos,aft,gd⟩ E M out:=by
 unfold Dw at h
 split at h
 rotate_left
 ·simp at h
 rename_i e u n o ht hx
 split at h
 rotate_left
 ·simp at h
 rename_i k Te k' rows hk hM
 replace ht:=bj hT ht
 replace hk:=dV hT hk
 split at h
 ·rename_i l c
  split at h
  rotate_left
  ·simp at h
  rename_i z hz
  cases bp:k.beq k' with
  | false=>simp [bp] at h
  | true=>
   simp only [bp,cond_true,Option.some.injEq] at h;subst h
   obtain rfl:=Nat.eq_of_beq_eq_true bp
   refine aB.look ?_ (by simpa using cT hM)
   intro D w0 K0 β F I ρ w C hv
   obtain ⟨rfl,hc,hn,-⟩:=hv
   obtain ⟨y,hy,r⟩:=C.aR hx
   cases r with
   | @sl _ _ cc a hb=>
    obtain ⟨H,hF,hB,hH⟩:=C.rm.at hM
    cases hB with
    | rw aE X G hl hs hr=>
     rw [hb] at aE;cases aE
     obtain ⟨b',cap,cs,fz,he,rfl,et,cd,ch,kg⟩:=hs.block (by omega)
     simp only [Value.slice.injEq] at he;obtain ⟨rfl,-,rfl⟩:=he
     refine ⟨_,aq.sb (k:=k) (o:=c) (n:=n-c) (c':=cc-c) hb,fun w' _=>?_⟩
     have:=kE (P:=P) (w:=w') (a:=some ⟨b',0,none⟩) ht hk (n:=n) (c:=cc) (l:=c) (h:=n) (m:=cc) (vl:=some (.int .i64 c)) (vh:=none) (vm:=none) (by simp [Instr.sliceBounds,fI (show c≤n by omega)])
     rw [if_neg (by omega)] at this
     simp only [execOp,hy,C.int hz,Option.map_some,Option.map_none,Sem.run_bind,this,Result.andThen_ok,Sem.run_pure,add_eq,Nat.zero_add]
 ·rename_i hh c
  split at h
  rotate_left
  ·simp at h
  rename_i z hz
  simp only [Option.some.injEq] at h;subst h
  intro D w0 K0 β F I ρ w C hv
  obtain ⟨rfl,hc,hn,-⟩:=hv
  obtain ⟨y,hy,r⟩:=C.aR hx
  cases r with
  | @sl _ _ cc a hb=>
   have R:=C.rm.x
   have hB:=R.blk u _ hM
   have R1:=R.dX hM
   have aH:=cT hM
   generalize mj:F u=Fu at hB R1
   cases hB with
   | @rw _ _ _ _ _ H0 aE X G hl hs hr=>
    rw [hb] at aE;cases aE
    have eT:n≤cc:=by
     rcases hs.2 with ⟨h0,-,a,hq⟩ | ⟨b',cap,cs,fz,hq,-,-,-,ch,-⟩
     ·omega
     ·simp only [Value.slice.injEq] at hq;omega
    have ct:=kE (P:=P) (w:=w) (a:=a) ht hk (n:=n) (c:=cc) (l:=0) (h:=c) (m:=cc) (vl:=none) (vh:=some (.int .i64 c)) (vm:=none) (by simp [Instr.sliceBounds,fI (show c≤cc by omega)])
    have fD:(if cc=0 then a else a.map (·.add (0*k)))=a:=by
     split
     ·rfl
     ·cases a with
      | none=>rfl
      | some a=>simp [add_zero']
    rw [fD] at ct
    refine aS.pure (v:=.slice a c cc) (w':=w) (by simp only [execOp,hy,C.int hz,Option.map_some,Option.map_none,Sem.run_bind,ct,Result.andThen_ok,Sem.run_pure,Nat.sub_zero]) ?_
    have hX:∀ a,a<rows.length→(X a).length=k':=fun a ha=>(hl a _ (List.getElem?_eq_getElem ha)).2
    have gl:c≤rows.length:=by omega
    have hlen:(rows.take c).length=c:=by simp;omega
    have ra:dt (fun w=>K0 w∧ai w I) k' rows X G:=⟨hl,hr⟩
    have cn:dI Te k' (.slice a c cc) c (lay c X) H0:=by
     refine ⟨dA fun i hi=>hX i (by omega),?_⟩
     rcases hs.2 with ⟨h0,e0,a',hq⟩ | ⟨b',cap,cs,fz,hq,e0,et,h1,ch,kg⟩
     ·simp only [Value.slice.injEq] at hq
      obtain ⟨rfl,-,rfl⟩:=hq
      obtain rfl:c=0:=by omega
      exact Or.inl ⟨rfl,e0,_,rfl⟩
     ·simp only [Value.slice.injEq] at hq
      obtain ⟨rfl,-,rfl⟩:=hq
      refine Or.inr ⟨b',cc,cs,fz,rfl,e0,et,h1,by omega,?_⟩
      rw [ob hX gl,← kg,List.take_take,Nat.min_eq_left (Nat.mul_le_mul_right _ gl)]
    have dw:bn (fun w=>K0 w∧ai w I) β u (.rw Te k' (rows.take c)) (H0++bq c k' G):=by
     have:=bn.rw (K:=fun w=>K0 w∧ai w I) (u:=u) (T:=Te) (k:=k') (rows:=rows.take c) hb X G (ra.take (c:=c)).hl (by rw [hlen];exact cn) (ra.take (c:=c)).hr
     rw [hlen] at this;exact this
    rw [List.nil_append,uJ G gl,← List.append_assoc] at R1
    have R3:=((R1.drop.perm (Y:=(H0++bq c k' G)++[]) (by rw [List.append_nil])).back (by rw [List.length_set];exact aH) (by simp [aL]) dw).nil rfl
    rw [List.set_set] at R3
    refine ⟨β,_,I,R3,(Ext.refl β).b _,aZ.refl _,fun q hq gm=>?_,.sl hb⟩
    have kf:q≠u:=by simpa using gm
    simp only [aL];rw [if_neg kf,if_neg kf]
 ·rename_i hh m k2 bL
  split at h
  rotate_left
  ·simp at h
  rename_i z z' hz fD
  simp only [Option.some.injEq] at h;subst h
  intro D w0 K0 β F I ρ w C hv
  obtain ⟨rfl,rfl,hn,rfl,rfl,-⟩:=hv
  obtain ⟨y,hy,r⟩:=C.aR hx
  cases r with
  | @sl _ _ cc a hb=>
   have R:=C.rm.x
   have hB:=R.blk u _ hM
   have R1:=R.dX hM
   generalize mj:F u=Fu at hB R1
   have hd:bw (fun w=>K0 w∧ai w I) (.em Te k' rows) (.slice a n cc) Fu∧n≤cc:=by
    cases hB with
    | rw aE X G hl hs hr=>
     rw [hb] at aE;cases aE
     refine ⟨by rw [hn];exact .em X G hl hs hr,?_⟩
     rcases hs.2 with ⟨h0,-,a,hq⟩ | ⟨b',cap,cs,fz,hq,-,-,-,ch,-⟩
     ·omega
     ·simp only [Value.slice.injEq] at hq;omega
   obtain ⟨hd,eT⟩:=hd
   have ct:=kE (P:=P) (w:=w) (a:=a) ht hk (n:=n) (c:=cc) (l:=0) (h:=n) (m:=n) (vl:=none) (vh:=some (.int .i64 n)) (vm:=some (.int .i64 n)) (by simp [Instr.sliceBounds,fI eT,fI (Nat.le_refl n)])
   have Un:(if n=0 then a else a.map (·.add (0*k)))=a:=by
    split
    ·rfl
    ·cases a with
     | none=>rfl
     | some a=>simp [add_zero']
   rw [Un] at ct
   refine aS.pure (v:=.slice a n n) (w':=w) (by simp only [execOp,hy,C.int hz,C.int fD,Option.map_some,Option.map_none,Sem.run_bind,ct,Result.andThen_ok,Sem.run_pure,Nat.sub_zero]) ?_
   rw [List.nil_append] at R1
   have R2:RM D w0 K0 (M.set u .dead) β (aL F u []) (Fu++I) w:=by
    refine ⟨R1.len,fun v bl hv=>(R1.blk v bl hv).mono (fun w hw=>⟨hw.1,(ai.app.1 hw.2).2⟩) (Ext.refl _),?_⟩
    exact R1.st.perm (List.Perm.append_left _ List.perm_append_comm)
   refine ⟨β,_,_,R2,(Ext.refl β).b _,⟨_,rfl⟩,fun q _ hq=>by simp only [aL];rw [if_neg (by simpa using hq)],?_⟩
   have:=vD (K':=fun w=>K0 w∧ai w (Fu++I)) hd fun w hw=>⟨⟨hw.1,(ai.app.1 hw.2).2⟩,(ai.app.1 hw.2).1⟩
   rw [bd] at this
   exact .d (this.cap (Nat.le_refl _))
 ·simp at h
def zU (T:aD) (E:List (Nat×AV)) (M:List af) (oc:Option aW) (t:TypeId) (x ix:Operand):Option Out:=
 match bN (aC E ix),bE T t,aC E x,oc with
 | some (_,z),some (.sl e),some (.sb u k o n),some (.n i)=>(match dB T e,M[u]? with
  | some k',some (.rw _ _ rows)=>bif k.beq k' then some ⟨[z=(i:Int),i<n,o+n≤rows.length],.ep u k (o+i) 0,M,[],[],some []⟩ else none
  | _,_=>none)
 | _,_,_,_=>none
theorem LU (hT:aP P T=true) {t:TypeId} {x ix:Operand} (h:zU T E M oc t x ix=some out):aB P ⟨d,.indexAddr t x ix,ty,pos,aft,gd⟩ E M out:=by
 unfold zU at h
 split at h
 rotate_left
 ·simp at h
 rename_i kk z e u k o n i hz ht hx
 split at h
 rotate_left
 ·simp at h
 rename_i k' Tt k2 rows hk hM
 cases bp:k.beq k' with
 | false=>simp [bp] at h
 | true=>
  simp only [bp,cond_true,Option.some.injEq] at h;subst h
  obtain rfl:=Nat.eq_of_beq_eq_true bp
  replace ht:=bj hT ht
  replace hk:=dV hT hk
  refine aB.look ?_ (by simp)
  intro D w0 K0 β F I ρ w C bJ
  obtain ⟨rfl,hi,JX,-⟩:=bJ
  obtain ⟨y,hy,r⟩:=C.aR hx
  cases r with
  | sb hb=>
   refine ⟨_,?_,fun _ _=>rO ht hk hy (C.int hz) (by omega) (by omega)⟩
   rw [add_eq]
   have:=aq.ep (K:=fun w=>K0 w∧ai w I) (k:=k) (i:=o+i) (o:=0) hb
   rw [Nat.add_mul,Nat.add_zero] at this
   simpa using this
def AH (T:aD) (E:List (Nat×AV)) (M:List af) (t:TypeId) (x:Operand):Option Out:=
 match eL T t,aC E x with
 | some (_,k,_,z),some (.sb u k' o n)=>(match M[u]? with
  | some (.rw Te k2 rows)=>bif k.beq k'&&k.beq k2&&z.all cD then some ⟨[0<n,o+n≤rows.length],.d (.v (.tuple #[])),M.set u (.rw Te k2 (rows.take o++(List.replicate n (z.map .v)++rows.drop (o+n)))),[u],[],none⟩ else none
  | _=>none)
 | _,_=>none
theorem ME (cs:Array Value) (i:Nat) (zs:List Value) (h:i+zs.length≤cs.size):(bS cs i zs).toList=cs.toList.take i++(zs++cs.toList.drop (i+zs.length)):=by
 apply List.ext_getElem?;intro p
 rw [Array.getElem?_toList,pD _ _ _ _ h,oh (by simpa using h)]
 split
 ·rfl
 ·simp
theorem NT {l z:List Value} {i n N:Nat} (hz:z.length=n) (h1:i+n≤N) (h2:N≤l.length):(l.take i++(z++l.drop (i+n))).take N=(l.take N).take i++(z++(l.take N).drop (i+n)):=by
 subst hz
 apply List.ext_getElem?;intro p
 rw [List.getElem?_take,oh (by omega),oh (by simp;omega),List.getElem?_take]
 by_cases hp:p<N
 ·rw [if_pos hp,if_pos hp]
 ·rw [if_neg hp,if_neg hp,if_neg (by omega)]
theorem NU {z:List Value} {zv:Value} (hz:zv.cells=z.toArray) (n:Nat):(Builtin.zeroCells zv.cells n).toList=lay n fun _=>z:=by
 rw [hz];unfold Builtin.zeroCells
 have:=rQ z n z.length rfl
 simpa using this
theorem MF (hT:aP P T=true) {t:TypeId} {x:Operand} (h:AH T E M t x=some out):aB P ⟨d,.call ⟨.builtin .clear,#[x],#[t]⟩,ty,pos,aft,gd⟩ E M out:=by
 unfold AH at h
 split at h
 rotate_left
 ·simp at h
 rename_i e k b z u k' o n he hx
 split at h
 rotate_left
 ·simp at h
 rename_i Te k2 rows hM
 cases hc:(k.beq k'&&k.beq k2&&z.all cD) with
 | false=>simp [hc] at h
 | true=>
  simp only [hc,cond_true,Option.some.injEq] at h;subst h
  simp only [Bool.and_eq_true] at hc
  obtain rfl:=Nat.eq_of_beq_eq_true hc.1.1
  obtain rfl:=Nat.eq_of_beq_eq_true hc.1.2
  obtain ⟨zv,ok,hz,di⟩:=fN hT he
  intro D w0 K0 β F I ρ w C hv
  obtain ⟨kS,nK,-⟩:=hv
  obtain ⟨y,hy,r⟩:=C.aR hx
  have hzero:∀ w:World,(zeroValue e).run P w=.ok zv w:=fun w=>by obtain ⟨i,hi,-,-,h3⟩:=ok.info;simp [zeroValue,typeInfo,Sem.run_bind,hi,h3]
  cases r with
  | @sb _ _ _ _ b0 c0 c1 hb=>
   have R:=C.rm.x
   have hB:=R.blk u _ hM
   have hH:=R.jm hM
   have R1:=R.dX hM
   have aH:=cT hM
   generalize mj:F u=Fu at hB hH R1
   cases hB with
   | rw aE X G hl hs hr=>
    rw [hb] at aE;cases aE
    obtain ⟨b',cap,cs,fz,hq,rfl,et,cd,ch,kg⟩:=hs.block (by omega)
    simp only [Value.slice.injEq,Option.some.injEq,Addr.mk.injEq] at hq
    obtain ⟨⟨rfl,-⟩,-,rfl⟩:=hq
    have hw:=(ai.app.1 hH).1.one
    have hX:∀ a,a<rows.length→(X a).length=k:=fun a ha=>(hl a _ (List.getElem?_eq_getElem ha)).2
    have xN:(lay n fun _=>z).length=n*k:=dA fun _ _=>di
    have hmul:o*k+n*k≤rows.length*k:=by rw [← Nat.add_mul];exact Nat.mul_le_mul_right _ nK
    have aX:rows.length*k≤cs.size:=by rw [cd];exact Nat.mul_le_mul_right _ ch
    obtain ⟨n',rfl⟩:∃ n',n=n'+1:=⟨n-1,by omega⟩
    refine F8 (Z:=lay (n'+1) fun _=>z) ok.aU (hzero w) hy hw (NU hz _) (by omega) (fun q hq=>?_) ?_
    ·simp only [lay,List.mem_flatMap] at hq
     obtain ⟨_,-,hq⟩:=hq
     exact List.all_eq_true.1 hc.2 q hq
    have ra:dt (fun w=>K0 w∧ai w I) k rows X G:=⟨hl,hr⟩
    have rz:dt (fun w=>K0 w∧ai w I) k (List.replicate (n'+1) (z.map DV.v)) (fun _=>z) (fun _ _=>[]):=⟨fun i r hi=>by
     rw [List.getElem?_replicate] at hi
     split at hi
     ·simp only [Option.some.injEq] at hi;subst hi;rw [List.length_map];exact ⟨di,di⟩
     ·simp at hi,fun i r j c x hi h1 h2=>by
     rw [List.getElem?_replicate] at hi
     split at hi
     ·simp only [Option.some.injEq] at hi;subst hi;exact yF h1 h2
     ·simp at hi⟩
    have gM:=(ra.take (c:=o)).app (rz.app (ra.drop (c:=o+(n'+1))))
    have ho:(rows.take o).length=o:=by simp;omega
    have iD:(rows.take o++(List.replicate (n'+1) (z.map DV.v)++rows.drop (o+(n'+1)))).length=rows.length:=by simp;omega
    rw [ho,List.length_replicate] at gM
    have e1:=pU o ((n'+1)+(rows.length-(o+(n'+1)))) X (fun i=>if i<n'+1 then z else X (o+(n'+1)+(i-(n'+1))))
    rw [pU (n'+1) (rows.length-(o+(n'+1))) (fun _=>z) (fun i=>X (o+(n'+1)+i)),vj hX nK,show o+((n'+1)+(rows.length-(o+(n'+1))))=rows.length by omega] at e1
    have e2:=rR o ((n'+1)+(rows.length-(o+(n'+1)))) k G (fun i=>if i<n'+1 then (fun _=>[]) else G (o+(n'+1)+(i-(n'+1))))
    rw [rR (n'+1) (rows.length-(o+(n'+1))) k (fun _ _=>[]) (fun i=>G (o+(n'+1)+i)),jI,List.nil_append,show o+((n'+1)+(rows.length-(o+(n'+1))))=rows.length by omega] at e2
    have e3:=uJ (k:=k) G (show o+(n'+1)≤rows.length by omega)
    have e4:=uJ (n:=o+(n'+1)) (k:=k) G (show o≤o+(n'+1) by omega)
    have aU:=R1.st
    rw [e3,e4] at aU
    have gZ:St D w0 w ((b0,.cells cs Te fz)::((bq o k G++bq (rows.length-(o+(n'+1))) k fun i=>G (o+(n'+1)+i))++(((bq (o+(n'+1)-o) k fun i=>G (o+i)))++((List.range (M.set u .dead).length).flatMap (aL F u [])++I)))):=aU.perm (by classical rw [List.perm_iff_count];intro z;simp only [List.count_append,List.count_cons,List.cons_append,List.nil_append];omega)
    have j6:=gZ.set (.cells (bS cs (o*k) (lay (n'+1) fun _=>z)) Te fz)
    have R2:bA D w0 K0 (M.set u .dead) β (aL F u []) I (([(b0,.cells (bS cs (o*k) (lay (n'+1) fun _=>z)) Te fz)]++(bq o k G++bq (rows.length-(o+(n'+1))) k fun i=>G (o+(n'+1)+i)))++(bq (o+(n'+1)-o) k fun i=>G (o+i))) _:=R1.move (j6.perm (by classical rw [List.perm_iff_count];intro z;simp only [List.count_append,List.count_cons,List.cons_append,List.nil_append];omega))
    have dw:bn (fun w=>K0 w∧ai w I) β u (.rw Te k (rows.take o++(List.replicate (n'+1) (z.map DV.v)++rows.drop (o+(n'+1))))) ([(b0,.cells (bS cs (o*k) (lay (n'+1) fun _=>z)) Te fz)]++(bq o k G++bq (rows.length-(o+(n'+1))) k fun i=>G (o+(n'+1)+i))):=by
     have:=bn.rw (K:=fun w=>K0 w∧ai w I) (u:=u) (T:=Te) (k:=k) (rows:=rows.take o++(List.replicate (n'+1) (z.map DV.v)++rows.drop (o+(n'+1)))) (H0:=[(b0,.cells (bS cs (o*k) (lay (n'+1) fun _=>z)) Te fz)]) hb _ _ gM.hl (by
      rw [iD,e1]
      refine ⟨by rw [List.length_append,List.length_append,xN,List.length_drop,dA hX,dA (n:=o) fun a ha=>hX a (by omega),Nat.add_mul o];omega,Or.inr ⟨_,_,_,fz,rfl,rfl,by rw [ib];exact et,by rw [ib];exact cd,ch,?_⟩⟩
      rw [ME _ _ _ (by omega),xN,NT xN (by omega) (by simpa using aX),kg,ob (c:=o) hX (by omega),Nat.add_mul o]) gM.hr
     rw [iD,e2] at this;exact this
    have R3:=((R2.drop.perm (Y:=([(b0,.cells (bS cs (o*k) (lay (n'+1) fun _=>z)) Te fz)]++(bq o k G++bq (rows.length-(o+(n'+1))) k fun i=>G (o+(n'+1)+i)))++[]) (by rw [List.append_nil])).back (by rw [List.length_set];exact aH) (by simp [aL]) dw).nil rfl
    rw [List.set_set] at R3
    refine ⟨β,_,I,R3,(Ext.refl β).b _,aZ.refl _,fun q hq gm=>?_,.d (.v _)⟩
    have kf:q≠u:=by simpa using gm
    simp only [aL];rw [if_neg kf,if_neg kf]
def sA (T:aD) (E:List (Nat×AV)) (M:List af) (oc:Option aW) (t:TypeId) (x ix:Operand):Option Out:=
 match bE T t,gi (aC E x),bN (aC E ix),oc with
 | some .st,some l,some (_,z),some (.n i)=>(match l[i]? with | some b=>some (lk [z=(i:Int)] (.d (.v (.int .u8 (b.toNat:Int)))) M) | none=>none)
 | _,_,_,_=>none
theorem Gj (hT:aP P T=true) {t:TypeId} {x ix:Operand} (h:sA T E M oc t x ix=some out):aB P ⟨d,.index t x ix,ty,pos,aft,gd⟩ E M out:=by
 unfold sA at h
 split at h
 ·rename_i l k z i hu hx hz
  split at h
  ·rename_i b hb
   simp only [Option.some.injEq] at h;subst h
   refine aB.same ?_
   intro D w0 K0 β F I ρ w C hv
   obtain ⟨rfl,-⟩:=hv
   refine ⟨_,fun w' _=>?_,.d (.v _)⟩
   have h1:=C.str hx
   have h2:=C.int hz
   have h3:=bj hT hu
   have h4:(⟨l.toArray⟩:ByteArray)[i]?=some b:=by
    obtain ⟨hi,rfl⟩:=List.getElem?_eq_some_iff.1 hb
    exact getElem?_pos (⟨l.toArray⟩:ByteArray) i (by show i<l.toArray.size;simpa using hi)
   simp [execOp,h1,h2,Instr.index,asIntOf,Sem.run_bind,run_underlying h3,h4]
  ·simp at h
 ·simp at h
def zV (T:aD) (E:List (Nat×AV)) (M:List af) (oc:Option aW) (t:TypeId) (x ix:Operand):Option Out:=
 match bN (aC E ix),bE T t,aC E x,oc with
 | some (_,z),some (.ar n e),some (.ep u k j o),some (.n2 i _)=>(match dB T e with
  | some sz=>bif Nat.beq k 1&&Nat.beq o 0 then some (lk [z=(i:Int),i<n] (.ep u 1 (j+i*sz) 0) M) else none
  | none=>none)
 | _,_,_,_=>none
theorem LV (hT:aP P T=true) {t:TypeId} {x ix:Operand} (h:zV T E M oc t x ix=some out):aB P ⟨d,.indexAddr t x ix,ty,pos,aft,gd⟩ E M out:=by
 unfold zV at h
 split at h
 rotate_left
 ·simp at h
 rename_i kk z n e u k j o i _ hz ht hx
 split at h
 rotate_left
 ·simp at h
 rename_i sz hk
 cases bp:(Nat.beq k 1&&Nat.beq o 0) with
 | false=>simp [bp] at h
 | true=>
  simp only [bp,cond_true,Option.some.injEq] at h;subst h
  simp only [Bool.and_eq_true] at bp
  obtain rfl:=Nat.eq_of_beq_eq_true bp.1
  obtain rfl:=Nat.eq_of_beq_eq_true bp.2
  replace ht:=bj hT ht
  replace hk:=dV hT hk
  refine aB.same fun C bJ=>?_
  obtain ⟨rfl,hi,-⟩:=bJ
  obtain ⟨y,hy,r⟩:=C.aR hx
  cases r with
  | ep hb=>
   refine ⟨_,fun _ _=>mM ht hk hy (C.int hz) (by omega) (by omega),?_⟩
   rw [add_eq,Int.toNat_natCast,show j*1+0+i*sz=(j+i*sz)*1+0 by omega]
   exact .ep hb
def iP:List af→List Nat→List af
 | M,[]=>M
 | M,u::r=>iP (M.set u .dead) r
theorem Gk:∀ (b:List Nat) (M:List af),(iP M b).length=M.length
 | [],_=>rfl
 | u::r,M=>by rw [iP,Gk r,List.length_set]
theorem RM.die:∀ {b:List Nat} {M:List af} {F:Nat→ah} {I:ah},RM D w0 K0 M β F I w→(∀ u ∈ b,u<M.length)→∃ F' I',RM D w0 K0 (iP M b) β F' I' w∧aZ I I'∧(∀ w,ai w I'→∀ u ∈ b,ai w (F u))∧∀ u,u ∉ b→F' u=F u
 | [],M,F,I,R,_=>⟨F,I,R,aZ.refl I,fun _ _ u hu=>by simp at hu,fun _ _=>rfl⟩
 | u::r,M,F,I,R,hb=>by
  have hu:=hb u (by simp)
  have R1:=R.x.dX (List.getElem?_eq_getElem hu)
  rw [List.nil_append] at R1
  have R2:RM D w0 K0 (M.set u .dead) β (aL F u []) (F u++I) w:=
   ⟨R1.len,fun v bl hv=>(R1.blk v bl hv).mono (fun w hw=>⟨hw.1,(ai.app.1 hw.2).2⟩) (Ext.refl _),R1.st.perm (List.Perm.append_left _ List.perm_append_comm)⟩
  obtain ⟨F',I',R3,g,h1,h2⟩:=R2.die (b:=r) (fun v hv=>by rw [List.length_set];exact hb v (by simp [hv]))
  refine ⟨F',I',R3,(show aZ I (F u++I) from ⟨F u,rfl⟩).trans g,fun w hw v hv=>?_,fun v hv=>?_⟩
  ·by_cases e:v=u
   ·subst e;exact (ai.app.1 (g.holds w hw)).1
   ·have:=h1 w hw v ((List.mem_cons.1 hv).resolve_left e)
    simpa [aL,e] using this
  ·simp only [List.mem_cons,not_or] at hv
   rw [h2 v hv.2];simp only [aL];rw [if_neg hv.1]
def AI (P:Program) (E:List (Nat×AV)) (M:List af) (oc:Option aW) (g:Operand) (args:Array Operand):Option Out:=
 match aC E g,ju E args.toList,oc with
 | some (.fn f bP),some l,some (.stay told x)=>(match ov M (l++bP) told with
  | some (vc,b)=>bif lO x&&oz M b then some ⟨al P f told x::vc,(nF (iP M b) x).1,(nF (iP M b) x).2,b,[],none⟩ else none
  | none=>none)
 | _,_,_=>none
theorem MH {g:Operand} {args:Array Operand} {ea:Array TypeId} (h:AI P E M oc g args=some out):aB P ⟨d,.call ⟨.value g,args,ea⟩,ty,pos,aft,gd⟩ E M out:=by
 unfold AI at h
 split at h
 ·rename_i f bP l told x hg hl
  split at h
  ·rename_i vc b Bn
   cases e9:(lO x&&oz M b) with
   | false=>simp [e9] at h
   | true=>
    simp only [e9,cond_true,Option.some.injEq] at h;subst h
    simp only [Bool.and_eq_true] at e9
    have hb:=zf e9.2
    intro D w0 K0 β F I ρ w C hv
    obtain ⟨fy,hv⟩:=hv
    obtain ⟨y,hy,r⟩:=C.aR hg
    cases r with
    | fn cs bC gl=>
     obtain ⟨eb,iX⟩:=C.ld hl
     have dc:(args.toList.map ρ++cs).length=(l++bP).length:=by rw [List.length_append,List.length_append,eb,bC]
     have oO:∀ (j:Nat) c y,(l++bP)[j]?=some c→(args.toList.map ρ++cs)[j]?=some y→aq (fun w=>K0 w∧ai w I) β c y:=by
      intro j c y h1 h2
      rcases Nat.lt_or_ge j l.length with hj | hj
      ·rw [List.getElem?_append_left hj] at h1
       rw [List.getElem?_append_left (by omega)] at h2
       exact iX j c y h1 h2
      ·rw [List.getElem?_append_right hj] at h1
       rw [List.getElem?_append_right (by omega),eb] at h2
       exact gl _ c y h1 h2
     obtain ⟨F1,I1,R1,g1,aU,iZ⟩:=C.rm.die hb
     obtain ⟨e1,e2⟩:=yQ C.rm (K':=fx K0 I1 F1 []) Bn hv (fun w hw=>⟨⟨hw.1.1,g1.holds w hw.1.2⟩,aU w hw.1.2⟩) dc oO
     have hm:args.map ρ=(args.toList.map ρ).toArray:=by rw [← Array.toList_map]
     refine rG hy fy.1 hm ?_
     have j5:((args.toList.map ρ).toArray++cs.toArray:Array Value)=(args.toList.map ρ++cs).toArray:=by simp
     rw [j5]
     refine (fy.now R1 C.k (b:=[]) (by simp) e1 e2 (fun h=>absurd rfl h)).mono ?_
     rintro e w' ⟨v,rfl,I',X,R,hI,hd⟩
     refine ⟨v,rfl,?_⟩
     have R':bA D w0 K0 (iP M b) β F1 I' (X++[]) w':=by rw [List.append_nil];exact R
     obtain ⟨β',F',R2,e,f2,-,a2⟩:=AB e9.1 R' hd
     exact ⟨β',F',I',R2.nil rfl,e.b _,g1.trans hI,fun u hu Dx=>(f2 u (by rw [Gk];exact hu)).trans (iZ u Dx),a2⟩
  ·simp at h
 ·simp at h
end Go.Proofs.YtgkdnnmcjjabdaaGreat
namespace Go.Proofs.YtgkdnnmcjjabdaaGreat
open Go.RowKit
variable {mk:Bool} {P:Program} {T:aD} {f:FuncId} {w:World} {D:List Nat} {w0:World} {K0:World→Prop} {E:List (Nat×AV)} {M:List af} {β:Beta} {F:Nat→ah} {I X:ah} {ρ:Operand→Value}
variable {d:Option Tmp} {ty:TypeId} {pos:String} {aft:Array Edge} {gd:Option (Nat×Bool)} {oc:Option aW} {out:Out}
def iQ:List Nat→Nat→Option Nat
 | [],_=>none
 | k::r,u=>bif k.beq u then some 0 else (match iQ r u with | some i=>some (i+1) | none=>none)
theorem kF:∀ {l:List Nat} {u i:Nat},iQ l u=some i→l[i]?=some u
 | [],u,i,h=>by simp [iQ] at h
 | k::r,u,i,h=>by
  unfold iQ at h
  cases hk:k.beq u with
  | true=>simp only [hk,cond_true,Option.some.injEq] at h;subst h;simp [Nat.eq_of_beq_eq_true hk]
  | false=>
   simp only [hk,cond_false] at h
   split at h
   ·rename_i j hj;simp only [Option.some.injEq] at h;subst h;simpa using kF hj
   ·simp at h
def w8 (l:List Nat):AV→Option AV
 | .d x=>some (.d x)
 | .sl u n=>(match iQ l u with | some v=>some (.sl v n) | none=>none)
 | .pt u o=>(match iQ l u with | some v=>some (.pt v o) | none=>none)
 | .mv u=>(match iQ l u with | some v=>some (.mv v) | none=>none)
 | .yl u=>(match iQ l u with | some v=>some (.yl v) | none=>none)
 | .sb u k o n=>(match iQ l u with | some v=>some (.sb v k o n) | none=>none)
 | .ep u k i o=>(match iQ l u with | some v=>some (.ep v k i o) | none=>none)
 | .sf u k o n q=>(match iQ l u with | some v=>some (.sf v k o n q) | none=>none)
 | .rp r o=>some (.rp r o)
 | .bt bs=>some (.bt bs)
 | .uk=>some .uk
 | _=>none
def oC (l:List Nat):List AV→Option (List AV)
 | []=>some []
 | c::r=>(match w8 l c,oC l r with | some c',some r'=>some (c'::r') | _,_=>none)
def sY (l:List Nat):AV→Option AV
 | .fn f cs=>(match oC l cs with | some bH=>some (.fn f bH) | none=>none)
 | .ag cs=>(match oC l cs with | some bH=>some (.ag bH) | none=>none)
 | .tu cs=>(match oC l cs with | some bH=>some (.tu bH) | none=>none)
 | c=>w8 l c
def kP (l:List Nat):List AV→Option (List AV)
 | []=>some []
 | c::r=>(match sY l c,kP l r with | some c',some r'=>some (c'::r') | _,_=>none)
def sZ (l:List Nat):List (Nat×AV)→Option (List (Nat×AV))
 | []=>some []
 | (t,c)::r=>(match sY l c,sZ l r with | some c',some r'=>some ((t,c')::r') | _,_=>none)
def w9 (l:List Nat):af→Option af
 | .bx T cs=>(match kP l cs with | some bH=>some (.bx T bH) | none=>none)
 | .rw T k rows=>some (.rw T k rows)
 | .tw a c T k rows=>some (.tw a c T k rows)
 | .nm v b=>(match iQ l v with | some i=>some (.nm i b) | none=>none)
 | .gw g row=>some (.gw g row)
 | .fl T k m cs=>(match kP l cs with | some bH=>some (.fl T k m bH) | none=>none)
 | .mf _ _ _=>none
 | .il _ _ _ _=>none
 | .mp T c es=>some (.mp T c es)
 | .mu T c es=>some (.mu T c es)
 | .it (some v) a s c=>(match iQ l v with | some i=>some (.it (some i) a s c) | none=>none)
 | .it none a s c=>some (.it none a s c)
 | .lp b f sz E rf=>(match sZ l E with | some E'=>some (.lp b f sz E' rf) | none=>none)
 | .dead=>some .dead
def gj (l:List Nat) (M:List af):List Nat→Option (List af)
 | []=>some []
 | u::r=>(match M[u]? with
  | some b=>(match w9 l b,gj l M r with | some b',some r'=>some (b'::r') | _,_=>none)
  | none=>none)
def xa (l:List Nat):AV→Option AV
 | .ag cs=>(match kP l cs with | some bH=>some (.ag bH) | none=>none)
 | .tu cs=>(match kP l cs with | some bH=>some (.tu bH) | none=>none)
 | c=>sY l c
def iR (l:List Nat) (E:List (Nat×AV)):List Nat→Option (List (Nat×AV))
 | []=>some []
 | t::r=>(match a9 E t with
  | some v=>(match xa l v,iR l E r with | some v',some r'=>some ((t,v')::r') | _,_=>none)
  | none=>none)
def ef (β:Beta):List Nat→Beta
 | []=>[]
 | u::r=>(match β[u]? with | some x=>x | none=>(none,0))::ef β r
theorem eO:∀ {l:List Nat} {i u:Nat} {x:Option Addr×Nat},l[i]?=some u→β[u]?=some x→(ef β l)[i]?=some x
 | [],i,u,x,h,_=>by simp at h
 | v::r,i,u,x,h,hx=>by
  cases i with
  | zero=>simp at h;subst h;simp [ef,hx]
  | succ i=>simp at h;simpa [ef] using eO h hx
theorem yt (β:Beta) (l:List Nat):(ef β l).length=l.length:=by induction l with | nil=>rfl | cons u r ih=>simp [ef,ih]
theorem Hj {K:World→Prop} {l:List Nat} {c c':AV} (h:w8 l c=some c') {y:Value} (r:aq K β c y):aq K (ef β l) c' y:=by
 unfold w8 at h
 split at h
 ·simp only [Option.some.injEq] at h;subst h;cases r with | d r=>exact .d r
 ·split at h
  ·rename_i hv;simp only [Option.some.injEq] at h;subst h;cases r with | sl hb=>exact .sl (eO (kF hv) hb)
  ·simp at h
 ·split at h
  ·rename_i hv;simp only [Option.some.injEq] at h;subst h;cases r with | pt hb=>exact .pt (eO (kF hv) hb)
  ·simp at h
 ·split at h
  ·rename_i hv;simp only [Option.some.injEq] at h;subst h;cases r with | mv hb=>exact .mv (eO (kF hv) hb)
  ·simp at h
 ·split at h
  ·rename_i hv;simp only [Option.some.injEq] at h;subst h;cases r with | yl hb=>exact .yl (eO (kF hv) hb)
  ·simp at h
 ·split at h
  ·rename_i hv;simp only [Option.some.injEq] at h;subst h;cases r with | sb hb=>exact .sb (eO (kF hv) hb)
  ·simp at h
 ·split at h
  ·rename_i hv;simp only [Option.some.injEq] at h;subst h;cases r with | ep hb=>exact .ep (eO (kF hv) hb)
  ·simp at h
 ·split at h
  ·rename_i hv;simp only [Option.some.injEq] at h;subst h;cases r with | sf hb h1 h2 h3=>exact .sf (eO (kF hv) hb) h1 h2 h3
  ·simp at h
 ·simp only [Option.some.injEq] at h;subst h;cases r with | rp a X hl hc hr=>exact .rp a X hl hc hr
 ·simp only [Option.some.injEq] at h;subst h;cases r with | bt hd hn=>exact .bt hd hn
 ·simp only [Option.some.injEq] at h;subst h;cases r with | uk hu=>exact .uk hu
 ·simp at h
theorem vk {K:World→Prop} {l:List Nat}:∀ {cs bH:List AV},oC l cs=some bH→bH.length=cs.length∧∀ {ys:List Value},(∀ (j:Nat) c y,cs[j]?=some c→ys[j]?=some y→aq K β c y)→∀ (j:Nat) c y,bH[j]?=some c→ys[j]?=some y→aq K (ef β l) c y
 | [],bH,h=>by simp only [oC,Option.some.injEq] at h;subst h;simp
 | c::r,bH,h=>by
  unfold oC at h
  split at h
  ·rename_i c1 r1 h1 h2
   simp only [Option.some.injEq] at h;subst h
   obtain ⟨e1,e2⟩:=vk (K:=K) h2
   refine ⟨by simp [e1],fun {ys} hr j d y h3 h4=>?_⟩
   cases ys with
   | nil=>simp at h4
   | cons z zs=>
    cases j with
    | zero=>simp at h3 h4;subst h3 h4;exact Hj h1 (hr 0 _ _ rfl rfl)
    | succ j=>simp at h3 h4;exact e2 (ys:=zs) (fun j c y h5 h6=>hr (j+1) c y (by simpa using h5) (by simpa using h6)) j d y h3 h4
  ·simp at h
theorem zW {K:World→Prop} {l:List Nat} {c c':AV} (h:sY l c=some c') {y:Value} (r:aq K β c y):aq K (ef β l) c' y:=by
 unfold sY at h
 split at h
 ·split at h
  ·rename_i hl;simp only [Option.some.injEq] at h;subst h
   cases r with | fn ys cM hr=>obtain ⟨e1,e2⟩:=vk (β:=β) (K:=K) hl;exact .fn ys (by omega) (e2 hr)
  ·simp at h
 ·split at h
  ·rename_i hl;simp only [Option.some.injEq] at h;subst h
   cases r with | ag ys cM hr=>obtain ⟨e1,e2⟩:=vk (β:=β) (K:=K) hl;exact .ag ys (by omega) (e2 hr)
  ·simp at h
 ·split at h
  ·rename_i hl;simp only [Option.some.injEq] at h;subst h
   cases r with | tu ys cM hr=>obtain ⟨e1,e2⟩:=vk (β:=β) (K:=K) hl;exact .tu ys (by omega) (e2 hr)
  ·simp at h
 ·exact Hj h r
theorem pL {K:World→Prop} {l:List Nat}:∀ {cs bH:List AV},kP l cs=some bH→bH.length=cs.length∧∀ {ys:List Value},(∀ (j:Nat) c y,cs[j]?=some c→ys[j]?=some y→aq K β c y)→∀ (j:Nat) c y,bH[j]?=some c→ys[j]?=some y→aq K (ef β l) c y
 | [],bH,h=>by simp only [kP,Option.some.injEq] at h;subst h;simp
 | c::r,bH,h=>by
  unfold kP at h
  split at h
  ·rename_i c1 r1 h1 h2
   simp only [Option.some.injEq] at h;subst h
   obtain ⟨e1,e2⟩:=pL (K:=K) h2
   refine ⟨by simp [e1],fun {ys} hr j d y h3 h4=>?_⟩
   cases ys with
   | nil=>simp at h4
   | cons z zs=>
    cases j with
    | zero=>simp at h3 h4;subst h3 h4;exact zW h1 (hr 0 _ _ rfl rfl)
    | succ j=>simp at h3 h4;exact e2 (ys:=zs) (fun j c y h5 h6=>hr (j+1) c y (by simpa using h5) (by simpa using h6)) j d y h3 h4
  ·simp at h
theorem Hk {K:World→Prop} {l:List Nat} {c c':AV} (h:xa l c=some c') {y:Value} (r:aq K β c y):aq K (ef β l) c' y:=by
 unfold xa at h
 split at h
 ·split at h
  ·rename_i hl;simp only [Option.some.injEq] at h;subst h
   cases r with | ag ys cM hr=>obtain ⟨e1,e2⟩:=pL (β:=β) (K:=K) hl;exact .ag ys (by omega) (e2 hr)
  ·simp at h
 ·split at h
  ·rename_i hl;simp only [Option.some.injEq] at h;subst h
   cases r with | tu ys cM hr=>obtain ⟨e1,e2⟩:=pL (β:=β) (K:=K) hl;exact .tu ys (by omega) (e2 hr)
  ·simp at h
 ·exact zW h r
theorem Hl {K:World→Prop} {l:List Nat} {g:Nat→Value}:∀ {E E':List (Nat×AV)},sZ l E=some E'→(∀ x ∈ E,aq K β x.2 (g x.1))→∀ x ∈ E',aq K (ef β l) x.2 (g x.1)
 | [],E',h,_,x,hx=>by simp only [sZ,Option.some.injEq] at h;subst h;cases hx
 | (t,c)::r,E',h,hr,x,hx=>by
  unfold sZ at h
  split at h
  ·rename_i c1 r1 h1 h2
   simp only [Option.some.injEq] at h;subst h
   rcases List.mem_cons.1 hx with rfl | hx
   ·exact zW h1 (hr (t,c) List.mem_cons_self)
   ·exact Hl h2 (fun y hy=>hr y (List.mem_cons_of_mem _ hy)) x hx
  ·simp at h
theorem zX {K:World→Prop} {l:List Nat} {u i:Nat} {b b':af} {H:ah} (hi:l[i]?=some u) (h:w9 l b=some b') (r:bn K β u b H):bn K (ef β l) i b' H:=by
 unfold w9 at h
 split at h
 ·split at h
  ·rename_i hl;simp only [Option.some.injEq] at h;subst h
   cases r with
   | bx hb ys cM hr=>obtain ⟨e1,e2⟩:=pL (β:=β) (K:=K) hl;exact .bx (eO hi hb) ys (by omega) (e2 hr)
  ·simp at h
 ·simp only [Option.some.injEq] at h;subst h
  cases r with | rw hb X G hl hs hr=>exact .rw (eO hi hb) X G hl hs hr
 ·simp only [Option.some.injEq] at h;subst h
  cases r with | tw hb X G hl hs hr=>exact .tw (eO hi hb) X G hl hs hr
 ·split at h
  ·rename_i hv;simp only [Option.some.injEq] at h;subst h
   cases r with | nm hb=>exact .nm (eO (kF hv) hb)
  ·simp at h
 ·simp only [Option.some.injEq] at h;subst h
  cases r with | gw X hl hc hr=>exact .gw X hl hc hr
 ·split at h
  ·rename_i hl;simp only [Option.some.injEq] at h;subst h
   cases r with
   | fl hb ys cM hm hc hr=>obtain ⟨e1,e2⟩:=pL (β:=β) (K:=K) hl;exact .fl (eO hi hb) ys cM (by omega) hc (e2 hr)
  ·simp at h
 ·simp at h
 ·simp at h
 ·simp only [Option.some.injEq] at h;subst h
  cases r with | mp hb vs G hl hr=>exact .mp (eO hi hb) vs G hl hr
 ·simp only [Option.some.injEq] at h;subst h
  cases r with | mu fo hp hn aH hb vs G hl hr=>exact .mu fo hp hn aH (eO hi hb) vs G hl hr
 ·split at h
  ·rename_i hv;simp only [Option.some.injEq] at h;subst h
   cases r with
   | @it b bm c since ck um seen hb hm=>
    obtain ⟨c',h'⟩:=hm _ rfl
    exact .it (bm:=bm) (eO hi hb) (fun v' cW=>by cases cW;exact ⟨c',eO (kF hv) h'⟩)
  ·simp at h
 ·simp only [Option.some.injEq] at h;subst h
  cases r with
  | @it b bm c since ck um seen hb hm=>exact .it (bm:=bm) (eO hi hb) (fun v' cW=>by cases cW)
 ·split at h
  ·rename_i hp;simp only [Option.some.injEq] at h;subst h
   cases r with | @lp b c f sz nB bz E rf tmps hb aX hr=>exact .lp (eO hi hb) aX (Hl (g:=fun t=>tmps.getD t undef) hp hr)
  ·simp at h
 ·simp only [Option.some.injEq] at h;subst h
  cases r with | dead=>exact .dead i
theorem r5 {l:List Nat}:∀ {k:List Nat} {M':List af},gj l M k=some M'→M'.length=k.length∧∀ (i:Nat) b,M'[i]?=some b→∃ u b0,k[i]?=some u∧M[u]?=some b0∧w9 l b0=some b
 | [],M',h=>by simp only [gj,Option.some.injEq] at h;subst h;simp
 | u::r,M',h=>by
  unfold gj at h
  split at h
  ·rename_i b hb
   split at h
   ·rename_i b' r' h1 h2
    simp only [Option.some.injEq] at h;subst h
    obtain ⟨e1,e2⟩:=r5 h2
    refine ⟨by simp [e1],fun i c hc=>?_⟩
    cases i with
    | zero=>simp at hc;subst hc;exact ⟨u,b,rfl,hb,h1⟩
    | succ i=>simp at hc;simpa using e2 i c hc
   ·simp at h
  ·simp at h
theorem zY {K:World→Prop} {l:List Nat} {ρ:Operand→Value} (hs:∀ t v,a9 E t=some v→aq K β v (ρ (.tmp t))):∀ {ts:List Nat} {E':List (Nat×AV)},iR l E ts=some E'→∀ t v,a9 E' t=some v→aq K (ef β l) v (ρ (.tmp t))
 | [],E',h,t,v,hv=>by simp only [iR,Option.some.injEq] at h;subst h;simp [a9] at hv
 | s::r,E',h,t,v,hv=>by
  unfold iR at h
  split at h
  ·rename_i u hu
   split at h
   ·rename_i u' r' h1 h2
    simp only [Option.some.injEq] at h;subst h
    unfold a9 at hv
    cases hk:s.beq t with
    | true=>
     simp only [hk,cond_true,Option.some.injEq] at hv;subst hv
     rw [← Nat.eq_of_beq_eq_true hk];exact Hk h1 (hs s u hu)
    | false=>simp only [hk,cond_false] at hv;exact zY hs h2 t v hv
   ·simp at h
  ·simp at h
theorem zi:∀ {l:List Nat} {M:List af} {F:Nat→ah} {X:ah},l.Nodup→(∀ u ∈ l,u<M.length)→bA D w0 K0 M β F I X w→∃ rest,St D w0 w (rest++(I++(X++l.flatMap F)))
 | [],M,F,X,_,_,R=>⟨_,by simpa using R.st⟩
 | u::r,M,F,X,hn,hl,R=>by
  have hu:=hl u (by simp)
  have R':=R.dX (List.getElem?_eq_getElem hu)
  simp only [List.nodup_cons] at hn
  obtain ⟨rest,h⟩:=zi hn.2 (fun v hv=>by rw [List.length_set];exact hl v (by simp [hv])) R'
  refine ⟨rest,?_⟩
  have:r.flatMap (aL F u [])=r.flatMap F:=eG fun v hv=>by
   simp only [aL];rw [if_neg (fun e=>hn.1 (by rw [← e];exact hv))]
  rw [this] at h
  rw [List.flatMap_cons]
  simpa [List.append_assoc] using h
def m9 (F:Nat→ah) (l:List Nat) (i:Nat):ah:=match l[i]? with | some u=>F u | none=>[]
theorem zj {F:Nat→ah} {l:List Nat} {i u:Nat} (h:l[i]?=some u):m9 F l i=F u:=by simp [m9,h]
theorem vn (F:Nat→ah):∀ (l:List Nat),(List.range l.length).flatMap (m9 F l)=l.flatMap F
 | []=>by simp
 | u::r=>by
  rw [List.length_cons,uI,List.flatMap_cons]
  congr 1
  have:=vn F r
  exact this
def cz:List Nat→Bool
 | []=>true
 | u::r=>!(r.elem u)&&cz r
theorem jf:∀ {l:List Nat},cz l=true→l.Nodup
 | [],_=>by simp
 | u::r,h=>by
  simp only [cz,Bool.and_eq_true,Bool.not_eq_true'] at h
  rw [List.nodup_cons]
  refine ⟨?_,jf h.2⟩
  intro hu;have:=h.1;simp [hu] at this
mutual
def mapA (σ:Nat→Nat):AV→AV
 | .d x=>.d x
 | .sl u n=>.sl (σ u) n
 | .pt u o=>.pt (σ u) o
 | .mv u=>.mv (σ u)
 | .yl u=>.yl (σ u)
 | .sb u k o n=>.sb (σ u) k o n
 | .sf u k o n q=>.sf (σ u) k o n q
 | .ep u k i o=>.ep (σ u) k i o
 | .rp r o=>.rp r o
 | .bt bs=>.bt bs
 | .uk=>.uk
 | .fn f l=>.fn f (iS σ l)
 | .fm f l=>.fm f (iS σ l)
 | .ag l=>.ag (iS σ l)
 | .tu l=>.tu (iS σ l)
def iS (σ:Nat→Nat):List AV→List AV
 | []=>[]
 | c::r=>mapA σ c::iS σ r
end
theorem fc (σ:Nat→Nat) (l:List AV):iS σ l=l.map (mapA σ):=by induction l with | nil=>rfl | cons c r ih=>rw [iS,ih];rfl
theorem pV {K:World→Prop} {β β':Beta} {σ:Nat→Nat} (h:∀ (u:Nat) x,β[u]?=some x→β'[σ u]?=some x) {v:AV} {y:Value} (r:aq K β v y):aq K β' (mapA σ v) y:=by
 have key:∀ {l:List AV} {ys:List Value},(∀ (j:Nat) c y,l[j]?=some c→ys[j]?=some y→aq K β' (mapA σ c) y)→∀ (j:Nat) c y,(iS σ l)[j]?=some c→ys[j]?=some y→aq K β' c y:=by
  intro l ys hh j c y h1 h2
  rw [fc,List.getElem?_map,Option.map_eq_some_iff] at h1
  obtain ⟨c',h1,rfl⟩:=h1
  exact hh j c' y h1 h2
 induction r with
 | d h=>exact .d h
 | sl hb=>exact .sl (h _ _ hb)
 | pt hb=>exact .pt (h _ _ hb)
 | mv hb=>exact .mv (h _ _ hb)
 | yl hb=>exact .yl (h _ _ hb)
 | sb hb=>exact .sb (h _ _ hb)
 | sf hb h1 h2 h3=>exact .sf (h _ _ hb) h1 h2 h3
 | ep hb=>exact .ep (h _ _ hb)
 | rp a X hl hc hr=>exact .rp a X hl hc hr
 | bt hd hn=>exact .bt hd hn
 | uk hu=>exact .uk hu
 | fn ys hl hr ih=>exact .fn ys (by rw [fc,List.length_map];exact hl) (key ih)
 | fm ys hl hr ih=>exact .fm ys (by rw [fc,List.length_map];exact hl) (key ih)
 | ag ys hl hr ih=>exact .ag ys (by rw [fc,List.length_map];exact hl) (key ih)
 | tu ys hl hr ih=>exact .tu ys (by rw [fc,List.length_map];exact hl) (key ih)
def ei (σ:Nat→Nat):af→af
 | .bx T cs=>.bx T (iS σ cs)
 | .rw T k rows=>.rw T k rows
 | .tw a c T k rows=>.tw a c T k rows
 | .nm v b=>.nm (σ v) b
 | .gw g row=>.gw g row
 | .fl T k m cs=>.fl T k m (iS σ cs)
 | .mf T c es=>.mf T c (es.map fun e=>(e.1,e.2.1,mapA σ e.2.2))
 | .il um s l c=>.il (um.map σ) s l c
 | .mp T c es=>.mp T c es
 | .mu T c es=>.mu T c es
 | .it um a s c=>.it (um.map σ) a s c
 | .lp b f sz E rf=>.lp b f sz (E.map fun x=>(x.1,mapA σ x.2)) rf
 | .dead=>.dead
theorem vH {K:World→Prop} {β β':Beta} {σ:Nat→Nat} (h:∀ (u:Nat) x,β[u]?=some x→β'[σ u]?=some x) {u:Nat} {b:af} {H:ah} (r:bn K β u b H):bn K β' (σ u) (ei σ b) H:=by
 cases r with
 | dead=>exact .dead _
 | bx hb ys hl hr=>
  refine .bx (h _ _ hb) ys (by rw [fc,List.length_map];exact hl) fun j c y h1 h2=>?_
  rw [fc,List.getElem?_map,Option.map_eq_some_iff] at h1
  obtain ⟨c',h1,rfl⟩:=h1
  exact pV h (hr j c' y h1 h2)
 | rw hb X G hl hs hr=>exact .rw (h _ _ hb) X G hl hs hr
 | tw hb X G hl hs hr=>exact .tw (h _ _ hb) X G hl hs hr
 | nm hb=>exact .nm (h _ _ hb)
 | gw X hl hc hr=>exact .gw X hl hc hr
 | fl hb ys hl hm hc hr=>
  refine .fl (h _ _ hb) ys hl (by rw [fc,List.length_map];exact hm) hc fun j c y h1 h2=>?_
  rw [fc,List.getElem?_map,Option.map_eq_some_iff] at h1
  obtain ⟨c',h1,rfl⟩:=h1
  exact pV h (hr j c' y h1 h2)
 | @mf _ _ Tm tG tH hb vs hl hr=>
  have hh:=bn.mf (K:=K) (T:=Tm) (ck:=tG) (u:=σ u) (h _ _ hb) vs (by rw [List.length_map];exact hl) (es:=List.map (fun (e:Nat×MK×AV)=>(e.1,e.2.1,mapA σ e.2.2)) tH) (fun j c y h1 h2=>by
   rw [List.getElem?_map,Option.map_eq_some_iff] at h1
   obtain ⟨c',h1,rfl⟩:=h1
   exact pV h (hr j c' y h1 h2))
  rw [vb (fun (e:Nat×MK×AV)=>(e.1,e.2.1,mapA σ e.2.2)) (fun _=>⟨rfl,rfl⟩)] at hh
  exact hh
 | mp hb vs G hl hr=>exact .mp (h _ _ hb) vs G hl hr
 | mu fo hp hn aH hb vs G hl hr=>exact .mu fo hp hn aH (h _ _ hb) vs G hl hr
 | lp hb aX hr=>
  refine .lp (h _ _ hb) aX fun x hx=>?_
  obtain ⟨x0,q8,rfl⟩:=List.mem_map.1 hx
  exact pV h (hr x0 q8)
 | @il b bm c since last ck um seen hb hm=>
  refine .il (bm:=bm) (seen:=seen) (h _ _ hb) (fun v hv=>?_)
  cases um with
  | none=>cases hv
  | some v0=>cases hv;obtain ⟨c',h'⟩:=hm v0 rfl;exact ⟨c',h _ _ h'⟩
 | @it b bm c since ck um seen hb hm=>
  refine .it (bm:=bm) (h _ _ hb) (fun v hv=>?_)
  cases um with
  | none=>cases hv
  | some v0=>cases hv;obtain ⟨c',h'⟩:=hm v0 rfl;exact ⟨c',h _ _ h'⟩
def jW (M:List af):List Nat→List af
 | []=>M
 | u::r=>jW (M.set u .dead) r
theorem FB:∀ (l:List Nat) (M:List af),(jW M l).length=M.length
 | [],_=>rfl
 | u::r,M=>by rw [jW,FB r,List.length_set]
theorem FC:∀ {l:List Nat} {M:List af} {F:Nat→ah} {X:ah},l.Nodup→(∀ u ∈ l,u<M.length)→bA D w0 K0 M β F I X w→
  ∃ F0,bA D w0 K0 (jW M l) β F0 I (X++l.flatMap F) w∧(∀ u ∈ l,F0 u=[])∧∀ u,u ∉ l→F0 u=F u
 | [],M,F,X,_,_,R=>⟨F,by simpa [jW] using R,by simp,fun _ _=>rfl⟩
 | u::r,M,F,X,hn,hl,R=>by
  have hu:=hl u (by simp)
  have R':=R.dX (List.getElem?_eq_getElem hu)
  simp only [List.nodup_cons] at hn
  obtain ⟨F0,h1,h2,h3⟩:=FC hn.2 (fun v hv=>by rw [List.length_set];exact hl v (by simp [hv])) R'
  have:r.flatMap (aL F u [])=r.flatMap F:=eG fun v hv=>by
   simp only [aL];rw [if_neg (fun e=>hn.1 (by rw [← e];exact hv))]
  rw [this] at h1
  refine ⟨F0,by rw [List.flatMap_cons,← List.append_assoc];exact h1,fun v hv=>?_,fun v hv=>?_⟩
  ·rcases List.mem_cons.1 hv with e | e
   ·subst e;rw [h3 v hn.1];simp [aL]
   ·exact h2 v e
  ·simp only [List.mem_cons,not_or] at hv
   rw [h3 v hv.2];simp only [aL];rw [if_neg hv.1]
theorem bA.put {X Y:ah} (R:bA D w0 K0 M β F I (X++Y) w) {u:Nat} (hu:u<M.length) (hF:F u=[]) {blk:af} (hb:bn (fun w=>K0 w∧ai w I) β u blk X):
  bA D w0 K0 (M.set u blk) β (aL F u X) I Y w where
 len:=by rw [List.length_set];exact R.len
 blk:=by
  intro v bl hv
  rw [List.getElem?_set] at hv
  by_cases e:u=v
  ·subst e
   simp only [hu,if_pos,Option.some.injEq] at hv;subst hv
   simpa [aL] using hb
  ·rw [if_neg e] at hv
   have:aL F u X v=F v:=by simp only [aL];rw [if_neg (fun h=>e h.symm)]
   rw [this];exact R.blk v bl hv
 st:=by
  have hs:=R.st
  rw [List.length_set,range_split hu]
  rw [range_split hu,hF] at hs
  have c1:(List.range u).flatMap (aL F u X)=(List.range u).flatMap F:=eG fun a ha=>by have:=List.mem_range.1 ha;simp [aL];omega
  have c2:(List.range' (u+1) (M.length-(u+1))).flatMap (aL F u X)=(List.range' (u+1) (M.length-(u+1))).flatMap F:=eG fun a ha=>by have:=(List.mem_range'_1.1 ha).1;simp [aL];omega
  have c9:aL F u X u=X:=by simp [aL]
  rw [c1,c2,c9]
  exact hs.perm (by classical rw [List.perm_iff_count];intro z;simp only [List.count_append,List.count_nil];omega)
def oR (M:List af):List Nat→List af→List af
 | u::r,b::bs=>oR (M.set u b) r bs
 | _,_=>M
theorem Gl:∀ {l:List Nat} {bs:List af} {M:List af} {F:Nat→ah} {G:Nat→ah} {Y:ah},l.Nodup→bs.length=l.length→(∀ u ∈ l,u<M.length)→(∀ u ∈ l,F u=[])→
  bA D w0 K0 M β F I ((List.range l.length).flatMap G++Y) w→(∀ (i u:Nat) b,l[i]?=some u→bs[i]?=some b→bn (fun w=>K0 w∧ai w I) β u b (G i))→
  ∃ F',bA D w0 K0 (oR M l bs) β F' I Y w∧∀ u,u ∉ l→F' u=F u
 | [],[],M,F,G,Y,_,_,_,_,R,_=>⟨F,by simpa [oR] using R,fun _ _=>rfl⟩
 | [],_::_,_,_,_,_,_,h,_,_,_,_=>by simp at h
 | _::_,[],_,_,_,_,_,h,_,_,_,_=>by simp at h
 | u::r,b::bs,M,F,G,Y,hn,hl,aH,hF,R,hb=>by
  simp only [List.nodup_cons] at hn
  rw [List.length_cons,uI,List.append_assoc] at R
  have R1:=R.put (aH u (by simp)) (hF u (by simp)) (hb 0 u b rfl rfl)
  obtain ⟨F',h1,h2⟩:=Gl (l:=r) (bs:=bs) (G:=fun i=>G (i+1)) hn.2 (by simpa using hl) (fun v hv=>by rw [List.length_set];exact aH v (by simp [hv])) (fun v hv=>by
   simp only [aL];rw [if_neg (fun e=>hn.1 (by rw [← e];exact hv))];exact hF v (by simp [hv])) R1 (fun i v c h3 h4=>hb (i+1) v c (by simpa using h3) (by simpa using h4))
  refine ⟨F',h1,fun v hv=>?_⟩
  simp only [List.mem_cons,not_or] at hv
  rw [h2 v hv.2];simp only [aL];rw [if_neg hv.1]
theorem Gm {bs:List af} {γ:Beta} {G:Nat→ah} {Y:ah} (hl:γ.length=bs.length) (R:bA D w0 K0 M β F I ((List.range bs.length).flatMap G++Y) w) (hb:∀ (i:Nat) b,bs[i]?=some b→bn (fun w=>K0 w∧ai w I) (β++γ) (M.length+i) b (G i)):
  ∃ F',bA D w0 K0 (M++bs) (β++γ) F' I Y w∧∀ u,u<M.length→F' u=F u:=by
 refine ⟨fun u=>if u<M.length then F u else G (u-M.length),⟨by simp [R.len,hl],fun u b hu=>?_,?_⟩,fun u hu=>by simp [hu]⟩
 ·rcases Nat.lt_or_ge u M.length with h | h
  ·rw [List.getElem?_append_left h] at hu
   simp only [h,if_true]
   exact (R.blk u b hu).mono (fun _ h=>h) (Ext.app _ _)
  ·rw [List.getElem?_append_right h] at hu
   have hn:¬ u<M.length:=by omega
   simp only [hn,if_false]
   have:=hb (u-M.length) b hu
   rwa [show M.length+(u-M.length)=u by omega] at this
 ·rw [List.length_append,List.range_add,List.flatMap_append,List.flatMap_map]
  have e1:(List.range M.length).flatMap (fun u=>if u<M.length then F u else G (u-M.length))=(List.range M.length).flatMap F:=eG fun u hu=>by have:=List.mem_range.1 hu;simp [this]
  have e2:(List.range bs.length).flatMap (fun i=>if M.length+i<M.length then F (M.length+i) else G (M.length+i-M.length))=(List.range bs.length).flatMap G:=eG fun i hi=>by
   rw [if_neg (by omega),Nat.add_sub_cancel_left]
  rw [e1,e2]
  exact R.st.perm (by classical rw [List.perm_iff_count];intro z;simp only [List.count_append];omega)
def dh (P:Program) (f:FuncId) (args:List AV) (M:List af) (x:AV) (M':List af):Prop:=
 fJ P f=true∧∀ {D:List Nat} {w0:World} {K0:World→Prop} {β:Beta} {F:Nat→ah} {I:ah} {w:World} (ys:List Value),RM D w0 K0 M β F I w→(∀ w,Kp D w0 w→K0 w)→ys.length=args.length→(∀ (j:Nat) c y,args[j]?=some c→ys[j]?=some y→aq (fun w=>K0 w∧ai w I) β c y)→
  Calls P f ys.toArray w fun e w'=>∃ v,e=.returned v∧∃ β' F' I',RM D w0 K0 M' β' F' I' w'∧Ext β β'∧aZ I I'∧aq (fun w=>K0 w∧ai w I') β' x v
def outer (l:List Nat) (n:Nat) (i:Nat):Nat:=match l[i]? with | some u=>u | none=>n+(i-l.length)
def Bu (P:Program) (E:List (Nat×AV)) (M:List af) (oc:Option aW) (g:Operand) (args:Array Operand):Option Out:=
 match aC E g,ju E args.toList,oc with
 | some (.fn f bP),some vs,some (.mem l x M')=>(match kP l (vs++bP),gj l M l with
  | some told,some Ms=>bif cz l&&Nat.ble l.length M'.length then some ⟨[dh P f told Ms x M'],mapA (outer l M.length) x,oR (jW M l++(M'.drop l.length).map (ei (outer l M.length))) l ((M'.take l.length).map (ei (outer l M.length))),l,[],none⟩ else none
  | _,_=>none)
 | _,_,_=>none
theorem EE (R:RM D w0 K0 M β F I w) (hK:∀ w,Kp D w0 w→K0 w) {f:FuncId} {vs:List AV} {ys:List Value} {l:List Nat} {told:List AV} {Ms M':List af} {x:AV} (dc:ys.length=vs.length)
  (e1:told.length=vs.length) (e2:∀ (j:Nat) c y,told[j]?=some c→ys[j]?=some y→aq (fun w=>K0 w∧ai w I) (ef β l) c y) (m1:Ms.length=l.length) (m2:∀ (i:Nat) b,Ms[i]?=some b→∃ u b0,l[i]?=some u∧M[u]?=some b0∧bn (fun w=>K0 w∧ai w I) (ef β l) i b (F u)) (dE:l.Nodup) (hle:l.length≤M'.length) (fy:dh P f told Ms x M'):
  Calls P f ys.toArray w fun e w'=>∃ v,e=.returned v∧∃ β' F' I',RM D w0 K0 (oR (jW M l++(M'.drop l.length).map (ei (outer l M.length))) l ((M'.take l.length).map (ei (outer l M.length)))) β' F' I' w'∧dS [] β β'∧aZ I I'∧(∀ u,u<M.length→u ∉ l→F' u=F u)∧aq (fun w=>K0 w∧ai w I') β' (mapA (outer l M.length) x) v:=by
 have aH:∀ u ∈ l,u<M.length:=by
  intro u hu
  obtain ⟨i,hi,rfl⟩:=List.getElem_of_mem hu
  obtain ⟨u',b0,g1,g2,-⟩:=m2 i Ms[i] (List.getElem?_eq_getElem (by omega))
  rw [List.getElem?_eq_getElem hi,Option.some.injEq] at g1
  rw [g1];exact cT g2
 obtain ⟨F0,R0,Uo,iZ⟩:=FC dE aH R.x
 rw [List.nil_append] at R0
 have Dy:=FB l M
 have Up:=vn F l
 have xO:St D w0 w (l.flatMap F++((List.range (jW M l).length).flatMap F0++I)):=R0.st.perm (by classical rw [List.perm_iff_count];intro z;simp only [List.count_append];omega)
 have Uq:∀ w',Kp (keys (l.flatMap F)) w w'→K0 w'∧ai w' I:=fun w' k=>by
  have t:St (keys (l.flatMap F)) w w' []:=⟨k,by simp [keys],by simp [keys],ai.nil _⟩
  have s':=St.call xO rfl t
  rw [List.nil_append] at s'
  exact ⟨hK _ s'.kp,(ai.app.1 s'.holds).2⟩
 have Ur:RM (keys (l.flatMap F)) w (fun w=>K0 w∧ai w I) Ms (ef β l) (m9 F l) [] w:=by
  refine ⟨by rw [yt,m1],fun i b hb=>?_,?_⟩
  ·obtain ⟨u,b0,g1,g2,g3⟩:=m2 i b hb
   rw [zj g1]
   exact g3.mono (fun w hw=>hw.1) (Ext.refl _)
  ·rw [m1,Up,List.append_nil]
   exact St.start xO.rN.nd xO.rN.holds
 refine (fy.2 _ Ur Uq (by omega) (fun j c y h1 h2=>(e2 j c y h1 h2).mono (fun w hw=>hw.1) (Ext.refl _))).mono ?_
 rintro e w' ⟨v,rfl,β',F',I',R',hE,-,hr⟩
 refine ⟨v,rfl,?_⟩
 have s2:=St.call xO rfl R'.st
 have V9:l.length≤β'.length:=by rw [R'.len];exact hle
 have Eo:∀ (i:Nat) q,β'[i]?=some q→(β++β'.drop l.length)[outer l M.length i]?=some q:=by
  intro i q hq
  unfold outer
  rcases Nat.lt_or_ge i l.length with hi | hi
  ·have tM:l[i]?=some l[i]:=List.getElem?_eq_getElem hi
   rw [tM]
   have hu:=aH l[i] (List.getElem_mem hi)
   have Dx:l[i]<β.length:=by rw [R.len];exact hu
   obtain ⟨q',J8⟩:∃ q',β[l[i]]?=some q':=⟨_,List.getElem?_eq_getElem Dx⟩
   have:=hE i _ (eO tM J8)
   rw [hq,Option.some.injEq] at this
   rw [List.getElem?_append_left (by rw [R.len];exact hu),J8,this]
  ·rw [List.getElem?_eq_none hi]
   dsimp only
   rw [List.getElem?_append_right (by rw [R.len];omega),R.len,Nat.add_sub_cancel_left,List.getElem?_drop,show l.length+(i-l.length)=i by omega];exact hq
 have bp:∀ w,K0 w∧ai w (I'++I)→(K0 w∧ai w I)∧ai w I':=fun w hw=>⟨⟨hw.1,(ai.app.1 hw.2).2⟩,(ai.app.1 hw.2).1⟩
 have Q2:(List.range M'.length).flatMap F'=(List.range l.length).flatMap F'++(List.range ((M'.drop l.length).map (ei (outer l M.length))).length).flatMap fun i=>F' (l.length+i):=by
  rw [List.length_map,List.length_drop]
  conv=>lhs;rw [show M'.length=l.length+(M'.length-l.length) by omega,List.range_add,List.flatMap_append,List.flatMap_map]
 have R2:bA D w0 K0 (jW M l) β F0 (I'++I) ((List.range ((M'.drop l.length).map (ei (outer l M.length))).length).flatMap (fun i=>F' (l.length+i))++(List.range l.length).flatMap F') w':=by
  refine ⟨R0.len,fun u b hb=>(R0.blk u b hb).mono (fun w hw=>(bp w hw).1) (Ext.refl _),?_⟩
  rw [Q2] at s2
  exact s2.perm (by classical rw [List.perm_iff_count];intro z;simp only [List.count_append];omega)
 obtain ⟨F2,R3,g8⟩:=Gm (γ:=β'.drop l.length) (by rw [List.length_drop,R'.len,List.length_map,List.length_drop]) R2 (fun i b hb=>by
  rw [List.getElem?_map,Option.map_eq_some_iff] at hb
  obtain ⟨b0,hb,rfl⟩:=hb
  rw [List.getElem?_drop] at hb
  have:=(vH Eo (R'.blk _ b0 hb)).mono bp (Ext.refl _)
  have ho:outer l M.length (l.length+i)=M.length+i:=by unfold outer;rw [List.getElem?_eq_none (by omega)];dsimp only;omega
  rw [ho] at this
  rw [Dy];exact this)
 have Us:=R3.perm (Y:=(List.range l.length).flatMap F'++[]) (by rw [List.append_nil])
 obtain ⟨F3,R4,xP⟩:=Gl (bs:=(M'.take l.length).map (ei (outer l M.length))) dE (by simp;omega) (fun u hu=>by have:=aH u hu;rw [List.length_append];omega) (fun u hu=>by rw [g8 u (by rw [Dy];exact aH u hu)];exact Uo u hu) Us (fun i u b h1 h2=>by
  rw [List.getElem?_map,Option.map_eq_some_iff] at h2
  obtain ⟨b0,h2,rfl⟩:=h2
  rw [List.getElem?_take] at h2
  split at h2
  ·have:=(vH Eo (R'.blk i b0 h2)).mono bp (Ext.refl _)
   have ho:outer l M.length i=u:=by unfold outer;rw [h1]
   rw [ho] at this;exact this
  ·simp at h2)
 refine ⟨_,F3,I'++I,R4.nil rfl,(Ext.app _ _).b _,⟨I',rfl⟩,fun u hu Dz=>?_,(pV Eo hr).mono bp (Ext.refl _)⟩
 rw [xP u Dz,g8 u (by rw [Dy];exact hu),iZ u Dz]
theorem LW (R:RM D w0 K0 M β F I w) (hK:∀ w,Kp D w0 w→K0 w) {f:FuncId} {vs:List AV} {ys:List Value} {l:List Nat} {told:List AV} {Ms M':List af} {x:AV} (dc:ys.length=vs.length) (eR:∀ (j:Nat) c y,vs[j]?=some c→ys[j]?=some y→aq (fun w=>K0 w∧ai w I) β c y)
  (Bv:kP l vs=some told) (tN:gj l M l=some Ms) (dE:l.Nodup) (hle:l.length≤M'.length) (fy:dh P f told Ms x M'):
  Calls P f ys.toArray w fun e w'=>∃ v,e=.returned v∧∃ β' F' I',RM D w0 K0 (oR (jW M l++(M'.drop l.length).map (ei (outer l M.length))) l ((M'.take l.length).map (ei (outer l M.length)))) β' F' I' w'∧dS [] β β'∧aZ I I'∧(∀ u,u<M.length→u ∉ l→F' u=F u)∧aq (fun w=>K0 w∧ai w I') β' (mapA (outer l M.length) x) v:=by
 obtain ⟨e1,e2⟩:=pL (β:=β) (K:=fun w=>K0 w∧ai w I) Bv
 obtain ⟨m1,m2⟩:=r5 tN
 refine EE R hK dc e1 (e2 eR) m1 (fun i b hb=>?_) dE hle fy
 obtain ⟨u,b0,g1,g2,g3⟩:=m2 i b hb
 exact ⟨u,b0,g1,g2,zX g1 g3 (R.blk u b0 g2)⟩
theorem NV {g:Operand} {args:Array Operand} {ea:Array TypeId} (h:Bu P E M oc g args=some out):aB P ⟨d,.call ⟨.value g,args,ea⟩,ty,pos,aft,gd⟩ E M out:=by
 unfold Bu at h
 split at h
 ·rename_i f bP vs l x M' hg DA
  split at h
  ·rename_i told Ms Bv tN
   cases hc:(cz l&&Nat.ble l.length M'.length) with
   | false=>simp only [hc,cond_false,reduceCtorEq] at h
   | true=>
    simp only [hc,cond_true,Option.some.injEq] at h;subst h
    simp only [Bool.and_eq_true] at hc
    have dE:=jf hc.1
    have hle:=Nat.le_of_ble_eq_true hc.2
    intro D w0 K0 β F I ρ w C hv
    obtain ⟨fy,-⟩:=hv
    obtain ⟨y,hy,r⟩:=C.aR hg
    cases r with
    | fn cs bC gl=>
     obtain ⟨eb,iX⟩:=C.ld DA
     have dc:(args.toList.map ρ++cs).length=(vs++bP).length:=by rw [List.length_append,List.length_append,eb,bC]
     have oO:∀ (j:Nat) c y,(vs++bP)[j]?=some c→(args.toList.map ρ++cs)[j]?=some y→aq (fun w=>K0 w∧ai w I) β c y:=by
      intro j c y h1 h2
      rcases Nat.lt_or_ge j vs.length with hj | hj
      ·rw [List.getElem?_append_left hj] at h1
       rw [List.getElem?_append_left (by omega)] at h2
       exact iX j c y h1 h2
      ·rw [List.getElem?_append_right hj] at h1
       rw [List.getElem?_append_right (by omega),eb] at h2
       exact gl _ c y h1 h2
     have hm:args.map ρ=(args.toList.map ρ).toArray:=by rw [← Array.toList_map]
     refine rG hy fy.1 hm ?_
     have j5:((args.toList.map ρ).toArray++cs.toArray:Array Value)=(args.toList.map ρ++cs).toArray:=by simp
     rw [j5]
     exact LW C.rm C.k dc oO Bv tN dE hle fy
  ·simp at h
 ·simp at h
end Go.Proofs.YtgkdnnmcjjabdaaGreat
namespace Go.Proofs.YtgkdnnmcjjabdaaGreat
open Go.RowKit
def oD (es:Array MapEntry) (seen:Array Nat):Array MapEntry:=es.filter fun e=>!seen.contains e.born
section
variable {P:Program} {ρ:Operand→Value} {w:World} {Φ:Value→World→Prop} {d:Option Tmp} {ty t k e:TypeId} {pos:String} {aft:Array Edge} {gd:Option (Nat×Bool)} {x:Operand}
def vo:Obj→Bool
 | .cells _ _ _=>false
 | _=>true
theorem jJ {r:Nat} {o:Obj} (h:w.heap[r]?=some o) (ho:vo o=true):(getObj r).run P w=.ok o w:=by
 cases o<;>simp [vo] at ho<;>simp [getObj,Sem.run,h]
theorem rT {r:Nat} {o:Obj} (h:w.heap[r]?=some o) (ho:vo o=true) (o':Obj):(setObj r o').run P w=.ok () (bB w r o'):=by
 cases o<;>simp [vo] at ho<;>simp [setObj,Sem.run,h,bB]
theorem zk {bm:Nat} {es:Array MapEntry} {clock:Nat} (ht:P.underlying t=some (.map k e)) (hx:ρ x=.map (some bm)) (hb:w.heap[bm]?=some (.map es clock)) (aI:∀ b w',Gr w w'→cQ w w' [(b,.mapIter (some bm) clock #[] clock)]→Φ (.pointer (some ⟨b,0,none⟩)) w'):aS P ⟨d,.range t x,ty,pos,aft,gd⟩ ρ w Φ:=
 .pure (v:=.pointer (some ⟨w.heap.size,0,none⟩)) (w':=w.alloc (.mapIter (some bm) clock #[] clock)) (by simp [execOp,hx,Instr.range,Sem.run_bind,run_underlying ht,jJ hb rfl,newObj,Sem.run]) (aI _ _ (Gr.alloc _ _) (cQ.alloc _ _))
theorem Pw {ri bm since c0 clock:Nat} {seen:Array Nat} {es:Array MapEntry} (hx:ρ x=.pointer (some ⟨ri,0,none⟩)) (hi:w.heap[ri]?=some (.mapIter (some bm) since seen c0)) (hb:w.heap[bm]?=some (.map es clock)) (hold:∀ x ∈ es.toList,x.born<since) (Ut:since≤c0)
  (h0:(oD es seen).size=0→Φ (.tuple #[.bool false]) w)
  (h1:∀ en ∈ (oD es seen).toList,∀ w1,Gr w w1→w1.heap=w.heap→Φ (.tuple #[.bool true,en.key,en.val]) (bB w1 ri (.mapIter (some bm) since (seen.push en.born) clock))):aS P ⟨d,.next x false,ty,pos,aft,gd⟩ ρ w Φ:=by
 have key:((oD es seen).size=0∧(Instr.next (.pointer (some ⟨ri,0,none⟩)) false ty).run P w=.ok (.tuple #[.bool false]) w)∨∃ en ∈ (oD es seen).toList,∃ w1,Gr w w1∧w1.heap=w.heap∧(Instr.next (.pointer (some ⟨ri,0,none⟩)) false ty).run P w=.ok (.tuple #[.bool true,en.key,en.val]) (bB w1 ri (.mapIter (some bm) since (seen.push en.born) clock)):=by
  simp only [Instr.next,Sem.run_bind,jJ hi rfl,jJ hb rfl,Result.andThen,next_test_false seen es since c0 hold Ut,Bool.false_eq_true,if_false]
  unfold oD
  have ej:∀ x ∈ (Array.filter (fun e=>!seen.contains e.born) es).toList,x.born<since:=fun x hx=>hold x (by simp at hx ⊢;exact hx.1)
  generalize Array.filter (fun e=>!seen.contains e.born) es=L at ej ⊢
  have e1:L.filter (fun x=>decide (x.born<since))=L:=Array.filter_eq_self.2 (fun x hx=>by simpa using ej x (by simpa using hx))
  have e2:L.filter (fun x=>decide (x.born≥since))=#[]:=by
   rw [Array.filter_eq_empty_iff]
   intro x hx
   have:=ej x (by simpa using hx)
   simp
   omega
  simp only [e1,e2,Array.append_empty]
  by_cases h0:L.size=0
  ·left
   have:L=#[]:=Array.eq_empty_of_size_eq_zero h0
   subst this
   refine ⟨rfl,?_⟩
   simp [choose,Sem.run,Question.forced]
  ·right
   have dD:L.isEmpty=false:=by simp [Array.isEmpty,h0]
   simp only [dD,Bool.false_eq_true,if_false,Array.empty_append,Array.size_map]
   have kc:∃ (j:Nat) (w1:World),j<L.size∧Gr w w1∧w1.heap=w.heap∧(choose (Question.mapNext L.size)).run P w=.ok j w1:=by
    by_cases hf:L.size≤1
    ·exact ⟨0,w,by omega,Gr.refl _,rfl,by simp [choose,Sem.run,Question.forced,hf]⟩
    ·exact ⟨_,w.drew,Nat.mod_lt _ (by omega),Gr.drew w,rfl,by
      simp only [choose,Sem.run,Question.forced,decide_eq_true_eq,hf,if_false,Question.cut]
      rfl⟩
   obtain ⟨j,w1,hj,hg,hh,ct⟩:=kc
   refine ⟨L[j],by simp,w1,hg,hh,?_⟩
   have fp:w1.heap[ri]?=some (.mapIter (some bm) since seen c0):=by rw [hh];exact hi
   simp only [ct,Array.getElem?_map,Array.getElem?_eq_getElem hj,Option.map_some,Sem.run_bind,Result.andThen,rT fp rfl]
   rfl
 rcases key with ⟨hz,hr⟩ | ⟨en,o9,w1,hg,hh,hr⟩
 ·exact .pure (by simp only [execOp,hx,Sem.run_bind,hr,Result.andThen_ok,Sem.run_pure]) (h0 hz)
 ·exact .pure (by simp only [execOp,hx,Sem.run_bind,hr,Result.andThen_ok,Sem.run_pure]) (h1 en o9 w1 hg hh)
end
end Go.Proofs.YtgkdnnmcjjabdaaGreat
namespace Go.Proofs.YtgkdnnmcjjabdaaGreat
open Go.RowKit Go.Maps
variable {P:Program} {T:aD} {D:List Nat} {w0:World} {K0:World→Prop} {E:List (Nat×AV)} {M:List af} {β:Beta} {F:Nat→ah} {I:ah} {ρ:Operand→Value} {w:World} {d:Option Tmp} {ty:TypeId} {pos:String} {aft:Array Edge} {gd:Option (Nat×Bool)} {oc:Option aW} {out:Out}
theorem MK.inj {a b:MK} (h:a.val=b.val):a=b:=by
 cases a with
 | i k n=>cases b with
  | i k' n'=>simp only [MK.val,Value.int.injEq] at h;obtain ⟨rfl,rfl⟩:=h;rfl
  | a l=>simp [MK.val] at h
 | a l=>cases b with
  | i k' n'=>simp [MK.val] at h
  | a l'=>
   simp only [MK.val,Value.agg.injEq] at h
   replace h:(l.map fun x=>Value.int x.1 x.2)=l'.map fun x=>Value.int x.1 x.2:=by simpa using congrArg Array.toList h
   congr 1
   induction l generalizing l' with
   | nil=>cases l' with | nil=>rfl | cons=>simp at h
   | cons x r ih=>cases l' with
    | nil=>simp at h
    | cons x' r'=>
     simp only [List.map_cons,List.cons.injEq,Value.int.injEq] at h
     obtain ⟨⟨h1,h2⟩,h3⟩:=h
     rw [ih r' h3,Prod.ext h1 h2]
def iJ (P:Program) (K:TypeId) (ks:List MK):Prop:=Keyed P K∧∀ k ∈ ks,∃ l,keyOf P K k.val=some l
def tO:List AV→Option (List (IntKind×Int))
 | []=>some []
 | .d (.v (.int k n))::r=>(match tO r with | some s=>some ((k,n)::s) | none=>none)
 | _=>none
def nL:AV→Option MK
 | .d (.v (.int k n))=>some (.i k n)
 | .ag l=>(match tO l with | some r=>some (.a r) | none=>none)
 | _=>none
theorem Ig {K:World→Prop}:∀ {l:List AV} {r:List (IntKind×Int)} {ys:List Value},tO l=some r→ys.length=l.length→(∀ (j:Nat) c y,l[j]?=some c→ys[j]?=some y→aq K β c y)→ys=r.map fun x=>.int x.1 x.2
 | [],r,ys,h,hl,hr=>by simp only [tO,Option.some.injEq] at h;subst h;simpa using hl
 | c::l,r,ys,h,hl,hr=>by
  unfold tO at h
  split at h
  ·simp at *
  ·rename_i k n l' he
   cases he
   split at h
   ·rename_i s hs
    simp only [Option.some.injEq] at h;subst h
    cases ys with
    | nil=>simp at hl
    | cons y ys=>
     have h0:=hr 0 _ y rfl rfl
     have ih:=Ig (ys:=ys) hs (by simpa using hl) (fun j c z h1 h2=>hr (j+1) c z h1 h2)
     cases h0 with | d h0=>cases h0;simp [ih]
   ·simp at h
  ·simp at h
theorem mW {K:World→Prop} {v:AV} {k:MK} {y:Value} (h:nL v=some k) (r:aq K β v y):y=k.val:=by
 unfold nL at h
 split at h
 ·simp only [Option.some.injEq] at h;subst h
  cases r with | d r=>cases r;rfl
 ·split at h
  ·rename_i s hs
   simp only [Option.some.injEq] at h;subst h
   cases r with | ag ys hl hr=>rw [Ig hs hl hr];rfl
  ·simp at h
 ·simp at h
def tP:MK→AV
 | .i k n=>.d (.v (.int k n))
 | .a l=>.ag (l.map fun x=>.d (.v (.int x.1 x.2)))
theorem Ih {K:World→Prop} (k:MK):aq K β (tP k) k.val:=by
 cases k with
 | i k n=>exact .d (.v _)
 | a l=>
  refine .ag _ (by simp) fun j c y h1 h2=>?_
  rw [List.getElem?_map] at h1 h2
  cases hx:l[j]? with
  | none=>rw [hx] at h1;cases h1
  | some x=>rw [hx] at h1 h2;simp at h1 h2;subst h1 h2;exact .d (.v _)
theorem Hm {es:List (Nat×MK×DV)} {vs:List Value} (hl:vs.length=es.length):(cV es vs).length=es.length:=by simp [cV,hl]
theorem AJ {es:List (Nat×MK×DV)} {vs:List Value} {j:Nat} {en:MapEntry} (hl:vs.length=es.length) (h:(cV es vs)[j]?=some en):∃ e v,es[j]?=some e∧vs[j]?=some v∧en={ key:=e.2.1.val,val:=v,born:=e.1 }:=by
 unfold cV at h
 rw [List.getElem?_map] at h
 cases hz:(es.zip vs)[j]? with
 | none=>rw [hz] at h;cases h
 | some x=>
  rw [hz] at h;simp at h
  rw [List.getElem?_zip_eq_some] at hz
  exact ⟨x.1,x.2,hz.1,hz.2,h.symm⟩
theorem AK {es:List (Nat×MK×DV)} {vs:List Value} {j:Nat} {e:Nat×MK×DV} {v:Value} (h1:es[j]?=some e) (h2:vs[j]?=some v):(cV es vs)[j]?=some { key:=e.2.1.val,val:=v,born:=e.1 }:=by
 unfold cV
 rw [List.getElem?_map,(List.getElem?_zip_eq_some (i:=j) (z:=(e,v))).2 ⟨h1,h2⟩];rfl
theorem Gn {es:List (Nat×MK×DV)} {vs:List Value} (hl:vs.length=es.length):(cV es vs).map (·.born)=es.map (·.1):=by
 apply List.ext_getElem?
 intro j
 rw [List.getElem?_map,List.getElem?_map]
 cases h:(cV es vs)[j]? with
 | none=>
  rw [List.getElem?_eq_none_iff,Hm hl] at h
  rw [List.getElem?_eq_none (by omega)];rfl
 | some en=>
  obtain ⟨e,v,h1,h2,rfl⟩:=AJ hl h
  rw [h1];rfl
theorem NW {es:List (Nat×MK×DV)} {vs:List Value} (hl:vs.length=es.length) (c:Nat) (k:MK) (x:DV) (v:Value):(cV es vs).toArray.push { key:=k.val,val:=v,born:=c }=(cV (es++[(c,k,x)]) (vs++[v])).toArray:=by
 unfold cV
 rw [List.zip_append hl.symm]
 simp
theorem pW {K:TypeId} {es:List (Nat×MK×DV)} {vs:List Value} (hl:vs.length=es.length) {k:MK} (hk:iJ P K (k::es.map fun e=>e.2.1)) (w:World):
  ((Instr.findKey K k.val (cV es vs)).run P w=.ok none w∧∀ e ∈ es,e.2.1≠k)∨∃ j e v,(Instr.findKey K k.val (cV es vs)).run P w=.ok (some (j,v)) w∧es[j]?=some e∧vs[j]?=some v∧e.2.1=k:=by
 obtain ⟨L,cS⟩:=hk
 obtain ⟨l,fE⟩:=cS k (by simp)
 have dc:∀ en ∈ cV es vs,∃ l,keyOf P K en.key=some l:=by
  intro en o9
  obtain ⟨j,hj,rfl⟩:=List.getElem_of_mem o9
  obtain ⟨e,v,h1,h2,h3⟩:=AJ hl (List.getElem?_eq_getElem hj)
  rw [h3]
  exact cS e.2.1 (List.mem_cons_of_mem _ (List.mem_map_of_mem (f:=fun e:Nat×MK×DV=>e.2.1) (List.mem_of_getElem? h1)))
 rcases L.find w fE (cV es vs) dc with h | ⟨j,en,h1,h2,h3⟩
 ·refine .inl ⟨h.1,fun e he Uu=>?_⟩
  obtain ⟨j,hj,rfl⟩:=List.getElem_of_mem he
  have hv:vs[j]?=some vs[j]:=List.getElem?_eq_getElem (by omega)
  exact h.2 _ (List.mem_of_getElem? (AK (List.getElem?_eq_getElem hj) hv)) (by rw [Uu])
 ·obtain ⟨e,v,e1,e2,rfl⟩:=AJ hl h2
  exact .inr ⟨j,e,v,h1,e1,e2,MK.inj h3⟩
def zl (T:aD) (M:List af) (t:TypeId) (r:Option Operand):Option Out:=match bE T t,r with
 | some (.mp _ _),none=>some ⟨[],.mv M.length,M++[.mp t 0 []],[],[],none⟩
 | _,_=>none
theorem LG {t:TypeId} {r:Option Operand} (h:zl T M t r=some out):aB P ⟨d,.makeMap t r,ty,pos,aft,gd⟩ E M out:=by
 unfold zl at h
 split at h
 ·simp only [Option.some.injEq] at h;subst h
  intro D w0 K0 β F I ρ w C _
  refine EJ fun b w' g n=>?_
  exact ⟨_,_,I,C.rm.new (q:=(some ⟨b,0,none⟩,0)) g n (.mp (es:=[]) (cH C.rm _) [] (fun _=>[]) rfl (by simp)),(Ext.app _ _).b _,aZ.refl _,ft _ _,.mv (cH C.rm _)⟩
 ·simp at h
def tQ:List AV→Option (List DV)
 | []=>some []
 | .d x::r=>(match tQ r with | some s=>some (x::s) | none=>none)
 | _=>none
def DB:AV→Option DV
 | .d x=>some x
 | .ag l=>(match tQ l with | some s=>some (.ag s) | none=>none)
 | _=>none
theorem Ii:∀ {l:List AV} {s:List DV},tQ l=some s→l=s.map .d
 | [],s,h=>by simp only [tQ,Option.some.injEq] at h;subst h;rfl
 | c::r,s,h=>by
  unfold tQ at h
  split at h
  ·simp at *
  ·rename_i x r' he
   cases he
   split at h
   ·rename_i s' hs
    simp only [Option.some.injEq] at h;subst h
    rw [Ii hs];rfl
   ·simp at h
  ·simp at h
theorem Q3 {K:World→Prop} {v:AV} {x:DV} {y:Value} (h:DB v=some x) (r:aq K β v y):bw K x y []:=by
 unfold DB at h
 split at h
 ·simp only [Option.some.injEq] at h;subst h
  cases r with | d r=>exact r
 ·split at h
  ·rename_i s hs
   simp only [Option.some.injEq] at h;subst h
   obtain rfl:=Ii hs
   cases r with
   | ag ys hl hr=>
    have:=bw.ag (K:=K) (l:=s) ys (fun _=>[]) (by simpa using hl) (fun j c y h1 h2=>by
     have:=hr j (.d c) y (by rw [List.getElem?_map,h1];rfl) h2
     cases this with | d h=>exact h)
    rw [show (List.range s.length).flatMap (fun _=>([]:ah))=[] by simp] at this
    exact this
  ·simp at h
 ·simp at h
def xb (M:List af) (oc:Option aW) (v:AV):Option DV:=match oc with
 | some (.n i)=>(match v,M[i]? with | .pt u o,some (.nm u' b)=>bif u.beq u'&&o.beq 0 then some (.v (.pointer (some ⟨b,0,none⟩))) else none | _,_=>none)
 | _=>DB v
theorem Hn (R:RM D w0 K0 M β F I w) {v:AV} {x:DV} {y:Value} (h:xb M oc v=some x) (r:aq (fun w=>K0 w∧ai w I) β v y):bw (fun w=>K0 w∧ai w I) x y []:=by
 unfold xb at h
 split at h
 ·split at h
  ·rename_i u o u' b hM
   cases hc:(u.beq u'&&o.beq 0) with
   | false=>simp [hc] at h
   | true=>
    simp only [hc,cond_true,Option.some.injEq] at h;subst h
    simp only [Bool.and_eq_true] at hc
    obtain rfl:=Nat.eq_of_beq_eq_true hc.1
    obtain rfl:=Nat.eq_of_beq_eq_true hc.2
    have hB:=R.blk _ _ hM
    generalize F _=G at hB
    cases hB with
    | nm hb=>cases r with | pt aE=>rw [aE] at hb;cases hb;exact .v _
  ·simp at h
 ·exact Q3 h r
def DV.kh:DV→Bool
 | .ag l=>l.all DV.cp
 | x=>x.cp
theorem bw.Q4 {K:World→Prop} {x:DV} {y:Value} {H:ah} (h:bw K x y H) (hc:x.cp=true):H=[]:=by
 cases h with
 | v=>rfl
 | jk=>rfl
 | ro=>rfl
 | em=>simp [DV.cp] at hc
 | ag=>simp [DV.cp] at hc
 | tu=>simp [DV.cp] at hc
 | pb=>simp [DV.cp] at hc
theorem bw.zZ {K:World→Prop} {x:DV} {y:Value} {H:ah} (h:bw K x y H) (hc:x.kh=true):H=[]:=by
 cases h with
 | v=>rfl
 | jk=>rfl
 | ro=>rfl
 | em=>simp [DV.kh,DV.cp] at hc
 | tu=>simp [DV.kh,DV.cp] at hc
 | pb=>simp [DV.kh,DV.cp] at hc
 | @ag l ys F hl hr=>
  simp only [DV.kh] at hc
  rw [List.flatMap_eq_nil_iff]
  intro j hj
  have hj:=List.mem_range.1 hj
  have h1:=List.getElem?_eq_getElem hj
  exact (hr j _ _ h1 (List.getElem?_eq_getElem (by omega))).Q4 (List.all_eq_true.1 hc _ (List.mem_of_getElem? h1))
def DV.xQ:DV→AV
 | .ag l=>.ag (l.map .d)
 | x=>.d x
theorem bw.xQ {K:World→Prop} {x:DV} {y:Value} {H:ah} (h:bw K x y H) (hc:x.kh=true):aq K β x.xQ y:=by
 have hn:=h.zZ hc
 subst hn
 cases x with
 | ag l=>
  generalize hH:([]:ah)=H at h
  cases h with
  | ag ys F hl hr=>
   simp only [DV.kh] at hc
   refine .ag ys (by simpa using hl) fun j c y h1 h2=>?_
   rw [List.getElem?_map,Option.map_eq_some_iff] at h1
   obtain ⟨c',h1,rfl⟩:=h1
   exact .d ((hr j c' y h1 h2).cp (List.all_eq_true.1 hc _ (List.mem_of_getElem? h1)))
 | _=>exact .d h
theorem MI (G:Nat→ah) (n:Nat):(List.range (n+1)).flatMap (aL G n [])=(List.range n).flatMap G:=by rw [yO,List.append_nil]
theorem MJ {G:Nat→ah} {n j:Nat} (h:G j=[]):(List.range n).flatMap (aL G j [])=(List.range n).flatMap G:=by
 rw [List.flatMap_def,List.flatMap_def];congr 1
 apply List.map_congr_left;intro a _
 simp only [aL];split
 ·rename_i e;rw [e,h]
 ·rfl
theorem pX (es:List (Nat×MK×DV)) (vs:List Value) (i:Nat):(cV es vs)[i]?=(match es[i]?,vs[i]? with | some e,some v=>some { key:=e.2.1.val,val:=v,born:=e.1 } | _,_=>none):=by
 unfold cV
 rw [List.getElem?_map]
 cases h1:es[i]? with
 | none=>
  have:(es.zip vs)[i]?=none:=by rw [List.getElem?_eq_none_iff] at h1 ⊢;simp;omega
  rw [this];rfl
 | some e=>
  cases h2:vs[i]? with
  | none=>
   have:(es.zip vs)[i]?=none:=by rw [List.getElem?_eq_none_iff] at h2 ⊢;simp;omega
   rw [this];rfl
  | some v=>rw [(List.getElem?_zip_eq_some (i:=i) (z:=(e,v))).2 ⟨h1,h2⟩];rfl
theorem Px {es:List (Nat×MK×DV)} {vs:List Value} {j b:Nat} {k:MK} {x:DV} (hl:vs.length=es.length) (x':DV) (v:Value) (hj:es[j]?=some (b,k,x)):
  (cV es vs).toArray.modify j (fun en=>{ en with key:=k.val,val:=v })=(cV (es.modify j fun e=>(e.1,e.2.1,x')) (vs.set j v)).toArray:=by
 apply Array.ext'
 rw [Array.toList_modify]
 apply List.ext_getElem?
 intro i
 rw [List.getElem?_modify,pX,pX,List.getElem?_modify,List.getElem?_set]
 by_cases e:j=i
 ·subst e
  have aH:=(List.getElem?_eq_some_iff.1 hj).1
  rw [hj,if_pos rfl,if_pos (by omega),List.getElem?_eq_getElem (show j<vs.length by omega)]
  simp
 ·simp only [if_neg e]
  cases es[i]?<;>cases vs[i]?<;>simp
def qb (P:Program) (T:aD) (E:List (Nat×AV)) (M:List af) (oc:Option aW) (t:TypeId) (m k x:Operand):Option Out:=
 match bE T t,aC E m,aC E k,aC E x with
 | some (.mp K _),some (.mv u),some ak,some ax=>(match nL ak,xb M oc ax,M[u]?,oc with
  | some mk,some dv,some (.mp t' c es),some (.b false)=>some ⟨[iJ P K (mk::es.map fun e=>e.2.1),∀ e ∈ es,e.2.1≠mk],.d .jk,M.set u (.mp t' (c+1) (es++[(c,mk,dv)])),[u],[],none⟩
  | some mk,some dv,some (.mp t' c es),some (.n _)=>some ⟨[iJ P K (mk::es.map fun e=>e.2.1),∀ e ∈ es,e.2.1≠mk],.d .jk,M.set u (.mp t' (c+1) (es++[(c,mk,dv)])),[u],[],none⟩
  | some mk,some dv,some (.mp t' c es),some (.mk j k' x)=>some ⟨[iJ P K (mk::es.map fun e=>e.2.1),k'=mk,(es.map fun e=>e.2.1).Nodup,x.kh=true,∃ b,es[j]?=some (b,k',x)],.d .jk,M.set u (.mp t' c (es.modify j fun e=>(e.1,e.2.1,dv))),[u],[],none⟩
  | _,_,_,_=>none)
 | _,_,_,_=>none
theorem EO (hT:aP P T=true) {t:TypeId} {m k x:Operand} (h:qb P T E M oc t m k x=some out) {D:List Nat} {w0:World} {K0:World→Prop} {β:Beta} {F:Nat→ah} {I:ah} {ρ:Operand→Value} {w:World} (C:Ctx D w0 K0 E M β F I ρ w) (hv:bg out.vc):
  ∃ w',(Instr.mapUpdate t (ρ m) (ρ k) (ρ x)).run P w=.ok () w'∧∃ β' F' I',RM D w0 K0 out.M β' F' I' w'∧dS out.mv β β'∧aZ I I'∧(∀ u,u<M.length→u ∉ out.tc→F' u=F u)∧aq (fun w=>K0 w∧ai w I') β' out.av undef:=by
 unfold qb at h
 split at h
 ·rename_i K Te u ak ax ht hm hk hx
  obtain ⟨ym,ez,rm⟩:=C.aR hm
  obtain ⟨yk,hC,rk⟩:=C.aR hk
  obtain ⟨yx,da,rx⟩:=C.aR hx
  have fresh:∀ {mk:MK} {dv:DV} {t' c:Nat} {es:List (Nat×MK×DV)},nL ak=some mk→xb M oc ax=some dv→M[u]?=some (.mp t' c es)→iJ P K (mk::es.map fun e=>e.2.1)→(∀ e ∈ es,e.2.1≠mk)→
    ∃ w',(Instr.mapUpdate t (ρ m) (ρ k) (ρ x)).run P w=.ok () w'∧∃ β' F' I',RM D w0 K0 (M.set u (.mp t' (c+1) (es++[(c,mk,dv)]))) β' F' I' w'∧dS [] β β'∧aZ I I'∧(∀ v,v<M.length→v ∉ [u]→F' v=F v)∧aq (fun w=>K0 w∧ai w I') β' (.d .jk) undef:=by
   intro mk dv t' c es cJ pa hM cS ew
   have ek:=mW cJ rk
   have hd:=Hn C.rm pa rx
   cases rm with
   | mv hb=>
    obtain ⟨H,hF,hB,hH⟩:=C.rm.at hM
    cases hB with
    | mp aE vs G hl hr=>
     rw [hb] at aE;cases aE
     have hw:=hH.one
     have hg:=mL (P:=P) hw
     obtain ⟨l,fE⟩:=cS.2 mk (by simp)
     rcases pW hl cS w with hf | ⟨j,e,v,-,h1,-,h3⟩
     ·have dw:bn (fun w=>K0 w∧ai w I) β u (.mp t' (c+1) (es++[(c,mk,dv)])) ((_,.map (cV (es++[(c,mk,dv)]) (vs++[yx])).toArray (c+1))::(List.range (es++[(c,mk,dv)]).length).flatMap (aL G es.length [])):=.mp hb (vs++[yx]) _ (by simp [hl]) (by
       intro j e y h1 h2
       rcases Nat.lt_or_ge j es.length with hj | hj
       ·rw [List.getElem?_append_left hj] at h1;rw [List.getElem?_append_left (by omega)] at h2
        simp only [aL];rw [if_neg (by omega)];exact hr j e y h1 h2
       ·rw [List.getElem?_append_right hj] at h1;rw [List.getElem?_append_right (by omega),hl] at h2
        cases hz:j-es.length with
        | zero=>
         rw [hz] at h1 h2;simp at h1 h2;subst h1 h2
         simp only [aL];rw [if_pos (by omega)];exact hd
        | succ n=>rw [hz] at h1;simp at h1)
      rw [List.length_append,List.length_singleton,MI] at dw
      refine ⟨bB w _ (.map (cV (es++[(c,mk,dv)]) (vs++[yx])).toArray (c+1)),?_,β,_,I,C.rm.set hM hF dw,(Ext.refl β).b _,aZ.refl _,fun v hv hn=>by simp only [aL];rw [if_neg (by simpa using hn)],.d (.jk _)⟩
      rw [ez,hC,da,ek]
      unfold Instr.mapUpdate
      have hc:(Instr.checkKey false 10000 K mk.val).run P w=.ok () w:=cS.1.check w _ fE
      simp only [Sem.run_bind,run_underlying (bj hT ht),Result.andThen_ok,hg,hc,hf.1,rD hw,NW hl c mk dv yx]
     ·exact absurd h3 (ew e (List.mem_of_getElem? h1))
  split at h
  ·rename_i mk dv t' c es cJ hM pa
   simp only [Option.some.injEq] at h;subst h
   obtain ⟨cS,ew,-⟩:=hv
   exact fresh cJ pa hM cS ew
  ·rename_i mk dv t' c es n cJ hM pa
   simp only [Option.some.injEq] at h;subst h
   obtain ⟨cS,ew,-⟩:=hv
   exact fresh cJ pa hM cS ew
  ·rename_i mk dv t' c es j k' xo cJ hM pa
   simp only [Option.some.injEq] at h;subst h
   obtain ⟨cS,rfl,dE,iW,⟨b,hj⟩,-⟩:=hv
   have ek:=mW cJ rk
   have hd:=Hn C.rm pa rx
   cases rm with
   | @mv _ bb cc hb=>
    obtain ⟨H,hF,hB,hH⟩:=C.rm.at hM
    cases hB with
    | mp aE vs G hl hr=>
     rw [hb] at aE;cases aE
     have hw:=hH.one
     have hg:=mL (P:=P) hw
     obtain ⟨l,fE⟩:=cS.2 k' (by simp)
     obtain ⟨qJ,-⟩:=List.getElem?_eq_some_iff.1 hj
     have gN:vs[j]?=some vs[j]:=List.getElem?_eq_getElem (by omega)
     have DC:G j=[]:=(hr j _ _ hj gN).zZ iW
     rcases pW hl cS w with hf | ⟨j',e,v,hf,h1,-,h3⟩
     ·exact absurd rfl (hf.2 _ (List.mem_of_getElem? hj))
     ·have pc:j'=j:=by
       have a1:(es.map fun e=>e.2.1)[j']?=some k':=by rw [List.getElem?_map,h1];simp [h3]
       have a2:(es.map fun e=>e.2.1)[j]?=some k':=by rw [List.getElem?_map,hj];rfl
       exact (List.getElem?_inj (by have:=(List.getElem?_eq_some_iff.1 h1).1;simpa using this) dE).1 (a1.trans a2.symm)
      subst pc
      have dw:bn (fun w=>K0 w∧ai w I) β u (.mp t' c (es.modify j' fun e=>(e.1,e.2.1,dv))) ((_,.map (cV (es.modify j' fun e=>(e.1,e.2.1,dv)) (vs.set j' yx)).toArray c)::(List.range (es.modify j' fun e=>(e.1,e.2.1,dv)).length).flatMap (aL G j' [])):=.mp hb (vs.set j' yx) _ (by simp [hl]) (by
       intro i e y h1 h2
       rw [List.getElem?_modify] at h1;rw [List.getElem?_set] at h2
       simp only [aL]
       by_cases hi:j'=i
       ·subst hi
        rw [hj] at h1;simp at h1;subst h1
        rw [if_pos rfl,if_pos (by omega)] at h2;simp only [Option.some.injEq] at h2;subst h2
        rw [if_pos rfl];exact hd
       ·rw [if_neg hi] at h2
        simp only [if_neg hi] at h1
        rw [if_neg (fun e=>hi e.symm)]
        cases pd:es[i]? with
        | none=>rw [pd] at h1;simp at h1
        | some e0=>rw [pd] at h1;simp at h1;subst h1;exact hr i _ y pd h2)
      rw [List.length_modify,MJ DC] at dw
      refine ⟨bB w _ (.map (cV (es.modify j' fun e=>(e.1,e.2.1,dv)) (vs.set j' yx)).toArray c),?_,β,_,I,C.rm.set hM hF dw,(Ext.refl β).b _,aZ.refl _,fun v hv hn=>by simp only [aL];rw [if_neg (by simpa using hn)],.d (.jk _)⟩
      rw [ez,hC,da,ek]
      unfold Instr.mapUpdate
      have hc:(Instr.checkKey false 10000 K k'.val).run P w=.ok () w:=cS.1.check w _ fE
      have aU:(Instr.keyThatStays ((((cV es vs).toArray[j']?).map (·.key)).getD k'.val) k'.val).run P w=.ok k'.val w:=by
       have:(cV es vs).toArray[j']?=some { key:=k'.val,val:=vs[j'],born:=b }:=by simpa using AK hj gN
       rw [this];exact cS.1.stays w fE
      simp only [Sem.run_bind,run_underlying (bj hT ht),Result.andThen_ok,hg,hc,hf,aU,rD hw,Px hl dv yx hj]
  ·simp at h
 ·simp at h
theorem FD (hT:aP P T=true) {t:TypeId} {m k x:Operand} (h:qb P T E M oc t m k x=some out):aB P ⟨d,.mapUpdate t m k x,ty,pos,aft,gd⟩ E M out∧aB P ⟨d,.insert t m k x,ty,pos,aft,gd⟩ E M out:=by
 have e:out.rd=none:=by
  unfold qb at h
  split at h
  ·split at h
   ·simp only [Option.some.injEq] at h;subst h;rfl
   ·simp only [Option.some.injEq] at h;subst h;rfl
   ·simp only [Option.some.injEq] at h;subst h;rfl
   ·simp at h
  ·simp at h
 constructor
 ·unfold aB;rw [e]
  intro D w0 K0 β F I ρ w C hv
  obtain ⟨w',hr,aI⟩:=EO hT h C hv
  exact Ez rfl rfl rfl hr aI
 ·unfold aB;rw [e]
  intro D w0 K0 β F I ρ w C hv
  obtain ⟨w',hr,aI⟩:=EO hT h C hv
  exact .skip (by simp only [execOp,Sem.run_bind,hr,Result.andThen_ok,Sem.run_pure]) aI
def AL (P:Program) (t:TypeId) (z:Value):Prop:=∀ w:World,(zeroValue t).run P w=.ok z w
def lX (M:List af) (x:DV):Option Nat→Option AV
 | none=>bif x.kh then some x.xQ else none
 | some i=>(match x,M[i]? with | .v (.pointer (some ⟨_,_,_⟩)),some (.nm u _)=>some (.pt u 0) | _,_=>none)
def qK (M:List af) (x:DV):Option Nat→Prop
 | none=>True
 | some i=>(match M[i]? with | some (.nm _ b)=>x=.v (.pointer (some ⟨b,0,none⟩)) | _=>False)
theorem Hq {K:World→Prop} {F:Nat→ah} {x:DV} {i:Option Nat} {v:AV} {y:Value} {H:ah} (h:lX M x i=some v) (hp:qK M x i) (hM:∀ (u:Nat) blk,M[u]?=some blk→bn K β u blk (F u)) (r:bw K x y H):aq K β v y:=by
 cases i with
 | none=>
  simp only [lX] at h
  cases hc:x.kh with
  | false=>simp [hc] at h
  | true=>simp only [hc,cond_true,Option.some.injEq] at h;subst h;exact r.xQ hc
 | some i=>
  simp only [lX] at h
  split at h
  ·rename_i a o g u b J9
   simp only [Option.some.injEq] at h;subst h
   simp only [qK,J9] at hp
   cases hp
   have hB:=hM i _ J9
   generalize F i=G at hB
   cases hB with
   | nm hb=>cases r;exact .pt hb
  ·simp at h
def Bw (P:Program) (T:aD) (E:List (Nat×AV)) (M:List af) (oc:Option aW) (t:TypeId) (m k:Operand) (ok:Bool):Option Out:=
 match bE T t,aC E m,aC E k with
 | some (.mp K Te),some (.mv u),some ak=>(match nL ak,M[u]? with
  | some mk,some (.mp _ _ es)=>(match oc with
   | some (.mk j k' x)=>(match lX M x none with
    | some v=>some ⟨[iJ P K (mk::es.map fun e=>e.2.1),k'=mk,(es.map fun e=>e.2.1).Nodup,∃ b,es[j]?=some (b,k',x)],bif ok then .tu [v,.b true] else v,M,[],[],some [u]⟩
    | none=>none)
   | some (.JW j k' x i)=>(match lX M x (some i) with
    | some v=>some ⟨[iJ P K (mk::es.map fun e=>e.2.1),k'=mk,(es.map fun e=>e.2.1).Nodup,(∃ b,es[j]?=some (b,k',x))∧qK M x (some i)],bif ok then .tu [v,.b true] else v,M,[],[],some [u]⟩
    | none=>none)
   | some (.b false)=>(match ox T Te,ma T Te with
    | some [z],some .one=>some ⟨[iJ P K (mk::es.map fun e=>e.2.1),AL P Te z,∀ e ∈ es,e.2.1≠mk],bif ok then .tu [.d (.v z),.b false] else .d (.v z),M,[],[],some [u]⟩
    | some l,some (.many _)=>some ⟨[iJ P K (mk::es.map fun e=>e.2.1),AL P Te (.agg l.toArray),∀ e ∈ es,e.2.1≠mk],bif ok then .tu [.ag (fM l),.b false] else .ag (fM l),M,[],[],some [u]⟩
    | _,_=>none)
   | _=>none)
  | _,_=>none)
 | _,_,_=>none
theorem pY {K:World→Prop} {a b:AV} {x y:Value} (h1:aq K β a x) (h2:aq K β b y):aq K β (.tu [a,b]) (.tuple #[x,y]):=by
 refine .tu [x,y] rfl fun j c z e1 e2=>?_
 match j with
 | 0=>simp at e1 e2;subst e1 e2;exact h1
 | 1=>simp at e1 e2;subst e1 e2;exact h2
 | j+2=>simp at e1
theorem NX (hT:aP P T=true) {t:TypeId} {m k:Operand} {ok:Bool} (h:Bw P T E M oc t m k ok=some out):aB P ⟨d,.lookup t m k ok,ty,pos,aft,gd⟩ E M out:=by
 unfold Bw at h
 split at h
 ·rename_i K Te u ak ht hm hk
  split at h
  ·rename_i mk t' c es cJ hM
   have aH:=(List.getElem?_eq_some_iff.1 hM).1
   have pe:∀ {j:Nat} {k':MK} {x:DV} {i:Option Nat} {v:AV} {D:List Nat} {w0:World} {K0:World→Prop} {β:Beta} {F:Nat→ah} {I:ah} {ρ:Operand→Value} {w:World},lX M x i=some v→Ctx D w0 K0 E M β F I ρ w→iJ P K (mk::es.map fun e=>e.2.1)→k'=mk→(es.map fun e=>e.2.1).Nodup→(∃ b,es[j]?=some (b,k',x))→qK M x i→
     ∃ y,aq (fun w=>K0 w∧ai w I) β (bif ok then .tu [v,.b true] else v) y∧∀ w',fx K0 I F [u] w'→(execOp ρ ⟨d,.lookup t m k ok,ty,pos,aft,gd⟩).run P w'=.ok (.value y) w':=by
    intro j k' x i v D w0 K0 β F I ρ w hv C cS bp dE hj hp
    subst bp
    obtain ⟨b,hj⟩:=hj
    obtain ⟨ym,ez,rm⟩:=C.aR hm
    obtain ⟨yk,hC,rk⟩:=C.aR hk
    have ek:=mW cJ rk
    cases rm with
    | @mv _ bb cc hb=>
     obtain ⟨H,hF,hB,-⟩:=C.rm.at hM
     cases hB with
     | mp aE vs G hl hr=>
      rw [hb] at aE;cases aE
      obtain ⟨Ka,-⟩:=List.getElem?_eq_some_iff.1 hj
      have gN:vs[j]?=some vs[j]:=List.getElem?_eq_getElem (by omega)
      have hx:=Hq hv hp C.rm.blk (hr j _ _ hj gN)
      refine ⟨if ok then .tuple #[vs[j],.bool true] else vs[j],?_,fun w' hs=>?_⟩
      ·cases ok with
       | true=>exact pY hx (.d (.v _))
       | false=>exact hx
      ·have hH:=hs.2 u (by simp)
       rw [hF] at hH
       have hw:=hH.one
       obtain ⟨l,fE⟩:=cS.2 k' (by simp)
       have eU:(Instr.lookup t (.map (some bb)) yk ok).run P w'=.ok (if ok then .tuple #[vs[j],.bool true] else vs[j]) w':=by
        rw [ek]
        unfold Instr.lookup
        have hc:∀ em,(Instr.checkKey em 10000 K k'.val).run P w'=.ok () w':=fun em=>cS.1.check w' _ fE
        rcases pW hl cS w' with hf | ⟨j',e,v,hf,h1,h2,h3⟩
        ·exact absurd rfl (hf.2 _ (List.mem_of_getElem? hj))
        ·have pc:j'=j:=by
          have a1:(es.map fun e=>e.2.1)[j']?=some k':=by rw [List.getElem?_map,h1];simp [h3]
          have a2:(es.map fun e=>e.2.1)[j]?=some k':=by rw [List.getElem?_map,hj];rfl
          exact (List.getElem?_inj (by have:=(List.getElem?_eq_some_iff.1 h1).1;simpa using this) dE).1 (a1.trans a2.symm)
         subst pc
         rw [gN] at h2;cases h2
         simp only [Sem.run_bind,run_underlying (bj hT ht),Result.andThen_ok,mL hw,Sem.run_pure,hc,hf]
       simp only [execOp,ez,hC,Sem.run_bind,eU,Result.andThen_ok,Sem.run_pure]
   have IX:∀ {z:Value} {v:AV} {D:List Nat} {w0:World} {K0:World→Prop} {β:Beta} {F:Nat→ah} {I:ah} {ρ:Operand→Value} {w:World},aq (fun w=>K0 w∧ai w I) β v z→Ctx D w0 K0 E M β F I ρ w→iJ P K (mk::es.map fun e=>e.2.1)→AL P Te z→(∀ e ∈ es,e.2.1≠mk)→
     ∃ y,aq (fun w=>K0 w∧ai w I) β (bif ok then .tu [v,.b false] else v) y∧∀ w',fx K0 I F [u] w'→(execOp ρ ⟨d,.lookup t m k ok,ty,pos,aft,gd⟩).run P w'=.ok (.value y) w':=by
    intro z v D w0 K0 β F I ρ w hv C cS ke ew
    obtain ⟨ym,ez,rm⟩:=C.aR hm
    obtain ⟨yk,hC,rk⟩:=C.aR hk
    have ek:=mW cJ rk
    cases rm with
    | @mv _ bb cc hb=>
     obtain ⟨H,hF,hB,-⟩:=C.rm.at hM
     cases hB with
     | mp aE vs G hl hr=>
      rw [hb] at aE;cases aE
      refine ⟨if ok then .tuple #[z,.bool false] else z,?_,fun w' hs=>?_⟩
      ·cases ok with
       | true=>exact pY hv (.d (.v _))
       | false=>exact hv
      ·have hH:=hs.2 u (by simp)
       rw [hF] at hH
       have hw:=hH.one
       obtain ⟨l,fE⟩:=cS.2 mk (by simp)
       have eU:(Instr.lookup t (.map (some bb)) yk ok).run P w'=.ok (if ok then .tuple #[z,.bool false] else z) w':=by
        rw [ek]
        unfold Instr.lookup
        have hc:∀ em,(Instr.checkKey em 10000 K mk.val).run P w'=.ok () w':=fun em=>cS.1.check w' _ fE
        rcases pW hl cS w' with hf | ⟨j',e,v,-,h1,-,h3⟩
        ·simp only [Sem.run_bind,run_underlying (bj hT ht),Result.andThen_ok,mL hw,Sem.run_pure,hc,hf.1,ke w']
        ·exact absurd h3 (ew _ (List.mem_of_getElem? h1))
       simp only [execOp,ez,hC,Sem.run_bind,eU,Result.andThen_ok,Sem.run_pure]
   split at h
   ·rename_i j k' x
    split at h
    ·rename_i v hv
     simp only [Option.some.injEq] at h;subst h
     refine aB.look (fun C hq=>?_) (by simpa using aH)
     obtain ⟨q1,q2,q3,q4,-⟩:=hq
     exact pe hv C q1 q2 q3 q4 trivial
    ·simp at h
   ·rename_i j k' x i
    split at h
    ·rename_i v hv
     simp only [Option.some.injEq] at h;subst h
     refine aB.look (fun C hq=>?_) (by simpa using aH)
     obtain ⟨q1,q2,q3,q4,-⟩:=hq
     exact pe hv C q1 q2 q3 q4.1 q4.2
    ·simp at h
   ·split at h
    ·rename_i z hz tE
     simp only [Option.some.injEq] at h;subst h
     refine aB.look (fun C hq=>?_) (by simpa using aH)
     obtain ⟨q1,q2,q3,-⟩:=hq
     exact IX (.d (.v _)) C q1 q2 q3
    ·rename_i l n hz tE
     simp only [Option.some.injEq] at h;subst h
     refine aB.look (fun C hq=>?_) (by simpa using aH)
     obtain ⟨q1,q2,q3,-⟩:=hq
     exact IX (.ag l (by simp [fM]) (iG l).2) C q1 q2 q3
    ·simp at h
   ·simp at h
  ·simp at h
 ·simp at h
def AM (T:aD) (E:List (Nat×AV)) (M:List af) (t:TypeId) (x:Operand):Option Out:=match bE T t,aC E x with
 | some (.mp _ _),some (.mv u)=>(match M[u]? with
  | some (.mp _ c _)=>some ⟨[],.pt M.length 0,M++[.it (some u) c [] c],[],[],none⟩
  | some (.mu _ c _)=>some ⟨[],.pt M.length 0,M++[.it (some u) c [] c],[],[],none⟩
  | _=>none)
 | _,_=>none
theorem ML (hT:aP P T=true) {t:TypeId} {x:Operand} (h:AM T E M t x=some out):aB P ⟨d,.range t x,ty,pos,aft,gd⟩ E M out:=by
 unfold AM at h
 split at h
 ·rename_i K Te u ht hx
  split at h
  ·rename_i t' c es hM
   simp only [Option.some.injEq] at h;subst h
   intro D w0 K0 β F I ρ w C _
   obtain ⟨ym,ez,rm⟩:=C.aR hx
   cases rm with
   | @mv _ bb cc hb=>
    obtain ⟨H,hF,hB,hH⟩:=C.rm.at hM
    cases hB with
    | mp aE vs G hl hr=>
     rw [hb] at aE;cases aE
     refine zk (bj hT ht) ez hH.one fun b w' g n=>?_
     refine ⟨_,_,I,C.rm.new (q:=(some ⟨b,0,none⟩,0)) g n (.it (bm:=bb) (seen:=[]) (cH C.rm _) fun v hv=>?_),(Ext.app _ _).b _,aZ.refl _,ft _ _,.pt (cH C.rm _)⟩
     cases hv
     exact ⟨_,Ext.app _ _ _ _ hb⟩
  ·rename_i t' c es hM
   simp only [Option.some.injEq] at h;subst h
   intro D w0 K0 β F I ρ w C _
   obtain ⟨ym,ez,rm⟩:=C.aR hx
   cases rm with
   | @mv _ bb cc hb=>
    obtain ⟨H,hF,hB,hH⟩:=C.rm.at hM
    cases hB with
    | mu fo hp dE aH aE vs G hl hr=>
     rw [hb] at aE;cases aE
     refine zk (bj hT ht) ez hH.one fun b w' g n=>?_
     refine ⟨_,_,I,C.rm.new (q:=(some ⟨b,0,none⟩,0)) g n (.it (bm:=bb) (seen:=[]) (cH C.rm _) fun v hv=>?_),(Ext.app _ _).b _,aZ.refl _,ft _ _,.pt (cH C.rm _)⟩
     cases hv
     exact ⟨_,Ext.app _ _ _ _ hb⟩
  ·simp at h
 ·simp at h
theorem EP {ri bm since clock:Nat} {seen:Array Nat} {es:Array MapEntry} {en:MapEntry} {w:World} (hi:w.heap[ri]?=some (.mapIter (some bm) since (seen.push en.born) clock)) (hb:w.heap[bm]?=some (.map es clock)) (he:en ∈ es.toList) (hn:(es.toList.map (·.born)).Nodup):(Instr.entry (.pointer (some ⟨ri,0,none⟩))).run P w=.ok (.tuple #[en.key,en.val]) w:=by
 have hf:es.find? (·.born==en.born)=some en:=by rw [← Array.find?_toList];exact find_born en es.toList hn he
 simp only [Instr.entry,Sem.run_bind,jJ hi rfl,jJ hb rfl,Result.andThen,Array.back?_push,bne_self_eq_false,Bool.false_eq_true,if_false,hf]
 rfl
def AN (E:List (Nat×AV)) (M:List af) (oc:Option aW) (x:Operand):Option Out:=match aC E x,oc with
 | some (.pt ui o),some (.mk j k dv)=>(match M[ui]?,lX M dv none with
  | some (.it (some um) _ seen c),some v=>(match M[um]? with
   | some (.mp _ ck es)=>bif Nat.beq o 0 then some ⟨[∃ b s,es[j]?=some (b,k,dv)∧seen=s++[b],(es.map fun e=>e.1).Nodup,c=ck],.tu [tP k,v],M,[],[],some [ui,um]⟩ else none
   | _=>none)
  | _,_=>none)
 | some (.pt ui o),some (.JW j k dv i)=>(match M[ui]?,lX M dv (some i) with
  | some (.it (some um) _ seen c),some v=>(match M[um]? with
   | some (.mp _ ck es)=>bif Nat.beq o 0 then some ⟨[(∃ b s,es[j]?=some (b,k,dv)∧seen=s++[b]),(es.map fun e=>e.1).Nodup,c=ck,qK M dv (some i)],.tu [tP k,v],M,[],[],some [ui,um]⟩ else none
   | _=>none)
  | _,_=>none)
 | _,_=>none
theorem MM {x:Operand} (h:AN E M oc x=some out):aB P ⟨d,.entry x,ty,pos,aft,gd⟩ E M out:=by
 have main:∀ {ui o j:Nat} {k:MK} {dv:DV} {i:Option Nat} {v:AV} {um:Nat} {since:Nat} {seen:List Nat} {c:Nat} {t' ck:Nat} {es:List (Nat×MK×DV)} {D:List Nat} {w0:World} {K0:World→Prop} {β:Beta} {F:Nat→ah} {I:ah} {ρ:Operand→Value} {w:World},
   aC E x=some (.pt ui o)→M[ui]?=some (.it (some um) since seen c)→lX M dv i=some v→M[um]?=some (.mp t' ck es)→Nat.beq o 0=true→Ctx D w0 K0 E M β F I ρ w→(∃ b s,es[j]?=some (b,k,dv)∧seen=s++[b])→(es.map fun e=>e.1).Nodup→c=ck→qK M dv i→
   ∃ y,aq (fun w=>K0 w∧ai w I) β (.tu [tP k,v]) y∧∀ w',fx K0 I F [ui,um] w'→(execOp ρ ⟨d,.entry x,ty,pos,aft,gd⟩).run P w'=.ok (.value y) w':=by
  intro ui o j k dv i v um since seen c t' ck es D w0 K0 β F I ρ w hx hI hv hM ho C hj dE hc hp
  obtain rfl:=Nat.eq_of_beq_eq_true ho
  subst hc
  obtain ⟨b,s,hj,rfl⟩:=hj
  obtain ⟨ym,ez,rm⟩:=C.aR hx
  cases rm with
  | @pt _ _ bi ci hb=>
   obtain ⟨H1,iZ,mq,-⟩:=C.rm.at hI
   obtain ⟨H2,g8,mr,-⟩:=C.rm.at hM
   cases mq with
   | it nM hm=>
    rw [hb] at nM;cases nM
    obtain ⟨c',eV⟩:=hm um rfl
    cases mr with
    | mp aE vs G hl hr=>
     rw [eV] at aE;cases aE
     obtain ⟨Ka,-⟩:=List.getElem?_eq_some_iff.1 hj
     have gN:vs[j]?=some vs[j]:=List.getElem?_eq_getElem (by omega)
     have hy:=Hq hv hp C.rm.blk (hr j _ _ hj gN)
     refine ⟨.tuple #[k.val,vs[j]],pY (Ih k) hy,fun w' hs=>?_⟩
     have g1:=hs.2 ui (by simp)
     have g2:=hs.2 um (by simp)
     rw [iZ] at g1;rw [g8] at g2
     have q1:=g1.one
     have q2:=g2.one
     have he:=List.mem_of_getElem? (AK hj gN)
     have eU:=EP (P:=P) (seen:=s.toArray) (en:={ key:=k.val,val:=vs[j],born:=b }) (by simpa using q1) q2 (by simpa using he) (by simpa [Gn hl] using dE)
     simp only [execOp,ez,Sem.run_bind,eU,Result.andThen_ok,Sem.run_pure]
 unfold AN at h
 split at h
 ·rename_i ui o j k dv hx
  split at h
  ·rename_i um since seen c v hI hv
   split at h
   ·rename_i t' ck es hM
    cases ho:Nat.beq o 0 with
    | false=>simp [ho] at h
    | true=>
     simp only [ho,cond_true,Option.some.injEq] at h;subst h
     have Cx:=(List.getElem?_eq_some_iff.1 hI).1
     have Cy:=(List.getElem?_eq_some_iff.1 hM).1
     refine aB.look (fun C hq=>?_) (by simp;exact ⟨Cx,Cy⟩)
     obtain ⟨q1,q2,q3,-⟩:=hq
     exact main hx hI hv hM ho C q1 q2 q3 trivial
   ·simp at h
  ·simp at h
 ·rename_i ui o j k dv i hx
  split at h
  ·rename_i um since seen c v hI hv
   split at h
   ·rename_i t' ck es hM
    cases ho:Nat.beq o 0 with
    | false=>simp [ho] at h
    | true=>
     simp only [ho,cond_true,Option.some.injEq] at h;subst h
     have Cx:=(List.getElem?_eq_some_iff.1 hI).1
     have Cy:=(List.getElem?_eq_some_iff.1 hM).1
     refine aB.look (fun C hq=>?_) (by simp;exact ⟨Cx,Cy⟩)
     obtain ⟨q1,q2,q3,q4,-⟩:=hq
     exact main hx hI hv hM ho C q1 q2 q3 q4
   ·simp at h
  ·simp at h
 ·simp at h
def z6 (P:Program) (T:aD) (E:List (Nat×AV)) (M:List af) (oc:Option aW) (t:TypeId) (m k:Operand):Option Out:=
 match bE T t,aC E m,aC E k with
 | some (.mp K _),some (.mv u),some ak=>(match nL ak,M[u]?,oc with
  | some mk,some (.mp t' c es),some (.mk j k' x)=>some ⟨[iJ P K (mk::es.map fun e=>e.2.1),k'=mk,(es.map fun e=>e.2.1).Nodup,x.kh=true,∃ b,es[j]?=some (b,k',x)],.d .jk,M.set u (.mp t' c (es.eraseIdx j)),[u],[],none⟩
  | _,_,_=>none)
 | _,_,_=>none
theorem MN {es:List (Nat×MK×DV)} {vs:List Value} {j:Nat} (hl:vs.length=es.length) (hj:j<es.length):(cV es vs).toArray.eraseIdxIfInBounds j=(cV (es.eraseIdx j) (vs.eraseIdx j)).toArray:=by
 apply Array.ext'
 have h1:((cV es vs).toArray.eraseIdxIfInBounds j).toList=(cV es vs).eraseIdx j:=by
  have:j<(cV es vs).length:=by rw [Hm hl];exact hj
  simp [Array.eraseIdxIfInBounds,this]
 rw [h1]
 apply List.ext_getElem?
 intro i
 rw [List.getElem?_eraseIdx,pX,pX,pX,List.getElem?_eraseIdx,List.getElem?_eraseIdx]
 split<;>rfl
theorem LX {G:Nat→ah} {n j:Nat} (hj:j<n) (h:G j=[]):(List.range (n-1)).flatMap (fun i=>G (if i<j then i else i+1))=(List.range n).flatMap G:=by
 rw [range_split hj,h,List.nil_append]
 have hn:n-1=j+(n-(j+1)):=by omega
 have e1:List.range (n-1)=List.range j++List.range' j (n-(j+1)):=by
  rw [hn,List.range_eq_range',List.range_eq_range',← List.range'_append_1];simp
 rw [e1,List.flatMap_append]
 congr 1
 ·exact eG fun a ha=>by have:=List.mem_range.1 ha;rw [if_pos this]
 ·have e2:List.range' (j+1) (n-(j+1))=(List.range' j (n-(j+1))).map (·+1):=by rw [show (fun x=>x+1)=fun x=>1+x from funext fun x=>Nat.add_comm x 1,List.map_add_range',Nat.add_comm]
  rw [e2,List.flatMap_map]
  exact eG fun a ha=>by have:=(List.mem_range'_1.1 ha).1;rw [if_neg (by omega)]
theorem LY (hT:aP P T=true) {t u':TypeId} {m k:Operand} (h:z6 P T E M oc t m k=some out):aB P ⟨d,.call ⟨.builtin .delete,#[m,k],#[t,u']⟩,ty,pos,aft,gd⟩ E M out:=by
 unfold z6 at h
 split at h
 ·rename_i K Te u ak ht hm hk
  split at h
  ·rename_i mk t' c es j k' x cJ hM
   simp only [Option.some.injEq] at h;subst h
   intro D w0 K0 β F I ρ w C hv
   obtain ⟨cS,rfl,dE,iW,⟨b,hj⟩,-⟩:=hv
   obtain ⟨ym,ez,rm⟩:=C.aR hm
   obtain ⟨yk,hC,rk⟩:=C.aR hk
   have ek:=mW cJ rk
   cases rm with
   | @mv _ bb cc hb=>
    obtain ⟨H,hF,hB,hH⟩:=C.rm.at hM
    cases hB with
    | mp aE vs G hl hr=>
     rw [hb] at aE;cases aE
     have hw:=hH.one
     have hg:=mL (P:=P) hw
     obtain ⟨l,fE⟩:=cS.2 k' (by simp)
     obtain ⟨qJ,-⟩:=List.getElem?_eq_some_iff.1 hj
     have gN:vs[j]?=some vs[j]:=List.getElem?_eq_getElem (by omega)
     have DC:G j=[]:=(hr j _ _ hj gN).zZ iW
     rcases pW hl cS w with hf | ⟨j',e,v,hf,h1,-,h3⟩
     ·exact absurd rfl (hf.2 _ (List.mem_of_getElem? hj))
     ·have pc:j'=j:=by
       have a1:(es.map fun e=>e.2.1)[j']?=some k':=by rw [List.getElem?_map,h1];simp [h3]
       have a2:(es.map fun e=>e.2.1)[j]?=some k':=by rw [List.getElem?_map,hj];rfl
       exact (List.getElem?_inj (by have:=(List.getElem?_eq_some_iff.1 h1).1;simpa using this) dE).1 (a1.trans a2.symm)
      subst pc
      have hle:(es.eraseIdx j').length=es.length-1:=by rw [List.length_eraseIdx,if_pos qJ]
      have dw:bn (fun w=>K0 w∧ai w I) β u (.mp t' c (es.eraseIdx j')) ((_,.map (cV (es.eraseIdx j') (vs.eraseIdx j')).toArray c)::(List.range (es.eraseIdx j').length).flatMap fun i=>G (if i<j' then i else i+1)):=.mp hb (vs.eraseIdx j') _ (by rw [hle,List.length_eraseIdx,if_pos (by omega)];omega) (by
       intro i e y h1 h2
       rw [List.getElem?_eraseIdx] at h1 h2
       split at h1
       ·rename_i hi;rw [if_pos hi] at h2 ⊢;exact hr i e y h1 h2
       ·rename_i hi;rw [if_neg hi] at h2 ⊢;exact hr (i+1) e y h1 h2)
      rw [hle,LX qJ DC] at dw
      refine NI rfl rfl (r:=.tuple #[]) (w':=bB w _ (.map (cV (es.eraseIdx j') (vs.eraseIdx j')).toArray c)) ?_ ⟨β,_,I,C.rm.set hM hF dw,(Ext.refl β).b _,aZ.refl _,fun v hv hn=>by simp only [aL];rw [if_neg (by simpa using hn)],.d (.jk _)⟩
      rw [ez,hC,ek]
      unfold Builtin.delete_
      have hc:∀ em,(Instr.checkKey em 10000 K k'.val).run P w=.ok () w:=fun em=>cS.1.check w _ fE
      simp only [List.getElem?_toArray,List.getElem?_cons_zero,List.getElem?_cons_succ,Sem.run_bind,run_underlying (bj hT ht),Result.andThen_ok,hg,hc,hf,rD hw,MN hl qJ,Sem.run_pure]
  ·simp at h
 ·simp at h
end Go.Proofs.YtgkdnnmcjjabdaaGreat
namespace Go.Proofs.YtgkdnnmcjjabdaaGreat
open Go.RowKit
variable {P:Program} {T:aD} {E:List (Nat×AV)} {M:List af}
variable {d:Option Tmp} {ty:TypeId} {pos:String} {aft:Array Edge} {gd:Option (Nat×Bool)} {oc:Option aW} {out:Out}
def z7 (T:aD) (E:List (Nat×AV)) (M:List af) (oc:Option aW) (t:TypeId) (x ix:Operand):Option Out:=
 match bN (aC E ix),bE T t,aC E x,oc with
 | some (_,z),some (.ar n e),some (.ep u k j o),some (.n2 i _)=>(match dB T e with
  | some sz=>bif Nat.beq k sz&&Nat.beq o 0 then some (lk [z=(i:Int),i<n] (.ep u k (j+i) 0) M) else none
  | none=>none)
 | _,_,_,_=>none
theorem LZ (hT:aP P T=true) {t:TypeId} {x ix:Operand} (h:z7 T E M oc t x ix=some out):aB P ⟨d,.indexAddr t x ix,ty,pos,aft,gd⟩ E M out:=by
 unfold z7 at h
 split at h
 rotate_left
 ·simp at h
 rename_i kk z n e u k j o i _ hz ht hx
 split at h
 rotate_left
 ·simp at h
 rename_i sz hk
 cases bp:(Nat.beq k sz&&Nat.beq o 0) with
 | false=>simp [bp] at h
 | true=>
  simp only [bp,cond_true,Option.some.injEq] at h;subst h
  simp only [Bool.and_eq_true] at bp
  obtain rfl:=Nat.eq_of_beq_eq_true bp.1
  obtain rfl:=Nat.eq_of_beq_eq_true bp.2
  replace ht:=bj hT ht
  replace hk:=dV hT hk
  refine aB.same fun C bJ=>?_
  obtain ⟨rfl,hi,-⟩:=bJ
  obtain ⟨y,hy,r⟩:=C.aR hx
  cases r with
  | ep hb=>
   refine ⟨_,fun _ _=>mM ht hk hy (C.int hz) (by omega) (by omega),?_⟩
   rw [add_eq,Int.toNat_natCast,show j*k+0+i*k=(j+i)*k+0 by rw [Nat.add_mul];omega]
   exact .ep hb
theorem NY {k:Nat} {rows:List (List DV)} {X:Nat→List Value} (hl:∀ (i:Nat) r,rows[i]?=some r→r.length=k∧(X i).length=k) {R:DV→Value→Prop} (hr:∀ (i:Nat) (r:List DV) (j:Nat) c x,rows[i]?=some r→r[j]?=some c→(X i)[j]?=some x→R c x):
  (lay rows.length X).length=rows.flatten.length∧∀ (p:Nat) c x,rows.flatten[p]?=some c→(lay rows.length X)[p]?=some x→R c x:=by
 induction rows generalizing X with
 | nil=>simp [lay]
 | cons r0 rows ih=>
  have hs:lay (rows.length+1) X=X 0++lay rows.length (fun i=>X (i+1)):=by
   unfold lay
   rw [List.range_succ_eq_map,List.flatMap_cons,List.flatMap_map]
  obtain ⟨h1,h2⟩:=ih (X:=fun i=>X (i+1)) (fun i r h=>hl (i+1) r (by simpa using h)) (fun i r j c x a b e=>hr (i+1) r j c x (by simpa using a) b e)
  obtain ⟨l1,l2⟩:=hl 0 r0 rfl
  rw [List.length_cons,hs,List.flatten_cons]
  refine ⟨by rw [List.length_append,List.length_append,h1,l1,l2],fun p c x a b=>?_⟩
  rcases Nat.lt_or_ge p k with hp | hp
  ·rw [List.getElem?_append_left (by omega)] at a b
   exact hr 0 r0 p c x rfl a b
  ·rw [List.getElem?_append_right (by omega)] at a b
   rw [l1] at a;rw [l2] at b
   exact h2 _ c x a b
def AO (T:aD) (E:List (Nat×AV)) (M:List af) (oc:Option aW) (t:TypeId) (x:Operand):Option Out:=
 match aC E x,oc,ma T t with
 | some (.ep u k i o),some (.res (.ag ds)),some (.many n)=>(match M[u]? with
  | some (.rw _ k' rows)=>bif Nat.beq k k'&&Nat.beq i 0&&Nat.beq o 0&&Nat.beq n ds.length&&ds.all DV.cp&&Nat.blt 0 n then some ⟨[rows.flatten=ds],.ag (ds.map .d),M,[],[],some [u]⟩ else none
  | _=>none)
 | _,_,_=>none
theorem MO (hT:aP P T=true) {t:TypeId} {x:Operand} (h:AO T E M oc t x=some out):aB P ⟨d,.load t x,ty,pos,aft,gd⟩ E M out:=by
 unfold AO at h
 split at h
 rotate_left
 ·simp at h
 rename_i u k i o ds n hv ht
 split at h
 rotate_left
 ·simp at h
 rename_i Tt k' rows hM
 cases hk:(Nat.beq k k'&&Nat.beq i 0&&Nat.beq o 0&&Nat.beq n ds.length&&ds.all DV.cp&&Nat.blt 0 n) with
 | false=>simp [hk] at h
 | true=>
  simp only [hk,cond_true,Option.some.injEq] at h;subst h
  simp only [Bool.and_eq_true,Nat.blt_eq] at hk
  obtain ⟨⟨⟨⟨⟨hk,hi⟩,ho⟩,hn⟩,iW⟩,xR⟩:=hk
  obtain rfl:=Nat.eq_of_beq_eq_true hk
  obtain rfl:=Nat.eq_of_beq_eq_true hi
  obtain rfl:=Nat.eq_of_beq_eq_true ho
  obtain rfl:=Nat.eq_of_beq_eq_true hn
  refine aB.look ?_ (by simpa using cT hM)
  intro D w0 K0 β F I ρ w C bJ
  obtain ⟨rfl,-⟩:=bJ
  obtain ⟨y,hy,r⟩:=C.aR hv
  cases r with
  | ep hb=>
   obtain ⟨H,hF,hB,hH⟩:=C.rm.at hM
   cases hB with
   | rw aE X G hl hs hr=>
    rw [hb] at aE;cases aE
    obtain ⟨f1,f2⟩:=NY (R:=fun c x=>c.cp=true→bw (fun w=>K0 w∧ai w I) c x []) hl (fun i r j c x a b e hc=>(hr i r j c x a b e).cp hc)
    have iD:0<rows.length:=by
     rcases Nat.eq_zero_or_pos rows.length with h0 | h0
     ·rw [List.length_eq_zero_iff.1 h0] at xR;simp at xR
     ·exact h0
    obtain ⟨b',cap,cs,fz,he,rfl,et,cd,Dg,kg⟩:=hs.block iD
    cases he
    refine ⟨.agg (lay rows.length X).toArray,.ag _ (by rw [List.length_map];exact f1) (fun j c z h1 h2=>?_),fun w' tC=>Fk (lay rows.length X) (by rw [f1];exact zb hT ht) hy (fun j hj=>?_)⟩
    ·simp only [List.getElem?_map,Option.map_eq_some_iff] at h1
     obtain ⟨c',h1,rfl⟩:=h1
     exact .d (f2 j c' z h1 h2 (List.all_eq_true.1 iW c' (List.mem_of_getElem? h1)))
    ·have c8:ai w' _:=tC.2 u (by simp)
     rw [hF] at c8
     have hw:=(ai.app.1 c8).1.one
     rw [add_eq,cell_of hw,Nat.zero_mul,Nat.zero_add]
     try rw [Nat.zero_add]
     have e1:(lay rows.length X)[j]?=some (lay rows.length X)[j]:=List.getElem?_eq_getElem hj
     rw [← e1,← kg,List.getElem?_take,if_pos,Array.getElem?_toList]
     have cI:(lay rows.length X).length=rows.length*k:=dA fun a ha=>(hl a _ (List.getElem?_eq_getElem ha)).2
     omega
def tR:List AV→Option (List DV)
 | []=>some []
 | .d x::r=>(match tR r with | some l=>some (x::l) | none=>none)
 | _=>none
theorem Ij:∀ {l:List AV} {ds:List DV},tR l=some ds→l=ds.map .d
 | [],ds,h=>by simp only [tR,Option.some.injEq] at h;subst h;rfl
 | c::r,ds,h=>by
  unfold tR at h
  split at h
  ·simp_all
  ·rename_i x r' heq
   simp only [List.cons.injEq] at heq
   obtain ⟨rfl,rfl⟩:=heq
   split at h
   ·rename_i l hl
    simp only [Option.some.injEq] at h;subst h
    rw [Ij hl];rfl
   ·cases h
  ·cases h
def Bx (T:aD) (E:List (Nat×AV)) (M:List af) (oc:Option aW) (t:TypeId) (x ix:Operand):Option Out:=
 match bE T t,aC E x,bN (aC E ix),oc with
 | some (.ar n e),some (.ag l),some (_,z),some (.ix i row)=>(match dB T e,ma T e,tR l with
  | some k,some (.many k'),some ds=>bif Nat.beq k k'&&Nat.beq row.length k&&Nat.blt 0 k then some (lk [z=(i:Int),i<n,(ds.drop (i*k)).take k=row] (.ag (row.map .d)) M) else none
  | _,_,_=>none)
 | _,_,_,_=>none
theorem NZ (hT:aP P T=true) {t:TypeId} {x ix:Operand} (h:Bx T E M oc t x ix=some out):aB P ⟨d,.index t x ix,ty,pos,aft,gd⟩ E M out:=by
 unfold Bx at h
 split at h
 rotate_left
 ·simp at h
 rename_i n e l _ z i row hu hx hz
 split at h
 rotate_left
 ·simp at h
 rename_i k k' ds hk e8 DD
 cases hc:(Nat.beq k k'&&Nat.beq row.length k&&Nat.blt 0 k) with
 | false=>simp [hc] at h
 | true=>
  simp only [hc,cond_true,Option.some.injEq] at h;subst h
  simp only [Bool.and_eq_true,Nat.blt_eq] at hc
  obtain ⟨⟨bp,Uv⟩,Uw⟩:=hc
  obtain rfl:=Nat.eq_of_beq_eq_true bp
  have iD:=Nat.eq_of_beq_eq_true Uv
  obtain rfl:=Ij DD
  have aX:∀ w:World,(sizeOf e).run P w=.ok k w:=fun w=>by
   have:=dV hT hk
   cases hi:P.info? e with
   | none=>simp [hi] at this
   | some inf=>simp only [hi,Option.map_some,Option.some.injEq] at this;simp [sizeOf,typeInfo,Sem.run_bind,hi,this]
  refine aB.same ?_
  intro D w0 K0 β F I ρ w C hv
  obtain ⟨rfl,aH,bu,-⟩:=hv
  have r:=C.ev hx
  have hi:=C.int hz
  have hp:nG T e (ds.map AV.d) (i*k)=some (.ag (row.map .d)):=by
   have hle:i*k+k≤(ds.map AV.d).length:=by
    have:=congrArg List.length bu
    rw [List.length_take,List.length_drop,iD] at this
    rw [List.length_map];omega
   simp only [nG,iB,e8,wV,Nat.ble_eq_true_of_le hle,cond_true,← bu,List.map_take,List.map_drop]
  generalize hy:ρ x=y at r
  cases r with
  | ag ys hl hr=>
   obtain ⟨y,h1,h2⟩:=v5 hT hp hl hr
   refine ⟨y,fun w' _=>?_,h1⟩
   have c9:=bj hT hu
   have hc:(0:Int)≤(i:Int)∧(i:Int)<(n:Int):=by omega
   simp only [execOp,hy,hi,Instr.index,asIntOf,Sem.run_bind,Sem.run_pure,run_underlying c9,Result.andThen_ok]
   rw [if_pos hc]
   simp only [Sem.run_bind,aX,Result.andThen_ok,Int.toNat_natCast,h2,Sem.run_pure]
end Go.Proofs.YtgkdnnmcjjabdaaGreat
namespace Go.Proofs.YtgkdnnmcjjabdaaGreat
open Go.RowKit
variable {P:Program} {T:aD} {E:List (Nat×AV)} {M:List af}
variable {d:Option Tmp} {ty:TypeId} {pos:String} {aft:Array Edge} {gd:Option (Nat×Bool)} {oc:Option aW} {out:Out}
theorem Q5 {y:Nat} {code:BoundsCode} {w:World}:(Instr.sliceBound (.int .i64 0) y code).run P w=.ok 0 w:=fI (v:=0) (Nat.zero_le y)
theorem Gp {K:World→Prop} (k:Nat) (a:Option Addr) (c:Nat):bw K (.ro k []) (.slice a 0 c) []:=
 .ro (fun _=>[]) (by simp) ⟨a,c,rfl,Nat.zero_le _⟩ (fun w _=>⟨by simp [lay],Or.inl ⟨rfl,a,c,rfl⟩⟩) (by simp)
def Cz (T:aD) (E:List (Nat×AV)) (M:List af) (oc:Option aW) (t:TypeId) (x:Operand) (lo hi mx:Option Operand):Option Out:=
 match bE T t,aC E x,oc with
 | some (.sl e),some (.sl u n),some o=>(match dB T e,M[u]? with
  | some k,some (.rw _ k' rows)=>(match lo,hi,mx,o with
   | none,some h,none,.n2 c _=>(match bN (aC E h) with
    | some (.i64,z)=>bif k.beq k' then some ⟨[z=(c:Int),0<c,c≤n,n=rows.length],.sb u k 0 c,M,[],[],some []⟩ else none
    | _=>none)
   | none,some h,none,.res (.ro k2 [])=>(match bN (aC E h) with
    | some (.i64,z)=>some ⟨[z=0,n=rows.length],.d (.ro k2 []),M,[],[],some []⟩
    | _=>none)
   | some l,none,none,.res (.ro k2 [])=>(match bN (aC E l) with
    | some (.i64,z)=>some ⟨[z=(n:Int),n=rows.length],.d (.ro k2 []),M,[],[],some []⟩
    | _=>none)
   | _,_,_,_=>none)
  | _,_=>none)
 | _,_,_=>none
theorem Py (hT:aP P T=true) {t:TypeId} {x:Operand} {lo hi mx:Option Operand} (h:Cz T E M oc t x lo hi mx=some out):aB P ⟨d,.slice t x lo hi mx,ty,pos,aft,gd⟩ E M out:=by
 unfold Cz at h
 split at h
 rotate_left
 ·simp at h
 rename_i e u n o ht hx
 split at h
 rotate_left
 ·simp at h
 rename_i k Te k' rows hk hM
 replace ht:=bj hT ht
 replace hk:=dV hT hk
 have IY:∀ {D:List Nat} {w0:World} {K0:World→Prop} {β:Beta} {F:Nat→ah} {I:ah} {ρ:Operand→Value} {w:World} {a:Option Addr} {cc:Nat},Ctx D w0 K0 E M β F I ρ w→β[u]?=some (a,cc)→n=rows.length→n≤cc∧(0<n→∃ b,a=some ⟨b,0,none⟩):=by
  intro D w0 K0 β F I ρ w a cc C hb hn
  obtain ⟨H,hF,hB,hH⟩:=C.rm.at hM
  cases hB with
  | rw aE X G hl hs hr=>
   rw [hb] at aE;cases aE
   rcases hs.2 with ⟨h0,-,a,hq⟩ | ⟨b',cap,cs,fz,hq,-,-,-,ch,-⟩
   ·exact ⟨by omega,fun h=>by omega⟩
   ·simp only [Value.slice.injEq] at hq;exact ⟨by omega,fun _=>⟨b',hq.1⟩⟩
 split at h
 ·rename_i hh c _
  split at h
  rotate_left
  ·simp at h
  rename_i z hz
  cases bp:k.beq k' with
  | false=>simp [bp] at h
  | true=>
   simp only [bp,cond_true,Option.some.injEq] at h;subst h
   refine aB.look ?_ (by simp)
   intro D w0 K0 β F I ρ w C hv
   obtain ⟨rfl,h0,hc,hn,-⟩:=hv
   obtain ⟨y,hy,r⟩:=C.aR hx
   cases r with
   | @sl _ _ cc a hb=>
    obtain ⟨h1,h2⟩:=IY C hb hn
    obtain ⟨b',rfl⟩:=h2 (by omega)
    refine ⟨_,aq.sb (k:=k) (o:=0) (n:=c) (c':=cc) hb,fun w' _=>?_⟩
    have:=kE (P:=P) (w:=w') (a:=some ⟨b',0,none⟩) ht hk (n:=n) (c:=cc) (l:=0) (h:=c) (m:=cc) (vl:=none) (vh:=some (.int .i64 c)) (vm:=none) (by simp [Instr.sliceBounds,fI (show c≤cc by omega)])
    rw [if_neg (by omega)] at this
    simp only [execOp,hy,C.int hz,Option.map_some,Option.map_none,Sem.run_bind,this,Result.andThen_ok,Sem.run_pure,add_eq,Nat.zero_add,Nat.sub_zero]
 ·rename_i hh k2
  split at h
  rotate_left
  ·simp at h
  rename_i z hz
  simp only [Option.some.injEq] at h;subst h
  refine aB.look ?_ (by simp)
  intro D w0 K0 β F I ρ w C hv
  obtain ⟨rfl,hn,-⟩:=hv
  obtain ⟨y,hy,r⟩:=C.aR hx
  cases r with
  | @sl _ _ cc a hb=>
   have:=fun w'=>kE (P:=P) (w:=w') (a:=a) ht hk (n:=n) (c:=cc) (l:=0) (h:=0) (m:=cc) (vl:=none) (vh:=some (.int .i64 0)) (vm:=none) (by simp [Instr.sliceBounds,Q5])
   refine ⟨_,.d (Gp k2 _ _),fun w' _=>by simp only [execOp,hy,C.int hz,Option.map_some,Option.map_none,Sem.run_bind,this,Result.andThen_ok,Sem.run_pure,Nat.sub_self];rfl⟩
 ·rename_i l k2
  split at h
  rotate_left
  ·simp at h
  rename_i z hz
  simp only [Option.some.injEq] at h;subst h
  refine aB.look ?_ (by simp)
  intro D w0 K0 β F I ρ w C hv
  obtain ⟨rfl,hn,-⟩:=hv
  obtain ⟨y,hy,r⟩:=C.aR hx
  cases r with
  | @sl _ _ cc a hb=>
   obtain ⟨h1,-⟩:=IY C hb hn
   have:=fun w'=>kE (P:=P) (w:=w') (a:=a) ht hk (n:=n) (c:=cc) (l:=n) (h:=n) (m:=cc) (vl:=some (.int .i64 n)) (vh:=none) (vm:=none) (by simp [Instr.sliceBounds,fI (Nat.le_refl n)])
   refine ⟨_,.d (Gp k2 _ _),fun w' _=>by simp only [execOp,hy,C.int hz,Option.map_some,Option.map_none,Sem.run_bind,this,Result.andThen_ok,Sem.run_pure,Nat.sub_self];rfl⟩
 ·simp at h
def Ux (rows:List (List DV)):Prop:=∀ r ∈ rows,∀ c ∈ r,c.cp=true
theorem N0 {Te k N o m cc c':Nat} {a:Option Addr} {X:Nat→List Value} {H:ah} {w:World} (hs:dI Te k (.slice a N cc) N (lay N X) H) (hw:ai w H) (hX:∀ i,i<N→(X i).length=k) (h:o+m≤N) {b:Nat} (ha:a=some ⟨b,0,none⟩):
  Src w k (.slice (some ⟨b,o*k,none⟩) m c') m (lay m fun i=>X (o+i)):=by
 subst ha
 refine ⟨dA fun i hi=>hX (o+i) (by omega),?_⟩
 rcases Nat.eq_zero_or_pos m with rfl | hm
 ·exact Or.inl ⟨rfl,_,_,rfl⟩
 obtain ⟨b',cap,cs,fz,he,rfl,et,cd,ch,kg⟩:=hs.block (by omega)
 simp only [Value.slice.injEq,Option.some.injEq,Addr.mk.injEq] at he
 obtain ⟨⟨rfl,-⟩,-⟩:=he
 refine Or.inr ⟨_,_,rfl,fun j hj=>?_⟩
 have cI:(lay m fun i=>X (o+i)).length=m*k:=dA fun i hi=>hX (o+i) (by omega)
 have e1:lay m (fun i=>X (o+i))=((lay N X).drop (o*k)).take (m*k):=by
  rw [← vj (n:=N) (c:=o) hX (by omega)]
  exact ob (n:=N-o) (c:=m) (X:=fun i=>X (o+i)) (fun i hi=>hX (o+i) (by omega)) (by omega)
 have cJ:(o+m)*k≤N*k:=Nat.mul_le_mul_right k h
 rw [Nat.add_mul] at cJ
 rw [add_eq,cell_of hw.one]
 have e2:(lay m fun i=>X (o+i))[j]?=some (lay m fun i=>X (o+i))[j]:=List.getElem?_eq_getElem hj
 rw [← e2,e1,List.getElem?_take,if_pos (by omega),List.getElem?_drop,← kg,List.getElem?_take,if_pos (by omega),Array.getElem?_toList]
theorem vI {K:World→Prop} {k n c o c':Nat} {a:Option Addr} {rows:List (List DV)} (h:bw K (.ro k rows) (.slice a n c) []) (ho:o≤c') (hc:c'≤rows.length):bw K (.ro k ((rows.take c').drop o)) (.slice (if c=o then a else a.map (·.add (o*k))) (c'-o) (c-o)) []:=by
 cases h with
 | ro X hl hy hs hr=>
  obtain ⟨a',Um,e,ch⟩:=hy
  simp only [Value.slice.injEq] at e;obtain ⟨rfl,rfl,rfl⟩:=e
  have hX:∀ i,i<rows.length→(X i).length=k:=fun i hi=>(hl i _ (List.getElem?_eq_getElem hi)).2
  have hlen:((rows.take c').drop o).length=c'-o:=by simp;omega
  have eD:∀ (i:Nat) r,((rows.take c').drop o)[i]?=some r→rows[o+i]?=some r:=fun i r hi=>by
   rw [List.getElem?_drop,List.getElem?_take] at hi
   split at hi
   ·exact hi
   ·cases hi
  refine .ro (fun i=>X (o+i)) (fun i r hi=>hl (o+i) r (eD i r hi)) ⟨_,_,by rw [hlen],by rw [hlen];omega⟩ (fun w hw=>?_) fun i r j x y h1 h2 h3=>hr (o+i) r j x y (eD i r h1) h2 h3
  rw [hlen]
  refine ⟨dA fun i hi=>hX (o+i) (by omega),?_⟩
  rcases Nat.eq_zero_or_pos (c'-o) with h0 | hm
  ·exact Or.inl ⟨h0,_,_,by rw [h0]⟩
  rcases (hs w hw).2 with ⟨h0,-⟩ | ⟨a0,c0,e,qn⟩
  ·omega
  simp only [Value.slice.injEq] at e;obtain ⟨rfl,-,rfl⟩:=e
  refine Or.inr ⟨a0.add (o*k),_,by rw [if_neg (by omega)];rfl,fun j hj=>?_⟩
  have cI:(lay (c'-o) fun i=>X (o+i)).length=(c'-o)*k:=dA fun i hi=>hX (o+i) (by omega)
  have e1:lay (c'-o) (fun i=>X (o+i))=((lay rows.length X).drop (o*k)).take ((c'-o)*k):=by
   rw [← vj (n:=rows.length) (c:=o) hX (by omega)]
   exact ob (n:=rows.length-o) (c:=c'-o) (X:=fun i=>X (o+i)) (fun i hi=>hX (o+i) (by omega)) (by omega)
  have cJ:(o+(c'-o))*k≤rows.length*k:=Nat.mul_le_mul_right k (by omega)
  rw [Nat.add_mul] at cJ
  have hN:(lay rows.length X).length=rows.length*k:=dA hX
  have nN:o*k+j<(lay rows.length X).length:=by omega
  rw [Addr.n9,qn (o*k+j) nN,← List.getElem?_eq_getElem nN,← List.getElem?_eq_getElem hj,e1,List.getElem?_take,if_pos (by omega),List.getElem?_drop]
def s4 (T:aD) (E:List (Nat×AV)) (M:List af) (oc:Option aW) (t:TypeId) (x:Operand) (lo hi mx:Option Operand):Option Out:=
 match bE T t,aC E x,oc with
 | some (.sl e),some (.d (.ro k' rows)),some (.n2 c o)=>(match dB T e with
  | some k=>(match lo,hi,mx with
   | none,some h,none=>(match bN (aC E h) with
    | some (.i64,z)=>bif k.beq k' then some ⟨[z=(c:Int),c≤rows.length],.d (.ro k (rows.take c)),M,[],[],some []⟩ else none
    | _=>none)
   | none,some h,some m=>(match bN (aC E h),bN (aC E m) with
    | some (.i64,z),some (.i64,z')=>bif k.beq k' then some ⟨[z=(c:Int),z'=(c:Int),c≤rows.length],.d (.ro k (rows.take c)),M,[],[],some []⟩ else none
    | _,_=>none)
   | some l,none,none=>(match bN (aC E l) with
    | some (.i64,z)=>bif k.beq k' then some ⟨[z=(o:Int),o≤rows.length],.d (.ro k (rows.drop o)),M,[],[],some []⟩ else none
    | _=>none)
   | some l,some h,none=>(match bN (aC E l),bN (aC E h) with
    | some (.i64,z),some (.i64,z')=>bif k.beq k' then some ⟨[z=(o:Int),z'=(c:Int),o≤c,c≤rows.length],.d (.ro k ((rows.take c).drop o)),M,[],[],some []⟩ else none
    | _,_=>none)
   | _,_,_=>none)
  | _=>none)
 | _,_,_=>none
theorem Hr (hT:aP P T=true) {t:TypeId} {x:Operand} {lo hi mx:Option Operand} (h:s4 T E M oc t x lo hi mx=some out):aB P ⟨d,.slice t x lo hi mx,ty,pos,aft,gd⟩ E M out:=by
 unfold s4 at h
 split at h
 rotate_left
 ·simp at h
 rename_i e k' rows c o ht hx
 split at h
 rotate_left
 ·simp at h
 rename_i k hk
 replace ht:=bj hT ht
 replace hk:=dV hT hk
 split at h
 ·rename_i hh
  split at h
  rotate_left
  ·simp at h
  rename_i z hz
  cases bp:k.beq k' with
  | false=>simp [bp] at h
  | true=>
   simp only [bp,cond_true,Option.some.injEq] at h;subst h
   obtain rfl:=Nat.eq_of_beq_eq_true bp
   refine aB.look ?_ (by simp)
   intro D w0 K0 β F I ρ w C hv
   obtain ⟨rfl,hc,-⟩:=hv
   obtain ⟨y,hy,r⟩:=C.aR hx
   cases r with | d r=>
   obtain ⟨a,n,cc,rfl,hle,ch⟩:∃ a n cc,y=.slice a n cc∧n=rows.length∧rows.length≤cc:=by
    cases r with | ro X hl ki hs hr=>obtain ⟨a,cc,rfl,h2⟩:=ki;exact ⟨_,_,_,rfl,rfl,h2⟩
   subst hle
   have p:=vI r (o:=0) (c':=c) (Nat.zero_le _) hc
   rw [List.drop_zero] at p
   refine ⟨_,.d p,fun w' _=>?_⟩
   have:=kE (P:=P) (w:=w') (a:=a) ht hk (n:=rows.length) (c:=cc) (l:=0) (h:=c) (m:=cc) (vl:=none) (vh:=some (.int .i64 c)) (vm:=none) (by simp [Instr.sliceBounds,fI (show c≤cc by omega)])
   simp only [execOp,hy,C.int hz,Option.map_some,Option.map_none,Sem.run_bind,this,Result.andThen_ok,Sem.run_pure]
 ·rename_i hh mm
  split at h
  rotate_left
  ·simp at h
  rename_i z z' hz fD
  cases bp:k.beq k' with
  | false=>simp [bp] at h
  | true=>
   simp only [bp,cond_true,Option.some.injEq] at h;subst h
   obtain rfl:=Nat.eq_of_beq_eq_true bp
   refine aB.look ?_ (by simp)
   intro D w0 K0 β F I ρ w C hv
   obtain ⟨rfl,rfl,hc,-⟩:=hv
   obtain ⟨y,hy,r⟩:=C.aR hx
   cases r with | d r=>
   obtain ⟨a,n,cc,rfl,hle,ch⟩:∃ a n cc,y=.slice a n cc∧n=rows.length∧rows.length≤cc:=by
    cases r with | ro X hl ki hs hr=>obtain ⟨a,cc,rfl,h2⟩:=ki;exact ⟨_,_,_,rfl,rfl,h2⟩
   subst hle
   have p:=vI r (o:=0) (c':=c) (Nat.zero_le _) hc
   rw [List.drop_zero] at p
   have hb:∀ q:Nat,(if q=0 then a else a.map (·.add (0*k)))=a:=by
    intro q
    rw [Nat.zero_mul]
    split
    ·rfl
    ·cases a with
     | none=>rfl
     | some a=>simp [add_zero']
   rw [hb cc] at p
   refine ⟨_,.d (p.cap (c':=c-0) (Nat.le_refl _)),fun w' _=>?_⟩
   have:=kE (P:=P) (w:=w') (a:=a) ht hk (n:=rows.length) (c:=cc) (l:=0) (h:=c) (m:=c) (vl:=none) (vh:=some (.int .i64 c)) (vm:=some (.int .i64 c)) (by simp [Instr.sliceBounds,fI (show c≤cc by omega),fI (Nat.le_refl c)])
   rw [hb c] at this
   simp only [execOp,hy,C.int hz,C.int fD,Option.map_some,Option.map_none,Sem.run_bind,this,Result.andThen_ok,Sem.run_pure]
 ·rename_i l
  split at h
  rotate_left
  ·simp at h
  rename_i z hz
  cases bp:k.beq k' with
  | false=>simp [bp] at h
  | true=>
   simp only [bp,cond_true,Option.some.injEq] at h;subst h
   obtain rfl:=Nat.eq_of_beq_eq_true bp
   refine aB.look ?_ (by simp)
   intro D w0 K0 β F I ρ w C hv
   obtain ⟨rfl,hc,-⟩:=hv
   obtain ⟨y,hy,r⟩:=C.aR hx
   cases r with | d r=>
   obtain ⟨a,n,cc,rfl,hle,ch⟩:∃ a n cc,y=.slice a n cc∧n=rows.length∧rows.length≤cc:=by
    cases r with | ro X hl ki hs hr=>obtain ⟨a,cc,rfl,h2⟩:=ki;exact ⟨_,_,_,rfl,rfl,h2⟩
   subst hle
   have p:=vI r (o:=o) (c':=rows.length) hc (Nat.le_refl _)
   rw [List.take_length] at p
   refine ⟨_,.d p,fun w' _=>?_⟩
   have:=kE (P:=P) (w:=w') (a:=a) ht hk (n:=rows.length) (c:=cc) (l:=o) (h:=rows.length) (m:=cc) (vl:=some (.int .i64 o)) (vh:=none) (vm:=none) (by simp [Instr.sliceBounds,fI hc])
   simp only [execOp,hy,C.int hz,Option.map_some,Option.map_none,Sem.run_bind,this,Result.andThen_ok,Sem.run_pure]
 ·rename_i l hh
  split at h
  rotate_left
  ·simp at h
  rename_i z z' hz fD
  cases bp:k.beq k' with
  | false=>simp [bp] at h
  | true=>
   simp only [bp,cond_true,Option.some.injEq] at h;subst h
   obtain rfl:=Nat.eq_of_beq_eq_true bp
   refine aB.look ?_ (by simp)
   intro D w0 K0 β F I ρ w C hv
   obtain ⟨rfl,rfl,ho,hc,-⟩:=hv
   obtain ⟨y,hy,r⟩:=C.aR hx
   cases r with | d r=>
   obtain ⟨a,n,cc,rfl,hle,ch⟩:∃ a n cc,y=.slice a n cc∧n=rows.length∧rows.length≤cc:=by
    cases r with | ro X hl ki hs hr=>obtain ⟨a,cc,rfl,h2⟩:=ki;exact ⟨_,_,_,rfl,rfl,h2⟩
   subst hle
   have p:=vI r (o:=o) (c':=c) ho hc
   refine ⟨_,.d p,fun w' _=>?_⟩
   have:=kE (P:=P) (w:=w') (a:=a) ht hk (n:=rows.length) (c:=cc) (l:=o) (h:=c) (m:=cc) (vl:=some (.int .i64 o)) (vh:=some (.int .i64 c)) (vm:=none) (by simp [Instr.sliceBounds,fI (show c≤cc by omega),fI ho])
   simp only [execOp,hy,C.int hz,C.int fD,Option.map_some,Option.map_none,Sem.run_bind,this,Result.andThen_ok,Sem.run_pure]
 ·simp at h
def By (T:aD) (E:List (Nat×AV)) (M:List af) (st xt:TypeId) (x y:Operand):Option Out:=
 match eL T st,bE T xt,aC E x,aC E y with
 | some (e,k,b,_),some (.sl e'),some vx,some (.sb v k2 o m)=>bif e.beq e'&&k.beq k2 then (match oP M e k vx,M[v]? with
  | some (some u,n,rows),some (.rw _ k3 jX)=>bif k.beq k3&&!(u.beq v) then some ⟨[n=rows.length,o+m≤jX.length,Ux jX]++sW n m b ((jX.drop o).take m),.sl u (n+m),(M.map (ga [u])).set u (.rw e k (rows++(jX.drop o).take m)),[u],[u],none⟩ else none
  | _,_=>none) else none
 | _,_,_,_=>none
theorem N1 (hT:aP P T=true) {st xt:TypeId} {x y:Operand} (h:By T E M st xt x y=some out):aB P ⟨d,.call ⟨.builtin .append,#[x,y],#[st,xt]⟩,ty,pos,aft,gd⟩ E M out:=by
 unfold By at h
 split at h
 rotate_left
 ·simp at h
 rename_i e k b z e' vx v k2 o m he hu hx hy
 cases jA:(e.beq e'&&k.beq k2) with
 | false=>simp [jA] at h
 | true=>
  simp only [jA,cond_true] at h
  simp only [Bool.and_eq_true] at jA
  obtain rfl:=Nat.eq_of_beq_eq_true jA.1
  obtain rfl:=Nat.eq_of_beq_eq_true jA.2
  split at h
  rotate_left
  ·simp at h
  rename_i u n rows Tv k3 jX hd Kb
  cases bp:(k.beq k3&&!(u.beq v)) with
  | false=>simp [bp] at h
  | true=>
   simp only [bp,cond_true,Option.some.injEq] at h;subst h
   simp only [Bool.and_eq_true,Bool.not_eq_true'] at bp
   obtain rfl:=Nat.eq_of_beq_eq_true bp.1
   have dD:v≠u:=fun e=>by rw [e] at bp;simp at bp
   obtain ⟨rfl,hM⟩:=uQ hd
   intro D w0 K0 β F I ρ w C hv
   obtain ⟨hn,ho,iW,h1,h2,h3,-⟩:=hv
   obtain ⟨X1,G1,H0,hF,cn,a1,-⟩:=lz C.rm hM hn (C.ev hx)
   obtain ⟨y',ki,ry⟩:=C.aR hy
   cases ry with
   | @sb _ _ _ _ bb cc c' tL=>
    obtain ⟨Hv,Wa,Uy,Uz⟩:=C.rm.at Kb
    cases Uy with
    | rw aE X G hl hs hr=>
     rw [tL] at aE;cases aE
     have hX:∀ i,i<jX.length→(X i).length=k:=fun i hi=>(hl i _ (List.getElem?_eq_getElem hi)).2
     have dL:=N0 (c':=c') hs (ai.app.1 Uz).1 hX ho rfl
     have xS:m=((jX.drop o).take m).length:=by simp;omega
     have eD:∀ (i:Nat) r,((jX.drop o).take m)[i]?=some r→jX[o+i]?=some r∧r ∈ jX:=fun i r hi=>by
      rw [List.getElem?_take,List.getElem?_drop] at hi
      split at hi
      ·exact ⟨hi,List.mem_of_getElem? hi⟩
      ·simp at hi
     have a2:dt (fun w=>K0 w∧ai w I) k ((jX.drop o).take m) (fun i=>X (o+i)) (fun _ _=>[]):=⟨fun i r hi=>hl (o+i) r (eD i r hi).1,fun i r j c x h4 h5 h6=>(hr (o+i) r j c x (eD i r h4).1 h5 h6).cp (iW r (eD i r h4).2 c (List.mem_of_getElem? h5))⟩
     have R1:=C.rm.x.dX hM
     rw [hF,List.nil_append] at R1
     have aH:u<(M.set u .dead).length:=by rw [List.length_set];exact cT hM
     refine (vE hT he rfl ki (R1.perm (Y:=(H0++bq n k G1)++[]) (by rw [List.append_nil])) aH (by simp [aL]) cn hn xS a1 rfl a2 (by rw [jI]) (dL.app (bj hT hu)) h1 h2 h3).mono ?_
     rintro v' w' ⟨β',F',R',hE,iC,fU⟩
     rw [uE] at R'
     exact ⟨β',F',I,R',hE,aZ.refl _,fun q _ hq=>by have mh:q≠u:=(by simpa using hq);rw [iC q mh];simp only [aL];rw [if_neg mh],fU⟩
end Go.Proofs.YtgkdnnmcjjabdaaGreat
namespace Go.Proofs.YtgkdnnmcjjabdaaGreat
open Go.RowKit
variable {P:Program} {T:aD} {D:List Nat} {w0:World} {K0:World→Prop} {E:List (Nat×AV)} {M:List af} {β:Beta} {F:Nat→ah} {I X:ah} {ρ:Operand→Value} {w:World}
variable {d:Option Tmp} {ty:TypeId} {pos:String} {aft:Array Edge} {gd:Option (Nat×Bool)} {oc:Option aW} {out:Out}
def z8 (T:aD) (E:List (Nat×AV)) (M:List af) (oc:Option aW) (t:TypeId) (x ix:Operand):Option Out:=
 match bE T t,aC E x,bN (aC E ix),oc with
 | some (.sl e),some (.d (.v (.slice a n _))),some (_,z),some (.n2 i v)=>(match dB T e,M[v]? with
  | some k,some (.tw a' _ _ k' rows)=>bif k.beq k' then some ⟨[z=(i:Int),a=a',i<n,n=rows.length],.ep v k i 0,M,[],[],some []⟩ else none
  | _,_=>none)
 | _,_,_,_=>none
theorem L0 (hT:aP P T=true) {t:TypeId} {x ix:Operand} (h:z8 T E M oc t x ix=some out):aB P ⟨d,.indexAddr t x ix,ty,pos,aft,gd⟩ E M out:=by
 unfold z8 at h
 split at h
 rotate_left
 ·simp at h
 rename_i e a n ca kk z i v ht hv hz
 replace ht:=bj hT ht
 split at h
 rotate_left
 ·simp at h
 rename_i k a' c' T' k' rows hk hM
 replace hk:=dV hT hk
 cases bp:k.beq k' with
 | false=>simp [bp] at h
 | true=>
  simp only [bp,cond_true,Option.some.injEq] at h;subst h
  obtain rfl:=Nat.eq_of_beq_eq_true bp
  refine aB.look (fun C bJ=>?_) (by simp)
  obtain ⟨rfl,rfl,hi,JX,-⟩:=bJ
  obtain ⟨y,hy,r⟩:=C.aR hv
  cases r with | d r=>
  cases r with | v=>
  obtain ⟨H,-,hB,-⟩:=C.rm.at hM
  cases hB with
  | tw hb X G hl hs hr=>
   obtain ⟨b',cap,cs,fz,he,-⟩:=hs.block (by omega)
   cases he
   exact ⟨_,by rw [add_eq];simpa using aq.ep (k:=k) (i:=i) (o:=0) hb,fun _ _=>rO ht hk hy (C.int hz) (by omega) (by omega)⟩
def z9 (T:aD) (E:List (Nat×AV)) (M:List af) (oc:Option aW) (t:TypeId) (x y:Operand):Option Out:=
 match aC E x,aC E y,dB T t,oc with
 | some (.ep u k i o),some v,some n,some (.ix _ row)=>(match mV v with
  | some l=>(match jU M l with
   | some (vc,xs,M')=>(match M'[u]? with
    | some (.tw a c e k' rows)=>bif k.beq k'&&l.length.beq n&&(o+n).ble k then some ⟨(rows[i]?=some row)::vc,.d .jk,M'.set u (.tw a c e k (rows.set i (row.take o++(xs++row.drop (o+xs.length))))),u::qI l,[],none⟩ else none
    | _=>none)
   | none=>none)
  | none=>none)
 | _,_,_,_=>none
theorem L2 (hT:aP P T=true) {t:TypeId} {x y:Operand} (h:z9 T E M oc t x y=some out):aB P ⟨d,.store t x y,ty,pos,aft,gd⟩ E M out:=by
 unfold z9 at h
 split at h
 rotate_left
 ·simp at h
 rename_i u k i o v n i0 row hx hy hn
 split at h
 rotate_left
 ·simp at h
 rename_i l hl
 split at h
 rotate_left
 ·simp at h
 rename_i vc xs M' hp
 split at h
 rotate_left
 ·simp at h
 rename_i aa ca e k' rows hM
 cases hc:(k.beq k'&&l.length.beq n&&(o+n).ble k) with
 | false=>simp [hc] at h
 | true=>
  simp only [hc,cond_true,Option.some.injEq] at h;subst h
  simp only [Bool.and_eq_true] at hc
  obtain rfl:=Nat.eq_of_beq_eq_true hc.1.1
  have mc:=Nat.eq_of_beq_eq_true hc.1.2
  have hle:=Nat.le_of_ble_eq_true hc.2
  intro D w0 K0 β F I ρ w C hv
  obtain ⟨bu,hv⟩:=hv
  obtain ⟨yx,da,rx⟩:=C.aR hx
  obtain ⟨yy,eS,ry⟩:=C.aR hy
  obtain ⟨zs,h1,h2,h3,h4⟩:=pE hl ry
  obtain ⟨lM,F',Hp,R',dd,nH⟩:=vF C.rm.x hp hv (ys:=zs) h2 h3
  rw [List.nil_append] at R'
  cases rx with
  | @ep _ _ _ _ b0 c0 hb=>
   have aH:u<M'.length:=cT hM
   have hB:=R'.blk u _ hM
   have hH:=R'.jm hM
   have R1:=R'.dX hM
   have dl:=dd.len
   obtain ⟨Gx,Dt,tK⟩:=dd.to
   generalize mj:F' u=Fu at hB hH R1
   cases hB with
   | tw aE X G cM hs hr=>
    rw [hb] at aE;cases aE
    obtain ⟨hi,-⟩:=List.getElem?_eq_some_iff.1 bu
    obtain ⟨b',cap,cs,fz,he,rfl,et,cd,ch,ht⟩:=hs.block (by omega)
    cases he
    have hw:=(ai.app.1 hH).1.one
    have hX:∀ a,a<rows.length→(X a).length=k:=fun a ha=>(cM a _ (List.getElem?_eq_getElem ha)).2
    have Ds:i*k+k≤rows.length*k:=by have:=Nat.mul_le_mul_right k (show i+1≤rows.length from hi);rw [Nat.succ_mul] at this;exact this
    have aX:rows.length*k≤cs.size:=by rw [cd];exact Nat.mul_le_mul_right _ ch
    refine vB n (dV hT hn) da eS hw (by rw [h1];simp;omega) (by omega) (by rw [h1];simpa using h4) ?_
    rw [h1]
    have ra:dt (fun w=>K0 w∧ai w I) k rows X G:=⟨cM,hr⟩
    have gM:=ra.put (o:=o) (zs:=zs) (xs:=xs) (Gx:=Gx) bu (by omega) dl tK
    have aU:=R1.st
    have gZ:St D w0 w ((b0,.cells cs e fz)::(bq rows.length k G++(Hp++((List.range (M'.set u .dead).length).flatMap (aL F' u [])++I)))):=aU.perm (by classical rw [List.perm_iff_count];intro z;simp only [List.count_append,List.count_cons,List.cons_append,List.nil_append];omega)
    have j6:=gZ.set (.cells (bS cs (i*k+o) zs) e fz)
    have g6:=zh (n:=rows.length) (k:=k) (i:=i) (o:=o) (m:=zs.length) hi (by omega) G Gx
    rw [Dt,← dl] at j6
    have R2:bA D w0 K0 (M'.set u .dead) β (aL F' u []) I (([(b0,.cells (bS cs (i*k+o) zs) e fz)]++bq rows.length k (dM G i o zs.length Gx))++(List.range' o zs.length).flatMap (G i)) _:=R1.move (j6.perm (by
     classical
     have hc:=List.perm_iff_count.1 g6
     rw [List.perm_iff_count];intro z
     have:=hc z
     simp only [List.count_append,List.count_cons,List.cons_append,List.nil_append] at this ⊢
     omega))
    have dw:bn (fun w=>K0 w∧ai w I) β u (.tw (some ⟨b0,0,none⟩) ca e k (rows.set i (row.take o++(xs++row.drop (o+xs.length))))) ([(b0,.cells (bS cs (i*k+o) zs) e fz)]++bq rows.length k (dM G i o zs.length Gx)):=by
     have:=bn.tw (K:=fun w=>K0 w∧ai w I) (u:=u) (T:=e) (k:=k) (rows:=rows.set i (row.take o++(xs++row.drop (o+xs.length)))) (H0:=[(b0,.cells (bS cs (i*k+o) zs) e fz)]) hb (iy X i o zs) (dM G i o zs.length Gx) gM.hl (by
      rw [List.length_set]
      exact ⟨dA fun a ha=>rS (by omega) (hX a ha),Or.inr ⟨_,_,_,fz,rfl,rfl,by rw [ib];exact et,by rw [ib];exact cd,ch,Hh hX hi (by omega) ht aX⟩⟩) gM.hr
     rw [List.length_set] at this;exact this
    have R3:=((R2.drop.perm (Y:=([(b0,.cells (bS cs (i*k+o) zs) e fz)]++bq rows.length k (dM G i o zs.length Gx))++[]) (by rw [List.append_nil])).back (by rw [List.length_set];exact aH) (by simp [aL]) dw).nil rfl
    rw [List.set_set] at R3
    refine ⟨β,_,I,R3,(Ext.refl β).b _,aZ.refl _,fun q hq gm=>?_,.d (.jk _)⟩
    simp only [List.mem_cons,not_or] at gm
    simp only [aL];rw [if_neg gm.1,if_neg gm.1]
    exact nH q gm.2
def AP (T:aD) (E:List (Nat×AV)) (M:List af) (oc:Option aW) (t:TypeId) (x:Operand):Option Out:=
 match aC E x with
 | some (.ep u k i o)=>(match oc with
  | some (.ix _ row)=>(match M[u]? with | some (.tw _ _ _ k' rows)=>bif k.beq k'&&row.all DV.cp then (match iB T t (row.map .d) o with | some v=>some ⟨[rows[i]?=some row],v,M,[],[],some [u]⟩ | none=>none) else none | _=>none)
  | _=>none)
 | _=>none
theorem MP (hT:aP P T=true) {t:TypeId} {x:Operand} (h:AP T E M oc t x=some out):aB P ⟨d,.load t x,ty,pos,aft,gd⟩ E M out:=by
 unfold AP at h
 split at h
 ·rename_i u k i o hv
  split at h
  ·rename_i i0 row
   split at h
   rotate_left
   ·simp at h
   rename_i aw cw Tt k' rows hM
   cases hk:(k.beq k'&&row.all DV.cp) with
   | false=>simp [hk] at h
   | true=>
    simp only [hk,cond_true] at h
    simp only [Bool.and_eq_true] at hk
    obtain ⟨hk,iW⟩:=hk
    obtain rfl:=Nat.eq_of_beq_eq_true hk
    split at h
    ·rename_i v e8
     simp only [Option.some.injEq] at h;subst h
     refine aB.look ?_ (by simpa using cT hM)
     intro D w0 K0 β F I ρ w C bJ
     obtain ⟨bu,-⟩:=bJ
     obtain ⟨y,hy,r⟩:=C.aR hv
     cases r with
     | ep hb=>
      obtain ⟨H,hF,hB,hH⟩:=C.rm.at hM
      cases hB with
      | tw aE X G hl hs hr=>
       rw [hb] at aE;cases aE
       obtain ⟨qZ,Dk⟩:=hl i row bu
       obtain ⟨hi,-⟩:=List.getElem?_eq_some_iff.1 bu
       obtain ⟨b',cap,cs,fz,he,rfl,et,cd,hn,ht⟩:=hs.block (by omega)
       cases he
       have cM:(X i).length=(row.map AV.d).length:=by rw [List.length_map];omega
       obtain ⟨y',h1,h2⟩:=ou hT (a:=⟨_,i*k,none⟩) (R:=aq (fun w=>K0 w∧ai w I) β) (fun l ys=>aq.ag ys) e8 (hy.trans (by rw [add_eq])) cM (fun j c z h1 h2=>by
        simp only [List.getElem?_map,Option.map_eq_some_iff] at h1
        obtain ⟨c',h1,rfl⟩:=h1
        exact .d ((hr i row j c' z bu h1 h2).cp (List.all_eq_true.1 iW c' (List.mem_of_getElem? h1))))
       refine ⟨y',h1,fun w' tC=>h2 w' fun j z hj=>?_⟩
       have c8:ai w' _:=tC.2 u (by simp)
       rw [hF] at c8
       have hw:=(ai.app.1 c8).1.one
       obtain ⟨eu,-⟩:=List.getElem?_eq_some_iff.1 hj
       rw [add_eq,cell_of hw,← hj,← jh (fun i hi=>(hl i _ (List.getElem?_eq_getElem hi)).2) hi (by omega),← ht,List.getElem?_take,if_pos,Array.getElem?_toList]
       have:=Nat.mul_le_mul_right k (show i+1≤rows.length from hi);rw [Nat.succ_mul] at this;omega
    ·simp at h
  ·simp at h
 ·simp at h
end Go.Proofs.YtgkdnnmcjjabdaaGreat
namespace Go.Proofs.YtgkdnnmcjjabdaaGreat
open Go.RowKit
variable {P:Program} {T:aD} {E:List (Nat×AV)} {M:List af} {d:Option Tmp} {ty:TypeId} {pos:String} {aft:Array Edge} {gd:Option (Nat×Bool)} {oc:Option aW} {out:Out}
def s5 (P:Program) (t:TypeId):Prop:=P.underlying t=some (.pointer (P.pointee t))
theorem L3 {ρ:Operand→Value} {w:World} {Φ:Value→World→Prop} {x:Operand} {t t':TypeId} {o:Option Addr} {c:Bool} (ht:s5 P t) (h:ρ x=.pointer o) (hn:ρ (.const (.pointer none))=.pointer none) (hc:(!o.isNone)=c) (aI:Φ (.bool c) w):aS P ⟨d,.binOp .neq t x (.const (.pointer none)) t',ty,pos,aft,gd⟩ ρ w Φ:=by
 subst hc
 exact .pure (v:=.bool !o.isNone) (by simp [execOp,h,hn,eqGuard,binOp,Op.equal,Op.maxDepth,run_equalIn_pointer_nil w 9999 t o ht]) aI
def s6:Option AV→Option Bool
 | some (.pt _ _)=>some false
 | some (.ep _ _ _ _)=>some false
 | some (.rp _ _)=>some false
 | some (.d (.v (.pointer none)))=>some true
 | _=>none
def sB (P:Program) (E:List (Nat×AV)) (M:List af) (op:BinOp) (t:TypeId) (x y:Operand):Option Out:=
 match op,y,s6 (aC E x) with
 | .eql,.const (.pointer none),some c=>some (lk [s5 P t] (.b c) M)
 | .neq,.const (.pointer none),some c=>some (lk [s5 P t] (.b (!c)) M)
 | _,_,_=>none
theorem Hs {K:World→Prop} {β:Beta} {v:Option AV} {a:AV} {c:Bool} {y:Value} (h:s6 v=some c) (hv:v=some a) (r:aq K β a y):∃ o,y=.pointer o∧o.isNone=c:=by
 subst hv
 unfold s6 at h
 split at h
 ·rename_i hx;cases hx;simp only [Option.some.injEq] at h;subst h
  cases r with | pt hb=>exact ⟨_,rfl,rfl⟩
 ·rename_i hx;cases hx;simp only [Option.some.injEq] at h;subst h
  cases r with | ep hb=>exact ⟨_,rfl,rfl⟩
 ·rename_i hx;cases hx;simp only [Option.some.injEq] at h;subst h
  cases r with | rp a X hl hc hr=>exact ⟨_,rfl,rfl⟩
 ·rename_i hx;cases hx;simp only [Option.some.injEq] at h;subst h
  cases r with | d r=>cases r;exact ⟨_,rfl,rfl⟩
 ·simp at h
theorem Gq {op:BinOp} {t t':TypeId} {x y:Operand} (h:sB P E M op t x y=some out):aB P ⟨d,.binOp op t x y t',ty,pos,aft,gd⟩ E M out:=by
 unfold sB at h
 split at h
 ·rename_i c hx
  simp only [Option.some.injEq] at h;subst h
  refine jM (.of fun _=>⟨_,rfl⟩) ?_
  intro D w0 K0 β F I ρ w' C hv
  obtain ⟨hp,-⟩:=hv
  cases pf:aC E x with
  | none=>rw [pf] at hx;simp [s6] at hx
  | some a=>
   obtain ⟨o,ho,hc⟩:=Hs hx pf (C.ev pf)
   exact ⟨_,.d (.v _),fun w Φ aI=>NG hp ho (C.const _) hc aI⟩
 ·rename_i c hx
  simp only [Option.some.injEq] at h;subst h
  refine jM (.of fun _=>⟨_,rfl⟩) ?_
  intro D w0 K0 β F I ρ w' C hv
  obtain ⟨hp,-⟩:=hv
  cases pf:aC E x with
  | none=>rw [pf] at hx;simp [s6] at hx
  | some a=>
   obtain ⟨o,ho,hc⟩:=Hs hx pf (C.ev pf)
   exact ⟨_,.d (.v _),fun w Φ aI=>L3 hp ho (C.const _) (by rw [hc]) aI⟩
 ·simp at h
def kT (g:Nat):List af→Option (List DV)
 | []=>none
 | .gw g' row::r=>bif g'.beq g then some row else kT g r
 | _::r=>kT g r
theorem vJ {g:Nat} {row:List DV}:∀ {M:List af},kT g M=some row→∃ u:Nat,M[u]?=some (af.gw g row)
 | [],h=>by simp [kT] at h
 | b::r,h=>by
  have next:kT g r=some row→∃ u:Nat,(b::r)[u]?=some (af.gw g row):=fun h=>by
   obtain ⟨u,hu⟩:=vJ h
   exact ⟨u+1,by simpa using hu⟩
  cases b with
  | gw g' VW=>
   simp only [kT] at h
   cases hc:g'.beq g with
   | true=>
    simp only [hc,cond_true,Option.some.injEq] at h;subst h
    obtain rfl:=Nat.eq_of_beq_eq_true hc
    exact ⟨0,rfl⟩
   | false=>
    simp only [hc,cond_false] at h
    exact next h
  | _=>simp only [kT] at h;exact next h
def Aa (T:aD) (E:List (Nat×AV)) (M:List af) (oc:Option aW) (t:TypeId) (x ix:Operand):Option Out:=
 match x,bN (aC E ix),bE T t,oc with
 | .global g,some (_,z),some (.ar n e),some (.ix i [c])=>(match dB T e,kT g M with
  | some k,some row=>bif k.beq 1 then some (lk [z=(i:Int),i<n,row[i]?=some c] (.rp [c] 0) M) else none
  | _,_=>none)
 | _,_,_,_=>none
theorem L4 (hT:aP P T=true) {t:TypeId} {x ix:Operand} (h:Aa T E M oc t x ix=some out):aB P ⟨d,.indexAddr t x ix,ty,pos,aft,gd⟩ E M out:=by
 unfold Aa at h
 split at h
 rotate_left
 ·simp at h
 rename_i g kk z n e i c hz ht
 split at h
 rotate_left
 ·simp at h
 rename_i k row hk hg
 cases hc:k.beq 1 with
 | false=>simp [hc] at h
 | true=>
  simp only [hc,cond_true,Option.some.injEq] at h;subst h
  obtain rfl:=Nat.eq_of_beq_eq_true hc
  refine aB.same fun C bJ=>?_
  obtain ⟨rfl,hi,bu,-⟩:=bJ
  obtain ⟨u,hu⟩:=vJ hg
  obtain ⟨H,-,hB,-⟩:=C.rm.at hu
  cases hB with
  | gw X hl eT hr=>
   have aH:i<X.length:=by have:=(List.getElem?_eq_some_iff.1 bu).1;omega
   have hx:X[i]?=some X[i]:=List.getElem?_eq_getElem aH
   have e0:(⟨g,0,none⟩:Addr).add (((i:Nat):Int).toNat*1)=((⟨g,0,none⟩:Addr).add i).add 0:=by rw [add_zero'];simp
   refine ⟨_,fun _ _=>mM (bj hT ht) (dV hT hk) (C.Ck g) (C.int hz) (by simp) (by simp;omega),?_⟩
   rw [e0]
   refine .rp _ [X[i]] rfl (fun w' c8 j y hj=>?_) (fun j c' y h1 h2=>?_)
   ·cases j with
    | zero=>simp at hj;subst hj;rw [add_zero'];exact eT w' c8 i _ hx
    | succ j=>simp at hj
   ·cases j with
    | zero=>simp at h1 h2;subst h1;subst h2;exact hr i _ _ bu hx
    | succ j=>simp at h1
section
variable {ρ:Operand→Value} {w:World}
theorem MQ {w:World} {b:Nat} {c:Array Value} {e:TypeId} (hb:w.heap[b]?=some (.cells c e (0,0))):w.freeze ⟨b,c.size,none⟩ 1=bB w b (.cells c e (c.size,c.size+1)):=by
 unfold World.freeze bB
 rw [if_neg (by decide)]
 congr 1
 apply Array.ext_getElem?
 intro j
 have aH:=jK hb
 rw [Array.getElem?_modify,Array.getElem?_setIfInBounds]
 by_cases e':b=j
 ·subst e'
  have hg:w.heap[b]=.cells c e (0,0):=by rw [Array.getElem?_eq_getElem aH] at hb;exact Option.some.inj hb
  simp [aH,hg]
 ·simp [e']
theorem Ik {t t' e:TypeId} {x:Operand} {bs:List UInt8} (ht:P.underlying t=some .string) (b5:P.underlying t'=some (.slice e)) (he:P.underlying e=some (.int .u8)) (hx:ρ x=.string ⟨bs.toArray⟩):
  ∃ (k:Nat) (c:Array Value),bs.length≤k∧c=(bs.map fun b:UInt8=>Value.int .u8 b.toNat).toArray++Array.replicate (k-bs.length) (Value.int .u8 0)∧
   (execOp ρ ⟨d,.convert t t' x,ty,pos,aft,gd⟩).run P w=.ok (.value (.slice (some ⟨w.heap.size,0,none⟩) bs.length k)) (bB (w.drew.alloc (.cells c e (0,0))) w.heap.size (.cells c e (c.size,c.size+1))):=by
 refine ⟨(Question.appendCap bs.length 0 e).cut (w.tape w.drawn (.appendCap bs.length 0 e)),_,by simp [Question.cut],rfl,?_⟩
 generalize hk:(Question.appendCap bs.length 0 e).cut (w.tape w.drawn (.appendCap bs.length 0 e))=k
 generalize eT:(bs.map fun b:UInt8=>Value.int .u8 b.toNat).toArray++Array.replicate (k-bs.length) (Value.int .u8 0)=c
 have kc:(choose (.appendCap bs.length 0 e)).run P w=.ok k w.drew:=by
  rw [← hk];simp [choose,Sem.run,Question.forced]
 have bu:∀ (cs:Array Value) (w:World),(newRow e cs).run P w=.ok ⟨w.heap.size,0,none⟩ (w.alloc (.cells cs e)):=by
  intro cs w;simp [newRow,newObj,Sem.run]
 have cJ:(markStringish ⟨w.heap.size,0,none⟩).run P (w.drew.alloc (.cells c e (0,0)))=.ok () (bB (w.drew.alloc (.cells c e (0,0))) w.heap.size (.cells c e (c.size,c.size+1))):=by
  have hb:(w.drew.alloc (.cells c e (0,0))).heap[w.heap.size]?=some (.cells c e (0,0)):=y6 w.drew _
  have mb:(w.drew.alloc (.cells c e (0,0))).shape? w.heap.size=some (e,c.size):=by unfold World.shape?;rw [hb]
  have:=MQ hb
  unfold markStringish
  simp only [Sem.run_bind]
  have h1:(shape w.heap.size).run P (w.drew.alloc (.cells c e (0,0)))=.ok (some (e,c.size)) (w.drew.alloc (.cells c e (0,0))):=by
   simp [shape,Sem.run,mb]
  rw [h1]
  simp only [Result.andThen_ok]
  simp [freeze,Sem.run,this]
 have Bz:(Conv.stringToBytes e ⟨bs.toArray⟩).run P w=.ok (.slice (some ⟨w.heap.size,0,none⟩) bs.length k) (bB (w.drew.alloc (.cells c e (0,0))) w.heap.size (.cells c e (c.size,c.size+1))):=by
  have aX:(⟨bs.toArray⟩:ByteArray).size=bs.length:=by simp [ByteArray.size]
  unfold Conv.stringToBytes
  simp only [aX,Sem.run_bind,kc,Result.andThen_ok,bu,Sem.run_pure]
  have cd:((Array.map (fun b:UInt8=>Value.int .u8 (b.toNat:Int)) bs.toArray)++Array.replicate (k-bs.length) (Value.int .u8 0))=c:=by rw [← eT];simp
  rw [cd]
  have hd:w.drew.heap.size=w.heap.size:=rfl
  rw [hd,cJ]
  rfl
 simp only [execOp,hx,convert,Sem.run_bind,run_underlying ht,run_underlying b5,run_underlying he,Result.andThen_ok,Bz,Sem.run_pure]
theorem AQ {n:Nat} (f:Nat→Value):lay n (fun i=>[f i])=(List.range n).map f:=by
 unfold lay
 induction n with
 | zero=>rfl
 | succ n ih=>rw [List.range_succ,List.flatMap_append,List.map_append,ih];rfl
end
theorem AR (w:World) (o:Obj):Gr w (w.drew.alloc o)∧cQ w (w.drew.alloc o) [(w.heap.size,o)]:=⟨(Gr.drew w).trans (Gr.alloc w.drew o),(cQ.alloc w.drew o).ahead (Gr.drew w)⟩
def BA (T:aD) (E:List (Nat×AV)) (M:List af) (t t':TypeId) (x:Operand):Option Out:=
 match bE T t,bE T t',gi (aC E x) with
 | some .st,some (.sl e),some bs=>(match bE T e with
  | some (.it .u8)=>some ⟨[],.d (.ro 1 (aj bs)),M,[],[],none⟩
  | _=>none)
 | _,_,_=>none
theorem N2 (hT:aP P T=true) {t t':TypeId} {x:Operand} (h:BA T E M t t' x=some out):aB P ⟨d,.convert t t' x,ty,pos,aft,gd⟩ E M out:=by
 unfold BA at h
 split at h
 rotate_left
 ·cases h
 rename_i e bs ht b5 hs
 split at h
 rotate_left
 ·cases h
 rename_i he
 simp only [Option.some.injEq] at h;subst h
 intro D w0 K0 β F I ρ w C _
 have s7:=C.str (x:=x) (l:=bs) hs
 obtain ⟨k,c,hk,hc,ct⟩:=Ik (d:=d) (ty:=ty) (pos:=pos) (aft:=aft) (gd:=gd) (w:=w) (bj hT ht) (bj hT b5) (bj hT he) s7
 refine aS.pure ct ?_
 have s1:St D w0 (w.drew.alloc (.cells c e (0,0))) ((w.heap.size,.cells c e (0,0))::((List.range M.length).flatMap F++I)):=C.rm.st.new (AR w (.cells c e (0,0))).1 (AR w (.cells c e (0,0))).2
 have s2:=s1.set (.cells c e (c.size,c.size+1))
 have R2:RM D w0 K0 M β F ([(w.heap.size,.cells c e (c.size,c.size+1))]++I) (bB (w.drew.alloc (.cells c e (0,0))) w.heap.size (.cells c e (c.size,c.size+1))):=by
  refine ⟨C.rm.len,fun v bl hv=>(C.rm.blk v bl hv).mono (fun w hw=>⟨hw.1,(ai.app.1 hw.2).2⟩) (Ext.refl _),?_⟩
  exact s2.perm (by classical rw [List.perm_iff_count];intro z;simp only [List.count_append,List.count_cons,List.count_nil];omega)
 refine ⟨β,F,_,R2,(Ext.refl β).b _,⟨_,rfl⟩,fun _ _ _=>rfl,?_⟩
 have hlen:(aj bs).length=bs.length:=by simp [aj]
 refine .d (.ro (fun i=>[Value.int .u8 (bs.getD i 0).toNat]) (fun i r hi=>?_) ⟨_,_,by rw [hlen],by rw [hlen];exact hk⟩ (fun w' c8=>?_) fun i r j cc z h1 h2 h3=>?_)
 ·simp only [aj,List.getElem?_map,Option.map_eq_some_iff] at hi
  obtain ⟨b,-,rfl⟩:=hi;exact ⟨rfl,rfl⟩
 ·have aE:w'.heap[w.heap.size]?=some (.cells c e (c.size,c.size+1)):=(ai.app.1 c8.2).1.one
  rw [hlen,AQ]
  refine ⟨by simp,Or.inr ⟨_,k,rfl,fun j hj=>?_⟩⟩
  rw [add_eq,Nat.zero_add,cell_of aE,hc]
  have eu:j<bs.length:=by simpa using hj
  rw [Array.getElem?_append_left (by simpa using eu)]
  simp [eu,List.getD_eq_getElem?_getD]
 ·simp only [aj,List.getElem?_map,Option.map_eq_some_iff] at h1
  obtain ⟨b,hb,rfl⟩:=h1
  cases j with
  | succ j=>simp at h2
  | zero=>
   simp at h2 h3;subst h2;subst h3
   simp only [List.getD_eq_getElem?_getD,hb,Option.getD_some]
   exact .v _
theorem MR (w:World) (o o':Obj):bB (w.alloc o) w.heap.size o'=w.alloc o':=by
 unfold bB World.alloc
 congr 1
 apply Array.ext_getElem?
 intro j
 rw [Array.getElem?_setIfInBounds,Array.getElem?_push,Array.getElem?_push]
 by_cases h:w.heap.size=j
 ·subst h;simp
 ·rw [if_neg h,if_neg (fun e=>h e.symm),if_neg (fun e=>h e.symm)]
def BB (T:aD) (E:List (Nat×AV)) (M:List af) (t t':TypeId) (x:Operand):Option Out:=
 match bE T t,bE T t',gi (aC E x) with
 | some .st,some (.sl e),some bs=>(match bE T e with
  | some (.it .u8)=>some ⟨[],.sl M.length bs.length,M++[.rw e 1 (aj bs)],[],[],none⟩
  | _=>none)
 | _,_,_=>none
theorem N3 (hT:aP P T=true) {t t':TypeId} {x:Operand} (h:BB T E M t t' x=some out):aB P ⟨d,.convert t t' x,ty,pos,aft,gd⟩ E M out:=by
 unfold BB at h
 split at h
 rotate_left
 ·cases h
 rename_i e bs ht b5 hs
 split at h
 rotate_left
 ·cases h
 rename_i he
 simp only [Option.some.injEq] at h;subst h
 intro D w0 K0 β F I ρ w C _
 have s7:=C.str (x:=x) (l:=bs) hs
 obtain ⟨k,c,hk,hc,ct⟩:=Ik (d:=d) (ty:=ty) (pos:=pos) (aft:=aft) (gd:=gd) (w:=w) (bj hT ht) (bj hT b5) (bj hT he) s7
 have Kc:=MR w.drew (.cells c e (0,0)) (.cells c e (c.size,c.size+1))
 have aX:w.drew.heap.size=w.heap.size:=rfl
 rw [aX] at Kc
 rw [Kc] at ct
 refine aS.pure ct ?_
 obtain ⟨gr,nf⟩:=AR w (.cells c e (c.size,c.size+1))
 have hlen:(aj bs).length=bs.length:=by simp [aj]
 refine ⟨_,_,I,C.rm.new (q:=(some ⟨w.heap.size,0,none⟩,k)) gr nf ?_,(Ext.app _ _).b _,aZ.refl _,ft _ _,.sl (cH C.rm _)⟩
 have cd:c.size=k:=by rw [hc];simp;omega
 have:=bn.rw (K:=fun w=>K0 w∧ai w I) (β:=β++[(some ⟨w.heap.size,0,none⟩,k)]) (u:=M.length) (T:=e) (k:=1) (rows:=aj bs) (H0:=[(w.heap.size,.cells c e (c.size,c.size+1))]) (cH C.rm _) (fun i=>[Value.int .u8 (bs.getD i 0).toNat]) (fun _ _=>[]) (fun i r hi=>by
  simp only [aj,List.getElem?_map,Option.map_eq_some_iff] at hi
  obtain ⟨b,-,rfl⟩:=hi;exact ⟨rfl,rfl⟩) (by
  rw [hlen,AQ]
  refine ⟨by simp,Or.inr ⟨w.heap.size,k,_,_,rfl,rfl,fun i hi h=>by have:=h.1;simp at this;omega,by omega,hk,?_⟩⟩
  rw [hc]
  apply List.ext_getElem?
  intro j
  rw [List.getElem?_take]
  split
  ·rename_i hj
   have eu:j<bs.length:=by omega
   rw [Array.getElem?_toList,Array.getElem?_append_left (by simpa using eu)]
   simp [eu,List.getD_eq_getElem?_getD]
  ·rename_i hj
   symm;simp;omega) (fun i r j q x hi h1 h2=>by
  simp only [aj,List.getElem?_map,Option.map_eq_some_iff] at hi
  obtain ⟨b,hb,rfl⟩:=hi
  cases j with
  | succ j=>simp at h1
  | zero=>
   simp at h1 h2;subst h1;subst h2
   simp only [List.getD_eq_getElem?_getD,hb,Option.getD_some]
   exact .v _)
 rw [jI,List.append_nil] at this
 exact this
end Go.Proofs.YtgkdnnmcjjabdaaGreat
namespace Go.Proofs.YtgkdnnmcjjabdaaGreat
open Go.RowKit
variable {P:Program} {T:aD} {D:List Nat} {w0:World} {K0:World→Prop} {E:List (Nat×AV)} {M:List af} {β:Beta} {F:Nat→ah} {I X:ah} {ρ:Operand→Value} {w:World}
variable {d:Option Tmp} {ty:TypeId} {pos:String} {aft:Array Edge} {gd:Option (Nat×Bool)} {oc:Option aW} {out:Out}
def xc (l:List UInt8):AV:=.d (.v (.string ⟨l.toArray⟩))
theorem Ht (l:List UInt8):(⟨l.toArray⟩:ByteArray).size=l.length:=by simp [ByteArray.size]
theorem Pz {op:BinOp} {t t':TypeId} {x y:Operand} {a b:List UInt8} (UA:op=.add) (hx:ρ x=.string ⟨a.toArray⟩) (hy:ρ y=.string ⟨b.toArray⟩) (hle:a.length+b.length≤9223372036854775807):
  (execOp ρ ⟨d,.binOp op t x y t',ty,pos,aft,gd⟩).run P w=.ok (.value (.string ⟨(a++b).toArray⟩)) w:=by
 subst UA
 have hn:¬ (((a.length+b.length:Nat):Int)>IntKind.i64.max):=by simp [IntKind.max,IntKind.signed,IntKind.bits];omega
 have fC:(⟨a.toArray⟩:ByteArray)++⟨b.toArray⟩=⟨(a++b).toArray⟩:=by
  apply ByteArray.ext;simp
 simp only [execOp,hx,hy,eqGuard,binOp,Op.stringOp,Sem.run_bind,Sem.run_pure,Result.andThen_ok,Ht]
 rw [if_neg hn,fC]
 simp
def CA (E:List (Nat×AV)) (M:List af) (op:BinOp) (x y:Operand):Option Out:=
 match op,gi (aC E x),gi (aC E y) with
 | .add,some a,some b=>some (lk [a.length+b.length≤9223372036854775807] (xc (a++b)) M)
 | _,_,_=>none
theorem PA {op:BinOp} {t t':TypeId} {x y:Operand} (h:CA E M op x y=some out):aB P ⟨d,.binOp op t x y t',ty,pos,aft,gd⟩ E M out:=by
 unfold CA at h
 split at h
 ·rename_i a b ha hb
  simp only [Option.some.injEq] at h;subst h
  exact aB.same fun C hv=>⟨_,fun w' _=>Pz rfl (C.str ha) (C.str hb) hv.1,.d (.v _)⟩
 ·cases h
theorem L5 {t:TypeId} {x ix:Operand} {l:List UInt8} {k:IntKind} {i:Nat} {u:UInt8} (ht:P.underlying t=some .string) (hx:ρ x=.string ⟨l.toArray⟩) (hi:ρ ix=.int k (i:Int)) (hu:l[i]?=some u):
  (execOp ρ ⟨d,.index t x ix,ty,pos,aft,gd⟩).run P w=.ok (.value (.int .u8 (u.toNat:Int))) w:=by
 have h4:(⟨l.toArray⟩:ByteArray)[i]?=some u:=by
  obtain ⟨hi,rfl⟩:=List.getElem?_eq_some_iff.1 hu
  exact getElem?_pos (⟨l.toArray⟩:ByteArray) i (by show i<l.toArray.size;simpa using hi)
 simp [execOp,hx,hi,Instr.index,asIntOf,Sem.run_bind,run_underlying ht,h4]
def BC (T:aD) (E:List (Nat×AV)) (M:List af) (oc:Option aW) (t:TypeId) (x ix:Operand):Option Out:=
 match bE T t,gi (aC E x),bN (aC E ix),oc with
 | some .st,some l,some (_,z),some (.ix i [c])=>some (lk [z=(i:Int),∃ u:UInt8,l[i]?=some u∧c=.v (.int .u8 (u.toNat:Int))] (.d c) M)
 | _,_,_,_=>none
theorem N4 (hT:aP P T=true) {t:TypeId} {x ix:Operand} (h:BC T E M oc t x ix=some out):aB P ⟨d,.index t x ix,ty,pos,aft,gd⟩ E M out:=by
 unfold BC at h
 split at h
 ·rename_i l k z i c hu hx hz
  simp only [Option.some.injEq] at h;subst h
  refine aB.same fun C hv=>?_
  obtain ⟨rfl,⟨u,h1,rfl⟩,-⟩:=hv
  exact ⟨_,fun w' _=>L5 (bj hT hu) (C.str hx) (C.int hz) h1,.d (.v _)⟩
 ·cases h
theorem SW (l:List UInt8) (o c:Nat):(⟨l.toArray⟩:ByteArray).extract o c=⟨((l.take c).drop o).toArray⟩:=by
 apply ByteArray.ext
 rw [ByteArray.data_extract]
 apply Array.toList_inj.1
 simp [Array.toList_extract,List.extract_eq_take_drop,List.drop_take]
theorem zm {t:TypeId} {x:Operand} {lo hi:Option Operand} {l:List UInt8} {o c:Nat} (ht:P.underlying t=some .string) (hx:ρ x=.string ⟨l.toArray⟩)
  (hb:(Instr.sliceBounds false l.length l.length (lo.map ρ) (hi.map ρ) none).run P w=.ok (o,c,l.length) w):
  (execOp ρ ⟨d,.slice t x lo hi none,ty,pos,aft,gd⟩).run P w=.ok (.value (.string ⟨((l.take c).drop o).toArray⟩)) w:=by
 simp only [execOp,hx,Option.map_none,Instr.sliceAt,Instr.slice,Sem.run_bind,run_underlying ht,Result.andThen_ok,Option.isSome_none,Bool.false_eq_true,if_false,Ht,hb,Sem.run_pure,SW]
def CB (T:aD) (E:List (Nat×AV)) (M:List af) (oc:Option aW) (t:TypeId) (x:Operand) (lo hi mx:Option Operand):Option Out:=
 match bE T t,gi (aC E x),oc,mx with
 | some .st,some l,some (.n2 c o),none=>(match lo,hi with
  | none,some h=>(match bN (aC E h) with
   | some (.i64,z)=>some (lk [z=(c:Int),c≤l.length] (xc (l.take c)) M)
   | _=>none)
  | some lo,none=>(match bN (aC E lo) with
   | some (.i64,z)=>some (lk [z=(o:Int),o≤l.length] (xc (l.drop o)) M)
   | _=>none)
  | some lo,some h=>(match bN (aC E lo),bN (aC E h) with
   | some (.i64,z),some (.i64,z')=>some (lk [z=(o:Int),z'=(c:Int),o≤c,c≤l.length] (xc ((l.take c).drop o)) M)
   | _,_=>none)
  | _,_=>none)
 | _,_,_,_=>none
theorem PB (hT:aP P T=true) {t:TypeId} {x:Operand} {lo hi mx:Option Operand} (h:CB T E M oc t x lo hi mx=some out):aB P ⟨d,.slice t x lo hi mx,ty,pos,aft,gd⟩ E M out:=by
 unfold CB at h
 split at h
 rotate_left
 ·cases h
 rename_i l c o hu hx
 replace hu:=bj hT hu
 split at h
 ·rename_i hh
  split at h
  rotate_left
  ·cases h
  rename_i z hz
  simp only [Option.some.injEq] at h;subst h
  refine aB.same ?_
  intro D w0 K0 β F I ρ w C hv
  obtain ⟨rfl,hc,-⟩:=hv
  refine ⟨.string ⟨(l.take c).toArray⟩,fun w' _=>?_,.d (.v _)⟩
  have:=zm (P:=P) (ρ:=ρ) (w:=w') (d:=d) (ty:=ty) (pos:=pos) (aft:=aft) (gd:=gd) (lo:=none) (hi:=some hh) (o:=0) (c:=c) hu (C.str hx) (by simp [Instr.sliceBounds,C.int hz,fI hc])
  simpa using this
 ·rename_i ll
  split at h
  rotate_left
  ·cases h
  rename_i z hz
  simp only [Option.some.injEq] at h;subst h
  refine aB.same ?_
  intro D w0 K0 β F I ρ w C hv
  obtain ⟨rfl,ho,-⟩:=hv
  refine ⟨.string ⟨(l.drop o).toArray⟩,fun w' _=>?_,.d (.v _)⟩
  have:=zm (P:=P) (ρ:=ρ) (w:=w') (d:=d) (ty:=ty) (pos:=pos) (aft:=aft) (gd:=gd) (lo:=some ll) (hi:=none) (o:=o) (c:=l.length) hu (C.str hx) (by simp [Instr.sliceBounds,C.int hz,fI ho])
  simpa using this
 ·rename_i ll hh
  split at h
  rotate_left
  ·cases h
  rename_i z z' hz fD
  simp only [Option.some.injEq] at h;subst h
  refine aB.same fun C hv=>?_
  obtain ⟨rfl,rfl,ho,hc,-⟩:=hv
  refine ⟨.string ⟨((l.take c).drop o).toArray⟩,fun w' _=>?_,.d (.v _)⟩
  exact zm hu (C.str hx) (by simp [Instr.sliceBounds,C.int hz,C.int fD,fI hc,fI ho])
 ·cases h
def BD (T:aD) (E:List (Nat×AV)) (M:List af) (oc:Option aW) (t:TypeId) (x ix:Operand):Option Out:=
 match x,bN (aC E ix),bE T t,oc with
 | .global g,some (_,z),some (.ar n e),some (.ix i row)=>(match dB T e,kT g M with
  | some k,some IZ=>some (lk [z=(i:Int),i<n,(IZ.drop (i*k)).take k=row] (.rp row 0) M)
  | _,_=>none)
 | _,_,_,_=>none
theorem N5 (hT:aP P T=true) {t:TypeId} {x ix:Operand} (h:BD T E M oc t x ix=some out):aB P ⟨d,.indexAddr t x ix,ty,pos,aft,gd⟩ E M out:=by
 unfold BD at h
 split at h
 rotate_left
 ·cases h
 rename_i g kk z n e i row hz ht
 split at h
 rotate_left
 ·cases h
 rename_i k IZ hk hg
 simp only [Option.some.injEq] at h;subst h
 refine aB.same fun C bJ=>?_
 obtain ⟨rfl,hi,rfl,-⟩:=bJ
 obtain ⟨u,hu⟩:=vJ hg
 obtain ⟨H,-,hB,-⟩:=C.rm.at hu
 cases hB with
 | gw X hl eT hr=>
  have e0:(⟨g,0,none⟩:Addr).add (((i:Nat):Int).toNat*k)=((⟨g,0,none⟩:Addr).add (i*k)).add 0:=by rw [add_zero'];simp
  refine ⟨_,fun _ _=>mM (bj hT ht) (dV hT hk) (C.Ck g) (C.int hz) (by simp) (by simp;omega),?_⟩
  rw [e0]
  refine .rp _ ((X.drop (i*k)).take k) (by simp [hl]) (fun w' c8 j y hj=>?_) (fun j c' y h1 h2=>?_)
  ·rw [List.getElem?_take] at hj
   split at hj
   ·rw [List.getElem?_drop] at hj
    rw [Addr.n9];exact eT w' c8 _ y hj
   ·cases hj
  ·rw [List.getElem?_take] at h1 h2
   split at h1
   ·rename_i hj
    rw [if_pos hj] at h2
    rw [List.getElem?_drop] at h1 h2
    exact hr _ _ _ h1 h2
   ·cases h1
theorem Hu (K:World→Prop) (bs:List UInt8):dt K 1 (aj bs) (fun i=>[Value.int .u8 (bs.getD i 0).toNat]) (fun _ _=>[]):=by
 refine ⟨fun i r hi=>?_,fun i r j cc z h1 h2 h3=>?_⟩
 ·simp only [aj,List.getElem?_map,Option.map_eq_some_iff] at hi
  obtain ⟨b,-,rfl⟩:=hi;exact ⟨rfl,rfl⟩
 ·simp only [aj,List.getElem?_map,Option.map_eq_some_iff] at h1
  obtain ⟨b,hb,rfl⟩:=h1
  cases j with
  | succ j=>simp at h2
  | zero=>
   simp at h2 h3;subst h2;subst h3
   simp only [List.getD_eq_getElem?_getD,hb,Option.getD_some]
   exact .v _
theorem Gs (bs:List UInt8):lay bs.length (fun i=>[Value.int .u8 (bs.getD i 0).toNat])=bs.map fun b:UInt8=>Value.int .u8 (b.toNat:Int):=by
 rw [AQ]
 apply List.ext_getElem
 ·simp
 ·intro i h1 h2
  simp only [List.length_map,List.length_range] at h1
  simp [List.getD_eq_getElem?_getD,List.getElem?_eq_getElem h1]
theorem Gt (bs:List UInt8):bY (aj bs):=by simp [bY,AV.one,cD,aj]
def BE (T:aD) (E:List (Nat×AV)) (M:List af) (st xt:TypeId) (x y:Operand):Option Out:=
 match eL T st,bE T xt,gi (aC E y),aC E x with
 | some (e,k,b,_),some .st,some bs,some vx=>bif k.beq 1 then (match oP M e k vx with
  | some (some u,n,rows)=>some ⟨[n=rows.length,(2*(n+bs.length)+192)*b≤281474976710656,n+bs.length<4611686018427387904],.sl u (n+bs.length),(M.map (ga [u])).set u (.rw e k (rows++aj bs)),[u],[u],none⟩
  | some (none,_,_)=>some ⟨[(2*(0+bs.length)+192)*b≤281474976710656,0+bs.length<4611686018427387904],.sl M.length bs.length,M++[.rw e k (aj bs)],[],[],none⟩
  | none=>none) else none
 | _,_,_,_=>none
theorem N6 (hT:aP P T=true) {st xt:TypeId} {x y:Operand} (h:BE T E M st xt x y=some out):aB P ⟨d,.call ⟨.builtin .append,#[x,y],#[st,xt]⟩,ty,pos,aft,gd⟩ E M out:=by
 unfold BE at h
 split at h
 rotate_left
 ·cases h
 rename_i e k b z bs vx he hu hs hx
 cases hO:k.beq 1 with
 | false=>simp [hO] at h
 | true=>
  simp only [hO,cond_true] at h
  obtain rfl:=Nat.eq_of_beq_eq_true hO
  have Kd:(aj bs).length=bs.length:=by simp [aj]
  split at h
  ·rename_i u n rows hd
   simp only [Option.some.injEq] at h;subst h
   obtain ⟨rfl,hM⟩:=uQ hd
   intro D w0 K0 β F I ρ w C hv
   obtain ⟨hn,h1,h2,-⟩:=hv
   obtain ⟨X1,G1,H0,hF,cn,a1,-⟩:=lz C.rm hM hn (C.ev hx)
   have R1:=C.rm.x.dX hM
   rw [hF,List.nil_append] at R1
   have aH:u<(M.set u .dead).length:=by rw [List.length_set];exact cT hM
   have dL:kK P xt w 1 (ρ y) bs.length (lay bs.length fun i=>[Value.int .u8 (bs.getD i 0).toNat]):=by
    rw [Gs,C.str hs];exact kK.str (bj hT hu)
   refine (vE hT he rfl rfl (R1.perm (Y:=(H0++bq n 1 G1)++[]) (by rw [List.append_nil])) aH (by simp [aL]) cn hn Kd.symm a1 rfl (Hu _ bs) (by rw [jI]) dL h1 h2 (Gt bs)).mono ?_
   rintro v' w' ⟨β',F',R',hE,iC,hr⟩
   rw [uE] at R'
   exact ⟨β',F',I,R',hE,aZ.refl _,fun q _ hq=>by have mh:q≠u:=(by simpa using hq);rw [iC q mh];simp only [aL];rw [if_neg mh],hr⟩
  ·rename_i n0 r0 hd
   simp only [Option.some.injEq] at h;subst h
   obtain rfl:=yR hd
   intro D w0 K0 β F I ρ w C hv
   obtain ⟨h1,h2,-⟩:=hv
   have mg:ρ x=.slice none 0 0:=by have:=C.ev hx;generalize ρ x=q at this;cases this with | d r=>cases r;rfl
   have dL:kK P xt w 1 (ρ y) bs.length (lay bs.length fun i=>[Value.int .u8 (bs.getD i 0).toNat]):=by
    rw [Gs,C.str hs];exact kK.str (bj hT hu)
   refine (zR hT he mg rfl C.rm.x Kd.symm (Hu _ bs) (by rw [jI]) dL h1 h2 (Gt bs)).mono ?_
   rintro v' w' ⟨β',F',R',hE,iC,hr⟩
   exact ⟨β',F',I,R',hE.b _,aZ.refl _,fun q hq _=>iC q hq,hr⟩
  ·cases h
def AT (E:List (Nat×AV)) (M:List af) (r:Value) (c x y:Operand):Option Out:=
 match aC E c,aC E x,aC E y with
 | some (.d (.v vc)),some (.d (.v vx)),some (.d (.v vy))=>some (lk [∃ b:Bool,vc=.bool b∧(bif b then vx else vy)=r] (.d (.v r)) M)
 | _,_,_=>none
theorem Ctx.val (C:Ctx D w0 K0 E M β F I ρ w) {x:Operand} {v:Value} (h:aC E x=some (.d (.v v))):ρ x=v:=by
 obtain ⟨y,hy,r⟩:=C.aR h
 cases r with | d r=>cases r;exact hy
theorem MS {r:Value} {c x y:Operand} (h:AT E M r c x y=some out):aB P ⟨d,.pick c x y,ty,pos,aft,gd⟩ E M out:=by
 unfold AT at h
 split at h
 ·rename_i vc vx vy hc hx hy
  simp only [Option.some.injEq] at h;subst h
  refine jM vg fun C bJ=>?_
  obtain ⟨⟨b,rfl,rfl⟩,-⟩:=bJ
  refine ⟨_,.d (.v _),fun w Φ aI=>QR (C.val hc) (C.val hx) (C.val hy) ?_⟩
  cases b<;>exact aI
 ·cases h
def I4 (P:Program) (t t':TypeId):Bool:=match P.underlying t,P.underlying t' with
 | some (.pointer s),some .unsafePointer=>(match P.info? s with | some j=>!(j.size==0) | none=>false)
 | _,_=>false
def I5 (P:Program) (t t' T n:Nat):Bool:=match P.underlying t,P.underlying t' with
 | some .unsafePointer,some (.pointer u)=>(P.info? u).isSome&&liesAt P P.depth T (n / P.cellsOf T) 0 u 1
 | _,_=>false
def AU (P:Program) (E:List (Nat×AV)) (M:List af) (oc:Option aW) (t t':TypeId) (x:Operand):Option Out:=
 match aC E x,oc with
 | some (.pt u 0),some (.b c)=>(match M[u]? with
  | some (.bx Tb cells)=>some ⟨[(bif c then I4 P t t' else I5 P t t' Tb cells.length)=true,0<cells.length],.pt u 0,M,[],[],some [u]⟩
  | _=>none)
 | _,_=>none
theorem Gu {w:World} {b:Nat} {c:Array Value} {t:TypeId} {fr:Nat×Nat} (h:w.heap[b]?=some (.cells c t fr)):w.shape? b=some (t,c.size):=by
 unfold World.shape?;rw [h]
theorem MT {t t':TypeId} {x:Operand} (h:AU P E M oc t t' x=some out):aB P ⟨d,.convert t t' x,ty,pos,aft,gd⟩ E M out:=by
 unfold AU at h
 split at h
 rotate_left
 ·cases h
 rename_i u c hx
 split at h
 rotate_left
 ·cases h
 rename_i Tb cells hM
 simp only [Option.some.injEq] at h;subst h
 refine aB.look ?_ (by simpa using cT hM)
 intro D w0 K0 β F I ρ w C hv
 obtain ⟨hc,h0,-⟩:=hv
 obtain ⟨y,hy,r⟩:=C.aR hx
 cases r with
 | @pt _ _ b cc hb=>
  refine ⟨_,.pt hb,fun w' hs=>?_⟩
  obtain ⟨H,hF,hB,-⟩:=C.rm.at hM
  have hH:ai w' (F u):=hs.2 u (by simp)
  rw [hF] at hH
  cases hB with
  | bx aE ys hl hr=>
   rw [hb] at aE;cases aE
   have mb:=Gu hH.one
   have aX:ys.toArray.size=cells.length:=by simp [hl]
   rw [aX] at mb
   have key:(convert t t' (.pointer (some ⟨b,0,none⟩))).run P w'=.ok (.pointer (some ⟨b,0,none⟩)) w':=by
    cases c with
    | true=>
     simp only [cond_true] at hc
     unfold I4 at hc
     split at hc
     ·rename_i s h1 h2
      split at hc
      ·rename_i j hj
       exact Go.Lib.run_to_unsafe w' ⟨b,0,none⟩ h1 h2 hj (by simpa using hc) mb h0
      ·cases hc
     ·cases hc
    | false=>
     simp only [cond_false] at hc
     unfold I5 at hc
     split at hc
     ·rename_i s h1 h2
      rw [Bool.and_eq_true] at hc
      obtain ⟨j,hj⟩:=Option.isSome_iff_exists.1 hc.1
      exact Go.Lib.run_from_unsafe w' ⟨b,0,none⟩ h1 h2 hj mb hc.2
     ·cases hc
   simp only [execOp,hy,Sem.run_bind,key,Result.andThen_ok,Sem.run_pure]
def xd (P:Program) (t:TypeId):Bool:=match P.underlying t with | some (.pointer te)=>(P.info? te).isSome | _=>false
def CC (P:Program) (E:List (Nat×AV)) (M:List af) (op:BinOp) (t:TypeId) (x y:Operand):Option Out:=
 match op,aC E x,aC E y with
 | .eql,some (.pt u o),some (.pt v q)=>bif Nat.beq u v&&Nat.beq o q then some (lk [xd P t=true] (.b true) M) else none
 | .neq,some (.pt u o),some (.pt v q)=>bif Nat.beq u v&&Nat.beq o q then some (lk [xd P t=true] (.b false) M) else none
 | _,_,_=>none
theorem Hw {t:TypeId} (h:xd P t=true):∃ te j,P.underlying t=some (.pointer te)∧P.info? te=some j:=by
 unfold xd at h
 split at h
 ·rename_i te h1
  obtain ⟨j,hj⟩:=Option.isSome_iff_exists.1 h
  exact ⟨te,j,h1,hj⟩
 ·cases h
theorem PC {op:BinOp} {t t':TypeId} {x y:Operand} (h:CC P E M op t x y=some out):aB P ⟨d,.binOp op t x y t',ty,pos,aft,gd⟩ E M out:=by
 unfold CC at h
 split at h
 ·rename_i u o v q hx hy
  cases hc:(Nat.beq u v&&Nat.beq o q) with
  | false=>simp [hc] at h
  | true=>
   simp only [hc,cond_true,Option.some.injEq] at h;subst h
   rw [Bool.and_eq_true] at hc
   obtain rfl:=Nat.eq_of_beq_eq_true hc.1
   obtain rfl:=Nat.eq_of_beq_eq_true hc.2
   refine aB.same fun C hv=>?_
   obtain ⟨te,j,h1,h2⟩:=Hw hv.1
   obtain ⟨y1,e1,r1⟩:=C.aR hx
   obtain ⟨y2,e2,r2⟩:=C.aR hy
   cases r1 with
   | pt hb=>
    cases r2 with
    | pt cv=>
     rw [hb] at cv;cases cv
     refine ⟨_,fun w' _=>?_,.d (.v _)⟩
     simp only [execOp,e1,e2,eqGuard,Sem.run_bind,Sem.run_pure,Result.andThen_ok,run_eql_ptr_same w' _ h1 h2,Bool.not_true,Bool.false_eq_true,if_false]
 ·rename_i u o v q hx hy
  cases hc:(Nat.beq u v&&Nat.beq o q) with
  | false=>simp [hc] at h
  | true=>
   simp only [hc,cond_true,Option.some.injEq] at h;subst h
   rw [Bool.and_eq_true] at hc
   obtain rfl:=Nat.eq_of_beq_eq_true hc.1
   obtain rfl:=Nat.eq_of_beq_eq_true hc.2
   refine aB.same fun C hv=>?_
   obtain ⟨te,j,h1,h2⟩:=Hw hv.1
   obtain ⟨y1,e1,r1⟩:=C.aR hx
   obtain ⟨y2,e2,r2⟩:=C.aR hy
   cases r1 with
   | pt hb=>
    cases r2 with
    | pt cv=>
     rw [hb] at cv;cases cv
     refine ⟨_,fun w' _=>?_,.d (.v _)⟩
     simp only [execOp,e1,e2,eqGuard,Sem.run_bind,Sem.run_pure,Result.andThen_ok,Go.Lib.run_neq_ptr_same w' _ h1 h2,Bool.not_true,Bool.false_eq_true,if_false]
 ·cases h
def Sf (P:Program) (f:FuncId):Prop:=∃ fn,P.funcs[f]?=some fn∧(fn.name == "runtime.NumGoroutine")=false∧fn.body.isNone=true∧Extern.findNext fn=none∧Extern.find fn=some Extern.AbiNoEscape.same
def AW (P:Program) (E:List (Nat×AV)) (M:List af) (g:Operand) (args:Array Operand):Option Out:=
 match aC E g,args with
 | some (.fn f []),⟨[x]⟩=>(match aC E x with | some (.pt u o)=>some (lk [Sf P f] (.pt u o) M) | _=>none)
 | _,_=>none
theorem MU {g:Operand} {args:Array Operand} {ea:Array TypeId} (h:AW P E M g args=some out):aB P ⟨d,.call ⟨.value g,args,ea⟩,ty,pos,aft,gd⟩ E M out:=by
 unfold AW at h
 split at h
 ·rename_i f x hg
  split at h
  ·rename_i u o hx
   simp only [Option.some.injEq] at h;subst h
   refine aB.same fun C hv=>?_
   obtain ⟨⟨fn,h1,h2,h3,h4,h5⟩,-⟩:=hv
   obtain ⟨yg,eg,rg⟩:=C.aR hg
   obtain ⟨yx,ex,rx⟩:=C.aR hx
   refine ⟨yx,fun w' _=>?_,rx⟩
   cases rg with
   | fn cs hl hr=>
    have cd:cs=[]:=List.eq_nil_of_length_eq_zero (by simpa using hl)
    subst cd
    have:=run_callFunc_extern h1 h2 h3 h4 h5 #[yx] w'
    simp only [Go.Lib.run_noEscape,Result.andThen_ok] at this
    simp [execOp,resolve,eg,ex,Deferred.ofValue,invoke,this]
  ·cases h
 ·cases h
def AX (E:List (Nat×AV)) (M:List af) (x:Operand):Option Out:=
 match aC E x with
 | some (.sl u n)=>(match M[u]? with | some (.rw _ k rows)=>bif k.beq 1 then some ⟨[n=rows.length,0<n],.ep u 1 0 0,M,[],[],some [u]⟩ else none | _=>none)
 | _=>none
theorem MV {t:TypeId} {x:Operand} (h:AX E M x=some out):aB P ⟨d,.call ⟨.builtin .unsafeSliceData,#[x],#[t]⟩,ty,pos,aft,gd⟩ E M out:=by
 unfold AX at h
 split at h
 rotate_left
 ·cases h
 rename_i u n hx
 split at h
 rotate_left
 ·cases h
 rename_i Tr k rows hM
 cases hO:k.beq 1 with
 | false=>simp [hO] at h
 | true=>
  simp only [hO,cond_true,Option.some.injEq] at h;subst h
  obtain rfl:=Nat.eq_of_beq_eq_true hO
  refine aB.look ?_ (by simpa using cT hM)
  intro D w0 K0 β F I ρ w C hv
  obtain ⟨hn,h0,-⟩:=hv
  obtain ⟨y,hy,r⟩:=C.aR hx
  cases r with
  | @sl _ _ cc a hb=>
   obtain ⟨H,hF,hB,-⟩:=C.rm.at hM
   cases hB with
   | rw aE X G hl hs hr=>
    rw [hb] at aE;cases aE
    obtain ⟨b',cap,cs,fz,he,rfl,et,cd,ch,kg⟩:=hs.block (by omega)
    simp only [Value.slice.injEq] at he;obtain ⟨rfl,-,rfl⟩:=he
    refine ⟨.pointer (some ⟨b',0,none⟩),by simpa using aq.ep (k:=1) (i:=0) (o:=0) hb,fun w' _=>?_⟩
    have:=Go.Lib.run_unsafeSliceData_row (P:=P) w' #[t] ty ⟨b',0,none⟩ n cc (by omega)
    simp only [execOp,resolve,List.map_toArray,List.map,hy,Sem.run_bind,Sem.run_pure,Result.andThen_ok,invoke,builtin,this]
theorem PD {w:World} {b n:Nat} {c:Array Value} {e:TypeId} {fz:Nat×Nat} (hb:w.heap[b]?=some (.cells c e fz)) (hn:n≠0):∃ fT,w.freeze ⟨b,0,none⟩ n=bB w b (.cells c e fT):=by
 obtain ⟨lo,hi⟩:=fz
 refine ⟨if lo==hi then (0,0+n) else (min lo 0,max hi (0+n)),?_⟩
 unfold World.freeze bB
 rw [if_neg hn]
 congr 1
 apply Array.ext_getElem?
 intro j
 have aH:=jK hb
 rw [Array.getElem?_modify,Array.getElem?_setIfInBounds]
 by_cases e':b=j
 ·subst e'
  have hg:w.heap[b]=.cells c e (lo,hi):=by rw [Array.getElem?_eq_getElem aH] at hb;exact Option.some.inj hb
  simp [aH,hg]
 ·simp [e']
def I6 (P:Program) (t T:TypeId):Bool:=match P.underlying t with | some (.pointer e)=>Nat.beq e T&&Nat.beq (P.cellsOf e) 1 | _=>false
def BF (P:Program) (E:List (Nat×AV)) (M:List af) (oc:Option aW) (t:TypeId) (x y:Operand):Option Out:=
 match aC E x,bN (aC E y),oc with
 | some (.ep u 1 0 0),some (.i64,z),some (.res (.v (.string s)))=>(match M[u]? with
  | some (.rw Tr k rows)=>bif k.beq 1 then some ⟨[z=(rows.length:Int),0<rows.length,rows=aj s.data.toList,I6 P t Tr=true,rows.length≤9223372036854775807],.d (.v (.string s)),M.set u .dead,[u],[],none⟩ else none
  | _=>none)
 | _,_,_=>none
theorem N7 {t t2:TypeId} {x y:Operand} (h:BF P E M oc t x y=some out):aB P ⟨d,.call ⟨.builtin .unsafeString,#[x,y],#[t,t2]⟩,ty,pos,aft,gd⟩ E M out:=by
 unfold BF at h
 split at h
 rotate_left
 ·cases h
 rename_i u z s hx hz
 split at h
 rotate_left
 ·cases h
 rename_i Tr k rows hM
 cases hO:k.beq 1 with
 | false=>simp [hO] at h
 | true=>
  simp only [hO,cond_true,Option.some.injEq] at h;subst h
  obtain rfl:=Nat.eq_of_beq_eq_true hO
  intro D w0 K0 β F I ρ w C hv
  obtain ⟨rfl,h0,mw,rh,Wb,-⟩:=hv
  generalize hl:s.data.toList=bs at mw
  have hs:s=⟨bs.toArray⟩:=by rw [← hl]
  subst hs
  have hlen:rows.length=bs.length:=by rw [mw];simp [aj]
  obtain ⟨yx,ex,rx⟩:=C.aR hx
  have Ke:=C.int hz
  cases rx with
  | @ep _ _ _ _ b cc hb=>
   have R1:=C.rm.x.dX hM
   have hB:=C.rm.blk u _ hM
   have hH:=C.rm.jm hM
   generalize mj:F u=Fu at hB R1 hH
   cases hB with
   | @rw _ _ _ _ _ H0 aE X G cM UB hr=>
    rw [hb] at aE;cases aE
    obtain ⟨b',cap,cs,fz,he,rfl,et,cd,ch,kg⟩:=UB.block (by omega)
    simp only [Value.slice.injEq,Option.some.injEq,Addr.mk.injEq] at he;obtain ⟨⟨rfl,-⟩,-,rfl⟩:=he
    have hw:w.heap[b]?=some (.cells cs Tr fz):=(ai.app.1 hH).1.one
    have ct:(Builtin.unsafeString_ #[t,t2] ty #[.pointer (some ⟨b,0,none⟩),.int .i64 bs.length]).run P w=.ok (.string ⟨bs.toArray⟩) (w.freeze ⟨b,0,none⟩ bs.length):=by
     unfold I6 at rh
     split at rh
     ·rename_i e he
      rw [Bool.and_eq_true] at rh
      obtain rfl:=Nat.eq_of_beq_eq_true rh.1
      refine Go.Lib.run_unsafeString_row w t t2 ty e he (Nat.eq_of_beq_eq_true rh.2) b cs.size (Gu hw) bs (by intro hn;rw [hn,List.length_nil] at hlen;omega) (by rw [cd,← hlen];omega) (by omega) fun j q hj=>?_
      rw [add_eq,Nat.zero_add,cell_of hw]
      have rj:=(List.getElem?_eq_some_iff.1 hj).1
      have e1:(cs.toList.take (rows.length*1))[j]?=cs[j]?:=by rw [List.getElem?_take,if_pos (by omega),Array.getElem?_toList]
      rw [← e1,kg]
      have bu:(aj bs)[j]?=some [.v (.int .u8 (q.toNat:Int))]:=by simp [aj,hj]
      rw [← mw] at bu
      obtain ⟨qZ,Dk⟩:=cM j _ bu
      have hg:=jh (n:=rows.length) (k:=1) (X:=X) (fun i hi=>(cM i _ (List.getElem?_eq_getElem hi)).2) (i:=j) (j:=0) (by omega) (by omega)
      rw [Nat.mul_one,Nat.add_zero] at hg
      obtain ⟨v0,aT⟩:∃ v0,(X j)[0]?=some v0:=⟨(X j)[0]'(by omega),List.getElem?_eq_getElem _⟩
      have hd:=hr j _ 0 _ _ bu rfl aT
      generalize G j 0=GG at hd
      cases hd
      rw [hg,aT]
     ·cases rh
    obtain ⟨fT,iA⟩:=PD (n:=bs.length) hw (by omega)
    rw [iA] at ct
    have hex:(execOp ρ ⟨d,.call ⟨.builtin .unsafeString,#[x,y],#[t,t2]⟩,ty,pos,aft,gd⟩).run P w=.ok (.value (.string ⟨bs.toArray⟩)) (bB w b (.cells cs Tr fT)):=by
     rw [hlen] at Ke
     simp only [execOp,resolve,List.map_toArray,List.map,ex,Ke,Nat.zero_mul,Nat.zero_add,Sem.run_bind,Sem.run_pure,Result.andThen_ok,invoke,builtin,ct]
    refine aS.pure hex ?_
    have R2:=(R1.perm (Y:=[(b,.cells cs Tr fz)]++bq rows.length 1 G) (by rw [List.nil_append])).drop
    have aU:=(R2.st.perm (K:=(b,.cells cs Tr fz)::((List.range (M.set u .dead).length).flatMap (aL F u [])++I)) (by classical rw [List.perm_iff_count];intro z;simp only [List.count_append,List.count_cons,List.count_nil];omega)).set (.cells cs Tr fT)
    refine ⟨β,aL F u [],[(b,.cells cs Tr fT)]++I,⟨R2.len,fun v bl hv=>(R2.blk v bl hv).mono (fun w hw=>⟨hw.1,(ai.app.1 hw.2).2⟩) (Ext.refl _),?_⟩,(Ext.refl β).b _,⟨_,rfl⟩,fun v hv hn=>by simp only [aL];rw [if_neg (by simpa using hn)],.d (.v _)⟩
    exact aU.perm (by classical rw [List.perm_iff_count];intro z;simp only [List.count_append,List.count_cons,List.count_nil];omega)
end Go.Proofs.YtgkdnnmcjjabdaaGreat
namespace Go.Proofs.YtgkdnnmcjjabdaaGreat
open Go.RowKit
variable {P:Program} {T:aD} {D:List Nat} {w0:World} {K0:World→Prop} {E:List (Nat×AV)} {M:List af} {β:Beta} {F:Nat→ah} {I X:ah} {ρ:Operand→Value} {w:World}
variable {d:Option Tmp} {ty:TypeId} {pos:String} {aft:Array Edge} {gd:Option (Nat×Bool)} {oc:Option aW} {out:Out}
def BG (T:aD) (E:List (Nat×AV)) (M:List af) (t:TypeId) (x:Operand):Option Out:=
 match bE T t,aC E x with
 | some (.sl _),some (.d (.v (.slice none 0 0)))=>some (lk [] (.n 0) M)
 | _,_=>none
theorem N8 {x:Operand} {t e n c:Nat} {a:Option Addr} (ht:P.underlying t=some (.slice e)) (hx:ρ x=.slice a n c) (w:World):(execOp ρ ⟨d,.call ⟨.builtin .cap,#[x],#[t]⟩,ty,pos,aft,gd⟩).run P w=.ok (.value (.int .i64 (c:Int))) w:=by
 have:(Builtin.cap_ #[t] ty #[.slice a n c]).run P w=.ok (.int .i64 (c:Int)) w:=by
  unfold Builtin.cap_
  simp only [List.getElem?_toArray,List.getElem?_cons_zero,Sem.run_bind,run_underlying ht,Result.andThen_ok,Sem.run_pure];rfl
 simp only [execOp,resolve,List.map_toArray,List.map,hx,Sem.run_bind,Sem.run_pure,Result.andThen_ok,invoke,builtin,this]
theorem N9 (hT:aP P T=true) {t:TypeId} {x:Operand} (h:BG T E M t x=some out):aB P ⟨d,.call ⟨.builtin .cap,#[x],#[t]⟩,ty,pos,aft,gd⟩ E M out:=by
 unfold BG at h
 split at h
 ·rename_i e ht hx
  simp only [Option.some.injEq] at h;subst h
  have b5:=bj hT ht
  refine aB.same fun C bJ=>?_
  obtain ⟨y,hy,r⟩:=C.aR hx
  cases r with
  | d hd=>cases hd;exact ⟨_,fun w' _=>N8 b5 hy w',.d (.v _)⟩
 ·cases h
def I7 (P:Program) (f e:Nat):Prop:=∃ fn t,P.funcs[f]?=some fn∧(fn.name == "runtime.NumGoroutine")=false∧fn.body.isNone=true∧Extern.findNext fn=none∧Extern.find fn=some (Extern.BytealgMakeNoZero.makeNoZero fn.params fn.resultTypes)∧fn.resultTypes=#[t]∧P.underlying t=some (.slice e)
def BH (P:Program) (E:List (Nat×AV)) (M:List af) (oc:Option aW) (g:Operand) (args:Array Operand):Option Out:=
 match aC E g,args,oc with
 | some (.fn f []),⟨[x]⟩,some (.n2 m e)=>(match bN (aC E x) with
  | some (.i64,z)=>some ⟨[I7 P f e,z=(m:Int),m≤281474976710656],.sl M.length m,M++[.rw e 1 (List.replicate m [.jk])],[],[],none⟩
  | _=>none)
 | _,_,_=>none
theorem Oa {f e m:Nat} (h:I7 P f e) (hm:m≤281474976710656) (w:World):∃ (c:Nat) (cs:Array Value),m≤c∧cs.size=c∧(callFunc f #[.int .i64 (m:Int)]).run P w=.ok (.value (.slice (some ⟨w.heap.size,0,none⟩) m c)) (w.drew.drew.alloc (.cells cs e (0,0))):=by
 obtain ⟨fn,t,h1,h2,h3,h4,h5,h6,h7⟩:=h
 obtain ⟨cs,hr,hc,-⟩:=Go.Lib.run_makeNoZero (P:=P) (w:=w) fn.params t e h7 m hm
 refine ⟨cs.size,cs,hc,rfl,?_⟩
 rw [run_callFunc_extern h1 h2 h3 h4 h5,h6,hr];rfl
theorem Ob {g:Operand} {args:Array Operand} {ea:Array TypeId} (h:BH P E M oc g args=some out):aB P ⟨d,.call ⟨.value g,args,ea⟩,ty,pos,aft,gd⟩ E M out:=by
 unfold BH at h
 split at h
 ·rename_i f x m e hg
  split at h
  ·rename_i z hx
   simp only [Option.some.injEq] at h;subst h
   intro D w0 K0 β F I ρ w C hv
   obtain ⟨hN,rfl,hm,-⟩:=hv
   obtain ⟨yg,eg,rg⟩:=C.aR hg
   have ex:=C.int hx
   cases rg with
   | fn cs hl hr=>
    have cd:cs=[]:=List.eq_nil_of_length_eq_zero (by simpa using hl)
    subst cd
    obtain ⟨c,cs,h1,h2,h3⟩:=Oa hN hm w
    refine aS.pure (v:=.slice (some ⟨w.heap.size,0,none⟩) m c) (w':=w.drew.drew.alloc (.cells cs e (0,0))) (by simp [execOp,resolve,eg,ex,Deferred.ofValue,invoke,h3]) ?_
    have gr:Gr w (w.drew.drew.alloc (.cells cs e (0,0))):=((Gr.drew w).trans (Gr.drew w.drew)).trans (Gr.alloc w.drew.drew _)
    have nf:cQ w (w.drew.drew.alloc (.cells cs e (0,0))) [(w.heap.size,.cells cs e (0,0))]:=(cQ.alloc w.drew.drew (.cells cs e (0,0))).ahead ((Gr.drew w).trans (Gr.drew w.drew))
    refine ⟨_,_,I,C.rm.new (q:=(some ⟨w.heap.size,0,none⟩,c)) gr nf ?_,(Ext.app _ _).b _,aZ.refl _,ft _ _,.sl (cH C.rm _)⟩
    have hX:∀ i,i<m→([cs[i]!]:List Value).length=1:=fun _ _=>rfl
    have nh:lay m (fun i=>[cs[i]!])=cs.toList.take m:=by
     have key:∀ k,k≤cs.size→lay k (fun i=>[cs[i]!])=cs.toList.take k:=by
      intro k
      induction k with
      | zero=>intro _;simp [lay]
      | succ k ih=>
       intro hk
       have:=ih (by omega)
       simp only [lay] at this ⊢
       rw [List.range_succ,List.flatMap_append,this,List.take_add_one,Array.getElem?_toList,Array.getElem?_eq_getElem (by omega)]
       simp [getElem!_pos cs k (by omega)]
     exact key m (by omega)
    have:=bn.rw (K:=fun w=>K0 w∧ai w I) (β:=β++[(some ⟨w.heap.size,0,none⟩,c)]) (u:=M.length) (T:=e) (k:=1) (rows:=List.replicate m [.jk]) (H0:=[(w.heap.size,.cells cs e (0,0))]) (cH C.rm _) (fun i=>[cs[i]!]) (fun _ _=>[]) (fun i r hi=>by
     rw [List.getElem?_replicate] at hi
     split at hi
     ·simp only [Option.some.injEq] at hi;subst hi;exact ⟨rfl,rfl⟩
     ·simp at hi) (by
     rw [List.length_replicate]
     exact ⟨by rw [nh];simp;omega,Or.inr ⟨w.heap.size,c,_,(0,0),rfl,rfl,la _,by rw [h2];omega,h1,by rw [nh];simp⟩⟩) (fun i r j q x hi h1 h2=>by
     rw [List.getElem?_replicate] at hi
     split at hi
     ·simp only [Option.some.injEq] at hi;subst hi
      cases j with
      | succ j=>simp at h1
      | zero=>simp at h1;subst h1;exact .jk _
     ·simp at hi)
    rw [jI,List.append_nil] at this
    exact this
  ·cases h
 ·cases h
end Go.Proofs.YtgkdnnmcjjabdaaGreat
namespace Go.Proofs.YtgkdnnmcjjabdaaGreat
open Go.RowKit
variable {P:Program} {T:aD} {D:List Nat} {w0:World} {K0:World→Prop} {E:List (Nat×AV)} {M:List af} {β:Beta} {F:Nat→ah} {I:ah} {ρ:Operand→Value} {w:World}
variable {d:Option Tmp} {ty:TypeId} {pos:String} {aft:Array Edge} {gd:Option (Nat×Bool)} {oc:Option aW} {out:Out}
theorem qc {K:World→Prop} {u b c e k m m2 o:Nat} {cells l:List AV} {ys zs:List Value} (hb:β[u]?=some (some ⟨b,0,none⟩,c)) (hl:ys.length=c*k) (hm:cells.length=m*k) (hr:∀ (j:Nat) c y,cells[j]?=some c→ys[j]?=some y→aq K β c y)
  (di:zs.length=l.length) (hz:∀ (j:Nat) c y,l[j]?=some c→zs[j]?=some y→aq K β c y) (ho:o≤cells.length) (Kf:m2≤c) (hlen:(cells.take o++(l++cells.drop (o+l.length))).length=m2*k):
  bn K β u (.fl e k m2 (cells.take o++(l++cells.drop (o+l.length)))) [(b,.cells (bS ys.toArray o zs) e (0,0))]:=by
 have nJ:m2*k≤c*k:=Nat.mul_le_mul_right _ Kf
 have Br:=hlen
 simp only [List.length_append,List.length_take,List.length_drop] at Br
 have hle:o+zs.length≤ys.toArray.size:=by simp;omega
 have he:(bS ys.toArray o zs)=(bS ys.toArray o zs).toList.toArray:=by simp
 rw [he]
 refine .fl hb _ (by rw [Array.length_toList,ib];simpa using hl) hlen Kf ?_
 intro j c z e1 e2
 rw [Array.getElem?_toList,pD _ _ _ _ hle] at e2
 by_cases hj:o≤j∧j<o+zs.length
 ·rw [if_pos hj] at e2
  rw [List.getElem?_append_right (by simp;omega),List.getElem?_append_left (by simp;omega)] at e1
  refine hz (j-o) c z ?_ e2
  rw [← e1];congr 1;simp;omega
 ·rw [if_neg hj] at e2
  rw [List.getElem?_toArray] at e2
  refine hr j c z ?_ e2
  rcases Nat.lt_or_ge j o with nE | nE
  ·rw [List.getElem?_append_left (by simp;omega),List.getElem?_take,if_pos nE] at e1;exact e1
  ·rw [List.getElem?_append_right (by simp;omega),List.getElem?_append_right (by simp;omega),List.getElem?_drop] at e1
   rw [← e1];congr 1;simp;omega
theorem Ab {α:Type} {k:Nat}:∀ {rows:List (List α)},(∀ r ∈ rows,r.length=k)→rows.flatten.length=rows.length*k∧∀ (i j:Nat) r,rows[i]?=some r→j<k→rows.flatten[i*k+j]?=r[j]?
 | [],_=>⟨by simp,by simp⟩
 | r::rs,h=>by
  have hr:=h r (by simp)
  obtain ⟨h1,h2⟩:=Ab (rows:=rs) (fun x hx=>h x (by simp [hx]))
  refine ⟨by simp [h1,hr,Nat.succ_mul,Nat.add_comm],fun i j q hq hj=>?_⟩
  cases i with
  | zero=>simp at hq;subst hq;rw [Nat.zero_mul,Nat.zero_add,List.flatten_cons,List.getElem?_append_left (by omega)]
  | succ i=>
   simp at hq
   rw [List.flatten_cons,List.getElem?_append_right (by rw [Nat.succ_mul];omega),← h2 i j q hq hj]
   congr 1;rw [Nat.succ_mul];omega
theorem Ac {K:World→Prop} {l:List AV} {X:List Value} (h:l.all AV.one=true) (hl:X.length=l.length) (hr:∀ (j:Nat) c z,l[j]?=some c→X[j]?=some z→aq K β c z):∀ q ∈ X,cD q=true:=by
 intro q hq
 obtain ⟨j,hj,rfl⟩:=List.getElem_of_mem hq
 have eu:j<l.length:=by omega
 exact AV.Az (hr j _ _ (List.getElem?_eq_getElem eu) (List.getElem?_eq_getElem hj)) (List.all_eq_true.1 h _ (List.getElem_mem eu))
def AY (T:aD) (E:List (Nat×AV)) (M:List af) (oc:Option aW) (st:TypeId) (x y:Operand):Option Out:=
 match eL T st,aC E x,aC E y,oc with
 | some (_,k,_,_),some (.sf u k' 0 n _),some (.d (.ro k3 rows)),some (.res (.ag ds))=>(match M[u]? with
  | some (.fl e2 k2 m cells)=>bif k.beq k'&&(k.beq k2&&(k.beq k3&&n.ble m)) then some ⟨[bY rows,(rows.flatten.map AV.d).take (min rows.length n*k)++cells.drop ((rows.flatten.map AV.d).take (min rows.length n*k)).length=ds.map AV.d],.d (.v (.int .i64 ((min rows.length n:Nat):Int))),M.set u (.fl e2 k2 m (ds.map .d)),[u],[],none⟩ else none
  | _=>none)
 | _,_,_,_=>none
theorem MW (hT:aP P T=true) {st xt:TypeId} {x y:Operand} (h:AY T E M oc st x y=some out):aB P ⟨d,.call ⟨.builtin .copy,#[x,y],#[st,xt]⟩,ty,pos,aft,gd⟩ E M out:=by
 unfold AY at h
 split at h
 rotate_left
 ·simp at h
 rename_i e k b z u k' n q k3 rows ds he hx hy
 obtain ⟨zv,ok,-,-⟩:=fN hT he
 split at h
 rotate_left
 ·simp at h
 rename_i e2 k2 m cells hM
 cases hc:(k.beq k'&&(k.beq k2&&(k.beq k3&&n.ble m))) with
 | false=>simp [hc] at h
 | true=>
 simp only [hc,cond_true,Option.some.injEq] at h;subst h
 simp only [Bool.and_eq_true] at hc
 obtain ⟨c1,c2,c4,c3⟩:=hc
 obtain rfl:=Nat.eq_of_beq_eq_true c1
 obtain rfl:=Nat.eq_of_beq_eq_true c2
 obtain rfl:=Nat.eq_of_beq_eq_true c4
 have nK:=Nat.le_of_ble_eq_true c3
 intro D w0 K0 β F I ρ w C hv
 obtain ⟨db,DD,-⟩:=hv
 obtain ⟨yx,da,rx⟩:=C.aR hx
 obtain ⟨yy,eS,ry⟩:=C.aR hy
 obtain ⟨X,ra,hs⟩:=zS C.now ry
 have hX:∀ i,i<rows.length→(X i).length=k:=fun i hi=>(ra.hl i _ (List.getElem?_eq_getElem hi)).2
 have dc:∀ r ∈ rows,r.length=k:=fun r hr=>by
  obtain ⟨i,hi,rfl⟩:=List.getElem_of_mem hr
  exact (ra.hl i _ (List.getElem?_eq_getElem hi)).1
 obtain ⟨f1,f2⟩:=Ab dc
 have cI:=dA hX
 have s2:(lay rows.length X).length=(rows.flatten.map AV.d).length:=by rw [cI,List.length_map,f1]
 have s3:∀ (j:Nat) c z,(rows.flatten.map AV.d)[j]?=some c→(lay rows.length X)[j]?=some z→aq (fun w=>K0 w∧ai w I) β c z:=fun j c z e1 e2=>by
  have rj:j<rows.length*k:=by rw [← cI];exact (List.getElem?_eq_some_iff.1 e2).1
  have hk:0<k:=by
   rcases Nat.eq_zero_or_pos k with h0 | h0
   ·subst h0;simp at rj
   ·exact h0
  have hd:j / k<rows.length:=Nat.div_lt_of_lt_mul (by rw [Nat.mul_comm];exact rj)
  have hm:j%k<k:=Nat.mod_lt _ hk
  have e:j / k*k+j%k=j:=by rw [Nat.mul_comm,Nat.div_add_mod]
  have bu:rows[j / k]?=some rows[j / k]:=List.getElem?_eq_getElem hd
  have g1:=jh hX hd hm
  have g2:=f2 _ _ _ bu hm
  rw [e] at g1 g2
  rw [g1] at e2
  rw [List.getElem?_map,g2,Option.map_eq_some_iff] at e1
  obtain ⟨c',e1,rfl⟩:=e1
  exact .d (ra.hr _ _ _ c' z bu e1 e2)
 have Sg:(rows.flatten.map AV.d).all AV.one=true:=by
  unfold bY at db
  rw [List.all_eq_true] at db ⊢
  intro c hc
  obtain ⟨c',h1,rfl⟩:=List.mem_map.1 hc
  obtain ⟨r,h2,h3⟩:=List.mem_flatten.1 h1
  exact List.all_eq_true.1 (db r h2) c' h3
 have oA:=Ac Sg s2 s3
 have oQ:min rows.length n≤rows.length:=Nat.min_le_left _ _
 obtain ⟨hlen,ij⟩:=hs.pre (P:=P) oQ
 have aX:∀ w:World,(sizeOf e).run P w=.ok k w:=fun w=>by obtain ⟨i,hi,h1,-⟩:=ok.info;simp [sizeOf,typeInfo,Sem.run_bind,hi,h1]
 cases rx with
 | @sf _ _ _ _ bb cc cap _ hb ch hn hq=>
 obtain ⟨H,hF,hB,hH⟩:=C.rm.at hM
 cases hB with
 | fl aE ys hl hm ey hr=>
 rw [hb] at aE;cases aE
 have hw:=hH.one
 have a1:n*k≤m*k:=Nat.mul_le_mul_right _ nK
 have a2:m*k≤ys.length:=by rw [hl];exact Nat.mul_le_mul_right _ ey
 have a4:min rows.length n*k≤n*k:=Nat.mul_le_mul_right _ (Nat.min_le_right _ _)
 have a5:min rows.length n*k≤rows.length*k:=Nat.mul_le_mul_right _ oQ
 have g6:=n4 (P:=P) ((lay rows.length X).take (min rows.length n*k)) w ys.toArray (0*k) 0 hw (by simp;omega) (fun q hq=>oA q (List.mem_of_mem_take hq))
 simp only [Nat.add_zero] at g6
 refine aS.pure (v:=.int .i64 ((min rows.length n:Nat):Int)) (w':=bB w bb (.cells (bS ys.toArray (0*k) ((lay rows.length X).take (min rows.length n*k))) e2 (0,0))) ?_ ?_
 ·have oB:Nat.min rows.length n=min rows.length n:=rfl
  simp only [execOp,resolve,List.map_toArray,List.map,da,eS,Sem.run_bind,Sem.run_pure,Result.andThen_ok,invoke,builtin,Builtin.copy_,List.getElem?_toArray,List.getElem?_cons_zero,List.getElem?_cons_succ,run_underlying ok.aU,hlen,oB,aX,ij,g6]
  rfl
 ·have kj:=qc (K:=fun w=>K0 w∧ai w I) (e:=e2) (m2:=m) (o:=0*k) (l:=(rows.flatten.map AV.d).take (min rows.length n*k)) (zs:=(lay rows.length X).take (min rows.length n*k)) hb hl hm hr (by rw [List.length_take,List.length_take,s2]) (fun j c z e1 e2=>by
    rw [List.getElem?_take] at e1 e2
    split at e1
    ·rename_i hj;rw [if_pos hj] at e2;exact s3 j c z e1 e2
    ·simp at e1) (by omega) ey (by
    simp only [List.length_append,List.length_take,List.length_drop]
    omega)
  rw [Nat.zero_mul,List.take_zero,List.nil_append,Nat.zero_add,DD] at kj
  rw [Nat.zero_mul]
  exact ⟨β,_,I,C.rm.set hM hF kj,(Ext.refl β).b _,aZ.refl _,fun v hv hn=>by simp only [aL];rw [if_neg (by simpa using hn)],.d (.v _)⟩
def BI (T:aD) (E:List (Nat×AV)) (M:List af) (oc:Option aW) (t:TypeId) (x ix:Operand):Option Out:=
 match bE T t,aC E x,bN (aC E ix),oc with
 | some (.ar n e),some (.ag l),some (_,z),some (.ix i [c])=>(match dB T e with
  | some k=>some (lk [z=(i:Int),i<n,nG T e l (i*k)=some (.d c)] (.d c) M)
  | none=>none)
 | _,_,_,_=>none
theorem Oc (hT:aP P T=true) {t:TypeId} {x ix:Operand} (h:BI T E M oc t x ix=some out):aB P ⟨d,.index t x ix,ty,pos,aft,gd⟩ E M out:=by
 unfold BI at h
 split at h
 ·rename_i n e l _ z i c hu hx hz
  split at h
  ·rename_i k hk
   simp only [Option.some.injEq] at h;subst h
   have aX:∀ w:World,(sizeOf e).run P w=.ok k w:=fun w=>by
    have:=dV hT hk
    cases hi:P.info? e with
    | none=>simp [hi] at this
    | some inf=>simp only [hi,Option.map_some,Option.some.injEq] at this;simp [sizeOf,typeInfo,Sem.run_bind,hi,this]
   refine aB.same ?_
   intro D w0 K0 β F I ρ w C hv
   obtain ⟨rfl,aH,hp,-⟩:=hv
   have r:=C.ev hx
   have hi:=C.int hz
   generalize hy:ρ x=y at r
   cases r with
   | ag ys hl hr=>
    obtain ⟨y,h1,h2⟩:=v5 hT hp hl hr
    refine ⟨y,fun w' _=>?_,h1⟩
    have c9:=bj hT hu
    have hc:(0:Int)≤(i:Int)∧(i:Int)<(n:Int):=by omega
    simp only [execOp,hy,hi,Instr.index,asIntOf,Sem.run_bind,Sem.run_pure,run_underlying c9,Result.andThen_ok]
    rw [if_pos hc]
    simp only [Sem.run_bind,aX,Result.andThen_ok,Int.toNat_natCast,h2,Sem.run_pure]
  ·simp at h
 ·simp at h
def AZ (T:aD) (E:List (Nat×AV)) (M:List af) (t:TypeId) (x:Operand):Option Out:=
 match aC E x with
 | some (.pt u o)=>(match M[u]? with
  | some (.fl _ _ _ cells)=>(match iB T t cells o with | some v=>some ⟨[],v,M,[],[],some [u]⟩ | none=>none)
  | _=>none)
 | _=>none
theorem MX (hT:aP P T=true) {t:TypeId} {x:Operand} (h:AZ T E M t x=some out):aB P ⟨d,.load t x,ty,pos,aft,gd⟩ E M out:=by
 unfold AZ at h
 split at h
 ·rename_i u o hv
  split at h
  ·rename_i Tt k m cells hM
   split at h
   ·rename_i v e8
    simp only [Option.some.injEq] at h;subst h
    refine aB.look (fun C _=>?_) (by simpa using cT hM)
    obtain ⟨y,hy,r⟩:=C.aR hv
    cases r with
    | pt hb=>
     obtain ⟨H,hF,hB,hH⟩:=C.rm.at hM
     cases hB with
     | fl aE ys hl hm hc hr=>
      rw [hb] at aE;cases aE
      have hlen:cells.length≤ys.length:=by rw [hl,hm];exact Nat.mul_le_mul_right _ hc
      obtain ⟨y',h1,h2⟩:=ou hT (a:=⟨_,0,none⟩) (ys:=ys.take cells.length) (fun l ys=>aq.ag ys) e8 (hy.trans (by rw [add_eq,Nat.zero_add])) (by simp;omega) (fun j c z e1 e2=>hr j c z e1 (by
       rw [List.getElem?_take] at e2
       split at e2
       ·exact e2
       ·simp at e2))
      refine ⟨y',h1,fun w' hs=>h2 w' fun j z hj=>?_⟩
      have hw:ai w' _:=hs.2 u (by simp)
      rw [hF] at hw
      rw [List.getElem?_take] at hj
      split at hj
      ·rw [add_eq,cell_of hw.one,Nat.zero_add];simpa using hj
      ·simp at hj
   ·simp at h
  ·simp at h
 ·simp at h
def I8:List Value→Bool
 | .nilFunc::_=>true
 | _=>false
def vK (T:aD) (M:List af) (t:TypeId):Option Out:=
 match bE T t,ox T t with
 | some (.ar n e),some l=>(match dB T e with
  | some k=>bif l.length.beq (n*k)&&!I8 l then some ⟨[],.pt M.length 0,M++[.fl t k n (fM l)],[],[],none⟩ else none
  | none=>none)
 | _,_=>none
theorem ER (hT:aP P T=true) {t:TypeId} (h:vK T M t=some out):aB P ⟨d,.alloc t,ty,pos,aft,gd⟩ E M out:=by
 unfold vK at h
 split at h
 rotate_left
 ·simp at h
 rename_i n e l ht hz
 split at h
 rotate_left
 ·simp at h
 rename_i k hk
 cases hc:(l.length.beq (n*k)&&!I8 l) with
 | false=>simp [hc] at h
 | true=>
  simp only [hc,cond_true,Option.some.injEq] at h;subst h
  have cI:=Nat.eq_of_beq_eq_true (Bool.and_eq_true_iff.1 hc).1
  obtain ⟨z,o4,ke⟩:=va hT hz
  intro D w0 K0 β F I ρ w C _
  refine F7 (ke w) fun b w' g n'=>?_
  rw [o4] at n'
  obtain ⟨h1,h2⟩:=iG (K:=fun w=>K0 w∧ai w I) (β:=β++[(some ⟨b,0,none⟩,n)]) l
  exact ⟨_,_,I,C.rm.new (q:=(some ⟨b,0,none⟩,n)) g n' (.fl (cH C.rm _) l cI (by rw [← h1,cI]) (Nat.le_refl _) h2),(Ext.app _ _).b _,aZ.refl _,ft _ _,.pt (cH C.rm _)⟩
def xe (T:aD) (E:List (Nat×AV)) (M:List af) (t:TypeId) (x:Operand) (lo hi mx:Option Operand):Option Out:=
 match bE T t,aC E x,lo,hi,mx with
 | some (.ar n e),some (.pt u 0),none,none,none=>(match dB T e,M[u]? with
  | some k,some (.fl _ k2 m _)=>bif k.beq k2&&(n.ble m&&Nat.blt 0 n) then some (lk [] (.sf u k 0 n (some n)) M) else none
  | _,_=>none)
 | _,_,_,_,_=>none
theorem Hx (hT:aP P T=true) {t:TypeId} {x:Operand} {lo hi mx:Option Operand} (h:xe T E M t x lo hi mx=some out):aB P ⟨d,.slice t x lo hi mx,ty,pos,aft,gd⟩ E M out:=by
 unfold xe at h
 split at h
 rotate_left
 ·simp at h
 rename_i n e u ht hx
 split at h
 rotate_left
 ·simp at h
 rename_i k T2 k2 m cells hk hM
 cases hc:(k.beq k2&&(n.ble m&&Nat.blt 0 n)) with
 | false=>simp [hc] at h
 | true=>
  simp only [hc,cond_true,Option.some.injEq] at h;subst h
  simp only [Bool.and_eq_true] at hc
  obtain ⟨c1,c2,c3⟩:=hc
  obtain rfl:=Nat.eq_of_beq_eq_true c1
  have Wc:=Nat.le_of_ble_eq_true c2
  have kS:0<n:=by simpa [Nat.blt_eq] using c3
  have b5:=bj hT ht
  refine aB.same fun {D w0 K0 β F I ρ w} C _=>?_
  obtain ⟨y,hy,r⟩:=C.aR hx
  cases r with
  | @pt _ _ b c hb=>
   obtain ⟨H,hF,hB,hH⟩:=C.rm.at hM
   cases hB with
   | fl aE ys hl hm ey hr=>
    rw [hb] at aE;cases aE
    have hs:=aq.sf (K:=fun w=>K0 w∧ai w I) (u:=u) (k:=k) (o:=0) (n:=n) (cap:=n) (q:=some n) hb (by omega) (Nat.le_refl _) rfl
    rw [Nat.zero_mul] at hs
    refine ⟨_,fun w' _=>?_,hs⟩
    have aX:(sizeOf e).run P w'=.ok k w':=by
     have:=dV hT hk
     cases dy:P.info? e with
     | none=>simp [dy] at this
     | some inf=>simp only [dy,Option.map_some,Option.some.injEq] at this;simp [sizeOf,typeInfo,Sem.run_bind,dy,this]
    have xR:¬ n=0:=by omega
    simp [execOp,hy,Instr.sliceAt,Instr.sureAddr,Instr.sliceBounds,Sem.run_bind,run_underlying b5,aX,xR,add_eq]
end Go.Proofs.YtgkdnnmcjjabdaaGreat
