/-
  scriptBack_card, part 2 of 6: merged by program from the texts that it needs.
-/
import Derived.Test.YtcnpikbbmbombaaDoorSbA
set_option linter.unusedSimpArgs false
set_option linter.unusedVariables false
set_option linter.unnecessarySimpa false
namespace Go.Proofs.YtcnpikbbmbombaaDoor
open Go.RowKit
variable {P:Program} {T:aJ} {D:List Nat} {w0:World} {K0:World→Prop} {E:List (Nat×AV)} {M:List aj} {β:Beta} {F:Nat→ak} {I X:ak} {ρ:Operand→Value} {w:World}
variable {d:Option Tmp} {ty:TypeId} {pos:String} {aft:Array Edge} {gd:Option (Nat×Bool)} {oc:Option aR} {out:Out}
def af (l:List UInt8):List (List DV):=l.map fun b=>[.v (.int .u8 (b.toNat:Int))]
theorem zE {K:World→Prop} {l:List UInt8} {X:Nat→List Value} {G:Nat→Nat→ak} (h:de K 1 (af l) X G):lay (af l).length X=l.map fun b:UInt8=>.int .u8 b.toNat:=by
 have hl:(af l).length=l.length:=by simp [af]
 have hX:∀ i,i<(af l).length→(X i).length=1:=fun i hi=>(h.hl i _ (List.getElem?_eq_getElem hi)).2
 apply List.ext_getElem?
 intro p
 have gp:=ec hX
 rcases Nat.lt_or_ge p l.length with hp | hp
 ·have C4:p<(af l).length:=by omega
  have hg:=jN hX C4 (show 0<1 by omega)
  rw [Nat.mul_one,Nat.add_zero] at hg
  have bV:(af l)[p]?=some [.v (.int .u8 (l[p].toNat:Int))]:=by simp [af,List.getElem?_eq_getElem hp]
  obtain ⟨x,h1⟩:∃ x,(X p)[0]?=some x:=⟨(X p)[0]'(by rw [hX p C4];omega),List.getElem?_eq_getElem _⟩
  have hd:=h.hr p _ 0 _ _ bV rfl h1
  generalize G p 0=GG at hd
  cases hd
  rw [hg,h1,List.getElem?_map,List.getElem?_eq_getElem hp];rfl
 ·rw [List.getElem?_eq_none (by omega),List.getElem?_eq_none (by simp;omega)]
def xy (T:aJ) (E:List (Nat×AV)) (M:List aj) (oc:Option aR) (t t':TypeId) (x:Operand):Option Out:=
 match iL T t,cU T t',oc with
 | some (e,_,_,_),some .st,some (.res (.v (.string s)))=>(match cU T e,aE E x with
  | some (.it .u8),some (.d (.ro k rows))=>bif Nat.beq k 1 then some (lk [rows=af s.data.toList] (.d (.v (.string s))) M) else none
  | some (.it .u8),some (.sl u n)=>(match M[u]? with | some (.rw _ k rows)=>bif Nat.beq k 1 then some ⟨[n=rows.length,rows=af s.data.toList],.d (.v (.string s)),M,[],[],some [u]⟩ else none | _=>none)
  | _,_=>none)
 | _,_,_=>none
theorem Il (hT:aU P T=true) {t t':TypeId} {x:Operand} (h:xy T E M oc t t' x=some out):aF P ⟨d,.convert t t' x,ty,pos,aft,gd⟩ E M out:=by
 unfold xy at h
 split at h
 ·rename_i e _ _ _ s he bj
  obtain ⟨zv,ok,-,-⟩:=kn hT he
  split at h
  ·rename_i k rows qV hx
   cases hk:Nat.beq k 1 with
   | false=>simp [hk] at h
   | true=>
    simp only [hk,cond_true,Option.some.injEq] at h;subst h
    obtain rfl:=Nat.eq_of_beq_eq_true hk
    refine aF.same ?_
    intro D w0 K0 β F I ρ w C hv
    obtain ⟨rfl,-⟩:=hv
    have r:=C.ev hx
    generalize hy:ρ x=y at r
    cases r with | d r=>
    cases r with
    | ro X hl iJ hs hr=>
     refine ⟨_,fun w' dt=>rQ (.of fun _=>⟨_,rfl⟩) (y7 (l:=s.data.toList) ok.bj (cI hT qV) (cI hT bj) hy ?_ ⟨rfl,rfl⟩),.d (.v _)⟩
     have:=hs w' dt
     rw [zE (G:=fun _ _=>[]) ⟨hl,hr⟩] at this
     simpa [af] using this
  ·rename_i u n qV hx
   split at h
   ·rename_i T2 k rows hM
    cases hk:Nat.beq k 1 with
    | false=>simp [hk] at h
    | true=>
     simp only [hk,cond_true,Option.some.injEq] at h;subst h
     obtain rfl:=Nat.eq_of_beq_eq_true hk
     refine aF.look ?_ (by simpa using eT hM)
     intro D w0 K0 β F I ρ w C hv
     obtain ⟨rfl,rfl,-⟩:=hv
     obtain ⟨X,G,H0,hF,dN,ra,hH⟩:=lU C.rm hM rfl (C.ev hx)
     refine ⟨_,.d (.v _),fun w' dt=>rQ (.of fun _=>⟨_,rfl⟩) (y7 (l:=s.data.toList) ok.bj (cI hT qV) (cI hT bj) rfl ?_ ⟨rfl,rfl⟩)⟩
     have C5:Holds w' (F u):=dt.2 u (by simp)
     rw [hF] at C5
     have:=dN.src (Holds.app.1 C5).1
     rw [zE ra] at this
     simpa [af] using this
   ·simp at h
  ·simp at h
 ·simp at h
def oW (P:Program) (t:TypeId):Bool:=match P.underlying t with | some .bool=>true | _=>false
theorem y9 {t:TypeId} (h:oW P t=true) (a b:Bool) (w:World):(Op.equal t (.bool a) (.bool b)).run P w=.ok (a==b) w:=by
 unfold oW at h
 split at h
 ·rename_i hu
  have:∀ m,(Op.equalIn (m+1) t (.bool a) (.bool b)).run P w=.ok (a==b) w:=by intro m;simp [Op.equalIn,Sem.run_bind,run_underlying hu]
  exact this 9999
 ·simp at h
def wE (P:Program) (E:List (Nat×AV)) (M:List aj) (oc:Option aR) (op:BinOp) (t:TypeId) (x y:Operand):Option Out:=
 match kW (aE E x),kW (aE E y),op with
 | some a,some b,.eql=>bif oW P t then some (kX oc (a==b) M) else none
 | some a,some b,.neq=>bif oW P t then some (kX oc (!(a==b)) M) else none
 | _,_,_=>none
theorem GI {op:BinOp} {t t':TypeId} {x y:Operand} (h:wE P E M oc op t x y=some out):aF P ⟨d,.binOp op t x y t',ty,pos,aft,gd⟩ E M out:=by
 unfold wE at h
 split at h
 ·rename_i a b ha ye
  cases hb:oW P t with
  | false=>simp [hb] at h
  | true=>
   simp only [hb,cond_true,Option.some.injEq] at h;subst h
   exact mW (.of fun _=>⟨_,rfl⟩) fun C w Φ aC=>.pure (v:=.bool (a==b)) (by simp [execOp,C.bool ha,C.bool ye,eqGuard,binOp,y9 hb]) aC
 ·rename_i a b ha ye
  cases hb:oW P t with
  | false=>simp [hb] at h
  | true=>
   simp only [hb,cond_true,Option.some.injEq] at h;subst h
   exact mW (.of fun _=>⟨_,rfl⟩) fun C w Φ aC=>.pure (v:=.bool (!(a==b))) (by simp [execOp,C.bool ha,C.bool ye,eqGuard,binOp,y9 hb]) aC
 ·simp at h
def wF (T:aJ) (E:List (Nat×AV)) (M:List aj) (oc:Option aR) (op:BinOp) (t:TypeId) (x y:Operand):Option Out:=
 match op,cU T t,y,aE E x with
 | .eql,some (.sl _),.const (.slice none 0 0),some (.d (.v (.slice a _ _)))=>some (kX oc a.isNone M)
 | .eql,some (.sl _),.const (.slice none 0 0),some (.d (.ro _ rows))=>some (lk [0<rows.length] (.b false) M)
 | .eql,some (.sl _),.const (.slice none 0 0),some (.sl u n)=>(match M[u]? with | some (.rw _ _ rows)=>some ⟨[n=rows.length,0<n],.b false,M,[],[],some [u]⟩ | _=>none)
 | _,_,_,_=>none
theorem GJ (hT:aU P T=true) {op:BinOp} {t t':TypeId} {x y:Operand} (h:wF T E M oc op t x y=some out):aF P ⟨d,.binOp op t x y t',ty,pos,aft,gd⟩ E M out:=by
 unfold wF at h
 split at h
 ·rename_i e a n c hu hx
  simp only [Option.some.injEq] at h;subst h
  refine mW (.of fun _=>⟨_,rfl⟩) ?_
  intro D w0 K0 β F I ρ w' C w Φ aC
  have r:=C.ev hx
  generalize hy:ρ x=y at r
  cases r with | d r=>cases r;exact tU (cI hT hu) hy (C.const _) rfl aC
 ·rename_i e k rows hu hx
  simp only [Option.some.injEq] at h;subst h
  refine jQ (.of fun _=>⟨_,rfl⟩) ?_
  intro D w0 K0 β F I ρ w' C hv
  obtain ⟨nx,-⟩:=hv
  have r:=C.ev hx
  generalize hy:ρ x=y at r
  cases r with | d r=>
  cases r with
  | ro X hl iJ hs hr=>
   obtain ⟨a,c,tA,-⟩:=(hs _ C.now).row nx
   exact ⟨_,.d (.v _),fun w Φ aC=>tU (cI hT hu) (hy.trans tA) (C.const _) rfl aC⟩
 ·rename_i e u n hu hx
  split at h
  ·rename_i T2 k rows hM
   simp only [Option.some.injEq] at h;subst h
   refine aF.look ?_ (by simpa using eT hM)
   intro D w0 K0 β F I ρ w C hv
   obtain ⟨hn,nx,-⟩:=hv
   obtain ⟨X,G,H0,hF,dN,ra,hH⟩:=lU C.rm hM hn (C.ev hx)
   obtain ⟨b,cap,cs,yf,-⟩:=dN.block nx
   exact ⟨_,.d (.v _),fun w' _=>rQ (.of fun _=>⟨_,rfl⟩) (tU (cI hT hu) yf (C.const _) rfl ⟨rfl,rfl⟩)⟩
  ·simp at h
 ·simp at h
def vF (T:aJ) (E:List (Nat×AV)) (M:List aj) (t t':TypeId) (x:Operand):Option Out:=
 bif Nat.beq t t' then (match iL T t with
 | some (e,k,_,_)=>(match cU T e,aE E x with
  | some (.it .u8),some (.sl u n)=>(match M[u]? with
   | some (.rw e' k' rows)=>bif Nat.beq e e'&&Nat.beq k k'&&rows.all (fun r=>r.all DV.cp) then some ⟨[n=rows.length,0<n],.d (.ro k rows),M.set u .dead,[u],[],none⟩ else none
   | _=>none)
  | _,_=>none)
 | none=>none) else none
theorem Fx (hT:aU P T=true) {t t':TypeId} {x:Operand} (h:vF T E M t t' x=some out):aF P ⟨d,.convert t t' x,ty,pos,aft,gd⟩ E M out:=by
 unfold vF at h
 cases yh:Nat.beq t t' with
 | false=>simp [yh] at h
 | true=>
  simp only [yh,cond_true] at h
  obtain rfl:=Nat.eq_of_beq_eq_true yh
  split at h
  ·rename_i e k _ _ he
   obtain ⟨zv,ok,-,-⟩:=kn hT he
   split at h
   ·rename_i u n qV hx
    split at h
    ·rename_i e' k' rows hM
     cases hc:(Nat.beq e e'&&Nat.beq k k'&&rows.all fun r=>r.all DV.cp) with
     | false=>simp [hc] at h
     | true=>
      simp only [hc,cond_true,Option.some.injEq] at h;subst h
      simp only [Bool.and_eq_true] at hc
      obtain rfl:=Nat.eq_of_beq_eq_true hc.1.1
      obtain rfl:=Nat.eq_of_beq_eq_true hc.1.2
      intro D w0 K0 β F I ρ w C hv
      obtain ⟨hn,nx,-⟩:=hv
      obtain ⟨X,G,H0,hF,dN,ra,hH⟩:=lU C.rm hM hn (C.ev hx)
      obtain ⟨b,cap,cs,yf,rfl,cC,hle,sJ⟩:=dN.block nx
      have R1:=C.rm.x.eZ hM
      rw [hF,List.nil_append] at R1
      have hb:=hH.one
      refine Ed ok.bj (cI hT qV) yf hb ?_
      have k7:St D w0 w ((b,.cells cs e (0,0))::(bu n k G++((List.range (M.set u .dead).length).flatMap (aG F u [])++I))):=R1.st.perm (by classical rw [List.perm_iff_count];intro z;simp only [List.count_append,List.count_cons,List.count_nil];omega)
      have k8:=k7.set (.cells cs e (cs.size,cs.size+1))
      have R2:RM D w0 K0 (M.set u .dead) β (aG F u []) ([(b,.cells cs e (cs.size,cs.size+1))]++I) (b7 w b (.cells cs e (cs.size,cs.size+1))):=by
       refine ⟨R1.len,fun v bl hv=>(R1.blk v bl hv).mono (fun w hw=>⟨hw.1,(Holds.app.1 hw.2).2⟩) (Ext.refl _),?_⟩
       have:=(k8.perm (K:=bu n k G++((List.range (M.set u .dead).length).flatMap (aG F u [])++([(b,.cells cs e (cs.size,cs.size+1))]++I))) (by classical rw [List.perm_iff_count];intro z;simp only [List.count_append,List.count_cons,List.count_nil];omega)).lO
       exact this
      refine ⟨β,_,_,R2,(Ext.refl β).b _,⟨_,rfl⟩,fun q _ hq=>by simp only [aG];rw [if_neg (by simpa using hq)],?_⟩
      refine .d (.ro X ra.hl ⟨_,_,by rw [← hn],by rw [← hn];exact hle⟩ (fun w' dt=>?_) fun i r j c x h1 h2 h3=>?_)
      ·have aN:w'.heap[b]?=some (.cells cs e (cs.size,cs.size+1)):=(Holds.app.1 dt.2).1.one
       refine ⟨by rw [← hn];exact dN.1,Or.inr ⟨_,cap,by rw [← hn],fun j hj=>?_⟩⟩
       rw [add_eq,Nat.zero_add,cell_of aN]
       have mj:lay rows.length X=cs.toList.take (n*k):=by rw [← hn];exact sJ.symm
       have key:∀ q,q=cs.toList.take (n*k)→∀ (hj:j<q.length),cs[j]?=some q[j]:=by
        intro q hq hj
        subst hq
        have iI:=hj
        simp only [List.length_take] at iI
        rw [List.getElem_take,← Array.getElem?_toList]
        exact List.getElem?_eq_getElem _
       exact key _ mj hj
      ·have:=(ra.hr i r j c x h1 h2 h3).cp (List.all_eq_true.1 (List.all_eq_true.1 hc.2 r (List.mem_of_getElem? h1)) c (List.mem_of_getElem? h2))
       exact this.mono fun w hw=>⟨hw.1,(Holds.app.1 hw.2).2⟩
    ·simp at h
   ·simp at h
  ·simp at h
theorem Fy {t:TypeId} {xs:Array Value} {o:Nat} {v:Value} (w:World) (ht:scalar P t=true) (h:xs[o]?=some v):(part t xs o).run P w=.ok v w:=by
 simp [part,Sem.run_bind,yL ht,h]
theorem Fz {t:TypeId} {xs:Array Value} {o n:Nat} (w:World) (ht:l5 P t n=true):(part t xs o).run P w=.ok (.agg (xs.extract o (o+n))) w:=by
 unfold l5 at ht
 simp only [Bool.and_eq_true] at ht
 obtain ⟨h1,h2⟩:=ht
 cases hu:P.underlying t with
 | none=>simp [hu] at h1
 | some u=>
  cases hi:P.info? t with
  | none=>simp [hi] at h2
  | some i=>
   simp only [hi,beq_iff_eq] at h2
   have ha:(isAgg t).run P w=.ok true w:=by cases u<;>simp [hu] at h1<;>simp [isAgg,Sem.run_bind,run_underlying hu]
   simp [part,Sem.run_bind,ha,sizeOf,typeInfo,hi,h2]
def nM (T:aJ) (e:TypeId) (l:List AV) (o:Nat):Option AV:=kD T e l o
theorem vG (hT:aU P T=true) {K:World→Prop} {e:TypeId} {l:List AV} {o:Nat} {v:AV} (h:nM T e l o=some v) {ys:List Value} (hl:ys.length=l.length) (hr:∀ (j:Nat) c y,l[j]?=some c→ys[j]?=some y→au K β c y):
  ∃ y,au K β v y∧∀ w:World,(part e ys.toArray o).run P w=.ok y w:=by
 unfold nM kD at h
 split at h
 ·rename_i ht
  obtain ⟨y,h1,h2⟩:=vr hl hr h
  exact ⟨y,h2,fun w=>Fy w (uP hT ht) (by simpa using h1)⟩
 ·rename_i n ht
  simp only [xk] at h
  cases hb:(o+n).ble l.length with
  | false=>simp [hb] at h
  | true=>
   simp only [hb,cond_true,Option.some.injEq] at h
   have hle:o+n≤l.length:=Nat.le_of_ble_eq_true hb
   subst h
   have he:(ys.toArray.extract o (o+n))=((ys.drop o).take n).toArray:=by
    simp [List.extract_eq_take_drop]
   refine ⟨.agg ((ys.drop o).take n).toArray,.ag _ (by simp;omega) ?_,fun w=>by rw [Fz w (zX hT ht),he]⟩
   intro j c y h1 h2
   rw [List.getElem?_take,List.getElem?_drop] at h1 h2
   split at h1
   ·rename_i hj;rw [if_pos hj] at h2;exact hr _ _ _ h1 h2
   ·simp at h1
 ·simp at h
def xA (T:aJ) (E:List (Nat×AV)) (M:List aj) (t:TypeId) (x:Operand) (f:Nat):Option Out:=
 match xV T t f,aE E x with
 | some (o,ty),some (.ag l)=>(match nM T ty l o with | some v=>some (lk [] v M) | none=>none)
 | _,_=>none
theorem Im (hT:aU P T=true) {t:TypeId} {x:Operand} {f:Nat} (h:xA T E M t x f=some out):aF P ⟨d,.field t x f,ty,pos,aft,gd⟩ E M out:=by
 unfold xA at h
 split at h
 ·rename_i o e l hf hx
  split at h
  ·rename_i v hp
   simp only [Option.some.injEq] at h;subst h
   obtain ⟨fs,q,hu,hq,rfl,rfl⟩:=JH hT hf
   refine aF.same ?_
   intro D w0 K0 β F I ρ w C _
   have r:=C.ev hx
   generalize hy:ρ x=y at r
   cases r with
   | ag ys hl hr=>
    obtain ⟨y,h1,h2⟩:=vG hT hp hl hr
    exact ⟨y,fun w' _=>by simp only [execOp,hy,Instr.field,Sem.run_bind,run_underlying hu,Result.andThen_ok,hq,asAgg,Sem.run_pure,h2],h1⟩
  ·simp at h
 ·simp at h
def xB (T:aJ) (E:List (Nat×AV)) (M:List aj) (oc:Option aR) (t:TypeId) (x ix:Operand):Option Out:=
 match cU T t,aE E x,cF (aE E ix),oc with
 | some (.ar n e),some (.ag l),some (_,z),some (.n i)=>(match ff T e with
  | some k=>(match nM T e l (i*k) with | some v=>some (lk [z=(i:Int),i<n] v M) | none=>none)
  | none=>none)
 | _,_,_,_=>none
theorem Io (hT:aU P T=true) {t:TypeId} {x ix:Operand} (h:xB T E M oc t x ix=some out):aF P ⟨d,.index t x ix,ty,pos,aft,gd⟩ E M out:=by
 unfold xB at h
 split at h
 ·rename_i n e l _ z i hu hx hz
  split at h
  ·rename_i k hk
   split at h
   ·rename_i v hp
    simp only [Option.some.injEq] at h;subst h
    have bp:∀ w:World,(sizeOf e).run P w=.ok k w:=fun w=>by
     have:=ga hT hk
     cases hi:P.info? e with
     | none=>simp [hi] at this
     | some inf=>simp only [hi,Option.map_some,Option.some.injEq] at this;simp [sizeOf,typeInfo,Sem.run_bind,hi,this]
    refine aF.same ?_
    intro D w0 K0 β F I ρ w C hv
    obtain ⟨rfl,aI,-⟩:=hv
    have r:=C.ev hx
    have hi:=C.int hz
    generalize hy:ρ x=y at r
    cases r with
    | ag ys hl hr=>
     obtain ⟨y,h1,h2⟩:=vG hT hp hl hr
     refine ⟨y,fun w' _=>?_,h1⟩
     have fT:=cI hT hu
     have hc:(0:Int)≤(i:Int)∧(i:Int)<(n:Int):=by omega
     simp only [execOp,hy,hi,Instr.index,asIntOf,Sem.run_bind,Sem.run_pure,run_underlying fT,Result.andThen_ok]
     rw [if_pos hc]
     simp only [Sem.run_bind,bp,Result.andThen_ok,Int.toNat_natCast,h2,Sem.run_pure]
   ·simp at h
  ·simp at h
 ·simp at h
def uU (T:aJ) (E:List (Nat×AV)) (M:List aj) (t:TypeId) (parts:Array (Nat×Operand)):Option Out:=
 match cU T t,oT T t with
 | some (.ar _ e),some z=>(match ff T e with
  | some k=>(match kr E (fun i=>some (i*k,k)) (kT z) parts.toList with
   | some l=>some (lk [] (.ag l) M)
   | none=>none)
  | none=>none)
 | _,_=>none
theorem EF (hT:aU P T=true) {t:TypeId} {parts:Array (Nat×Operand)} (h:uU T E M t parts=some out):aF P ⟨d,.build t parts,ty,pos,aft,gd⟩ E M out:=by
 unfold uU at h
 split at h
 ·rename_i n e z hu hz
  split at h
  ·rename_i k hk
   split at h
   ·rename_i l hl
    simp only [Option.some.injEq] at h;subst h
    obtain ⟨zv,nJ,nK⟩:=rO hT hz
    have bp:∀ w:World,(sizeOf e).run P w=.ok k w:=fun w=>by
     have:=ga hT hk
     cases hi:P.info? e with
     | none=>simp [hi] at this
     | some inf=>simp only [hi,Option.map_some,Option.some.injEq] at this;simp [sizeOf,typeInfo,Sem.run_bind,hi,this]
    refine aF.same ?_
    intro D w0 K0 β F I ρ w C _
    obtain ⟨p1,p2⟩:=pY (K:=fun w=>K0 w∧Holds w I) (β:=β) z
    obtain ⟨bM,g1,g2,g3⟩:=rT C (cs:=z.toArray) hl (by simpa using p1) (by intro j c y e1 e2;exact p2 j c y e1 (by simpa using e2))
    refine ⟨.agg bM,fun w' _=>?_,?_⟩
    ·have pn:(parts.map fun (p:Nat×Operand)=>(p.1,ρ p.2)).toList=parts.toList.map fun p=>(p.1,ρ p.2):=by simp
     have hb:(Instr.build t (parts.map fun (p:Nat×Operand)=>(p.1,ρ p.2))).run P w'=.ok (.agg bM) w':=by
      simp only [Instr.build,Sem.run_bind,nK,Result.andThen_ok,run_underlying (cI hT hu),bp,nJ,pn,g1,Sem.run_pure]
     simp only [execOp,Sem.run_bind]
     have:(parts.map fun (i,x)=>(i,ρ x))=parts.map fun (p:Nat×Operand)=>(p.1,ρ p.2):=rfl
     rw [this,hb];rfl
    ·have:(au (fun w=>K0 w∧Holds w I) β (.ag l) (.agg bM.toList.toArray)):=.ag bM.toList (by simpa using g2) (by intro j c y e1 e2;exact g3 j c y e1 (by simpa using e2))
     simpa using this
   ·simp at h
  ·simp at h
 ·simp at h
end Go.Proofs.YtcnpikbbmbombaaDoor
namespace Go.Proofs.YtcnpikbbmbombaaDoor
open Go.RowKit
variable {P:Program} {T:aJ} {D:List Nat} {w0:World} {K0:World→Prop} {E:List (Nat×AV)} {M:List aj} {β:Beta} {F:Nat→ak} {I X:ak} {ρ:Operand→Value} {w:World}
variable {d:Option Tmp} {ty:TypeId} {pos:String} {aft:Array Edge} {gd:Option (Nat×Bool)} {oc:Option aR} {out:Out}
theorem bB.iu (R:bB D w0 K0 M β F I X w) {u:Nat} {blk:aj} (h:M[u]?=some blk):Holds w (F u):=by
 intro x hx
 obtain ⟨hu,-⟩:=List.getElem?_eq_some_iff.1 h
 exact R.st.holds x (List.mem_append_left _ (List.mem_flatMap.2 ⟨u,List.mem_range.2 hu,hx⟩))
theorem bB.back {X Y:ak} (R:bB D w0 K0 M β F I (X++Y) w) {u:Nat} (hu:u<M.length) (hF:F u=[]) {blk:aj} (hb:bq (fun w=>K0 w∧Holds w I) β u blk X):
  bB D w0 K0 (M.set u blk) β (aG F u X) I Y w where
 len:=by rw [List.length_set];exact R.len
 blk:=by
  intro v bl hv
  rw [List.getElem?_set] at hv
  by_cases e:u=v
  ·subst e
   simp only [hu,if_pos,Option.some.injEq] at hv;subst hv
   simpa [aG] using hb
  ·rw [if_neg e] at hv
   have:aG F u X v=F v:=by simp only [aG];rw [if_neg (fun h=>e h.symm)]
   rw [this];exact R.blk v bl hv
 st:=by
  have hs:=R.st
  rw [List.length_set,range_split hu]
  rw [range_split hu,hF] at hs
  have c1:(List.range u).flatMap (aG F u X)=(List.range u).flatMap F:=eV fun a ha=>by have:=List.mem_range.1 ha;simp [aG];omega
  have c2:(List.range' (u+1) (M.length-(u+1))).flatMap (aG F u X)=(List.range' (u+1) (M.length-(u+1))).flatMap F:=eV fun a ha=>by have:=(List.mem_range'_1.1 ha).1;simp [aG];omega
  have fT:aG F u X u=X:=by simp [aG]
  rw [c1,c2,fT]
  exact hs.perm (by classical rw [List.perm_iff_count];intro z;simp only [List.count_append,List.count_nil];omega)
theorem yT {k o m:Nat} (h:o+m≤k) (f:Nat→ak):(List.range k).flatMap f=(List.range o).flatMap f++((List.range' o m).flatMap f++(List.range' (o+m) (k-(o+m))).flatMap f):=by
 have:List.range k=List.range o++(List.range' o m++List.range' (o+m) (k-(o+m))):=by
  rw [List.range_eq_range',List.range_eq_range']
  have h1:k=o+(m+(k-(o+m))):=by omega
  conv=>lhs;rw [h1]
  rw [← List.range'_append_1,← List.range'_append_1]
  simp
 rw [this,List.flatMap_append,List.flatMap_append]
def dx (G:Nat→Nat→ak) (i o m:Nat) (Gx:Nat→ak):Nat→Nat→ak:=fun a j=>if a=i∧o≤j∧j<o+m then Gx (j-o) else G a j
theorem uA {n k i o m:Nat} (hi:i<n) (ho:o+m≤k) (G:Nat→Nat→ak) (Gx:Nat→ak):(bu n k G++(List.range m).flatMap Gx).Perm (bu n k (dx G i o m Gx)++(List.range' o m).flatMap (G i)):=by
 unfold bu
 have c1:(List.range i).flatMap (fun a=>(List.range k).flatMap (dx G i o m Gx a))=(List.range i).flatMap (fun a=>(List.range k).flatMap (G a)):=eV fun a ha=>eV fun j _=>by have:=List.mem_range.1 ha;simp only [dx];rw [if_neg (by omega)]
 have c2:(List.range' (i+1) (n-(i+1))).flatMap (fun a=>(List.range k).flatMap (dx G i o m Gx a))=(List.range' (i+1) (n-(i+1))).flatMap (fun a=>(List.range k).flatMap (G a)):=eV fun a ha=>eV fun j _=>by have:=(List.mem_range'_1.1 ha).1;simp only [dx];rw [if_neg (by omega)]
 have c3:(List.range o).flatMap (dx G i o m Gx i)=(List.range o).flatMap (G i):=eV fun j hj=>by have:=List.mem_range.1 hj;simp only [dx];rw [if_neg (by omega)]
 have c4:(List.range' o m).flatMap (dx G i o m Gx i)=(List.range m).flatMap Gx:=by
  rw [List.range'_eq_map_range,List.flatMap_map]
  exact eV fun j hj=>by
   have:=List.mem_range.1 hj
   show dx G i o m Gx i (o+j)=Gx j
   unfold dx;rw [if_pos ⟨rfl,by omega,by omega⟩,Nat.add_sub_cancel_left]
 have c5:(List.range' (o+m) (k-(o+m))).flatMap (dx G i o m Gx i)=(List.range' (o+m) (k-(o+m))).flatMap (G i):=eV fun j hj=>by have:=(List.mem_range'_1.1 hj).1;simp only [dx];rw [if_neg (by omega)]
 rw [range_split hi (fun a=>(List.range k).flatMap (G a)),range_split hi (fun a=>(List.range k).flatMap (dx G i o m Gx a)),c1,c2]
 rw [yT ho (G i),yT ho (dx G i o m Gx i),c3,c4,c5]
 classical rw [List.perm_iff_count];intro z;simp only [List.count_append];omega
def iB (X:Nat→List Value) (i o:Nat) (zs:List Value):Nat→List Value:=fun a=>if a=i then (X i).take o++(zs++(X i).drop (o+zs.length)) else X a
theorem mX {α:Type} {l zs:List α} {o j:Nat} (h:o+zs.length≤l.length):(l.take o++(zs++l.drop (o+zs.length)))[j]?=if o≤j∧j<o+zs.length then zs[j-o]? else l[j]?:=by
 by_cases h1:o≤j∧j<o+zs.length
 ·rw [if_pos h1,List.getElem?_append_right (by simp;omega),List.getElem?_append_left (by simp;omega)]
  congr 1;simp;omega
 ·rw [if_neg h1]
  rcases Nat.lt_or_ge j o with hj | hj
  ·rw [List.getElem?_append_left (by simp;omega),List.getElem?_take,if_pos hj]
  ·rw [List.getElem?_append_right (by simp;omega),List.getElem?_append_right (by simp;omega),List.getElem?_drop]
   congr 1;simp;omega
theorem qb {X:Nat→List Value} {i o k:Nat} {zs:List Value} (ho:o+zs.length≤k) {a:Nat} (h:(X a).length=k):(iB X i o zs a).length=k:=by
 unfold iB;split
 ·rename_i e;subst e;simp;omega
 ·exact h
theorem AP {n k i o:Nat} {X:Nat→List Value} {zs:List Value} {cs:Array Value} (hX:∀ a,a<n→(X a).length=k) (hi:i<n) (ho:o+zs.length≤k) (ht:cs.toList.take (n*k)=lay n X) (bp:n*k≤cs.size):
  (b5 cs (i*k+o) zs).toList.take (n*k)=lay n (iB X i o zs):=by
 have C6:∀ a,a<n→(iB X i o zs a).length=k:=fun a ha=>qb ho (hX a ha)
 have gp:=ec C6
 have yi:i*k+k≤n*k:=by have:=Nat.mul_le_mul_right k (show i+1≤n from hi);rw [Nat.succ_mul] at this;exact this
 apply List.ext_getElem?
 intro p
 rcases Nat.lt_or_ge p (n*k) with hp | hp
 ·have hk:0<k:=by
   rcases Nat.eq_zero_or_pos k with h0 | h0
   ·subst h0;simp at hp
   ·exact h0
  have hd:p / k<n:=Nat.div_lt_of_lt_mul (by rw [Nat.mul_comm];exact hp)
  have hm:p%k<k:=Nat.mod_lt _ hk
  have hg:=jN C6 hd hm
  have C7:=jN hX hd hm
  have e:p / k*k+p%k=p:=by rw [Nat.mul_comm,Nat.div_add_mod]
  rw [e] at hg C7
  rw [hg,List.getElem?_take,if_pos hp,Array.getElem?_toList,od _ _ _ _ (by omega)]
  have hc:cs[p]?=(X (p / k))[p%k]?:=by rw [← C7,← ht,List.getElem?_take,if_pos hp,Array.getElem?_toList]
  generalize hA:p / k=a at *
  generalize hJ:p%k=j at *
  by_cases ha:a=i
  ·subst ha
   unfold iB
   rw [if_pos rfl,mX (by rw [hX a hd];exact ho)]
   by_cases h1:o≤j∧j<o+zs.length
   ·rw [if_pos h1,if_pos (by omega)];congr 1;omega
   ·rw [if_neg h1,if_neg (by omega)];exact hc
  ·unfold iB
   rw [if_neg ha,if_neg ?_]
   ·exact hc
   ·intro h1
    rcases Nat.lt_or_gt_of_ne ha with h2 | h2
    ·have:=Nat.mul_le_mul_right k (show a+1≤i from h2);rw [Nat.succ_mul] at this;omega
    ·have:=Nat.mul_le_mul_right k (show i+1≤a from h2);rw [Nat.succ_mul] at this;omega
 ·rw [List.getElem?_eq_none (by simp [kK];omega),List.getElem?_eq_none (by omega)]
theorem de.put {K:World→Prop} {k i o:Nat} {rows:List (List DV)} {X:Nat→List Value} {G:Nat→Nat→ak} {row xs:List DV} {zs:List Value} {Gx:Nat→ak} (h:de K k rows X G) (bV:rows[i]?=some row) (ho:o+zs.length≤k) (hx:zs.length=xs.length) (hd:∀ (j:Nat) c y,xs[j]?=some c→zs[j]?=some y→bI K c y (Gx j)):
  de K k (rows.set i (row.take o++(xs++row.drop (o+xs.length)))) (iB X i o zs) (dx G i o zs.length Gx):=by
 have kF:=h.hl i row bV
 constructor
 ·intro a r ha
  rw [List.getElem?_set] at ha
  by_cases e:i=a
  ·subst e
   rw [if_pos rfl] at ha
   split at ha
   ·simp only [Option.some.injEq] at ha;subst ha
    exact ⟨by simp;omega,qb ho kF.2⟩
   ·simp at ha
  ·rw [if_neg e] at ha
   have:=h.hl a r ha
   exact ⟨this.1,qb ho this.2⟩
 ·intro a r j c x ha hj lA
  rw [List.getElem?_set] at ha
  by_cases e:i=a
  ·subst e
   rw [if_pos rfl] at ha
   split at ha
   ·simp only [Option.some.injEq] at ha;subst ha
    rw [mX (by omega)] at hj
    unfold iB at lA
    rw [if_pos rfl,mX (by omega)] at lA
    unfold dx
    by_cases h1:o≤j∧j<o+zs.length
    ·rw [if_pos (by omega)] at hj
     rw [if_pos h1] at lA
     rw [if_pos ⟨rfl,h1⟩]
     exact hd _ c x hj lA
    ·rw [if_neg (by omega)] at hj
     rw [if_neg h1] at lA
     rw [if_neg (fun q=>h1 q.2)]
     exact h.hr i row j c x bV hj lA
   ·simp at ha
  ·rw [if_neg e] at ha
   unfold iB at lA
   rw [if_neg (fun q=>e q.symm)] at lA
   unfold dx
   rw [if_neg (fun q=>e q.1.symm)]
   exact h.hr a r j c x ha hj lA
def uV (T:aJ) (E:List (Nat×AV)) (M:List aj) (oc:Option aR) (t:TypeId) (x y:Operand):Option Out:=
 match aE E x,aE E y,ff T t,oc with
 | some (.ep u k i o),some v,some n,some (.ix _ row)=>(match nc v with
  | some l=>(match jV M l with
   | some (vc,xs,M')=>(match M'[u]? with
    | some (.rw e k' rows)=>bif k.beq k'&&l.length.beq n&&(o+n).ble k then some ⟨(rows[i]?=some row)::vc,.d .jk,M'.set u (.rw e k (rows.set i (row.take o++(xs++row.drop (o+xs.length))))),u::o6 l,[],none⟩ else none
    | _=>none)
   | none=>none)
  | none=>none)
 | _,_,_,_=>none
theorem EG (hT:aU P T=true) {t:TypeId} {x y:Operand} (h:uV T E M oc t x y=some out):aF P ⟨d,.store t x y,ty,pos,aft,gd⟩ E M out:=by
 unfold uV at h
 split at h
 rotate_left
 ·simp at h
 rename_i u k i o v n i0 row hx hy hn
 split at h
 rotate_left
 ·simp at h
 rename_i l hl
 split at h
 rotate_left
 ·simp at h
 rename_i vc xs M' hp
 split at h
 rotate_left
 ·simp at h
 rename_i e k' rows hM
 cases hc:(k.beq k'&&l.length.beq n&&(o+n).ble k) with
 | false=>simp [hc] at h
 | true=>
  simp only [hc,cond_true,Option.some.injEq] at h;subst h
  simp only [Bool.and_eq_true] at hc
  obtain rfl:=Nat.eq_of_beq_eq_true hc.1.1
  have qP:=Nat.eq_of_beq_eq_true hc.1.2
  have hle:=Nat.le_of_ble_eq_true hc.2
  intro D w0 K0 β F I ρ w C hv
  obtain ⟨bV,hv⟩:=hv
  obtain ⟨yx,iK,rx⟩:=C.bJ hx
  obtain ⟨yy,nL,ry⟩:=C.bJ hy
  obtain ⟨zs,h1,h2,h3,h4⟩:=pX hl ry
  obtain ⟨lM,F',Hp,R',dd,yj⟩:=sd C.rm.x hp hv (ys:=zs) h2 h3
  rw [List.nil_append] at R'
  cases rx with
  | @ep _ _ _ _ b0 c0 hb=>
   have aI:u<M'.length:=eT hM
   have hB:=R'.blk u _ hM
   have hH:=R'.iu hM
   have R1:=R'.eZ hM
   have dl:=dd.len
   obtain ⟨Gx,ym,qU⟩:=dd.to
   generalize ji:F' u=Fu at hB hH R1
   cases hB with
   | rw aN X G cN hs hr=>
    rw [hb] at aN;cases aN
    obtain ⟨hi,-⟩:=List.getElem?_eq_some_iff.1 bV
    obtain ⟨b',cap,cs,he,rfl,cC,dq,ht⟩:=hs.block (by omega)
    cases he
    have hw:=(Holds.app.1 hH).1.one
    have hX:∀ a,a<rows.length→(X a).length=k:=fun a ha=>(cN a _ (List.getElem?_eq_getElem ha)).2
    have yi:i*k+k≤rows.length*k:=by have:=Nat.mul_le_mul_right k (show i+1≤rows.length from hi);rw [Nat.succ_mul] at this;exact this
    have bp:rows.length*k≤cs.size:=by rw [cC];exact Nat.mul_le_mul_right _ dq
    refine uN n (ga hT hn) iK nL hw (by rw [h1];simp;omega) (by omega) (by rw [h1];simpa using h4) ?_
    rw [h1]
    have ra:de (fun w=>K0 w∧Holds w I) k rows X G:=⟨cN,hr⟩
    have gu:=ra.put (o:=o) (zs:=zs) (xs:=xs) (Gx:=Gx) bV (by omega) dl qU
    have bj:=R1.st
    have k7:St D w0 w ((b0,.cells cs e (0,0))::(bu rows.length k G++(Hp++((List.range (M'.set u .dead).length).flatMap (aG F' u [])++I)))):=bj.perm (by classical rw [List.perm_iff_count];intro z;simp only [List.count_append,List.count_cons,List.cons_append,List.nil_append];omega)
    have k8:=k7.set (.cells (b5 cs (i*k+o) zs) e (0,0))
    have k9:=uA (n:=rows.length) (k:=k) (i:=i) (o:=o) (m:=zs.length) hi (by omega) G Gx
    rw [ym,← dl] at k8
    have R2:bB D w0 K0 (M'.set u .dead) β (aG F' u []) I (([(b0,.cells (b5 cs (i*k+o) zs) e (0,0))]++bu rows.length k (dx G i o zs.length Gx))++(List.range' o zs.length).flatMap (G i)) _:=R1.move (k8.perm (by
     classical
     have hc:=List.perm_iff_count.1 k9
     rw [List.perm_iff_count];intro z
     have:=hc z
     simp only [List.count_append,List.count_cons,List.cons_append,List.nil_append] at this ⊢
     omega))
    have fF:bq (fun w=>K0 w∧Holds w I) β u (.rw e k (rows.set i (row.take o++(xs++row.drop (o+xs.length))))) ([(b0,.cells (b5 cs (i*k+o) zs) e (0,0))]++bu rows.length k (dx G i o zs.length Gx)):=by
     have:=bq.rw (K:=fun w=>K0 w∧Holds w I) (u:=u) (T:=e) (k:=k) (rows:=rows.set i (row.take o++(xs++row.drop (o+xs.length)))) (H0:=[(b0,.cells (b5 cs (i*k+o) zs) e (0,0))]) hb (iB X i o zs) (dx G i o zs.length Gx) gu.hl (by
      rw [List.length_set]
      exact ⟨ec fun a ha=>qb (by omega) (hX a ha),Or.inr ⟨_,_,_,rfl,rfl,by rw [kK];exact cC,dq,AP hX hi (by omega) ht bp⟩⟩) gu.hr
     rw [List.length_set] at this;exact this
    have R3:=((R2.drop.perm (Y:=([(b0,.cells (b5 cs (i*k+o) zs) e (0,0))]++bu rows.length k (dx G i o zs.length Gx))++[]) (by rw [List.append_nil])).back (by rw [List.length_set];exact aI) (by simp [aG]) fF).nil rfl
    rw [List.set_set] at R3
    refine ⟨β,_,I,R3,(Ext.refl β).b _,bK.refl _,fun q hq du=>?_,.d (.jk _)⟩
    simp only [List.mem_cons,not_or] at du
    simp only [aG];rw [if_neg du.1,if_neg du.1]
    exact yj q du.2
def wG (T:aJ) (E:List (Nat×AV)) (M:List aj) (oc:Option aR) (t:TypeId) (x:Operand):Option Out:=
 match aE E x,oc,ph T t with
 | some (.ep u k i o),some (.ix _ row),some .one=>(match M[u]?,row[o]? with
  | some (.rw e k' rows),some (.em T2 k2 bQ)=>bif k.beq k' then some ⟨[rows[i]?=some row],.sl M.length bQ.length,M.set u (.rw e k (rows.set i (row.take o++([.jk]++row.drop (o+1)))))++[.rw T2 k2 bQ],[u],[],none⟩ else none
  | _,_=>none)
 | _,_,_=>none
theorem GK (hT:aU P T=true) {t:TypeId} {x:Operand} (h:wG T E M oc t x=some out):aF P ⟨d,.load t x,ty,pos,aft,gd⟩ E M out:=by
 unfold wG at h
 split at h
 rotate_left
 ·simp at h
 rename_i u k i o i0 row hx jg
 split at h
 rotate_left
 ·simp at h
 rename_i e k' rows T2 k2 bQ hM jU
 cases hk:k.beq k' with
 | false=>simp [hk] at h
 | true=>
  simp only [hk,cond_true,Option.some.injEq] at h;subst h
  obtain rfl:=Nat.eq_of_beq_eq_true hk
  intro D w0 K0 β F I ρ w C hv
  obtain ⟨bV,-⟩:=hv
  obtain ⟨yx,iK,rx⟩:=C.bJ hx
  have R:=C.rm.x
  have hB:=R.blk u _ hM
  have hH:=R.iu hM
  have R1:=R.eZ hM
  have aI:=eT hM
  cases rx with
  | @ep _ _ _ _ b0 c0 hb=>
   generalize ji:F u=Fu at hB hH R1
   cases hB with
   | rw aN X G cN hs hr=>
    rw [hb] at aN;cases aN
    obtain ⟨hi,-⟩:=List.getElem?_eq_some_iff.1 bV
    obtain ⟨ho,-⟩:=List.getElem?_eq_some_iff.1 jU
    obtain ⟨xX,xY⟩:=cN i row bV
    obtain ⟨b',cap,cs,he,rfl,cC,dq,ht⟩:=hs.block (by omega)
    cases he
    have hw:=(Holds.app.1 hH).1.one
    have hX:∀ a,a<rows.length→(X a).length=k:=fun a ha=>(cN a _ (List.getElem?_eq_getElem ha)).2
    have yi:i*k+k≤rows.length*k:=by have:=Nat.mul_le_mul_right k (show i+1≤rows.length from hi);rw [Nat.succ_mul] at this;exact this
    have bp:rows.length*k≤cs.size:=by rw [cC];exact Nat.mul_le_mul_right _ dq
    obtain ⟨y,hy⟩:∃ y,(X i)[o]?=some y:=⟨_,List.getElem?_eq_getElem (by omega)⟩
    have hd:=hr i row o _ y bV jU hy
    have JM:w.cell? ⟨b0,i*k+o,none⟩=some y:=by
     rw [cell_of hw,← hy,← jN hX hi (by omega),← ht,List.getElem?_take,if_pos (by omega),Array.getElem?_toList]
    refine aT.pure (Bk (uP hT jg) iK JM) ?_
    have ra:de (fun w=>K0 w∧Holds w I) k rows X G:=⟨cN,hr⟩
    have gu:=ra.put (o:=o) (zs:=[y]) (xs:=[.jk]) (Gx:=fun _=>[]) bV (by simp;omega) rfl (fun j c z h1 h2=>by
     cases j with
     | zero=>simp at h1;subst h1;exact .jk _
     | succ j=>simp at h1)
    have k9:=uA (n:=rows.length) (k:=k) (i:=i) (o:=o) (m:=1) hi (by omega) G (fun _=>[])
    have dw:(List.range 1).flatMap (fun _=>([]:ak))=[]:=by simp
    have K4:(List.range' o 1).flatMap (G i)=G i o:=by simp
    rw [dw,K4,List.append_nil] at k9
    have R2:=R1.perm (Y:=([(b0,.cells cs e (0,0))]++bu rows.length k (dx G i o 1 fun _=>[]))++G i o) (by
     classical
     have hc:=List.perm_iff_count.1 k9
     rw [List.perm_iff_count];intro z
     have:=hc z
     simp only [List.count_append,List.count_nil] at this ⊢
     omega)
    have JN:lay rows.length (iB X i o [y])=lay rows.length X:=by
     refine uR fun a ha=>?_
     unfold iB;split
     ·rename_i e;subst e
      apply List.ext_getElem?;intro j
      rw [mX (by simp;omega)]
      split
      ·rename_i h1;simp at h1
       obtain rfl:j=o:=by omega
       rw [hy];simp
      ·rfl
     ·rfl
    have fF:bq (fun w=>K0 w∧Holds w I) β u (.rw e k (rows.set i (row.take o++([.jk]++row.drop (o+1))))) ([(b0,.cells cs e (0,0))]++bu rows.length k (dx G i o 1 fun _=>[])):=by
     have:=bq.rw (K:=fun w=>K0 w∧Holds w I) (u:=u) (T:=e) (k:=k) (rows:=rows.set i (row.take o++([.jk]++row.drop (o+1)))) (H0:=[(b0,.cells cs e (0,0))]) hb (iB X i o [y]) (dx G i o 1 fun _=>[]) gu.hl (by
      rw [List.length_set,JN]
      exact ⟨ec hX,Or.inr ⟨_,_,_,rfl,rfl,cC,dq,ht⟩⟩) gu.hr
     rw [List.length_set] at this;exact this
    have R3:=R2.back (by rw [List.length_set];exact aI) (by simp [aG]) fF
    rw [List.set_set] at R3
    have C8:(M.set u (aj.rw e k (rows.set i (row.take o++([.jk]++row.drop (o+1)))))).length=M.length:=by rw [List.length_set]
    generalize G i o=OU at hd R3
    cases hd with
    | em X2 F2 mJ jD jG=>
     obtain ⟨a2,c2,rfl⟩:=jD.len
     have hq:(β++[(a2,c2)])[M.length]?=some (a2,c2):=by rw [← R.len];simp
     have hC:=bq.rw (K:=fun w=>K0 w∧Holds w I) (T:=T2) (k:=k2) (rows:=bQ) hq X2 F2 mJ jD jG
     rw [← C8] at hC
     have R4:=((R3.perm (Y:=_++[]) (by rw [List.append_nil])).take hC).nil rfl
     rw [C8] at R4
     refine ⟨_,_,I,R4,(Ext.app _ _).b _,bK.refl _,fun q po du=>?_,.sl hq⟩
     have j6:q≠u:=by simpa using du
     simp only [aG]
     rw [if_neg (by omega),if_neg j6,if_neg j6]
def wH (T:aJ) (E:List (Nat×AV)) (M:List aj) (oc:Option aR) (st:TypeId) (x y:Operand):Option Out:=
 match iL T st,aE E x,aE E y,oc with
 | some (_,k,_,_),some (.sl u n),some vy,some (.n c)=>(match M[u]?,o5 M k vy with
  | some (.rw e' k' rows),some (none,_,bQ)=>bif k.beq k' then some ⟨[n=rows.length,min bQ.length n=c,bc bQ],.d (.v (.int .i64 (c:Int))),M.set u (.rw e' k (bQ.take c++rows.drop c)),[u],[],none⟩ else none
  | _,_=>none)
 | _,_,_,_=>none
theorem de.take {K:World→Prop} {k c:Nat} {rows:List (List DV)} {X:Nat→List Value} {G:Nat→Nat→ak} (h:de K k rows X G):de K k (rows.take c) X G:=by
 constructor
 ·intro i r hi
  rw [List.getElem?_take] at hi
  split at hi
  ·exact h.hl i r hi
  ·simp at hi
 ·intro i r j c' x hi
  rw [List.getElem?_take] at hi
  split at hi
  ·exact h.hr i r j c' x hi
  ·simp at hi
theorem de.drop {K:World→Prop} {k c:Nat} {rows:List (List DV)} {X:Nat→List Value} {G:Nat→Nat→ak} (h:de K k rows X G):de K k (rows.drop c) (fun i=>X (c+i)) (fun i=>G (c+i)):=by
 constructor
 ·intro i r hi;rw [List.getElem?_drop] at hi;exact h.hl _ r hi
 ·intro i r j c' x hi;rw [List.getElem?_drop] at hi;exact h.hr _ r j c' x hi
theorem om {n c k:Nat} {X:Nat→List Value} (hX:∀ a,a<n→(X a).length=k) (hc:c≤n):lay c X=(lay n X).take (c*k):=by
 have h1:=oA c (n-c) X (fun i=>X (c+i))
 rw [show c+(n-c)=n by omega] at h1
 have h2:lay n (fun i=>if i<c then X i else X (c+(i-c)))=lay n X:=uR fun i hi=>by
  split
  ·rfl
  ·congr 1;omega
 rw [h2] at h1
 rw [h1,List.take_append_of_le_length (by rw [ec fun a ha=>hX a (by omega)];exact Nat.le_refl _),List.take_of_length_le (by rw [ec fun a ha=>hX a (by omega)];exact Nat.le_refl _)]
theorem uB {n c k:Nat} {X:Nat→List Value} (hX:∀ a,a<n→(X a).length=k) (hc:c≤n):lay (n-c) (fun i=>X (c+i))=(lay n X).drop (c*k):=by
 have h1:=oA c (n-c) X (fun i=>X (c+i))
 rw [show c+(n-c)=n by omega] at h1
 have h2:lay n (fun i=>if i<c then X i else X (c+(i-c)))=lay n X:=uR fun i hi=>by
  split
  ·rfl
  ·congr 1;omega
 rw [h2] at h1
 have hl:=ec (n:=c) (k:=k) (X:=X) (fun a ha=>hX a (by omega))
 rw [h1,List.drop_append_of_le_length (by omega),List.drop_of_length_le (by omega),List.nil_append]
theorem rE {n c k:Nat} (G:Nat→Nat→ak) (hc:c≤n):bu n k G=bu c k G++bu (n-c) k (fun i=>G (c+i)):=by
 have h1:=qa c (n-c) k G (fun i=>G (c+i))
 rw [show c+(n-c)=n by omega] at h1
 rw [← h1]
 simp only [bu]
 refine eV fun i hi=>eV fun j _=>?_
 show G i j=(if i<c then G i else G (c+(i-c))) j
 split
 ·rfl
 ·congr 2;omega
theorem El (cs:Array Value) (zs:List Value) (h:zs.length≤cs.size):(b5 cs 0 zs).toList=zs++cs.toList.drop zs.length:=by
 apply List.ext_getElem?
 intro p
 rw [Array.getElem?_toList,od _ _ _ _ (by omega)]
 by_cases hp:p<zs.length
 ·rw [if_pos (by omega),List.getElem?_append_left hp,Nat.sub_zero]
 ·rw [if_neg (by omega),List.getElem?_append_right (by omega),List.getElem?_drop,Array.getElem?_toList]
  congr 1;omega
theorem Src.pre {size:Nat} {x:Value} {m c:Nat} {X:List Value} (h:Src w size x m X) (hc:c≤m):(Builtin.lenOf x).run P w=.ok m w∧(Builtin.firstCells size c x).run P w=.ok (X.take (c*size)).toArray w:=by
 obtain ⟨hl,hh⟩:=h
 refine ⟨(Src.first (P:=P) ⟨hl,hh⟩).1,?_⟩
 rcases hh with ⟨rfl,a,c',rfl⟩ | ⟨a,c',rfl,h⟩
 ·obtain rfl:c=0:=by omega
  have:X=[]:=List.eq_nil_of_length_eq_zero (by simpa using hl)
  subst this
  cases a with
  | none=>simp [Builtin.firstCells]
  | some a=>simp [Builtin.firstCells,loadCells,loadCellsFrom]
 ·have hlen:(X.take (c*size)).length=c*size:=by rw [List.length_take,hl];exact Nat.min_eq_left (Nat.mul_le_mul_right _ hc)
  simp only [Builtin.firstCells]
  have:=run_loadCells (P:=P) (w:=w) (a:=a) (X:=X.take (c*size)) (fun j hj=>by
   rw [h j (by simp at hj;omega),List.getElem_take])
  rw [hlen] at this;exact this
theorem GL (hT:aU P T=true) {st xt:TypeId} {x y:Operand} (h:wH T E M oc st x y=some out):aF P ⟨d,.call ⟨.builtin .copy,#[x,y],#[st,xt]⟩,ty,pos,aft,gd⟩ E M out:=by
 unfold wH at h
 split at h
 rotate_left
 ·simp at h
 rename_i e k b z u n vy c he hx hy
 obtain ⟨zv,ok,-,-⟩:=kn hT he
 split at h
 rotate_left
 ·simp at h
 rename_i e' k' rows m bQ hM hs
 cases hk:k.beq k' with
 | false=>simp [hk] at h
 | true=>
  simp only [hk,cond_true,Option.some.injEq] at h;subst h
  obtain rfl:=Nat.eq_of_beq_eq_true hk
  obtain ⟨qR,hm⟩:=ug hs
  intro D w0 K0 β F I ρ w C hv
  obtain ⟨hn,ml,dw,-⟩:=hv
  subst hn
  obtain ⟨X2,a2,fQ⟩:=uy C.now qR (C.ev hy)
  have nN:c≤bQ.length:=by omega
  have qW:c≤rows.length:=by omega
  have bp:∀ w:World,(sizeOf e).run P w=.ok k w:=fun w=>by obtain ⟨i,hi,h1,-⟩:=ok.info;simp [sizeOf,typeInfo,Sem.run_bind,hi,h1]
  obtain ⟨hlen,oI⟩:=fQ.pre (P:=P) nN
  have yn:∀ a,a<bQ.length→(X2 a).length=k:=fun a ha=>(a2.hl a _ (List.getElem?_eq_getElem ha)).2
  rw [← om yn nN] at oI
  have C9:(lay c X2).length=c*k:=ec fun a ha=>yn a (by omega)
  have wI:∀ q ∈ lay c X2,bU q=true:=fun q hq=>a2.one dw q (by rw [om yn nN] at hq;exact List.mem_of_mem_take hq)
  obtain ⟨yx,iK,rx⟩:=C.bJ hx
  cases rx with
  | @sl _ _ c0 q0 hb=>
   have R:=C.rm.x
   have hB:=R.blk u _ hM
   have hH:=R.iu hM
   have R1:=R.eZ hM
   have aI:=eT hM
   generalize ji:F u=Fu at hB hH R1
   cases hB with
   | rw aN X G cN hs hr=>
    rw [hb] at aN;cases aN
    have hX:∀ a,a<rows.length→(X a).length=k:=fun a ha=>(cN a _ (List.getElem?_eq_getElem ha)).2
    have kF:(bQ.take c++rows.drop c).length=rows.length:=by simp;omega
    have ra:de (fun w=>K0 w∧Holds w I) k rows X G:=⟨cN,hr⟩
    have Nn:min c bQ.length=c:=by omega
    have gu:=(a2.take (c:=c)).app (ra.drop (c:=c))
    rw [List.length_take,Nn] at gu
    have nj:∀ (a0:Option Addr) (c0:Nat) w',ρ x=.slice a0 rows.length c0→(∀ a:Addr,a0=some a→(storeCells a (lay c X2)).run P w=.ok () w')→(a0=none→w'=w)→(execOp ρ ⟨d,.call ⟨.builtin .copy,#[x,y],#[st,xt]⟩,ty,pos,aft,gd⟩).run P w=.ok (.value (.int .i64 (c:Int))) w':=by
     intro a0 c0 w' iK bj jj
     have wJ:Nat.min bQ.length rows.length=c:=ml
     simp only [execOp,resolve,List.map_toArray,List.map,iK,Sem.run_bind,Sem.run_pure,Result.andThen_ok,invoke,builtin,Builtin.copy_,List.getElem?_toArray,List.getElem?_cons_zero,List.getElem?_cons_succ,run_underlying ok.bj,hlen,wJ,bp,oI]
     cases a0 with
     | some a=>simp only [Sem.run_bind,bj _ rfl,Result.andThen_ok,Sem.run_pure];rfl
     | none=>rw [jj rfl];simp only [Sem.run_pure,Result.andThen_ok];rfl
    have eH:∀ {w':World} {H0':ak},St D w0 w' (H0'++(bu rows.length k G++((List.range (M.set u .dead).length).flatMap (aG F u [])++I)))→(∀ a0 c0,β[u]?=some (a0,c0)→dD e' k (.slice a0 rows.length c0) rows.length (lay c X2++(lay rows.length X).drop (c*k)) H0')→∃ ax F' I',RM D w0 K0 (M.set u (.rw e' k (bQ.take c++rows.drop c))) ax F' I' w'∧fO [] β ax∧bK I I'∧(∀ v,v<M.length→v ∉ [u]→F' v=F v)∧au (fun w=>K0 w∧Holds w I') ax (.d (.v (.int .i64 (c:Int)))) (.int .i64 (c:Int)):=by
     intro w' H0' bj dN
     rw [rE G qW] at bj
     have R2:bB D w0 K0 (M.set u .dead) β (aG F u []) I ((H0'++bu (rows.length-c) k (fun i=>G (c+i)))++bu c k G) w':=R1.move (bj.perm (by classical rw [List.perm_iff_count];intro z;simp only [List.count_append];omega))
     have fF:bq (fun w=>K0 w∧Holds w I) β u (.rw e' k (bQ.take c++rows.drop c)) (H0'++bu (rows.length-c) k (fun i=>G (c+i))):=by
      have mj:lay rows.length (fun i=>if i<c then X2 i else X (c+(i-c)))=lay c X2++(lay rows.length X).drop (c*k):=by
       have:=oA c (rows.length-c) X2 (fun i=>X (c+i))
       rw [show c+(rows.length-c)=rows.length by omega,uB hX qW] at this
       exact this
      have K5:bu rows.length k (fun i=>if i<c then (fun _=>[]) else G (c+(i-c)))=bu (rows.length-c) k (fun i=>G (c+i)):=by
       have:=qa c (rows.length-c) k (fun _ _=>[]) (fun i=>G (c+i))
       rw [show c+(rows.length-c)=rows.length by omega,kN,List.nil_append] at this
       exact this
      have:=bq.rw (K:=fun w=>K0 w∧Holds w I) (u:=u) (T:=e') (k:=k) (rows:=bQ.take c++rows.drop c) (H0:=H0') hb _ _ gu.hl (by
       rw [kF,mj];exact dN _ _ hb) gu.hr
      rw [kF,K5] at this;exact this
     have R3:=((R2.drop.perm (Y:=(H0'++bu (rows.length-c) k (fun i=>G (c+i)))++[]) (by rw [List.append_nil])).back (by rw [List.length_set];exact aI) (by simp [aG]) fF).nil rfl
     rw [List.set_set] at R3
     refine ⟨β,_,I,R3,(Ext.refl β).b _,bK.refl _,fun q hq du=>?_,.d (.v _)⟩
     have j6:q≠u:=by simpa using du
     simp only [aG];rw [if_neg j6,if_neg j6]
    have Cw:=R1.st
    rcases hs.2 with ⟨h0,rfl,a,Da⟩ | ⟨b',cap,cs,Db,rfl,cC,dq,ht⟩
    ·have x7:c=0:=by omega
     simp only [Value.slice.injEq] at Da
     obtain ⟨-,-,rfl⟩:=Da
     have qP:lay c X2=[]:=by subst x7;simp [lay]
     refine aT.pure (nj _ _ w iK (fun a _=>by rw [qP];simp [storeCells]) (fun _=>rfl)) (eH (H0':=[]) (Cw.perm (by classical rw [List.perm_iff_count];intro z;simp only [List.count_append,List.count_nil];omega)) fun a0 c0 dX=>?_)
     rw [hb] at dX;cases dX
     have:lay rows.length X=[]:=by rw [h0];simp [lay]
     rw [qP,this,List.drop_nil,List.append_nil]
     rw [h0];exact dD.nil _ _ _
    ·simp only [Value.slice.injEq] at Db
     obtain ⟨rfl,-,rfl⟩:=Db
     have hw:=(Holds.app.1 hH).1.one
     have No:c*k≤rows.length*k:=Nat.mul_le_mul_right _ qW
     have sY:rows.length*k≤cs.size:=by rw [cC];exact Nat.mul_le_mul_right _ dq
     have Bm:=n9 (P:=P) (lay c X2) w cs 0 0 hw (by omega) wI
     rw [Nat.add_zero] at Bm
     refine aT.pure (nj _ _ _ iK (fun a ha=>by simp only [Option.some.injEq] at ha;subst ha;exact Bm) (fun jj=>by simp at jj)) (eH (H0':=[(b',.cells (b5 cs 0 (lay c X2)) e' (0,0))]) ?_ fun a0 c0 dX=>?_)
     ·have k7:St D w0 w ((b',.cells cs e' (0,0))::(bu rows.length k G++((List.range (M.set u .dead).length).flatMap (aG F u [])++I))):=Cw.perm (by classical rw [List.perm_iff_count];intro z;simp only [List.count_append,List.count_cons,List.cons_append,List.nil_append];omega)
      exact k7.set _
     ·rw [hb] at dX;cases dX
      refine ⟨by rw [List.length_append,List.length_drop,C9,ec hX];omega,Or.inr ⟨b',_,_,rfl,rfl,by rw [kK];exact cC,dq,?_⟩⟩
      rw [El cs _ (by omega),List.take_append,C9,List.take_of_length_le (by omega),← ht,List.drop_take]
def vH (T:aJ) (E:List (Nat×AV)) (M:List aj) (oc:Option aR) (t:TypeId) (x y:Operand):Option Out:=
 match iL T t,cF (aE E x),cF (aE E y),oc with
 | some (e,k,b,z),some (.i64,n),some (.i64,n'),some (.n2 m c)=>some ⟨[n=(m:Int),n'=(c:Int),m≤c,b*c≤281474976710656,c<4611686018427387904],.sl M.length m,M++[.rw e k (List.replicate m (z.map .v))],[],[],none⟩
 | _,_,_,_=>none
set_option maxRecDepth 20000 in
theorem D4 {t e k b:Nat} {z:List Value} {zv:Value} (ok:oS P t e k b zv) (hz:zv.cells=z.toArray) (ey:z.length=k) {m c:Nat} (mK:m≤c) (hb:b*c≤281474976710656) (hm:c<4611686018427387904):
  (Instr.makeSlice t (.int .i64 m) (.int .i64 c)).run P w=.ok (.slice (some ⟨w.heap.size,0,none⟩) m c) (w.alloc (.cells (lay c fun _=>z).toArray e)):=by
 obtain ⟨i,hi,h1,h2,h3⟩:=ok.info
 have hw:∀ m:Nat,m<4611686018427387904→IntKind.i64.wrap (m:Int)=m:=by
  intro m hm;simp [IntKind.wrap,IntKind.signed,IntKind.bits];omega
 have bp:∀ w:World,(sizeOf e).run P w=.ok k w:=fun w=>by simp [sizeOf,typeInfo,Sem.run_bind,hi,h1]
 have ko:∀ w:World,(typeInfo e).run P w=.ok i w:=fun w=>by simp [typeInfo,Sem.run_bind,hi]
 have hzero:∀ w:World,(zeroValue e).run P w=.ok zv w:=fun w=>by simp [zeroValue,Sem.run_bind,ko,h3]
 have qB:∀ (k:Nat) (w:World),(askRoom k).run P w=.ok () w:=by
  intro k w;unfold askRoom;split<;>simp [mark,Sem.run]
 have x6:∀ n:Int,asInt (.int .i64 n)=pure n:=fun n=>rfl
 have bV:∀ (cs:Array Value) (w:World),(newRow e cs).run P w=.ok ⟨w.heap.size,0,none⟩ (w.alloc (.cells cs e)):=by
  intro cs w;simp [newRow,newObj,Sem.run]
 have C2:∀ m:Nat,b*m≤281474976710656→¬ ((i.bytes:Int)*(m:Int)>2 ^ 48):=by
  intro m hb
  rw [h2]
  have e:((b*m:Nat):Int)=(b:Int)*(m:Int):=Int.natCast_mul b m
  rw [← e]
  generalize b*m=q at hb
  omega
 have vE:∀ n,n=c*k→(if n=0 then ((Array.range n).map fun i=>(#[]:Array Value)[i%(#[]:Array Value).size]!) else ((Array.range n).map fun i=>z.toArray[i%z.toArray.size]!))=(lay c fun _=>z).toArray:=by
  intro n hn
  subst hn
  rw [← rV z c k ey]
  by_cases h0:c*k=0
  ·rw [if_pos h0,h0];simp
  ·rw [if_neg h0]
 unfold Instr.makeSlice
 simp only [Sem.run_bind,run_underlying ok.bj,Result.andThen_ok,x6,Sem.run_pure,ko,hw c hm,hw m (by omega)]
 have n2:=C2 c hb
 have wB:¬ ((((m:Int)<0:Bool)||decide ((i.bytes:Int)*(c:Int)>2 ^ 48))=true∨(m:Int)<0∨(m:Int)>c):=by
  simp only [Bool.or_eq_true,decide_eq_true_eq]
  omega
 rw [if_neg (by simpa using wB)]
 simp only [Sem.run_bind,Result.andThen_ok,qB,bp,Int.toNat_natCast]
 have:=vE (c*k) rfl
 by_cases h0:c*k=0
 ·rw [if_pos h0] at this ⊢
  simp only [Sem.run_pure,Result.andThen_ok,Sem.run_bind,bV,this]
 ·rw [if_neg h0] at this ⊢
  simp only [Sem.run_pure,Result.andThen_ok,Sem.run_bind,hzero,hz,bV,this]
theorem FA (hT:aU P T=true) {t:TypeId} {x y:Operand} (h:vH T E M oc t x y=some out):aF P ⟨d,.makeSlice t x y,ty,pos,aft,gd⟩ E M out:=by
 unfold vH at h
 split at h
 ·rename_i e k b z n n' m c he hx hy
  simp only [Option.some.injEq] at h;subst h
  obtain ⟨zv,ok,hz,ey⟩:=kn hT he
  intro D w0 K0 β F I ρ w C hv
  obtain ⟨rfl,rfl,mK,hb,hm,-⟩:=hv
  refine aT.pure (v:=.slice (some ⟨w.heap.size,0,none⟩) m c) (w':=w.alloc (.cells (lay c fun _=>z).toArray e)) (by simp only [execOp,C.int hx,C.int hy,Sem.run_bind,D4 ok hz ey mK hb hm,Result.andThen_ok,Sem.run_pure]) ?_
  have gp:=ec (n:=c) (k:=k) (X:=fun _=>z) (fun _ _=>ey)
  have Np:=ec (n:=m) (k:=k) (X:=fun _=>z) (fun _ _=>ey)
  refine ⟨_,_,I,C.rm.new (q:=(some ⟨w.heap.size,0,none⟩,c)) (Gr.alloc w _) (di.alloc w _) ?_,(Ext.app _ _).b _,bK.refl _,lW _ _,.sl (iv C.rm _)⟩
  have:=bq.rw (K:=fun w=>K0 w∧Holds w I) (β:=β++[(some ⟨w.heap.size,0,none⟩,c)]) (u:=M.length) (T:=e) (k:=k) (rows:=List.replicate m (z.map .v)) (H0:=[(w.heap.size,.cells (lay c fun _=>z).toArray e (0,0))]) (iv C.rm _) (fun _=>z) (fun _ _=>[]) (fun i r hi=>by
   rw [List.getElem?_replicate] at hi
   split at hi
   ·simp only [Option.some.injEq] at hi;subst hi;rw [List.length_map];exact ⟨ey,ey⟩
   ·simp at hi) (by
    rw [List.length_replicate]
    exact ⟨Np,Or.inr ⟨w.heap.size,c,_,rfl,rfl,by simpa using gp,mK,(om (n:=c) (k:=k) (X:=fun _=>z) (fun _ _=>ey) mK).symm⟩⟩) (fun i r j c x hi h1 h2=>by
    rw [List.getElem?_replicate] at hi
    split at hi
    ·simp only [Option.some.injEq] at hi;subst hi;exact tV h1 h2
    ·simp at hi)
  rw [kN,List.append_nil] at this
  exact this
 ·simp at h
end Go.Proofs.YtcnpikbbmbombaaDoor
namespace Go.Proofs.YtcnpikbbmbombaaDoor
open Go.RowKit
variable {P:Program} {T:aJ} {D:List Nat} {w0:World} {K0:World→Prop} {E:List (Nat×AV)} {M:List aj} {β:Beta} {F:Nat→ak} {I X:ak} {ρ:Operand→Value} {w:World}
variable {d:Option Tmp} {ty:TypeId} {pos:String} {aft:Array Edge} {gd:Option (Nat×Bool)} {oc:Option aR} {out:Out}
theorem mY {t e size n c l h m:Nat} {a:Option Addr} (ht:P.underlying t=some (.slice e)) (hs:(P.info? e).map (·.size)=some size) {vl vh vm:Option Value} (hb:(Instr.sliceBounds true n c vl vh vm).run P w=.ok (l,h,m) w):
  (Instr.sliceAt t (.slice a n c) vl vh vm).run P w=.ok (.slice (if m=l then a else a.map (·.add (l*size))) (h-l) (m-l)) w:=by
 cases hi:P.info? e with
 | none=>simp [hi] at hs
 | some inf=>
  simp only [hi,Option.map_some,Option.some.injEq] at hs
  have bp:(sizeOf e).run P w=.ok size w:=by simp [sizeOf,typeInfo,Sem.run_bind,hi,hs]
  simp only [Instr.sliceAt,Instr.slice,Sem.run_bind,run_underlying ht,Result.andThen_ok,hb,bp,Sem.run_pure]
def yo (T:aJ) (E:List (Nat×AV)) (M:List aj) (oc:Option aR) (t:TypeId) (x:Operand) (lo hi mx:Option Operand):Option Out:=
 match cU T t,aE E x,oc with
 | some (.sl e),some (.sl u n),some o=>(match ff T e,M[u]? with
  | some k,some (.rw Te k' rows)=>(match lo,hi,mx,o with
   | some l,none,none,.n c=>(match cF (aE E l) with
    | some (.i64,z)=>bif k.beq k' then some ⟨[z=(c:Int),c<n,n=rows.length],.sb u k c (n-c),M,[],[],some [u]⟩ else none
    | _=>none)
   | none,some h,none,.n c=>(match cF (aE E h) with
    | some (.i64,z)=>some ⟨[z=(c:Int),c≤n,n=rows.length],.sl u c,M.set u (.rw Te k' (rows.take c)),[u],[],none⟩
    | _=>none)
   | none,some h,some m,.res (.ro k2 bQ)=>(match cF (aE E h),cF (aE E m) with
    | some (.i64,z),some (.i64,z')=>some ⟨[z=(n:Int),z'=(n:Int),n=rows.length,k'=k2,cx rows=bQ],.d (.ro k2 bQ),M.set u .dead,[u],[],none⟩
    | _,_=>none)
   | _,_,_,_=>none)
  | _,_=>none)
 | _,_,_=>none
theorem Src.cap {size n c c':Nat} {a:Option Addr} {xs:List Value} (h:Src w size (.slice a n c) n xs):Src w size (.slice a n c') n xs:=by
 refine ⟨h.1,?_⟩
 rcases h.2 with ⟨rfl,_,_,_⟩ | ⟨a',_,e,h2⟩
 ·exact Or.inl ⟨rfl,_,_,rfl⟩
 ·simp only [Value.slice.injEq] at e;obtain ⟨rfl,-,rfl⟩:=e
  exact Or.inr ⟨a',c',rfl,h2⟩
theorem bI.cap {K:World→Prop} {k n c c':Nat} {a:Option Addr} {rows:List (List DV)} {H:ak} (h:bI K (.ro k rows) (.slice a n c) H) (hc:n≤c'):bI K (.ro k rows) (.slice a n c') H:=by
 cases h with
 | ro X hl hy hs hr=>
  obtain ⟨a',Nq,e,-⟩:=hy
  simp only [Value.slice.injEq] at e;obtain ⟨rfl,rfl,rfl⟩:=e
  exact .ro X hl ⟨_,_,rfl,hc⟩ (fun w hw=>(hs w hw).cap) hr
theorem JO (hT:aU P T=true) {t:TypeId} {x:Operand} {lo hi mx:Option Operand} (h:yo T E M oc t x lo hi mx=some out):aF P ⟨d,.slice t x lo hi mx,ty,pos,aft,gd⟩ E M out:=by
 unfold yo at h
 split at h
 rotate_left
 ·simp at h
 rename_i e u n o ht hx
 split at h
 rotate_left
 ·simp at h
 rename_i k Te k' rows hk hM
 replace ht:=cI hT ht
 replace hk:=ga hT hk
 split at h
 ·rename_i l c
  split at h
  rotate_left
  ·simp at h
  rename_i z hz
  cases bZ:k.beq k' with
  | false=>simp [bZ] at h
  | true=>
   simp only [bZ,cond_true,Option.some.injEq] at h;subst h
   obtain rfl:=Nat.eq_of_beq_eq_true bZ
   refine aF.look ?_ (by simpa using eT hM)
   intro D w0 K0 β F I ρ w C hv
   obtain ⟨rfl,hc,hn,-⟩:=hv
   obtain ⟨y,hy,r⟩:=C.bJ hx
   cases r with
   | @sl _ _ cc a hb=>
    obtain ⟨H,hF,hB,hH⟩:=C.rm.at hM
    cases hB with
    | rw aN X G hl hs hr=>
     rw [hb] at aN;cases aN
     obtain ⟨b',cap,cs,he,rfl,cC,dq,lB⟩:=hs.block (by omega)
     simp only [Value.slice.injEq] at he;obtain ⟨rfl,-,rfl⟩:=he
     refine ⟨_,au.sb (k:=k) (o:=c) (n:=n-c) (c':=cc-c) hb,fun w' _=>?_⟩
     have:=mY (P:=P) (w:=w') (a:=some ⟨b',0,none⟩) ht hk (n:=n) (c:=cc) (l:=c) (h:=n) (m:=cc) (vl:=some (.int .i64 c)) (vh:=none) (vm:=none) (by simp [Instr.sliceBounds,iq (show c≤n by omega)])
     rw [if_neg (by omega)] at this
     simp only [execOp,hy,C.int hz,Option.map_some,Option.map_none,Sem.run_bind,this,Result.andThen_ok,Sem.run_pure,add_eq,Nat.zero_add]
 ·rename_i hh c
  split at h
  rotate_left
  ·simp at h
  rename_i z hz
  simp only [Option.some.injEq] at h;subst h
  intro D w0 K0 β F I ρ w C hv
  obtain ⟨rfl,hc,hn,-⟩:=hv
  obtain ⟨y,hy,r⟩:=C.bJ hx
  cases r with
  | @sl _ _ cc a hb=>
   have R:=C.rm.x
   have hB:=R.blk u _ hM
   have R1:=R.eZ hM
   have aI:=eT hM
   generalize ji:F u=Fu at hB R1
   cases hB with
   | @rw _ _ _ _ _ H0 aN X G hl hs hr=>
    rw [hb] at aN;cases aN
    have jE:n≤cc:=by
     rcases hs.2 with ⟨h0,-,a,hq⟩ | ⟨b',cap,cs,hq,-,-,dq,-⟩
     ·omega
     ·simp only [Value.slice.injEq] at hq;omega
    have fG:=mY (P:=P) (w:=w) (a:=a) ht hk (n:=n) (c:=cc) (l:=0) (h:=c) (m:=cc) (vl:=none) (vh:=some (.int .i64 c)) (vm:=none) (by simp [Instr.sliceBounds,iq (show c≤cc by omega)])
    have jh:(if cc=0 then a else a.map (·.add (0*k)))=a:=by
     split
     ·rfl
     ·cases a with
      | none=>rfl
      | some a=>simp [add_zero']
    rw [jh] at fG
    refine aT.pure (v:=.slice a c cc) (w':=w) (by simp only [execOp,hy,C.int hz,Option.map_some,Option.map_none,Sem.run_bind,fG,Result.andThen_ok,Sem.run_pure,Nat.sub_zero]) ?_
    have hX:∀ a,a<rows.length→(X a).length=k':=fun a ha=>(hl a _ (List.getElem?_eq_getElem ha)).2
    have fV:c≤rows.length:=by omega
    have hlen:(rows.take c).length=c:=by simp;omega
    have ra:de (fun w=>K0 w∧Holds w I) k' rows X G:=⟨hl,hr⟩
    have dN:dD Te k' (.slice a c cc) c (lay c X) H0:=by
     refine ⟨ec fun i hi=>hX i (by omega),?_⟩
     rcases hs.2 with ⟨h0,e0,a',hq⟩ | ⟨b',cap,cs,hq,e0,h1,dq,lB⟩
     ·simp only [Value.slice.injEq] at hq
      obtain ⟨rfl,-,rfl⟩:=hq
      obtain rfl:c=0:=by omega
      exact Or.inl ⟨rfl,e0,_,rfl⟩
     ·simp only [Value.slice.injEq] at hq
      obtain ⟨rfl,-,rfl⟩:=hq
      refine Or.inr ⟨b',cc,cs,rfl,e0,h1,by omega,?_⟩
      rw [om hX fV,← lB,List.take_take,Nat.min_eq_left (Nat.mul_le_mul_right _ fV)]
    have fF:bq (fun w=>K0 w∧Holds w I) β u (.rw Te k' (rows.take c)) (H0++bu c k' G):=by
     have:=bq.rw (K:=fun w=>K0 w∧Holds w I) (u:=u) (T:=Te) (k:=k') (rows:=rows.take c) hb X G (ra.take (c:=c)).hl (by rw [hlen];exact dN) (ra.take (c:=c)).hr
     rw [hlen] at this;exact this
    rw [List.nil_append,rE G fV,← List.append_assoc] at R1
    have R3:=((R1.drop.perm (Y:=(H0++bu c k' G)++[]) (by rw [List.append_nil])).back (by rw [List.length_set];exact aI) (by simp [aG]) fF).nil rfl
    rw [List.set_set] at R3
    refine ⟨β,_,I,R3,(Ext.refl β).b _,bK.refl _,fun q hq du=>?_,.sl hb⟩
    have j6:q≠u:=by simpa using du
    simp only [aG];rw [if_neg j6,if_neg j6]
 ·rename_i hh m k2 bQ
  split at h
  rotate_left
  ·simp at h
  rename_i z z' hz jh
  simp only [Option.some.injEq] at h;subst h
  intro D w0 K0 β F I ρ w C hv
  obtain ⟨rfl,rfl,hn,rfl,rfl,-⟩:=hv
  obtain ⟨y,hy,r⟩:=C.bJ hx
  cases r with
  | @sl _ _ cc a hb=>
   have R:=C.rm.x
   have hB:=R.blk u _ hM
   have R1:=R.eZ hM
   generalize ji:F u=Fu at hB R1
   have hd:bI (fun w=>K0 w∧Holds w I) (.em Te k' rows) (.slice a n cc) Fu∧n≤cc:=by
    cases hB with
    | rw aN X G hl hs hr=>
     rw [hb] at aN;cases aN
     refine ⟨by rw [hn];exact .em X G hl hs hr,?_⟩
     rcases hs.2 with ⟨h0,-,a,hq⟩ | ⟨b',cap,cs,hq,-,-,dq,-⟩
     ·omega
     ·simp only [Value.slice.injEq] at hq;omega
   obtain ⟨hd,jE⟩:=hd
   have fG:=mY (P:=P) (w:=w) (a:=a) ht hk (n:=n) (c:=cc) (l:=0) (h:=n) (m:=n) (vl:=none) (vh:=some (.int .i64 n)) (vm:=some (.int .i64 n)) (by simp [Instr.sliceBounds,iq jE,iq (Nat.le_refl n)])
   have Nr:(if n=0 then a else a.map (·.add (0*k)))=a:=by
    split
    ·rfl
    ·cases a with
     | none=>rfl
     | some a=>simp [add_zero']
   rw [Nr] at fG
   refine aT.pure (v:=.slice a n n) (w':=w) (by simp only [execOp,hy,C.int hz,C.int jh,Option.map_some,Option.map_none,Sem.run_bind,fG,Result.andThen_ok,Sem.run_pure,Nat.sub_zero]) ?_
   rw [List.nil_append] at R1
   have R2:RM D w0 K0 (M.set u .dead) β (aG F u []) (Fu++I) w:=by
    refine ⟨R1.len,fun v bl hv=>(R1.blk v bl hv).mono (fun w hw=>⟨hw.1,(Holds.app.1 hw.2).2⟩) (Ext.refl _),?_⟩
    exact R1.st.perm (List.Perm.append_left _ List.perm_append_comm)
   refine ⟨β,_,_,R2,(Ext.refl β).b _,⟨_,rfl⟩,fun q _ hq=>by simp only [aG];rw [if_neg (by simpa using hq)],?_⟩
   have:=sc (K':=fun w=>K0 w∧Holds w (Fu++I)) hd fun w hw=>⟨⟨hw.1,(Holds.app.1 hw.2).2⟩,(Holds.app.1 hw.2).1⟩
   rw [ef] at this
   exact .d (this.cap (Nat.le_refl _))
 ·simp at h
def uW (T:aJ) (E:List (Nat×AV)) (M:List aj) (oc:Option aR) (t:TypeId) (x ix:Operand):Option Out:=
 match cF (aE E ix),cU T t,aE E x,oc with
 | some (_,z),some (.sl e),some (.sb u k o n),some (.n i)=>(match ff T e,M[u]? with
  | some k',some (.rw _ _ rows)=>bif k.beq k' then some ⟨[z=(i:Int),i<n,o+n≤rows.length],.ep u k (o+i) 0,M,[],[],some []⟩ else none
  | _,_=>none)
 | _,_,_,_=>none
theorem EH (hT:aU P T=true) {t:TypeId} {x ix:Operand} (h:uW T E M oc t x ix=some out):aF P ⟨d,.indexAddr t x ix,ty,pos,aft,gd⟩ E M out:=by
 unfold uW at h
 split at h
 rotate_left
 ·simp at h
 rename_i kk z e u k o n i hz ht hx
 split at h
 rotate_left
 ·simp at h
 rename_i k' Tt k2 rows hk hM
 cases bZ:k.beq k' with
 | false=>simp [bZ] at h
 | true=>
  simp only [bZ,cond_true,Option.some.injEq] at h;subst h
  obtain rfl:=Nat.eq_of_beq_eq_true bZ
  replace ht:=cI hT ht
  replace hk:=ga hT hk
  refine aF.look ?_ (by simp)
  intro D w0 K0 β F I ρ w C c6
  obtain ⟨rfl,hi,CV,-⟩:=c6
  obtain ⟨y,hy,r⟩:=C.bJ hx
  cases r with
  | sb hb=>
   refine ⟨_,?_,fun _ _=>rP ht hk hy (C.int hz) (by omega) (by omega)⟩
   rw [add_eq]
   have:=au.ep (K:=fun w=>K0 w∧Holds w I) (k:=k) (i:=o+i) (o:=0) hb
   rw [Nat.add_mul,Nat.add_zero] at this
   simpa using this
def vI (T:aJ) (E:List (Nat×AV)) (M:List aj) (t:TypeId) (x:Operand):Option Out:=
 match iL T t,aE E x with
 | some (_,k,_,z),some (.sb u k' o n)=>(match M[u]? with
  | some (.rw Te k2 rows)=>bif k.beq k'&&k.beq k2&&z.all bU then some ⟨[0<n,o+n≤rows.length],.d (.v (.tuple #[])),M.set u (.rw Te k2 (rows.take o++(List.replicate n (z.map .v)++rows.drop (o+n)))),[u],[],none⟩ else none
  | _=>none)
 | _,_=>none
theorem FB (cs:Array Value) (i:Nat) (zs:List Value) (h:i+zs.length≤cs.size):(b5 cs i zs).toList=cs.toList.take i++(zs++cs.toList.drop (i+zs.length)):=by
 apply List.ext_getElem?;intro p
 rw [Array.getElem?_toList,od _ _ _ _ h,mX (by simpa using h)]
 split
 ·rfl
 ·simp
theorem GM {l z:List Value} {i n N:Nat} (hz:z.length=n) (h1:i+n≤N) (h2:N≤l.length):(l.take i++(z++l.drop (i+n))).take N=(l.take N).take i++(z++(l.take N).drop (i+n)):=by
 subst hz
 apply List.ext_getElem?;intro p
 rw [List.getElem?_take,mX (by omega),mX (by simp;omega),List.getElem?_take]
 by_cases hp:p<N
 ·rw [if_pos hp,if_pos hp]
 ·rw [if_neg hp,if_neg hp,if_neg (by omega)]
theorem GN {z:List Value} {zv:Value} (hz:zv.cells=z.toArray) (n:Nat):(Builtin.zeroCells zv.cells n).toList=lay n fun _=>z:=by
 rw [hz];unfold Builtin.zeroCells
 have:=rV z n z.length rfl
 simpa using this
theorem FC (hT:aU P T=true) {t:TypeId} {x:Operand} (h:vI T E M t x=some out):aF P ⟨d,.call ⟨.builtin .clear,#[x],#[t]⟩,ty,pos,aft,gd⟩ E M out:=by
 unfold vI at h
 split at h
 rotate_left
 ·simp at h
 rename_i e k b z u k' o n he hx
 split at h
 rotate_left
 ·simp at h
 rename_i Te k2 rows hM
 cases hc:(k.beq k'&&k.beq k2&&z.all bU) with
 | false=>simp [hc] at h
 | true=>
  simp only [hc,cond_true,Option.some.injEq] at h;subst h
  simp only [Bool.and_eq_true] at hc
  obtain rfl:=Nat.eq_of_beq_eq_true hc.1.1
  obtain rfl:=Nat.eq_of_beq_eq_true hc.1.2
  obtain ⟨zv,ok,hz,ey⟩:=kn hT he
  intro D w0 K0 β F I ρ w C hv
  obtain ⟨nx,tC,-⟩:=hv
  obtain ⟨y,hy,r⟩:=C.bJ hx
  have hzero:∀ w:World,(zeroValue e).run P w=.ok zv w:=fun w=>by obtain ⟨i,hi,-,-,h3⟩:=ok.info;simp [zeroValue,typeInfo,Sem.run_bind,hi,h3]
  cases r with
  | @sb _ _ _ _ b0 c0 c1 hb=>
   have R:=C.rm.x
   have hB:=R.blk u _ hM
   have hH:=R.iu hM
   have R1:=R.eZ hM
   have aI:=eT hM
   generalize ji:F u=Fu at hB hH R1
   cases hB with
   | rw aN X G hl hs hr=>
    rw [hb] at aN;cases aN
    obtain ⟨b',cap,cs,hq,rfl,cC,dq,lB⟩:=hs.block (by omega)
    simp only [Value.slice.injEq,Option.some.injEq,Addr.mk.injEq] at hq
    obtain ⟨⟨rfl,-⟩,-,rfl⟩:=hq
    have hw:=(Holds.app.1 hH).1.one
    have hX:∀ a,a<rows.length→(X a).length=k:=fun a ha=>(hl a _ (List.getElem?_eq_getElem ha)).2
    have yp:(lay n fun _=>z).length=n*k:=ec fun _ _=>ey
    have hmul:o*k+n*k≤rows.length*k:=by rw [← Nat.add_mul];exact Nat.mul_le_mul_right _ tC
    have bp:rows.length*k≤cs.size:=by rw [cC];exact Nat.mul_le_mul_right _ dq
    obtain ⟨n',rfl⟩:∃ n',n=n'+1:=⟨n-1,by omega⟩
    refine Gn (Z:=lay (n'+1) fun _=>z) ok.bj (hzero w) hy hw (GN hz _) (by omega) (fun q hq=>?_) ?_
    ·simp only [lay,List.mem_flatMap] at hq
     obtain ⟨_,-,hq⟩:=hq
     exact List.all_eq_true.1 hc.2 q hq
    have ra:de (fun w=>K0 w∧Holds w I) k rows X G:=⟨hl,hr⟩
    have rz:de (fun w=>K0 w∧Holds w I) k (List.replicate (n'+1) (z.map DV.v)) (fun _=>z) (fun _ _=>[]):=⟨fun i r hi=>by
     rw [List.getElem?_replicate] at hi
     split at hi
     ·simp only [Option.some.injEq] at hi;subst hi;rw [List.length_map];exact ⟨ey,ey⟩
     ·simp at hi,fun i r j c x hi h1 h2=>by
     rw [List.getElem?_replicate] at hi
     split at hi
     ·simp only [Option.some.injEq] at hi;subst hi;exact tV h1 h2
     ·simp at hi⟩
    have gu:=(ra.take (c:=o)).app (rz.app (ra.drop (c:=o+(n'+1))))
    have ho:(rows.take o).length=o:=by simp;omega
    have kF:(rows.take o++(List.replicate (n'+1) (z.map DV.v)++rows.drop (o+(n'+1)))).length=rows.length:=by simp;omega
    rw [ho,List.length_replicate] at gu
    have e1:=oA o ((n'+1)+(rows.length-(o+(n'+1)))) X (fun i=>if i<n'+1 then z else X (o+(n'+1)+(i-(n'+1))))
    rw [oA (n'+1) (rows.length-(o+(n'+1))) (fun _=>z) (fun i=>X (o+(n'+1)+i)),uB hX tC,show o+((n'+1)+(rows.length-(o+(n'+1))))=rows.length by omega] at e1
    have e2:=qa o ((n'+1)+(rows.length-(o+(n'+1)))) k G (fun i=>if i<n'+1 then (fun _=>[]) else G (o+(n'+1)+(i-(n'+1))))
    rw [qa (n'+1) (rows.length-(o+(n'+1))) k (fun _ _=>[]) (fun i=>G (o+(n'+1)+i)),kN,List.nil_append,show o+((n'+1)+(rows.length-(o+(n'+1))))=rows.length by omega] at e2
    have e3:=rE (k:=k) G (show o+(n'+1)≤rows.length by omega)
    have e4:=rE (n:=o+(n'+1)) (k:=k) G (show o≤o+(n'+1) by omega)
    have bj:=R1.st
    rw [e3,e4] at bj
    have k7:St D w0 w ((b0,.cells cs Te (0,0))::((bu o k G++bu (rows.length-(o+(n'+1))) k fun i=>G (o+(n'+1)+i))++(((bu (o+(n'+1)-o) k fun i=>G (o+i)))++((List.range (M.set u .dead).length).flatMap (aG F u [])++I)))):=bj.perm (by classical rw [List.perm_iff_count];intro z;simp only [List.count_append,List.count_cons,List.cons_append,List.nil_append];omega)
    have k8:=k7.set (.cells (b5 cs (o*k) (lay (n'+1) fun _=>z)) Te (0,0))
    have R2:bB D w0 K0 (M.set u .dead) β (aG F u []) I (([(b0,.cells (b5 cs (o*k) (lay (n'+1) fun _=>z)) Te (0,0))]++(bu o k G++bu (rows.length-(o+(n'+1))) k fun i=>G (o+(n'+1)+i)))++(bu (o+(n'+1)-o) k fun i=>G (o+i))) _:=R1.move (k8.perm (by classical rw [List.perm_iff_count];intro z;simp only [List.count_append,List.count_cons,List.cons_append,List.nil_append];omega))
    have fF:bq (fun w=>K0 w∧Holds w I) β u (.rw Te k (rows.take o++(List.replicate (n'+1) (z.map DV.v)++rows.drop (o+(n'+1))))) ([(b0,.cells (b5 cs (o*k) (lay (n'+1) fun _=>z)) Te (0,0))]++(bu o k G++bu (rows.length-(o+(n'+1))) k fun i=>G (o+(n'+1)+i))):=by
     have:=bq.rw (K:=fun w=>K0 w∧Holds w I) (u:=u) (T:=Te) (k:=k) (rows:=rows.take o++(List.replicate (n'+1) (z.map DV.v)++rows.drop (o+(n'+1)))) (H0:=[(b0,.cells (b5 cs (o*k) (lay (n'+1) fun _=>z)) Te (0,0))]) hb _ _ gu.hl (by
      rw [kF,e1]
      refine ⟨by rw [List.length_append,List.length_append,yp,List.length_drop,ec hX,ec (n:=o) fun a ha=>hX a (by omega),Nat.add_mul o];omega,Or.inr ⟨_,_,_,rfl,rfl,by rw [kK];exact cC,dq,?_⟩⟩
      rw [FB _ _ _ (by omega),yp,GM yp (by omega) (by simpa using bp),lB,om (c:=o) hX (by omega),Nat.add_mul o]) gu.hr
     rw [kF,e2] at this;exact this
    have R3:=((R2.drop.perm (Y:=([(b0,.cells (b5 cs (o*k) (lay (n'+1) fun _=>z)) Te (0,0))]++(bu o k G++bu (rows.length-(o+(n'+1))) k fun i=>G (o+(n'+1)+i)))++[]) (by rw [List.append_nil])).back (by rw [List.length_set];exact aI) (by simp [aG]) fF).nil rfl
    rw [List.set_set] at R3
    refine ⟨β,_,I,R3,(Ext.refl β).b _,bK.refl _,fun q hq du=>?_,.d (.v _)⟩
    have j6:q≠u:=by simpa using du
    simp only [aG];rw [if_neg j6,if_neg j6]
def wK (T:aJ) (E:List (Nat×AV)) (M:List aj) (oc:Option aR) (t:TypeId) (x ix:Operand):Option Out:=
 match cU T t,jx (aE E x),cF (aE E ix),oc with
 | some .st,some l,some (_,z),some (.n i)=>(match l[i]? with | some b=>some (lk [z=(i:Int)] (.d (.v (.int .u8 (b.toNat:Int)))) M) | none=>none)
 | _,_,_,_=>none
theorem GO (hT:aU P T=true) {t:TypeId} {x ix:Operand} (h:wK T E M oc t x ix=some out):aF P ⟨d,.index t x ix,ty,pos,aft,gd⟩ E M out:=by
 unfold wK at h
 split at h
 ·rename_i l k z i hu hx hz
  split at h
  ·rename_i b hb
   simp only [Option.some.injEq] at h;subst h
   refine aF.same ?_
   intro D w0 K0 β F I ρ w C hv
   obtain ⟨rfl,-⟩:=hv
   refine ⟨_,fun w' _=>?_,.d (.v _)⟩
   have h1:=C.str hx
   have h2:=C.int hz
   have h3:=cI hT hu
   have h4:(⟨l.toArray⟩:ByteArray)[i]?=some b:=by
    obtain ⟨hi,rfl⟩:=List.getElem?_eq_some_iff.1 hb
    exact getElem?_pos (⟨l.toArray⟩:ByteArray) i (by show i<l.toArray.size;simpa using hi)
   simp [execOp,h1,h2,Instr.index,asIntOf,Sem.run_bind,run_underlying h3,h4]
  ·simp at h
 ·simp at h
def uX (T:aJ) (E:List (Nat×AV)) (M:List aj) (oc:Option aR) (t:TypeId) (x ix:Operand):Option Out:=
 match cF (aE E ix),cU T t,aE E x,oc with
 | some (_,z),some (.ar n e),some (.ep u k j o),some (.n2 i _)=>(match ff T e with
  | some sz=>bif Nat.beq k 1&&Nat.beq o 0 then some (lk [z=(i:Int),i<n] (.ep u 1 (j+i*sz) 0) M) else none
  | none=>none)
 | _,_,_,_=>none
theorem EI (hT:aU P T=true) {t:TypeId} {x ix:Operand} (h:uX T E M oc t x ix=some out):aF P ⟨d,.indexAddr t x ix,ty,pos,aft,gd⟩ E M out:=by
 unfold uX at h
 split at h
 rotate_left
 ·simp at h
 rename_i kk z n e u k j o i _ hz ht hx
 split at h
 rotate_left
 ·simp at h
 rename_i sz hk
 cases bZ:(Nat.beq k 1&&Nat.beq o 0) with
 | false=>simp [bZ] at h
 | true=>
  simp only [bZ,cond_true,Option.some.injEq] at h;subst h
  simp only [Bool.and_eq_true] at bZ
  obtain rfl:=Nat.eq_of_beq_eq_true bZ.1
  obtain rfl:=Nat.eq_of_beq_eq_true bZ.2
  replace ht:=cI hT ht
  replace hk:=ga hT hk
  refine aF.same fun C c6=>?_
  obtain ⟨rfl,hi,-⟩:=c6
  obtain ⟨y,hy,r⟩:=C.bJ hx
  cases r with
  | ep hb=>
   refine ⟨_,fun _ _=>ob ht hk hy (C.int hz) (by omega) (by omega),?_⟩
   rw [add_eq,Int.toNat_natCast,show j*1+0+i*sz=(j+i*sz)*1+0 by omega]
   exact .ep hb
def ny:List aj→List Nat→List aj
 | M,[]=>M
 | M,u::r=>ny (M.set u .dead) r
theorem Ab:∀ (b:List Nat) (M:List aj),(ny M b).length=M.length
 | [],_=>rfl
 | u::r,M=>by rw [ny,Ab r,List.length_set]
theorem RM.die:∀ {b:List Nat} {M:List aj} {F:Nat→ak} {I:ak},RM D w0 K0 M β F I w→(∀ u ∈ b,u<M.length)→∃ F' I',RM D w0 K0 (ny M b) β F' I' w∧bK I I'∧(∀ w,Holds w I'→∀ u ∈ b,Holds w (F u))∧∀ u,u ∉ b→F' u=F u
 | [],M,F,I,R,_=>⟨F,I,R,bK.refl I,fun _ _ u hu=>by simp at hu,fun _ _=>rfl⟩
 | u::r,M,F,I,R,hb=>by
  have hu:=hb u (by simp)
  have R1:=R.x.eZ (List.getElem?_eq_getElem hu)
  rw [List.nil_append] at R1
  have R2:RM D w0 K0 (M.set u .dead) β (aG F u []) (F u++I) w:=
   ⟨R1.len,fun v bl hv=>(R1.blk v bl hv).mono (fun w hw=>⟨hw.1,(Holds.app.1 hw.2).2⟩) (Ext.refl _),R1.st.perm (List.Perm.append_left _ List.perm_append_comm)⟩
  obtain ⟨F',I',R3,g,h1,h2⟩:=R2.die (b:=r) (fun v hv=>by rw [List.length_set];exact hb v (by simp [hv]))
  refine ⟨F',I',R3,(show bK I (F u++I) from ⟨F u,rfl⟩).trans g,fun w hw v hv=>?_,fun v hv=>?_⟩
  ·by_cases e:v=u
   ·subst e;exact (Holds.app.1 (g.holds w hw)).1
   ·have:=h1 w hw v ((List.mem_cons.1 hv).resolve_left e)
    simpa [aG,e] using this
  ·simp only [List.mem_cons,not_or] at hv
   rw [h2 v hv.2];simp only [aG];rw [if_neg hv.1]
def vJ (P:Program) (E:List (Nat×AV)) (M:List aj) (oc:Option aR) (g:Operand) (args:Array Operand):Option Out:=
 match aE E g,ky E args.toList,oc with
 | some (.fn f b8),some l,some (.stay told x)=>(match ng M (l++b8) told with
  | some (vc,b)=>bif kZ x&&nk M b then some ⟨aB P f told x::vc,(mH (ny M b) x).1,(mH (ny M b) x).2,b,[],none⟩ else none
  | none=>none)
 | _,_,_=>none
theorem FD {g:Operand} {args:Array Operand} {eJ:Array TypeId} (h:vJ P E M oc g args=some out):aF P ⟨d,.call ⟨.value g,args,eJ⟩,ty,pos,aft,gd⟩ E M out:=by
 unfold vJ at h
 split at h
 ·rename_i f b8 l told x hg hl
  split at h
  ·rename_i vc b wz
   cases dW:(kZ x&&nk M b) with
   | false=>simp [dW] at h
   | true=>
    simp only [dW,cond_true,Option.some.injEq] at h;subst h
    simp only [Bool.and_eq_true] at dW
    have hb:=ux dW.2
    intro D w0 K0 β F I ρ w C hv
    obtain ⟨fP,hv⟩:=hv
    obtain ⟨y,hy,r⟩:=C.bJ hg
    cases r with
    | fn cs cu fV=>
     obtain ⟨dy,j5⟩:=C.mG hl
     have gj:(args.toList.map ρ++cs).length=(l++b8).length:=by rw [List.length_append,List.length_append,dy,cu]
     have nw:∀ (j:Nat) c y,(l++b8)[j]?=some c→(args.toList.map ρ++cs)[j]?=some y→au (fun w=>K0 w∧Holds w I) β c y:=by
      intro j c y h1 h2
      rcases Nat.lt_or_ge j l.length with hj | hj
      ·rw [List.getElem?_append_left hj] at h1
       rw [List.getElem?_append_left (by omega)] at h2
       exact j5 j c y h1 h2
      ·rw [List.getElem?_append_right hj] at h1
       rw [List.getElem?_append_right (by omega),dy] at h2
       exact fV _ c y h1 h2
     obtain ⟨F1,I1,R1,g1,bj,qX⟩:=C.rm.die hb
     obtain ⟨e1,e2⟩:=uc C.rm (K':=iA K0 I1 F1 []) wz hv (fun w hw=>⟨⟨hw.1.1,g1.holds w hw.1.2⟩,bj w hw.1.2⟩) gj nw
     have hm:args.map ρ=(args.toList.map ρ).toArray:=by rw [← Array.toList_map]
     refine pW hy fP.1 hm ?_
     have k6:((args.toList.map ρ).toArray++cs.toArray:Array Value)=(args.toList.map ρ++cs).toArray:=by simp
     rw [k6]
     refine (fP.now R1 C.k (b:=[]) (by simp) e1 e2 (fun h=>absurd rfl h)).mono ?_
     rintro e w' ⟨v,rfl,I',X,R,hI,hd⟩
     refine ⟨v,rfl,?_⟩
     have R':bB D w0 K0 (ny M b) β F1 I' (X++[]) w':=by rw [List.append_nil];exact R
     obtain ⟨ax,F',R2,e,f2,-,a2⟩:=vB dW.1 R' hd
     exact ⟨ax,F',I',R2.nil rfl,e.b _,g1.trans hI,fun u hu yq=>(f2 u (by rw [Ab];exact hu)).trans (qX u yq),a2⟩
  ·simp at h
 ·simp at h
end Go.Proofs.YtcnpikbbmbombaaDoor
namespace Go.Proofs.YtcnpikbbmbombaaDoor
open Go.RowKit
variable {mk:Bool} {P:Program} {T:aJ} {f:FuncId} {w:World} {D:List Nat} {w0:World} {K0:World→Prop} {E:List (Nat×AV)} {M:List aj} {β:Beta} {F:Nat→ak} {I X:ak} {ρ:Operand→Value}
variable {d:Option Tmp} {ty:TypeId} {pos:String} {aft:Array Edge} {gd:Option (Nat×Bool)} {oc:Option aR} {out:Out}
def jc:List Nat→Nat→Option Nat
 | [],_=>none
 | k::r,u=>bif k.beq u then some 0 else (match jc r u with | some i=>some (i+1) | none=>none)
theorem kl:∀ {l:List Nat} {u i:Nat},jc l u=some i→l[i]?=some u
 | [],u,i,h=>by simp [jc] at h
 | k::r,u,i,h=>by
  unfold jc at h
  cases hk:k.beq u with
  | true=>simp only [hk,cond_true,Option.some.injEq] at h;subst h;simp [Nat.eq_of_beq_eq_true hk]
  | false=>
   simp only [hk,cond_false] at h
   split at h
   ·rename_i j hj;simp only [Option.some.injEq] at h;subst h;simpa using kl hj
   ·simp at h
def s6 (l:List Nat):AV→Option AV
 | .d x=>some (.d x)
 | .sl u n=>(match jc l u with | some v=>some (.sl v n) | none=>none)
 | .pt u o=>(match jc l u with | some v=>some (.pt v o) | none=>none)
 | .mv u=>(match jc l u with | some v=>some (.mv v) | none=>none)
 | .yl u=>(match jc l u with | some v=>some (.yl v) | none=>none)
 | .sb u k o n=>(match jc l u with | some v=>some (.sb v k o n) | none=>none)
 | .ep u k i o=>(match jc l u with | some v=>some (.ep v k i o) | none=>none)
 | .sf u k o n q=>(match jc l u with | some v=>some (.sf v k o n q) | none=>none)
 | .rp r o=>some (.rp r o)
 | .bt bs=>some (.bt bs)
 | .uk=>some .uk
 | _=>none
def nn (l:List Nat):List AV→Option (List AV)
 | []=>some []
 | c::r=>(match s6 l c,nn l r with | some c',some r'=>some (c'::r') | _,_=>none)
def qD (l:List Nat):AV→Option AV
 | .fn f cs=>(match nn l cs with | some bM=>some (.fn f bM) | none=>none)
 | .ag cs=>(match nn l cs with | some bM=>some (.ag bM) | none=>none)
 | .tu cs=>(match nn l cs with | some bM=>some (.tu bM) | none=>none)
 | c=>s6 l c
def jX (l:List Nat):List AV→Option (List AV)
 | []=>some []
 | c::r=>(match qD l c,jX l r with | some c',some r'=>some (c'::r') | _,_=>none)
def qE (l:List Nat):List (Nat×AV)→Option (List (Nat×AV))
 | []=>some []
 | (t,c)::r=>(match qD l c,qE l r with | some c',some r'=>some ((t,c')::r') | _,_=>none)
def s7 (l:List Nat):aj→Option aj
 | .bx T cs=>(match jX l cs with | some bM=>some (.bx T bM) | none=>none)
 | .rw T k rows=>some (.rw T k rows)
 | .tw a c T k rows=>some (.tw a c T k rows)
 | .nm v b=>(match jc l v with | some i=>some (.nm i b) | none=>none)
 | .gw g row=>some (.gw g row)
 | .fl T k m cs=>(match jX l cs with | some bM=>some (.fl T k m bM) | none=>none)
 | .mf _ _ _=>none
 | .il _ _ _ _=>none
 | .mp T c es=>some (.mp T c es)
 | .mu T c es=>some (.mu T c es)
 | .it (some v) a s c=>(match jc l v with | some i=>some (.it (some i) a s c) | none=>none)
 | .it none a s c=>some (.it none a s c)
 | .lp b f sz E rf=>(match qE l E with | some E'=>some (.lp b f sz E' rf) | none=>none)
 | .dead=>some .dead
def fH (l:List Nat) (M:List aj):List Nat→Option (List aj)
 | []=>some []
 | u::r=>(match M[u]? with
  | some b=>(match s7 l b,fH l M r with | some b',some r'=>some (b'::r') | _,_=>none)
  | none=>none)
def s8 (l:List Nat):AV→Option AV
 | .ag cs=>(match jX l cs with | some bM=>some (.ag bM) | none=>none)
 | .tu cs=>(match jX l cs with | some bM=>some (.tu bM) | none=>none)
 | c=>qD l c
def jd (l:List Nat) (E:List (Nat×AV)):List Nat→Option (List (Nat×AV))
 | []=>some []
 | t::r=>(match bS E t with
  | some v=>(match s8 l v,jd l E r with | some v',some r'=>some ((t,v')::r') | _,_=>none)
  | none=>none)
def eD (β:Beta):List Nat→Beta
 | []=>[]
 | u::r=>(match β[u]? with | some x=>x | none=>(none,0))::eD β r
theorem eU:∀ {l:List Nat} {i u:Nat} {x:Option Addr×Nat},l[i]?=some u→β[u]?=some x→(eD β l)[i]?=some x
 | [],i,u,x,h,_=>by simp at h
 | v::r,i,u,x,h,hx=>by
  cases i with
  | zero=>simp at h;subst h;simp [eD,hx]
  | succ i=>simp at h;simpa [eD] using eU h hx
theorem tO (β:Beta) (l:List Nat):(eD β l).length=l.length:=by induction l with | nil=>rfl | cons u r ih=>simp [eD,ih]
theorem AQ {K:World→Prop} {l:List Nat} {c c':AV} (h:s6 l c=some c') {y:Value} (r:au K β c y):au K (eD β l) c' y:=by
 unfold s6 at h
 split at h
 ·simp only [Option.some.injEq] at h;subst h;cases r with | d r=>exact .d r
 ·split at h
  ·rename_i hv;simp only [Option.some.injEq] at h;subst h;cases r with | sl hb=>exact .sl (eU (kl hv) hb)
  ·simp at h
 ·split at h
  ·rename_i hv;simp only [Option.some.injEq] at h;subst h;cases r with | pt hb=>exact .pt (eU (kl hv) hb)
  ·simp at h
 ·split at h
  ·rename_i hv;simp only [Option.some.injEq] at h;subst h;cases r with | mv hb=>exact .mv (eU (kl hv) hb)
  ·simp at h
 ·split at h
  ·rename_i hv;simp only [Option.some.injEq] at h;subst h;cases r with | yl hb=>exact .yl (eU (kl hv) hb)
  ·simp at h
 ·split at h
  ·rename_i hv;simp only [Option.some.injEq] at h;subst h;cases r with | sb hb=>exact .sb (eU (kl hv) hb)
  ·simp at h
 ·split at h
  ·rename_i hv;simp only [Option.some.injEq] at h;subst h;cases r with | ep hb=>exact .ep (eU (kl hv) hb)
  ·simp at h
 ·split at h
  ·rename_i hv;simp only [Option.some.injEq] at h;subst h;cases r with | sf hb h1 h2 h3=>exact .sf (eU (kl hv) hb) h1 h2 h3
  ·simp at h
 ·simp only [Option.some.injEq] at h;subst h;cases r with | rp a X hl hc hr=>exact .rp a X hl hc hr
 ·simp only [Option.some.injEq] at h;subst h;cases r with | bt hd hn=>exact .bt hd hn
 ·simp only [Option.some.injEq] at h;subst h;cases r with | uk hu=>exact .uk hu
 ·simp at h
theorem rW {K:World→Prop} {l:List Nat}:∀ {cs bM:List AV},nn l cs=some bM→bM.length=cs.length∧∀ {ys:List Value},(∀ (j:Nat) c y,cs[j]?=some c→ys[j]?=some y→au K β c y)→∀ (j:Nat) c y,bM[j]?=some c→ys[j]?=some y→au K (eD β l) c y
 | [],bM,h=>by simp only [nn,Option.some.injEq] at h;subst h;simp
 | c::r,bM,h=>by
  unfold nn at h
  split at h
  ·rename_i c1 r1 h1 h2
   simp only [Option.some.injEq] at h;subst h
   obtain ⟨e1,e2⟩:=rW (K:=K) h2
   refine ⟨by simp [e1],fun {ys} hr j d y h3 h4=>?_⟩
   cases ys with
   | nil=>simp at h4
   | cons z zs=>
    cases j with
    | zero=>simp at h3 h4;subst h3 h4;exact AQ h1 (hr 0 _ _ rfl rfl)
    | succ j=>simp at h3 h4;exact e2 (ys:=zs) (fun j c y h5 h6=>hr (j+1) c y (by simpa using h5) (by simpa using h6)) j d y h3 h4
  ·simp at h
theorem uY {K:World→Prop} {l:List Nat} {c c':AV} (h:qD l c=some c') {y:Value} (r:au K β c y):au K (eD β l) c' y:=by
 unfold qD at h
 split at h
 ·split at h
  ·rename_i hl;simp only [Option.some.injEq] at h;subst h
   cases r with | fn ys cN hr=>obtain ⟨e1,e2⟩:=rW (β:=β) (K:=K) hl;exact .fn ys (by omega) (e2 hr)
  ·simp at h
 ·split at h
  ·rename_i hl;simp only [Option.some.injEq] at h;subst h
   cases r with | ag ys cN hr=>obtain ⟨e1,e2⟩:=rW (β:=β) (K:=K) hl;exact .ag ys (by omega) (e2 hr)
  ·simp at h
 ·split at h
  ·rename_i hl;simp only [Option.some.injEq] at h;subst h
   cases r with | tu ys cN hr=>obtain ⟨e1,e2⟩:=rW (β:=β) (K:=K) hl;exact .tu ys (by omega) (e2 hr)
  ·simp at h
 ·exact AQ h r
theorem oq {K:World→Prop} {l:List Nat}:∀ {cs bM:List AV},jX l cs=some bM→bM.length=cs.length∧∀ {ys:List Value},(∀ (j:Nat) c y,cs[j]?=some c→ys[j]?=some y→au K β c y)→∀ (j:Nat) c y,bM[j]?=some c→ys[j]?=some y→au K (eD β l) c y
 | [],bM,h=>by simp only [jX,Option.some.injEq] at h;subst h;simp
 | c::r,bM,h=>by
  unfold jX at h
  split at h
  ·rename_i c1 r1 h1 h2
   simp only [Option.some.injEq] at h;subst h
   obtain ⟨e1,e2⟩:=oq (K:=K) h2
   refine ⟨by simp [e1],fun {ys} hr j d y h3 h4=>?_⟩
   cases ys with
   | nil=>simp at h4
   | cons z zs=>
    cases j with
    | zero=>simp at h3 h4;subst h3 h4;exact uY h1 (hr 0 _ _ rfl rfl)
    | succ j=>simp at h3 h4;exact e2 (ys:=zs) (fun j c y h5 h6=>hr (j+1) c y (by simpa using h5) (by simpa using h6)) j d y h3 h4
  ·simp at h
theorem AR {K:World→Prop} {l:List Nat} {c c':AV} (h:s8 l c=some c') {y:Value} (r:au K β c y):au K (eD β l) c' y:=by
 unfold s8 at h
 split at h
 ·split at h
  ·rename_i hl;simp only [Option.some.injEq] at h;subst h
   cases r with | ag ys cN hr=>obtain ⟨e1,e2⟩:=oq (β:=β) (K:=K) hl;exact .ag ys (by omega) (e2 hr)
  ·simp at h
 ·split at h
  ·rename_i hl;simp only [Option.some.injEq] at h;subst h
   cases r with | tu ys cN hr=>obtain ⟨e1,e2⟩:=oq (β:=β) (K:=K) hl;exact .tu ys (by omega) (e2 hr)
  ·simp at h
 ·exact uY h r
theorem AT {K:World→Prop} {l:List Nat} {g:Nat→Value}:∀ {E E':List (Nat×AV)},qE l E=some E'→(∀ x ∈ E,au K β x.2 (g x.1))→∀ x ∈ E',au K (eD β l) x.2 (g x.1)
 | [],E',h,_,x,hx=>by simp only [qE,Option.some.injEq] at h;subst h;cases hx
 | (t,c)::r,E',h,hr,x,hx=>by
  unfold qE at h
  split at h
  ·rename_i c1 r1 h1 h2
   simp only [Option.some.injEq] at h;subst h
   rcases List.mem_cons.1 hx with rfl | hx
   ·exact uY h1 (hr (t,c) List.mem_cons_self)
   ·exact AT h2 (fun y hy=>hr y (List.mem_cons_of_mem _ hy)) x hx
  ·simp at h
theorem uZ {K:World→Prop} {l:List Nat} {u i:Nat} {b b':aj} {H:ak} (hi:l[i]?=some u) (h:s7 l b=some b') (r:bq K β u b H):bq K (eD β l) i b' H:=by
 unfold s7 at h
 split at h
 ·split at h
  ·rename_i hl;simp only [Option.some.injEq] at h;subst h
   cases r with
   | bx hb ys cN hr=>obtain ⟨e1,e2⟩:=oq (β:=β) (K:=K) hl;exact .bx (eU hi hb) ys (by omega) (e2 hr)
  ·simp at h
 ·simp only [Option.some.injEq] at h;subst h
  cases r with | rw hb X G hl hs hr=>exact .rw (eU hi hb) X G hl hs hr
 ·simp only [Option.some.injEq] at h;subst h
  cases r with | tw hb X G hl hs hr=>exact .tw (eU hi hb) X G hl hs hr
 ·split at h
  ·rename_i hv;simp only [Option.some.injEq] at h;subst h
   cases r with | nm hb=>exact .nm (eU (kl hv) hb)
  ·simp at h
 ·simp only [Option.some.injEq] at h;subst h
  cases r with | gw X hl hc hr=>exact .gw X hl hc hr
 ·split at h
  ·rename_i hl;simp only [Option.some.injEq] at h;subst h
   cases r with
   | fl hb ys cN hm hc hr=>obtain ⟨e1,e2⟩:=oq (β:=β) (K:=K) hl;exact .fl (eU hi hb) ys cN (by omega) hc (e2 hr)
  ·simp at h
 ·simp at h
 ·simp at h
 ·simp only [Option.some.injEq] at h;subst h
  cases r with | mp hb vs G hl hr=>exact .mp (eU hi hb) vs G hl hr
 ·simp only [Option.some.injEq] at h;subst h
  cases r with | mu gW hp hn aI hb vs G hl hr=>exact .mu gW hp hn aI (eU hi hb) vs G hl hr
 ·split at h
  ·rename_i hv;simp only [Option.some.injEq] at h;subst h
   cases r with
   | @it b bm c since ck um seen hb hm=>
    obtain ⟨c',h'⟩:=hm _ rfl
    exact .it (bm:=bm) (eU hi hb) (fun v' gq=>by cases gq;exact ⟨c',eU (kl hv) h'⟩)
  ·simp at h
 ·simp only [Option.some.injEq] at h;subst h
  cases r with
  | @it b bm c since ck um seen hb hm=>exact .it (bm:=bm) (eU hi hb) (fun v' gq=>by cases gq)
 ·split at h
  ·rename_i hp;simp only [Option.some.injEq] at h;subst h
   cases r with | @lp b c f sz nF bz E rf tmps hb bp hr=>exact .lp (eU hi hb) bp (AT (g:=fun t=>tmps.getD t undef) hp hr)
  ·simp at h
 ·simp only [Option.some.injEq] at h;subst h
  cases r with | dead=>exact .dead i
theorem qg {l:List Nat}:∀ {k:List Nat} {M':List aj},fH l M k=some M'→M'.length=k.length∧∀ (i:Nat) b,M'[i]?=some b→∃ u b0,k[i]?=some u∧M[u]?=some b0∧s7 l b0=some b
 | [],M',h=>by simp only [fH,Option.some.injEq] at h;subst h;simp
 | u::r,M',h=>by
  unfold fH at h
  split at h
  ·rename_i b hb
   split at h
   ·rename_i b' r' h1 h2
    simp only [Option.some.injEq] at h;subst h
    obtain ⟨e1,e2⟩:=qg h2
    refine ⟨by simp [e1],fun i c hc=>?_⟩
    cases i with
    | zero=>simp at hc;subst hc;exact ⟨u,b,rfl,hb,h1⟩
    | succ i=>simp at hc;simpa using e2 i c hc
   ·simp at h
  ·simp at h
theorem u1 {K:World→Prop} {l:List Nat} {ρ:Operand→Value} (hs:∀ t v,bS E t=some v→au K β v (ρ (.tmp t))):∀ {ts:List Nat} {E':List (Nat×AV)},jd l E ts=some E'→∀ t v,bS E' t=some v→au K (eD β l) v (ρ (.tmp t))
 | [],E',h,t,v,hv=>by simp only [jd,Option.some.injEq] at h;subst h;simp [bS] at hv
 | s::r,E',h,t,v,hv=>by
  unfold jd at h
  split at h
  ·rename_i u hu
   split at h
   ·rename_i u' r' h1 h2
    simp only [Option.some.injEq] at h;subst h
    unfold bS at hv
    cases hk:s.beq t with
    | true=>
     simp only [hk,cond_true,Option.some.injEq] at hv;subst hv
     rw [← Nat.eq_of_beq_eq_true hk];exact AR h1 (hs s u hu)
    | false=>simp only [hk,cond_false] at hv;exact u1 hs h2 t v hv
   ·simp at h
  ·simp at h
theorem uC:∀ {l:List Nat} {M:List aj} {F:Nat→ak} {X:ak},l.Nodup→(∀ u ∈ l,u<M.length)→bB D w0 K0 M β F I X w→∃ rest,St D w0 w (rest++(I++(X++l.flatMap F)))
 | [],M,F,X,_,_,R=>⟨_,by simpa using R.st⟩
 | u::r,M,F,X,hn,hl,R=>by
  have hu:=hl u (by simp)
  have R':=R.eZ (List.getElem?_eq_getElem hu)
  simp only [List.nodup_cons] at hn
  obtain ⟨rest,h⟩:=uC hn.2 (fun v hv=>by rw [List.length_set];exact hl v (by simp [hv])) R'
  refine ⟨rest,?_⟩
  have:r.flatMap (aG F u [])=r.flatMap F:=eV fun v hv=>by
   simp only [aG];rw [if_neg (fun e=>hn.1 (by rw [← e];exact hv))]
  rw [this] at h
  rw [List.flatMap_cons]
  simpa [List.append_assoc] using h
def ma (F:Nat→ak) (l:List Nat) (i:Nat):ak:=match l[i]? with | some u=>F u | none=>[]
theorem uD {F:Nat→ak} {l:List Nat} {i u:Nat} (h:l[i]?=some u):ma F l i=F u:=by simp [ma,h]
theorem rX (F:Nat→ak):∀ (l:List Nat),(List.range l.length).flatMap (ma F l)=l.flatMap F
 | []=>by simp
 | u::r=>by
  rw [List.length_cons,rD,List.flatMap_cons]
  congr 1
  have:=rX F r
  exact this
def nodupB:List Nat→Bool
 | []=>true
 | u::r=>!(r.elem u)&&nodupB r
theorem oe:∀ {l:List Nat},nodupB l=true→l.Nodup
 | [],_=>by simp
 | u::r,h=>by
  simp only [nodupB,Bool.and_eq_true,Bool.not_eq_true'] at h
  rw [List.nodup_cons]
  refine ⟨?_,oe h.2⟩
  intro hu;have:=h.1;simp [hu] at this
mutual
def mapA (σ:Nat→Nat):AV→AV
 | .d x=>.d x
 | .sl u n=>.sl (σ u) n
 | .pt u o=>.pt (σ u) o
 | .mv u=>.mv (σ u)
 | .yl u=>.yl (σ u)
 | .sb u k o n=>.sb (σ u) k o n
 | .sf u k o n q=>.sf (σ u) k o n q
 | .ep u k i o=>.ep (σ u) k i o
 | .rp r o=>.rp r o
 | .bt bs=>.bt bs
 | .uk=>.uk
 | .fn f l=>.fn f (kz σ l)
 | .fm f l=>.fm f (kz σ l)
 | .ag l=>.ag (kz σ l)
 | .tu l=>.tu (kz σ l)
def kz (σ:Nat→Nat):List AV→List AV
 | []=>[]
 | c::r=>mapA σ c::kz σ r
end
theorem kO (σ:Nat→Nat) (l:List AV):kz σ l=l.map (mapA σ):=by induction l with | nil=>rfl | cons c r ih=>rw [kz,ih];rfl
theorem mZ {K:World→Prop} {β ax:Beta} {σ:Nat→Nat} (h:∀ (u:Nat) x,β[u]?=some x→ax[σ u]?=some x) {v:AV} {y:Value} (r:au K β v y):au K ax (mapA σ v) y:=by
 have key:∀ {l:List AV} {ys:List Value},(∀ (j:Nat) c y,l[j]?=some c→ys[j]?=some y→au K ax (mapA σ c) y)→∀ (j:Nat) c y,(kz σ l)[j]?=some c→ys[j]?=some y→au K ax c y:=by
  intro l ys hh j c y h1 h2
  rw [kO,List.getElem?_map,Option.map_eq_some_iff] at h1
  obtain ⟨c',h1,rfl⟩:=h1
  exact hh j c' y h1 h2
 induction r with
 | d h=>exact .d h
 | sl hb=>exact .sl (h _ _ hb)
 | pt hb=>exact .pt (h _ _ hb)
 | mv hb=>exact .mv (h _ _ hb)
 | yl hb=>exact .yl (h _ _ hb)
 | sb hb=>exact .sb (h _ _ hb)
 | sf hb h1 h2 h3=>exact .sf (h _ _ hb) h1 h2 h3
 | ep hb=>exact .ep (h _ _ hb)
 | rp a X hl hc hr=>exact .rp a X hl hc hr
 | bt hd hn=>exact .bt hd hn
 | uk hu=>exact .uk hu
 | fn ys hl hr ih=>exact .fn ys (by rw [kO,List.length_map];exact hl) (key ih)
 | fm ys hl hr ih=>exact .fm ys (by rw [kO,List.length_map];exact hl) (key ih)
 | ag ys hl hr ih=>exact .ag ys (by rw [kO,List.length_map];exact hl) (key ih)
 | tu ys hl hr ih=>exact .tu ys (by rw [kO,List.length_map];exact hl) (key ih)
def er (σ:Nat→Nat):aj→aj
 | .bx T cs=>.bx T (kz σ cs)
 | .rw T k rows=>.rw T k rows
 | .tw a c T k rows=>.tw a c T k rows
 | .nm v b=>.nm (σ v) b
 | .gw g row=>.gw g row
 | .fl T k m cs=>.fl T k m (kz σ cs)
 | .mf T c es=>.mf T c (es.map fun e=>(e.1,e.2.1,mapA σ e.2.2))
 | .il um s l c=>.il (um.map σ) s l c
 | .mp T c es=>.mp T c es
 | .mu T c es=>.mu T c es
 | .it um a s c=>.it (um.map σ) a s c
 | .lp b f sz E rf=>.lp b f sz (E.map fun x=>(x.1,mapA σ x.2)) rf
 | .dead=>.dead
theorem se {K:World→Prop} {β ax:Beta} {σ:Nat→Nat} (h:∀ (u:Nat) x,β[u]?=some x→ax[σ u]?=some x) {u:Nat} {b:aj} {H:ak} (r:bq K β u b H):bq K ax (σ u) (er σ b) H:=by
 cases r with
 | dead=>exact .dead _
 | bx hb ys hl hr=>
  refine .bx (h _ _ hb) ys (by rw [kO,List.length_map];exact hl) fun j c y h1 h2=>?_
  rw [kO,List.getElem?_map,Option.map_eq_some_iff] at h1
  obtain ⟨c',h1,rfl⟩:=h1
  exact mZ h (hr j c' y h1 h2)
 | rw hb X G hl hs hr=>exact .rw (h _ _ hb) X G hl hs hr
 | tw hb X G hl hs hr=>exact .tw (h _ _ hb) X G hl hs hr
 | nm hb=>exact .nm (h _ _ hb)
 | gw X hl hc hr=>exact .gw X hl hc hr
 | fl hb ys hl hm hc hr=>
  refine .fl (h _ _ hb) ys hl (by rw [kO,List.length_map];exact hm) hc fun j c y h1 h2=>?_
  rw [kO,List.getElem?_map,Option.map_eq_some_iff] at h1
  obtain ⟨c',h1,rfl⟩:=h1
  exact mZ h (hr j c' y h1 h2)
 | @mf _ _ Tm x8 x9 hb vs hl hr=>
  have hh:=bq.mf (K:=K) (T:=Tm) (ck:=x8) (u:=σ u) (h _ _ hb) vs (by rw [List.length_map];exact hl) (es:=List.map (fun (e:Nat×MK×AV)=>(e.1,e.2.1,mapA σ e.2.2)) x9) (fun j c y h1 h2=>by
   rw [List.getElem?_map,Option.map_eq_some_iff] at h1
   obtain ⟨c',h1,rfl⟩:=h1
   exact mZ h (hr j c' y h1 h2))
  rw [uu (fun (e:Nat×MK×AV)=>(e.1,e.2.1,mapA σ e.2.2)) (fun _=>⟨rfl,rfl⟩)] at hh
  exact hh
 | mp hb vs G hl hr=>exact .mp (h _ _ hb) vs G hl hr
 | mu gW hp hn aI hb vs G hl hr=>exact .mu gW hp hn aI (h _ _ hb) vs G hl hr
 | lp hb bp hr=>
  refine .lp (h _ _ hb) bp fun x hx=>?_
  obtain ⟨x0,tB,rfl⟩:=List.mem_map.1 hx
  exact mZ h (hr x0 tB)
 | @il b bm c since last ck um seen hb hm=>
  refine .il (bm:=bm) (seen:=seen) (h _ _ hb) (fun v hv=>?_)
  cases um with
  | none=>cases hv
  | some v0=>cases hv;obtain ⟨c',h'⟩:=hm v0 rfl;exact ⟨c',h _ _ h'⟩
 | @it b bm c since ck um seen hb hm=>
  refine .it (bm:=bm) (h _ _ hb) (fun v hv=>?_)
  cases um with
  | none=>cases hv
  | some v0=>cases hv;obtain ⟨c',h'⟩:=hm v0 rfl;exact ⟨c',h _ _ h'⟩
def iY (M:List aj):List Nat→List aj
 | []=>M
 | u::r=>iY (M.set u .dead) r
theorem zF:∀ (l:List Nat) (M:List aj),(iY M l).length=M.length
 | [],_=>rfl
 | u::r,M=>by rw [iY,zF r,List.length_set]
theorem zG:∀ {l:List Nat} {M:List aj} {F:Nat→ak} {X:ak},l.Nodup→(∀ u ∈ l,u<M.length)→bB D w0 K0 M β F I X w→
  ∃ F0,bB D w0 K0 (iY M l) β F0 I (X++l.flatMap F) w∧(∀ u ∈ l,F0 u=[])∧∀ u,u ∉ l→F0 u=F u
 | [],M,F,X,_,_,R=>⟨F,by simpa [iY] using R,by simp,fun _ _=>rfl⟩
 | u::r,M,F,X,hn,hl,R=>by
  have hu:=hl u (by simp)
  have R':=R.eZ (List.getElem?_eq_getElem hu)
  simp only [List.nodup_cons] at hn
  obtain ⟨F0,h1,h2,h3⟩:=zG hn.2 (fun v hv=>by rw [List.length_set];exact hl v (by simp [hv])) R'
  have:r.flatMap (aG F u [])=r.flatMap F:=eV fun v hv=>by
   simp only [aG];rw [if_neg (fun e=>hn.1 (by rw [← e];exact hv))]
  rw [this] at h1
  refine ⟨F0,by rw [List.flatMap_cons,← List.append_assoc];exact h1,fun v hv=>?_,fun v hv=>?_⟩
  ·rcases List.mem_cons.1 hv with e | e
   ·subst e;rw [h3 v hn.1];simp [aG]
   ·exact h2 v e
  ·simp only [List.mem_cons,not_or] at hv
   rw [h3 v hv.2];simp only [aG];rw [if_neg hv.1]
theorem bB.put {X Y:ak} (R:bB D w0 K0 M β F I (X++Y) w) {u:Nat} (hu:u<M.length) (hF:F u=[]) {blk:aj} (hb:bq (fun w=>K0 w∧Holds w I) β u blk X):
  bB D w0 K0 (M.set u blk) β (aG F u X) I Y w where
 len:=by rw [List.length_set];exact R.len
 blk:=by
  intro v bl hv
  rw [List.getElem?_set] at hv
  by_cases e:u=v
  ·subst e
   simp only [hu,if_pos,Option.some.injEq] at hv;subst hv
   simpa [aG] using hb
  ·rw [if_neg e] at hv
   have:aG F u X v=F v:=by simp only [aG];rw [if_neg (fun h=>e h.symm)]
   rw [this];exact R.blk v bl hv
 st:=by
  have hs:=R.st
  rw [List.length_set,range_split hu]
  rw [range_split hu,hF] at hs
  have c1:(List.range u).flatMap (aG F u X)=(List.range u).flatMap F:=eV fun a ha=>by have:=List.mem_range.1 ha;simp [aG];omega
  have c2:(List.range' (u+1) (M.length-(u+1))).flatMap (aG F u X)=(List.range' (u+1) (M.length-(u+1))).flatMap F:=eV fun a ha=>by have:=(List.mem_range'_1.1 ha).1;simp [aG];omega
  have fT:aG F u X u=X:=by simp [aG]
  rw [c1,c2,fT]
  exact hs.perm (by classical rw [List.perm_iff_count];intro z;simp only [List.count_append,List.count_nil];omega)
def la (M:List aj):List Nat→List aj→List aj
 | u::r,b::bs=>la (M.set u b) r bs
 | _,_=>M
theorem Ac:∀ {l:List Nat} {bs:List aj} {M:List aj} {F:Nat→ak} {G:Nat→ak} {Y:ak},l.Nodup→bs.length=l.length→(∀ u ∈ l,u<M.length)→(∀ u ∈ l,F u=[])→
  bB D w0 K0 M β F I ((List.range l.length).flatMap G++Y) w→(∀ (i u:Nat) b,l[i]?=some u→bs[i]?=some b→bq (fun w=>K0 w∧Holds w I) β u b (G i))→
  ∃ F',bB D w0 K0 (la M l bs) β F' I Y w∧∀ u,u ∉ l→F' u=F u
 | [],[],M,F,G,Y,_,_,_,_,R,_=>⟨F,by simpa [la] using R,fun _ _=>rfl⟩
 | [],_::_,_,_,_,_,_,h,_,_,_,_=>by simp at h
 | _::_,[],_,_,_,_,_,h,_,_,_,_=>by simp at h
 | u::r,b::bs,M,F,G,Y,hn,hl,aI,hF,R,hb=>by
  simp only [List.nodup_cons] at hn
  rw [List.length_cons,rD,List.append_assoc] at R
  have R1:=R.put (aI u (by simp)) (hF u (by simp)) (hb 0 u b rfl rfl)
  obtain ⟨F',h1,h2⟩:=Ac (l:=r) (bs:=bs) (G:=fun i=>G (i+1)) hn.2 (by simpa using hl) (fun v hv=>by rw [List.length_set];exact aI v (by simp [hv])) (fun v hv=>by
   simp only [aG];rw [if_neg (fun e=>hn.1 (by rw [← e];exact hv))];exact hF v (by simp [hv])) R1 (fun i v c h3 h4=>hb (i+1) v c (by simpa using h3) (by simpa using h4))
  refine ⟨F',h1,fun v hv=>?_⟩
  simp only [List.mem_cons,not_or] at hv
  rw [h2 v hv.2];simp only [aG];rw [if_neg hv.1]
theorem GP {bs:List aj} {γ:Beta} {G:Nat→ak} {Y:ak} (hl:γ.length=bs.length) (R:bB D w0 K0 M β F I ((List.range bs.length).flatMap G++Y) w) (hb:∀ (i:Nat) b,bs[i]?=some b→bq (fun w=>K0 w∧Holds w I) (β++γ) (M.length+i) b (G i)):
  ∃ F',bB D w0 K0 (M++bs) (β++γ) F' I Y w∧∀ u,u<M.length→F' u=F u:=by
 refine ⟨fun u=>if u<M.length then F u else G (u-M.length),⟨by simp [R.len,hl],fun u b hu=>?_,?_⟩,fun u hu=>by simp [hu]⟩
 ·rcases Nat.lt_or_ge u M.length with h | h
  ·rw [List.getElem?_append_left h] at hu
   simp only [h,if_true]
   exact (R.blk u b hu).mono (fun _ h=>h) (Ext.app _ _)
  ·rw [List.getElem?_append_right h] at hu
   have hn:¬ u<M.length:=by omega
   simp only [hn,if_false]
   have:=hb (u-M.length) b hu
   rwa [show M.length+(u-M.length)=u by omega] at this
 ·rw [List.length_append,List.range_add,List.flatMap_append,List.flatMap_map]
  have e1:(List.range M.length).flatMap (fun u=>if u<M.length then F u else G (u-M.length))=(List.range M.length).flatMap F:=eV fun u hu=>by have:=List.mem_range.1 hu;simp [this]
  have e2:(List.range bs.length).flatMap (fun i=>if M.length+i<M.length then F (M.length+i) else G (M.length+i-M.length))=(List.range bs.length).flatMap G:=eV fun i hi=>by
   rw [if_neg (by omega),Nat.add_sub_cancel_left]
  rw [e1,e2]
  exact R.st.perm (by classical rw [List.perm_iff_count];intro z;simp only [List.count_append];omega)
def aA (P:Program) (f:FuncId) (args:List AV) (M:List aj) (x:AV) (M':List aj):Prop:=
 gG P f=true∧∀ {D:List Nat} {w0:World} {K0:World→Prop} {β:Beta} {F:Nat→ak} {I:ak} {w:World} (ys:List Value),RM D w0 K0 M β F I w→(∀ w,Kp D w0 w→K0 w)→ys.length=args.length→(∀ (j:Nat) c y,args[j]?=some c→ys[j]?=some y→au (fun w=>K0 w∧Holds w I) β c y)→
  Calls P f ys.toArray w fun e w'=>∃ v,e=.returned v∧∃ ax F' I',RM D w0 K0 M' ax F' I' w'∧Ext β ax∧bK I I'∧au (fun w=>K0 w∧Holds w I') ax x v
def outer (l:List Nat) (n:Nat) (i:Nat):Nat:=match l[i]? with | some u=>u | none=>n+(i-l.length)
def wL (P:Program) (E:List (Nat×AV)) (M:List aj) (oc:Option aR) (g:Operand) (args:Array Operand):Option Out:=
 match aE E g,ky E args.toList,oc with
 | some (.fn f b8),some vs,some (.mem l x M')=>(match jX l (vs++b8),fH l M l with
  | some told,some Ms=>bif nodupB l&&Nat.ble l.length M'.length then some ⟨[aA P f told Ms x M'],mapA (outer l M.length) x,la (iY M l++(M'.drop l.length).map (er (outer l M.length))) l ((M'.take l.length).map (er (outer l M.length))),l,[],none⟩ else none
  | _,_=>none)
 | _,_,_=>none
theorem Em (R:RM D w0 K0 M β F I w) (hK:∀ w,Kp D w0 w→K0 w) {f:FuncId} {vs:List AV} {ys:List Value} {l:List Nat} {told:List AV} {Ms M':List aj} {x:AV} (gj:ys.length=vs.length)
  (e1:told.length=vs.length) (e2:∀ (j:Nat) c y,told[j]?=some c→ys[j]?=some y→au (fun w=>K0 w∧Holds w I) (eD β l) c y) (m1:Ms.length=l.length) (m2:∀ (i:Nat) b,Ms[i]?=some b→∃ u b0,l[i]?=some u∧M[u]?=some b0∧bq (fun w=>K0 w∧Holds w I) (eD β l) i b (F u)) (fX:l.Nodup) (hle:l.length≤M'.length) (fP:aA P f told Ms x M'):
  Calls P f ys.toArray w fun e w'=>∃ v,e=.returned v∧∃ ax F' I',RM D w0 K0 (la (iY M l++(M'.drop l.length).map (er (outer l M.length))) l ((M'.take l.length).map (er (outer l M.length)))) ax F' I' w'∧fO [] β ax∧bK I I'∧(∀ u,u<M.length→u ∉ l→F' u=F u)∧au (fun w=>K0 w∧Holds w I') ax (mapA (outer l M.length) x) v:=by
 have aI:∀ u ∈ l,u<M.length:=by
  intro u hu
  obtain ⟨i,hi,rfl⟩:=List.getElem_of_mem hu
  obtain ⟨u',b0,g1,g2,-⟩:=m2 i Ms[i] (List.getElem?_eq_getElem (by omega))
  rw [List.getElem?_eq_getElem hi,Option.some.injEq] at g1
  rw [g1];exact eT g2
 obtain ⟨F0,R0,pq,qX⟩:=zG fX aI R.x
 rw [List.nil_append] at R0
 have yr:=zF l M
 have Dc:=rX F l
 have tD:St D w0 w (l.flatMap F++((List.range (iY M l).length).flatMap F0++I)):=R0.st.perm (by classical rw [List.perm_iff_count];intro z;simp only [List.count_append];omega)
 have qY:∀ w',Kp (keys (l.flatMap F)) w w'→K0 w'∧Holds w' I:=fun w' k=>by
  have t:St (keys (l.flatMap F)) w w' []:=⟨k,by simp [keys],by simp [keys],Holds.nil _⟩
  have s':=St.call tD rfl t
  rw [List.nil_append] at s'
  exact ⟨hK _ s'.kp,(Holds.app.1 s'.holds).2⟩
 have Ns:RM (keys (l.flatMap F)) w (fun w=>K0 w∧Holds w I) Ms (eD β l) (ma F l) [] w:=by
  refine ⟨by rw [tO,m1],fun i b hb=>?_,?_⟩
  ·obtain ⟨u,b0,g1,g2,g3⟩:=m2 i b hb
   rw [uD g1]
   exact g3.mono (fun w hw=>hw.1) (Ext.refl _)
  ·rw [m1,Dc,List.append_nil]
   exact St.start tD.uo.nd tD.uo.holds
 refine (fP.2 _ Ns qY (by omega) (fun j c y h1 h2=>(e2 j c y h1 h2).mono (fun w hw=>hw.1) (Ext.refl _))).mono ?_
 rintro e w' ⟨v,rfl,ax,F',I',R',hE,-,hr⟩
 refine ⟨v,rfl,?_⟩
 have s2:=St.call tD rfl R'.st
 have OV:l.length≤ax.length:=by rw [R'.len];exact hle
 have lL:∀ (i:Nat) q,ax[i]?=some q→(β++ax.drop l.length)[outer l M.length i]?=some q:=by
  intro i q hq
  unfold outer
  rcases Nat.lt_or_ge i l.length with hi | hi
  ·have Dd:l[i]?=some l[i]:=List.getElem?_eq_getElem hi
   rw [Dd]
   have hu:=aI l[i] (List.getElem_mem hi)
   have yq:l[i]<β.length:=by rw [R.len];exact hu
   obtain ⟨q',De⟩:∃ q',β[l[i]]?=some q':=⟨_,List.getElem?_eq_getElem yq⟩
   have:=hE i _ (eU Dd De)
   rw [hq,Option.some.injEq] at this
   rw [List.getElem?_append_left (by rw [R.len];exact hu),De,this]
  ·rw [List.getElem?_eq_none hi]
   dsimp only
   rw [List.getElem?_append_right (by rw [R.len];omega),R.len,Nat.add_sub_cancel_left,List.getElem?_drop,show l.length+(i-l.length)=i by omega];exact hq
 have bZ:∀ w,K0 w∧Holds w (I'++I)→(K0 w∧Holds w I)∧Holds w I':=fun w hw=>⟨⟨hw.1,(Holds.app.1 hw.2).2⟩,(Holds.app.1 hw.2).1⟩
 have JP:(List.range M'.length).flatMap F'=(List.range l.length).flatMap F'++(List.range ((M'.drop l.length).map (er (outer l M.length))).length).flatMap fun i=>F' (l.length+i):=by
  rw [List.length_map,List.length_drop]
  conv=>lhs;rw [show M'.length=l.length+(M'.length-l.length) by omega,List.range_add,List.flatMap_append,List.flatMap_map]
 have R2:bB D w0 K0 (iY M l) β F0 (I'++I) ((List.range ((M'.drop l.length).map (er (outer l M.length))).length).flatMap (fun i=>F' (l.length+i))++(List.range l.length).flatMap F') w':=by
  refine ⟨R0.len,fun u b hb=>(R0.blk u b hb).mono (fun w hw=>(bZ w hw).1) (Ext.refl _),?_⟩
  rw [JP] at s2
  exact s2.perm (by classical rw [List.perm_iff_count];intro z;simp only [List.count_append];omega)
 obtain ⟨F2,R3,kE⟩:=GP (γ:=ax.drop l.length) (by rw [List.length_drop,R'.len,List.length_map,List.length_drop]) R2 (fun i b hb=>by
  rw [List.getElem?_map,Option.map_eq_some_iff] at hb
  obtain ⟨b0,hb,rfl⟩:=hb
  rw [List.getElem?_drop] at hb
  have:=(se lL (R'.blk _ b0 hb)).mono bZ (Ext.refl _)
  have ho:outer l M.length (l.length+i)=M.length+i:=by unfold outer;rw [List.getElem?_eq_none (by omega)];dsimp only;omega
  rw [ho] at this
  rw [yr];exact this)
 have Nt:=R3.perm (Y:=(List.range l.length).flatMap F'++[]) (by rw [List.append_nil])
 obtain ⟨F3,R4,Nu⟩:=Ac (bs:=(M'.take l.length).map (er (outer l M.length))) fX (by simp;omega) (fun u hu=>by have:=aI u hu;rw [List.length_append];omega) (fun u hu=>by rw [kE u (by rw [yr];exact aI u hu)];exact pq u hu) Nt (fun i u b h1 h2=>by
  rw [List.getElem?_map,Option.map_eq_some_iff] at h2
  obtain ⟨b0,h2,rfl⟩:=h2
  rw [List.getElem?_take] at h2
  split at h2
  ·have:=(se lL (R'.blk i b0 h2)).mono bZ (Ext.refl _)
   have ho:outer l M.length i=u:=by unfold outer;rw [h1]
   rw [ho] at this;exact this
  ·simp at h2)
 refine ⟨_,F3,I'++I,R4.nil rfl,(Ext.app _ _).b _,⟨I',rfl⟩,fun u hu Df=>?_,(mZ lL hr).mono bZ (Ext.refl _)⟩
 rw [Nu u Df,kE u (by rw [yr];exact hu),qX u Df]
theorem za (R:RM D w0 K0 M β F I w) (hK:∀ w,Kp D w0 w→K0 w) {f:FuncId} {vs:List AV} {ys:List Value} {l:List Nat} {told:List AV} {Ms M':List aj} {x:AV} (gj:ys.length=vs.length) (lb:∀ (j:Nat) c y,vs[j]?=some c→ys[j]?=some y→au (fun w=>K0 w∧Holds w I) β c y)
  (oX:jX l vs=some told) (nO:fH l M l=some Ms) (fX:l.Nodup) (hle:l.length≤M'.length) (fP:aA P f told Ms x M'):
  Calls P f ys.toArray w fun e w'=>∃ v,e=.returned v∧∃ ax F' I',RM D w0 K0 (la (iY M l++(M'.drop l.length).map (er (outer l M.length))) l ((M'.take l.length).map (er (outer l M.length)))) ax F' I' w'∧fO [] β ax∧bK I I'∧(∀ u,u<M.length→u ∉ l→F' u=F u)∧au (fun w=>K0 w∧Holds w I') ax (mapA (outer l M.length) x) v:=by
 obtain ⟨e1,e2⟩:=oq (β:=β) (K:=fun w=>K0 w∧Holds w I) oX
 obtain ⟨m1,m2⟩:=qg nO
 refine Em R hK gj e1 (e2 lb) m1 (fun i b hb=>?_) fX hle fP
 obtain ⟨u,b0,g1,g2,g3⟩:=m2 i b hb
 exact ⟨u,b0,g1,g2,uZ g1 g3 (R.blk u b0 g2)⟩
theorem GQ {g:Operand} {args:Array Operand} {eJ:Array TypeId} (h:wL P E M oc g args=some out):aF P ⟨d,.call ⟨.value g,args,eJ⟩,ty,pos,aft,gd⟩ E M out:=by
 unfold wL at h
 split at h
 ·rename_i f b8 vs l x M' hg qZ
  split at h
  ·rename_i told Ms oX nO
   cases hc:(nodupB l&&Nat.ble l.length M'.length) with
   | false=>simp only [hc,cond_false,reduceCtorEq] at h
   | true=>
    simp only [hc,cond_true,Option.some.injEq] at h;subst h
    simp only [Bool.and_eq_true] at hc
    have fX:=oe hc.1
    have hle:=Nat.le_of_ble_eq_true hc.2
    intro D w0 K0 β F I ρ w C hv
    obtain ⟨fP,-⟩:=hv
    obtain ⟨y,hy,r⟩:=C.bJ hg
    cases r with
    | fn cs cu fV=>
     obtain ⟨dy,j5⟩:=C.mG qZ
     have gj:(args.toList.map ρ++cs).length=(vs++b8).length:=by rw [List.length_append,List.length_append,dy,cu]
     have nw:∀ (j:Nat) c y,(vs++b8)[j]?=some c→(args.toList.map ρ++cs)[j]?=some y→au (fun w=>K0 w∧Holds w I) β c y:=by
      intro j c y h1 h2
      rcases Nat.lt_or_ge j vs.length with hj | hj
      ·rw [List.getElem?_append_left hj] at h1
       rw [List.getElem?_append_left (by omega)] at h2
       exact j5 j c y h1 h2
      ·rw [List.getElem?_append_right hj] at h1
       rw [List.getElem?_append_right (by omega),dy] at h2
       exact fV _ c y h1 h2
     have hm:args.map ρ=(args.toList.map ρ).toArray:=by rw [← Array.toList_map]
     refine pW hy fP.1 hm ?_
     have k6:((args.toList.map ρ).toArray++cs.toArray:Array Value)=(args.toList.map ρ++cs).toArray:=by simp
     rw [k6]
     exact za C.rm C.k gj nw oX nO fX hle fP
  ·simp at h
 ·simp at h
end Go.Proofs.YtcnpikbbmbombaaDoor
namespace Go.Proofs.YtcnpikbbmbombaaDoor
open Go.RowKit
section
variable {P:Program} {ρ:Operand→Value} {w:World} {Φ:Value→World→Prop} {d:Option Tmp} {ty t k e:TypeId} {pos:String} {aft:Array Edge} {gd:Option (Nat×Bool)} {x:Operand}
def rY:Obj→Bool
 | .cells _ _ _=>false
 | _=>true
theorem qc {r:Nat} {o:Obj} (h:w.heap[r]?=some o) (ho:rY o=true):(getObj r).run P w=.ok o w:=by
 cases o<;>simp [rY] at ho<;>simp [getObj,Sem.run,h]
theorem rZ {r:Nat} {o:Obj} (h:w.heap[r]?=some o) (ho:rY o=true) (o':Obj):(setObj r o').run P w=.ok () (b7 w r o'):=by
 cases o<;>simp [rY] at ho<;>simp [setObj,Sem.run,h,b7]
end
end Go.Proofs.YtcnpikbbmbombaaDoor
namespace Go.Proofs.YtcnpikbbmbombaaDoor
open Go.RowKit
variable {P:Program} {T:aJ} {E:List (Nat×AV)} {M:List aj}
variable {d:Option Tmp} {ty:TypeId} {pos:String} {aft:Array Edge} {gd:Option (Nat×Bool)} {oc:Option aR} {out:Out}
def OE (T:aJ) (E:List (Nat×AV)) (M:List aj) (oc:Option aR) (t:TypeId) (x:Operand) (lo hi mx:Option Operand):Option Out:=
 match cU T t,aE E x,oc with
 | some (.sl e),some (.sl u n),some o=>(match ff T e,M[u]? with
  | some k,some (.rw _ k' rows)=>(match lo,hi,mx,o with
   | none,some h,none,.n2 c _=>(match cF (aE E h) with
    | some (.i64,z)=>bif k.beq k' then some ⟨[z=(c:Int),0<c,c≤n,n=rows.length],.sb u k 0 c,M,[],[],some []⟩ else none
    | _=>none)
   | none,some h,none,.res (.ro k2 [])=>(match cF (aE E h) with
    | some (.i64,z)=>some ⟨[z=0,n=rows.length],.d (.ro k2 []),M,[],[],some []⟩
    | _=>none)
   | some l,none,none,.res (.ro k2 [])=>(match cF (aE E l) with
    | some (.i64,z)=>some ⟨[z=(n:Int),n=rows.length],.d (.ro k2 []),M,[],[],some []⟩
    | _=>none)
   | _,_,_,_=>none)
  | _,_=>none)
 | _,_,_=>none
theorem sg {K:World→Prop} {k n c o c':Nat} {a:Option Addr} {rows:List (List DV)} (h:bI K (.ro k rows) (.slice a n c) []) (ho:o≤c') (hc:c'≤rows.length):bI K (.ro k ((rows.take c').drop o)) (.slice (if c=o then a else a.map (·.add (o*k))) (c'-o) (c-o)) []:=by
 cases h with
 | ro X hl hy hs hr=>
  obtain ⟨a',Nq,e,dq⟩:=hy
  simp only [Value.slice.injEq] at e;obtain ⟨rfl,rfl,rfl⟩:=e
  have hX:∀ i,i<rows.length→(X i).length=k:=fun i hi=>(hl i _ (List.getElem?_eq_getElem hi)).2
  have hlen:((rows.take c').drop o).length=c'-o:=by simp;omega
  have Dg:∀ (i:Nat) r,((rows.take c').drop o)[i]?=some r→rows[o+i]?=some r:=fun i r hi=>by
   rw [List.getElem?_drop,List.getElem?_take] at hi
   split at hi
   ·exact hi
   ·cases hi
  refine .ro (fun i=>X (o+i)) (fun i r hi=>hl (o+i) r (Dg i r hi)) ⟨_,_,by rw [hlen],by rw [hlen];omega⟩ (fun w hw=>?_) fun i r j x y h1 h2 h3=>hr (o+i) r j x y (Dg i r h1) h2 h3
  rw [hlen]
  refine ⟨ec fun i hi=>hX (o+i) (by omega),?_⟩
  rcases Nat.eq_zero_or_pos (c'-o) with h0 | hm
  ·exact Or.inl ⟨h0,_,_,by rw [h0]⟩
  rcases (hs w hw).2 with ⟨h0,-⟩ | ⟨a0,c0,e,jU⟩
  ·omega
  simp only [Value.slice.injEq] at e;obtain ⟨rfl,-,rfl⟩:=e
  refine Or.inr ⟨a0.add (o*k),_,by rw [if_neg (by omega)];rfl,fun j hj=>?_⟩
  have gp:(lay (c'-o) fun i=>X (o+i)).length=(c'-o)*k:=ec fun i hi=>hX (o+i) (by omega)
  have e1:lay (c'-o) (fun i=>X (o+i))=((lay rows.length X).drop (o*k)).take ((c'-o)*k):=by
   rw [← uB (n:=rows.length) (c:=o) hX (by omega)]
   exact om (n:=rows.length-o) (c:=c'-o) (X:=fun i=>X (o+i)) (fun i hi=>hX (o+i) (by omega)) (by omega)
  have lC:(o+(c'-o))*k≤rows.length*k:=Nat.mul_le_mul_right k (by omega)
  rw [Nat.add_mul] at lC
  have hN:(lay rows.length X).length=rows.length*k:=ec hX
  have mL:o*k+j<(lay rows.length X).length:=by omega
  rw [Addr.mV,jU (o*k+j) mL,← List.getElem?_eq_getElem mL,← List.getElem?_eq_getElem hj,e1,List.getElem?_take,if_pos (by omega),List.getElem?_drop]
def xC (T:aJ) (E:List (Nat×AV)) (M:List aj) (oc:Option aR) (t:TypeId) (x:Operand) (lo hi mx:Option Operand):Option Out:=
 match cU T t,aE E x,oc with
 | some (.sl e),some (.d (.ro k' rows)),some (.n2 c o)=>(match ff T e with
  | some k=>(match lo,hi,mx with
   | none,some h,none=>(match cF (aE E h) with
    | some (.i64,z)=>bif k.beq k' then some ⟨[z=(c:Int),c≤rows.length],.d (.ro k (rows.take c)),M,[],[],some []⟩ else none
    | _=>none)
   | none,some h,some m=>(match cF (aE E h),cF (aE E m) with
    | some (.i64,z),some (.i64,z')=>bif k.beq k' then some ⟨[z=(c:Int),z'=(c:Int),c≤rows.length],.d (.ro k (rows.take c)),M,[],[],some []⟩ else none
    | _,_=>none)
   | some l,none,none=>(match cF (aE E l) with
    | some (.i64,z)=>bif k.beq k' then some ⟨[z=(o:Int),o≤rows.length],.d (.ro k (rows.drop o)),M,[],[],some []⟩ else none
    | _=>none)
   | some l,some h,none=>(match cF (aE E l),cF (aE E h) with
    | some (.i64,z),some (.i64,z')=>bif k.beq k' then some ⟨[z=(o:Int),z'=(c:Int),o≤c,c≤rows.length],.d (.ro k ((rows.take c).drop o)),M,[],[],some []⟩ else none
    | _,_=>none)
   | _,_,_=>none)
  | _=>none)
 | _,_,_=>none
theorem Ip (hT:aU P T=true) {t:TypeId} {x:Operand} {lo hi mx:Option Operand} (h:xC T E M oc t x lo hi mx=some out):aF P ⟨d,.slice t x lo hi mx,ty,pos,aft,gd⟩ E M out:=by
 unfold xC at h
 split at h
 rotate_left
 ·simp at h
 rename_i e k' rows c o ht hx
 split at h
 rotate_left
 ·simp at h
 rename_i k hk
 replace ht:=cI hT ht
 replace hk:=ga hT hk
 split at h
 ·rename_i hh
  split at h
  rotate_left
  ·simp at h
  rename_i z hz
  cases bZ:k.beq k' with
  | false=>simp [bZ] at h
  | true=>
   simp only [bZ,cond_true,Option.some.injEq] at h;subst h
   obtain rfl:=Nat.eq_of_beq_eq_true bZ
   refine aF.look ?_ (by simp)
   intro D w0 K0 β F I ρ w C hv
   obtain ⟨rfl,hc,-⟩:=hv
   obtain ⟨y,hy,r⟩:=C.bJ hx
   cases r with | d r=>
   obtain ⟨a,n,cc,rfl,hle,dq⟩:∃ a n cc,y=.slice a n cc∧n=rows.length∧rows.length≤cc:=by
    cases r with | ro X hl nP hs hr=>obtain ⟨a,cc,rfl,h2⟩:=nP;exact ⟨_,_,_,rfl,rfl,h2⟩
   subst hle
   have p:=sg r (o:=0) (c':=c) (Nat.zero_le _) hc
   rw [List.drop_zero] at p
   refine ⟨_,.d p,fun w' _=>?_⟩
   have:=mY (P:=P) (w:=w') (a:=a) ht hk (n:=rows.length) (c:=cc) (l:=0) (h:=c) (m:=cc) (vl:=none) (vh:=some (.int .i64 c)) (vm:=none) (by simp [Instr.sliceBounds,iq (show c≤cc by omega)])
   simp only [execOp,hy,C.int hz,Option.map_some,Option.map_none,Sem.run_bind,this,Result.andThen_ok,Sem.run_pure]
 ·rename_i hh mm
  split at h
  rotate_left
  ·simp at h
  rename_i z z' hz jh
  cases bZ:k.beq k' with
  | false=>simp [bZ] at h
  | true=>
   simp only [bZ,cond_true,Option.some.injEq] at h;subst h
   obtain rfl:=Nat.eq_of_beq_eq_true bZ
   refine aF.look ?_ (by simp)
   intro D w0 K0 β F I ρ w C hv
   obtain ⟨rfl,rfl,hc,-⟩:=hv
   obtain ⟨y,hy,r⟩:=C.bJ hx
   cases r with | d r=>
   obtain ⟨a,n,cc,rfl,hle,dq⟩:∃ a n cc,y=.slice a n cc∧n=rows.length∧rows.length≤cc:=by
    cases r with | ro X hl nP hs hr=>obtain ⟨a,cc,rfl,h2⟩:=nP;exact ⟨_,_,_,rfl,rfl,h2⟩
   subst hle
   have p:=sg r (o:=0) (c':=c) (Nat.zero_le _) hc
   rw [List.drop_zero] at p
   have hb:∀ q:Nat,(if q=0 then a else a.map (·.add (0*k)))=a:=by
    intro q
    rw [Nat.zero_mul]
    split
    ·rfl
    ·cases a with
     | none=>rfl
     | some a=>simp [add_zero']
   rw [hb cc] at p
   refine ⟨_,.d (p.cap (c':=c-0) (Nat.le_refl _)),fun w' _=>?_⟩
   have:=mY (P:=P) (w:=w') (a:=a) ht hk (n:=rows.length) (c:=cc) (l:=0) (h:=c) (m:=c) (vl:=none) (vh:=some (.int .i64 c)) (vm:=some (.int .i64 c)) (by simp [Instr.sliceBounds,iq (show c≤cc by omega),iq (Nat.le_refl c)])
   rw [hb c] at this
   simp only [execOp,hy,C.int hz,C.int jh,Option.map_some,Option.map_none,Sem.run_bind,this,Result.andThen_ok,Sem.run_pure]
 ·rename_i l
  split at h
  rotate_left
  ·simp at h
  rename_i z hz
  cases bZ:k.beq k' with
  | false=>simp [bZ] at h
  | true=>
   simp only [bZ,cond_true,Option.some.injEq] at h;subst h
   obtain rfl:=Nat.eq_of_beq_eq_true bZ
   refine aF.look ?_ (by simp)
   intro D w0 K0 β F I ρ w C hv
   obtain ⟨rfl,hc,-⟩:=hv
   obtain ⟨y,hy,r⟩:=C.bJ hx
   cases r with | d r=>
   obtain ⟨a,n,cc,rfl,hle,dq⟩:∃ a n cc,y=.slice a n cc∧n=rows.length∧rows.length≤cc:=by
    cases r with | ro X hl nP hs hr=>obtain ⟨a,cc,rfl,h2⟩:=nP;exact ⟨_,_,_,rfl,rfl,h2⟩
   subst hle
   have p:=sg r (o:=o) (c':=rows.length) hc (Nat.le_refl _)
   rw [List.take_length] at p
   refine ⟨_,.d p,fun w' _=>?_⟩
   have:=mY (P:=P) (w:=w') (a:=a) ht hk (n:=rows.length) (c:=cc) (l:=o) (h:=rows.length) (m:=cc) (vl:=some (.int .i64 o)) (vh:=none) (vm:=none) (by simp [Instr.sliceBounds,iq hc])
   simp only [execOp,hy,C.int hz,Option.map_some,Option.map_none,Sem.run_bind,this,Result.andThen_ok,Sem.run_pure]
 ·rename_i l hh
  split at h
  rotate_left
  ·simp at h
  rename_i z z' hz jh
  cases bZ:k.beq k' with
  | false=>simp [bZ] at h
  | true=>
   simp only [bZ,cond_true,Option.some.injEq] at h;subst h
   obtain rfl:=Nat.eq_of_beq_eq_true bZ
   refine aF.look ?_ (by simp)
   intro D w0 K0 β F I ρ w C hv
   obtain ⟨rfl,rfl,ho,hc,-⟩:=hv
   obtain ⟨y,hy,r⟩:=C.bJ hx
   cases r with | d r=>
   obtain ⟨a,n,cc,rfl,hle,dq⟩:∃ a n cc,y=.slice a n cc∧n=rows.length∧rows.length≤cc:=by
    cases r with | ro X hl nP hs hr=>obtain ⟨a,cc,rfl,h2⟩:=nP;exact ⟨_,_,_,rfl,rfl,h2⟩
   subst hle
   have p:=sg r (o:=o) (c':=c) ho hc
   refine ⟨_,.d p,fun w' _=>?_⟩
   have:=mY (P:=P) (w:=w') (a:=a) ht hk (n:=rows.length) (c:=cc) (l:=o) (h:=c) (m:=cc) (vl:=some (.int .i64 o)) (vh:=some (.int .i64 c)) (vm:=none) (by simp [Instr.sliceBounds,iq (show c≤cc by omega),iq ho])
   simp only [execOp,hy,C.int hz,C.int jh,Option.map_some,Option.map_none,Sem.run_bind,this,Result.andThen_ok,Sem.run_pure]
 ·simp at h
end Go.Proofs.YtcnpikbbmbombaaDoor
namespace Go.Proofs.YtcnpikbbmbombaaDoor
open Go.RowKit
variable {P:Program} {T:aJ} {D:List Nat} {w0:World} {K0:World→Prop} {E:List (Nat×AV)} {M:List aj} {β:Beta} {F:Nat→ak} {I X:ak} {ρ:Operand→Value} {w:World}
variable {d:Option Tmp} {ty:TypeId} {pos:String} {aft:Array Edge} {gd:Option (Nat×Bool)} {oc:Option aR} {out:Out}
def u2 (T:aJ) (E:List (Nat×AV)) (M:List aj) (oc:Option aR) (t:TypeId) (x ix:Operand):Option Out:=
 match cU T t,aE E x,cF (aE E ix),oc with
 | some (.sl e),some (.d (.v (.slice a n _))),some (_,z),some (.n2 i v)=>(match ff T e,M[v]? with
  | some k,some (.tw a' _ _ k' rows)=>bif k.beq k' then some ⟨[z=(i:Int),a=a',i<n,n=rows.length],.ep v k i 0,M,[],[],some []⟩ else none
  | _,_=>none)
 | _,_,_,_=>none
theorem EJ (hT:aU P T=true) {t:TypeId} {x ix:Operand} (h:u2 T E M oc t x ix=some out):aF P ⟨d,.indexAddr t x ix,ty,pos,aft,gd⟩ E M out:=by
 unfold u2 at h
 split at h
 rotate_left
 ·simp at h
 rename_i e a n ca kk z i v ht hv hz
 replace ht:=cI hT ht
 split at h
 rotate_left
 ·simp at h
 rename_i k a' c' T' k' rows hk hM
 replace hk:=ga hT hk
 cases bZ:k.beq k' with
 | false=>simp [bZ] at h
 | true=>
  simp only [bZ,cond_true,Option.some.injEq] at h;subst h
  obtain rfl:=Nat.eq_of_beq_eq_true bZ
  refine aF.look (fun C c6=>?_) (by simp)
  obtain ⟨rfl,rfl,hi,CV,-⟩:=c6
  obtain ⟨y,hy,r⟩:=C.bJ hv
  cases r with | d r=>
  cases r with | v=>
  obtain ⟨H,-,hB,-⟩:=C.rm.at hM
  cases hB with
  | tw hb X G hl hs hr=>
   obtain ⟨b',cap,cs,he,-⟩:=hs.block (by omega)
   cases he
   exact ⟨_,by rw [add_eq];simpa using au.ep (k:=k) (i:=i) (o:=0) hb,fun _ _=>rP ht hk hy (C.int hz) (by omega) (by omega)⟩
def u3 (T:aJ) (E:List (Nat×AV)) (M:List aj) (oc:Option aR) (t:TypeId) (x y:Operand):Option Out:=
 match aE E x,aE E y,ff T t,oc with
 | some (.ep u k i o),some v,some n,some (.ix _ row)=>(match nc v with
  | some l=>(match jV M l with
   | some (vc,xs,M')=>(match M'[u]? with
    | some (.tw a c e k' rows)=>bif k.beq k'&&l.length.beq n&&(o+n).ble k then some ⟨(rows[i]?=some row)::vc,.d .jk,M'.set u (.tw a c e k (rows.set i (row.take o++(xs++row.drop (o+xs.length))))),u::o6 l,[],none⟩ else none
    | _=>none)
   | none=>none)
  | none=>none)
 | _,_,_,_=>none
theorem EK (hT:aU P T=true) {t:TypeId} {x y:Operand} (h:u3 T E M oc t x y=some out):aF P ⟨d,.store t x y,ty,pos,aft,gd⟩ E M out:=by
 unfold u3 at h
 split at h
 rotate_left
 ·simp at h
 rename_i u k i o v n i0 row hx hy hn
 split at h
 rotate_left
 ·simp at h
 rename_i l hl
 split at h
 rotate_left
 ·simp at h
 rename_i vc xs M' hp
 split at h
 rotate_left
 ·simp at h
 rename_i aa ca e k' rows hM
 cases hc:(k.beq k'&&l.length.beq n&&(o+n).ble k) with
 | false=>simp [hc] at h
 | true=>
  simp only [hc,cond_true,Option.some.injEq] at h;subst h
  simp only [Bool.and_eq_true] at hc
  obtain rfl:=Nat.eq_of_beq_eq_true hc.1.1
  have qP:=Nat.eq_of_beq_eq_true hc.1.2
  have hle:=Nat.le_of_ble_eq_true hc.2
  intro D w0 K0 β F I ρ w C hv
  obtain ⟨bV,hv⟩:=hv
  obtain ⟨yx,iK,rx⟩:=C.bJ hx
  obtain ⟨yy,nL,ry⟩:=C.bJ hy
  obtain ⟨zs,h1,h2,h3,h4⟩:=pX hl ry
  obtain ⟨lM,F',Hp,R',dd,yj⟩:=sd C.rm.x hp hv (ys:=zs) h2 h3
  rw [List.nil_append] at R'
  cases rx with
  | @ep _ _ _ _ b0 c0 hb=>
   have aI:u<M'.length:=eT hM
   have hB:=R'.blk u _ hM
   have hH:=R'.iu hM
   have R1:=R'.eZ hM
   have dl:=dd.len
   obtain ⟨Gx,ym,qU⟩:=dd.to
   generalize ji:F' u=Fu at hB hH R1
   cases hB with
   | tw aN X G cN hs hr=>
    rw [hb] at aN;cases aN
    obtain ⟨hi,-⟩:=List.getElem?_eq_some_iff.1 bV
    obtain ⟨b',cap,cs,he,rfl,cC,dq,ht⟩:=hs.block (by omega)
    cases he
    have hw:=(Holds.app.1 hH).1.one
    have hX:∀ a,a<rows.length→(X a).length=k:=fun a ha=>(cN a _ (List.getElem?_eq_getElem ha)).2
    have yi:i*k+k≤rows.length*k:=by have:=Nat.mul_le_mul_right k (show i+1≤rows.length from hi);rw [Nat.succ_mul] at this;exact this
    have bp:rows.length*k≤cs.size:=by rw [cC];exact Nat.mul_le_mul_right _ dq
    refine uN n (ga hT hn) iK nL hw (by rw [h1];simp;omega) (by omega) (by rw [h1];simpa using h4) ?_
    rw [h1]
    have ra:de (fun w=>K0 w∧Holds w I) k rows X G:=⟨cN,hr⟩
    have gu:=ra.put (o:=o) (zs:=zs) (xs:=xs) (Gx:=Gx) bV (by omega) dl qU
    have bj:=R1.st
    have k7:St D w0 w ((b0,.cells cs e (0,0))::(bu rows.length k G++(Hp++((List.range (M'.set u .dead).length).flatMap (aG F' u [])++I)))):=bj.perm (by classical rw [List.perm_iff_count];intro z;simp only [List.count_append,List.count_cons,List.cons_append,List.nil_append];omega)
    have k8:=k7.set (.cells (b5 cs (i*k+o) zs) e (0,0))
    have k9:=uA (n:=rows.length) (k:=k) (i:=i) (o:=o) (m:=zs.length) hi (by omega) G Gx
    rw [ym,← dl] at k8
    have R2:bB D w0 K0 (M'.set u .dead) β (aG F' u []) I (([(b0,.cells (b5 cs (i*k+o) zs) e (0,0))]++bu rows.length k (dx G i o zs.length Gx))++(List.range' o zs.length).flatMap (G i)) _:=R1.move (k8.perm (by
     classical
     have hc:=List.perm_iff_count.1 k9
     rw [List.perm_iff_count];intro z
     have:=hc z
     simp only [List.count_append,List.count_cons,List.cons_append,List.nil_append] at this ⊢
     omega))
    have fF:bq (fun w=>K0 w∧Holds w I) β u (.tw (some ⟨b0,0,none⟩) ca e k (rows.set i (row.take o++(xs++row.drop (o+xs.length))))) ([(b0,.cells (b5 cs (i*k+o) zs) e (0,0))]++bu rows.length k (dx G i o zs.length Gx)):=by
     have:=bq.tw (K:=fun w=>K0 w∧Holds w I) (u:=u) (T:=e) (k:=k) (rows:=rows.set i (row.take o++(xs++row.drop (o+xs.length)))) (H0:=[(b0,.cells (b5 cs (i*k+o) zs) e (0,0))]) hb (iB X i o zs) (dx G i o zs.length Gx) gu.hl (by
      rw [List.length_set]
      exact ⟨ec fun a ha=>qb (by omega) (hX a ha),Or.inr ⟨_,_,_,rfl,rfl,by rw [kK];exact cC,dq,AP hX hi (by omega) ht bp⟩⟩) gu.hr
     rw [List.length_set] at this;exact this
    have R3:=((R2.drop.perm (Y:=([(b0,.cells (b5 cs (i*k+o) zs) e (0,0))]++bu rows.length k (dx G i o zs.length Gx))++[]) (by rw [List.append_nil])).back (by rw [List.length_set];exact aI) (by simp [aG]) fF).nil rfl
    rw [List.set_set] at R3
    refine ⟨β,_,I,R3,(Ext.refl β).b _,bK.refl _,fun q hq du=>?_,.d (.jk _)⟩
    simp only [List.mem_cons,not_or] at du
    simp only [aG];rw [if_neg du.1,if_neg du.1]
    exact yj q du.2
def vK (T:aJ) (E:List (Nat×AV)) (M:List aj) (oc:Option aR) (t:TypeId) (x:Operand):Option Out:=
 match aE E x with
 | some (.ep u k i o)=>(match oc with
  | some (.ix _ row)=>(match M[u]? with | some (.tw _ _ _ k' rows)=>bif k.beq k'&&row.all DV.cp then (match kD T t (row.map .d) o with | some v=>some ⟨[rows[i]?=some row],v,M,[],[],some [u]⟩ | none=>none) else none | _=>none)
  | _=>none)
 | _=>none
theorem FE (hT:aU P T=true) {t:TypeId} {x:Operand} (h:vK T E M oc t x=some out):aF P ⟨d,.load t x,ty,pos,aft,gd⟩ E M out:=by
 unfold vK at h
 split at h
 ·rename_i u k i o hv
  split at h
  ·rename_i i0 row
   split at h
   rotate_left
   ·simp at h
   rename_i aw cw Tt k' rows hM
   cases hk:(k.beq k'&&row.all DV.cp) with
   | false=>simp [hk] at h
   | true=>
    simp only [hk,cond_true] at h
    simp only [Bool.and_eq_true] at hk
    obtain ⟨hk,qO⟩:=hk
    obtain rfl:=Nat.eq_of_beq_eq_true hk
    split at h
    ·rename_i v jg
     simp only [Option.some.injEq] at h;subst h
     refine aF.look ?_ (by simpa using eT hM)
     intro D w0 K0 β F I ρ w C c6
     obtain ⟨bV,-⟩:=c6
     obtain ⟨y,hy,r⟩:=C.bJ hv
     cases r with
     | ep hb=>
      obtain ⟨H,hF,hB,hH⟩:=C.rm.at hM
      cases hB with
      | tw aN X G hl hs hr=>
       rw [hb] at aN;cases aN
       obtain ⟨xX,xY⟩:=hl i row bV
       obtain ⟨hi,-⟩:=List.getElem?_eq_some_iff.1 bV
       obtain ⟨b',cap,cs,he,rfl,cC,hn,ht⟩:=hs.block (by omega)
       cases he
       have cN:(X i).length=(row.map AV.d).length:=by rw [List.length_map];omega
       obtain ⟨y',h1,h2⟩:=oL hT (a:=⟨_,i*k,none⟩) (R:=au (fun w=>K0 w∧Holds w I) β) (fun l ys=>au.ag ys) jg (hy.trans (by rw [add_eq])) cN (fun j c z h1 h2=>by
        simp only [List.getElem?_map,Option.map_eq_some_iff] at h1
        obtain ⟨c',h1,rfl⟩:=h1
        exact .d ((hr i row j c' z bV h1 h2).cp (List.all_eq_true.1 qO c' (List.mem_of_getElem? h1))))
       refine ⟨y',h1,fun w' xZ=>h2 w' fun j z hj=>?_⟩
       have dt:Holds w' _:=xZ.2 u (by simp)
       rw [hF] at dt
       have hw:=(Holds.app.1 dt).1.one
       obtain ⟨iI,-⟩:=List.getElem?_eq_some_iff.1 hj
       rw [add_eq,cell_of hw,← hj,← jN (fun i hi=>(hl i _ (List.getElem?_eq_getElem hi)).2) hi (by omega),← ht,List.getElem?_take,if_pos,Array.getElem?_toList]
       have:=Nat.mul_le_mul_right k (show i+1≤rows.length from hi);rw [Nat.succ_mul] at this;omega
    ·simp at h
  ·simp at h
 ·simp at h
end Go.Proofs.YtcnpikbbmbombaaDoor
namespace Go.Proofs.YtcnpikbbmbombaaDoor
open Go.RowKit
variable {P:Program} {T:aJ} {E:List (Nat×AV)} {M:List aj} {d:Option Tmp} {ty:TypeId} {pos:String} {aft:Array Edge} {gd:Option (Nat×Bool)} {oc:Option aR} {out:Out}
def cY (P:Program) (t:TypeId):Prop:=P.underlying t=some (.pointer (P.pointee t))
theorem EL {ρ:Operand→Value} {w:World} {Φ:Value→World→Prop} {x:Operand} {t t':TypeId} {o:Option Addr} {c:Bool} (ht:cY P t) (h:ρ x=.pointer o) (hn:ρ (.const (.pointer none))=.pointer none) (hc:(!o.isNone)=c) (aC:Φ (.bool c) w):aT P ⟨d,.binOp .neq t x (.const (.pointer none)) t',ty,pos,aft,gd⟩ ρ w Φ:=by
 subst hc
 exact .pure (v:=.bool !o.isNone) (by simp [execOp,h,hn,eqGuard,binOp,Op.equal,Op.maxDepth,run_equalIn_pointer_nil w 9999 t o ht]) aC
def qF:Option AV→Option Bool
 | some (.pt _ _)=>some false
 | some (.ep _ _ _ _)=>some false
 | some (.rp _ _)=>some false
 | some (.d (.v (.pointer none)))=>some true
 | _=>none
def wM (P:Program) (E:List (Nat×AV)) (M:List aj) (op:BinOp) (t:TypeId) (x y:Operand):Option Out:=
 match op,y,qF (aE E x) with
 | .eql,.const (.pointer none),some c=>some (lk [cY P t] (.b c) M)
 | .neq,.const (.pointer none),some c=>some (lk [cY P t] (.b (!c)) M)
 | _,_,_=>none
theorem AU {K:World→Prop} {β:Beta} {v:Option AV} {a:AV} {c:Bool} {y:Value} (h:qF v=some c) (hv:v=some a) (r:au K β a y):∃ o,y=.pointer o∧o.isNone=c:=by
 subst hv
 unfold qF at h
 split at h
 ·rename_i hx;cases hx;simp only [Option.some.injEq] at h;subst h
  cases r with | pt hb=>exact ⟨_,rfl,rfl⟩
 ·rename_i hx;cases hx;simp only [Option.some.injEq] at h;subst h
  cases r with | ep hb=>exact ⟨_,rfl,rfl⟩
 ·rename_i hx;cases hx;simp only [Option.some.injEq] at h;subst h
  cases r with | rp a X hl hc hr=>exact ⟨_,rfl,rfl⟩
 ·rename_i hx;cases hx;simp only [Option.some.injEq] at h;subst h
  cases r with | d r=>cases r;exact ⟨_,rfl,rfl⟩
 ·simp at h
theorem GR {op:BinOp} {t t':TypeId} {x y:Operand} (h:wM P E M op t x y=some out):aF P ⟨d,.binOp op t x y t',ty,pos,aft,gd⟩ E M out:=by
 unfold wM at h
 split at h
 ·rename_i c hx
  simp only [Option.some.injEq] at h;subst h
  refine jQ (.of fun _=>⟨_,rfl⟩) ?_
  intro D w0 K0 β F I ρ w' C hv
  obtain ⟨hp,-⟩:=hv
  cases nQ:aE E x with
  | none=>rw [nQ] at hx;simp [qF] at hx
  | some a=>
   obtain ⟨o,ho,hc⟩:=AU hx nQ (C.ev nQ)
   exact ⟨_,.d (.v _),fun w Φ aC=>Gm hp ho (C.const _) hc aC⟩
 ·rename_i c hx
  simp only [Option.some.injEq] at h;subst h
  refine jQ (.of fun _=>⟨_,rfl⟩) ?_
  intro D w0 K0 β F I ρ w' C hv
  obtain ⟨hp,-⟩:=hv
  cases nQ:aE E x with
  | none=>rw [nQ] at hx;simp [qF] at hx
  | some a=>
   obtain ⟨o,ho,hc⟩:=AU hx nQ (C.ev nQ)
   exact ⟨_,.d (.v _),fun w Φ aC=>EL hp ho (C.const _) (by rw [hc]) aC⟩
 ·simp at h
def ld (g:Nat):List aj→Option (List DV)
 | []=>none
 | .gw g' row::r=>bif g'.beq g then some row else ld g r
 | _::r=>ld g r
theorem u4 {g:Nat} {row:List DV}:∀ {M:List aj},ld g M=some row→∃ u:Nat,M[u]?=some (aj.gw g row)
 | [],h=>by simp [ld] at h
 | b::r,h=>by
  have next:ld g r=some row→∃ u:Nat,(b::r)[u]?=some (aj.gw g row):=fun h=>by
   obtain ⟨u,hu⟩:=u4 h
   exact ⟨u+1,by simpa using hu⟩
  cases b with
  | gw g' xD=>
   simp only [ld] at h
   cases hc:g'.beq g with
   | true=>
    simp only [hc,cond_true,Option.some.injEq] at h;subst h
    obtain rfl:=Nat.eq_of_beq_eq_true hc
    exact ⟨0,rfl⟩
   | false=>
    simp only [hc,cond_false] at h
    exact next h
  | _=>simp only [ld] at h;exact next h
def u5 (T:aJ) (E:List (Nat×AV)) (M:List aj) (oc:Option aR) (t:TypeId) (x ix:Operand):Option Out:=
 match x,cF (aE E ix),cU T t,oc with
 | .global g,some (_,z),some (.ar n e),some (.ix i [c])=>(match ff T e,ld g M with
  | some k,some row=>bif k.beq 1 then some (lk [z=(i:Int),i<n,row[i]?=some c] (.rp [c] 0) M) else none
  | _,_=>none)
 | _,_,_,_=>none
theorem EM (hT:aU P T=true) {t:TypeId} {x ix:Operand} (h:u5 T E M oc t x ix=some out):aF P ⟨d,.indexAddr t x ix,ty,pos,aft,gd⟩ E M out:=by
 unfold u5 at h
 split at h
 rotate_left
 ·simp at h
 rename_i g kk z n e i c hz ht
 split at h
 rotate_left
 ·simp at h
 rename_i k row hk hg
 cases hc:k.beq 1 with
 | false=>simp [hc] at h
 | true=>
  simp only [hc,cond_true,Option.some.injEq] at h;subst h
  obtain rfl:=Nat.eq_of_beq_eq_true hc
  refine aF.same fun C c6=>?_
  obtain ⟨rfl,hi,bV,-⟩:=c6
  obtain ⟨u,hu⟩:=u4 hg
  obtain ⟨H,-,hB,-⟩:=C.rm.at hu
  cases hB with
  | gw X hl jE hr=>
   have aI:i<X.length:=by have:=(List.getElem?_eq_some_iff.1 bV).1;omega
   have hx:X[i]?=some X[i]:=List.getElem?_eq_getElem aI
   have e0:(⟨g,0,none⟩:Addr).add (((i:Nat):Int).toNat*1)=((⟨g,0,none⟩:Addr).add i).add 0:=by rw [add_zero'];simp
   refine ⟨_,fun _ _=>ob (cI hT ht) (ga hT hk) (C.Cu g) (C.int hz) (by simp) (by simp;omega),?_⟩
   rw [e0]
   refine .rp _ [X[i]] rfl (fun w' dt j y hj=>?_) (fun j c' y h1 h2=>?_)
   ·cases j with
    | zero=>simp at hj;subst hj;rw [add_zero'];exact jE w' dt i _ hx
    | succ j=>simp at hj
   ·cases j with
    | zero=>simp at h1 h2;subst h1;subst h2;exact hr i _ _ bV hx
    | succ j=>simp at h1
section
variable {ρ:Operand→Value} {w:World}
theorem FF {w:World} {b:Nat} {c:Array Value} {e:TypeId} (hb:w.heap[b]?=some (.cells c e (0,0))):w.freeze ⟨b,c.size,none⟩ 1=b7 w b (.cells c e (c.size,c.size+1)):=by
 unfold World.freeze b7
 rw [if_neg (by decide)]
 congr 1
 apply Array.ext_getElem?
 intro j
 have aI:=kj hb
 rw [Array.getElem?_modify,Array.getElem?_setIfInBounds]
 by_cases e':b=j
 ·subst e'
  have hg:w.heap[b]=.cells c e (0,0):=by rw [Array.getElem?_eq_getElem aI] at hb;exact Option.some.inj hb
  simp [aI,hg]
 ·simp [e']
theorem JQ {t t' e:TypeId} {x:Operand} {bs:List UInt8} (ht:P.underlying t=some .string) (nR:P.underlying t'=some (.slice e)) (he:P.underlying e=some (.int .u8)) (hx:ρ x=.string ⟨bs.toArray⟩):
  ∃ (k:Nat) (c:Array Value),bs.length≤k∧c=(bs.map fun b:UInt8=>Value.int .u8 b.toNat).toArray++Array.replicate (k-bs.length) (Value.int .u8 0)∧
   (execOp ρ ⟨d,.convert t t' x,ty,pos,aft,gd⟩).run P w=.ok (.value (.slice (some ⟨w.heap.size,0,none⟩) bs.length k)) (b7 (w.drew.alloc (.cells c e (0,0))) w.heap.size (.cells c e (c.size,c.size+1))):=by
 refine ⟨(Question.appendCap bs.length 0 e).cut (w.tape w.drawn (.appendCap bs.length 0 e)),_,by simp [Question.cut],rfl,?_⟩
 generalize hk:(Question.appendCap bs.length 0 e).cut (w.tape w.drawn (.appendCap bs.length 0 e))=k
 generalize jE:(bs.map fun b:UInt8=>Value.int .u8 b.toNat).toArray++Array.replicate (k-bs.length) (Value.int .u8 0)=c
 have xT:(choose (.appendCap bs.length 0 e)).run P w=.ok k w.drew:=by
  rw [← hk];simp [choose,Sem.run,Question.forced]
 have bV:∀ (cs:Array Value) (w:World),(newRow e cs).run P w=.ok ⟨w.heap.size,0,none⟩ (w.alloc (.cells cs e)):=by
  intro cs w;simp [newRow,newObj,Sem.run]
 have lC:(markStringish ⟨w.heap.size,0,none⟩).run P (w.drew.alloc (.cells c e (0,0)))=.ok () (b7 (w.drew.alloc (.cells c e (0,0))) w.heap.size (.cells c e (c.size,c.size+1))):=by
  have hb:(w.drew.alloc (.cells c e (0,0))).heap[w.heap.size]?=some (.cells c e (0,0)):=zU w.drew _
  have nG:(w.drew.alloc (.cells c e (0,0))).shape? w.heap.size=some (e,c.size):=by unfold World.shape?;rw [hb]
  have:=FF hb
  unfold markStringish
  simp only [Sem.run_bind]
  have h1:(shape w.heap.size).run P (w.drew.alloc (.cells c e (0,0)))=.ok (some (e,c.size)) (w.drew.alloc (.cells c e (0,0))):=by
   simp [shape,Sem.run,nG]
  rw [h1]
  simp only [Result.andThen_ok]
  simp [freeze,Sem.run,this]
 have K6:(Conv.stringToBytes e ⟨bs.toArray⟩).run P w=.ok (.slice (some ⟨w.heap.size,0,none⟩) bs.length k) (b7 (w.drew.alloc (.cells c e (0,0))) w.heap.size (.cells c e (c.size,c.size+1))):=by
  have bp:(⟨bs.toArray⟩:ByteArray).size=bs.length:=by simp [ByteArray.size]
  unfold Conv.stringToBytes
  simp only [bp,Sem.run_bind,xT,Result.andThen_ok,bV,Sem.run_pure]
  have cC:((Array.map (fun b:UInt8=>Value.int .u8 (b.toNat:Int)) bs.toArray)++Array.replicate (k-bs.length) (Value.int .u8 0))=c:=by rw [← jE];simp
  rw [cC]
  have hd:w.drew.heap.size=w.heap.size:=rfl
  rw [hd,lC]
  rfl
 simp only [execOp,hx,convert,Sem.run_bind,run_underlying ht,run_underlying nR,run_underlying he,Result.andThen_ok,K6,Sem.run_pure]
theorem Bn {n:Nat} (f:Nat→Value):lay n (fun i=>[f i])=(List.range n).map f:=by
 unfold lay
 induction n with
 | zero=>rfl
 | succ n ih=>rw [List.range_succ,List.flatMap_append,List.map_append,ih];rfl
end
theorem Bo (w:World) (o:Obj):Gr w (w.drew.alloc o)∧di w (w.drew.alloc o) [(w.heap.size,o)]:=⟨(Gr.drew w).trans (Gr.alloc w.drew o),(di.alloc w.drew o).ahead (Gr.drew w)⟩
def wN (T:aJ) (E:List (Nat×AV)) (M:List aj) (t t':TypeId) (x:Operand):Option Out:=
 match cU T t,cU T t',jx (aE E x) with
 | some .st,some (.sl e),some bs=>(match cU T e with
  | some (.it .u8)=>some ⟨[],.d (.ro 1 (af bs)),M,[],[],none⟩
  | _=>none)
 | _,_,_=>none
theorem GS (hT:aU P T=true) {t t':TypeId} {x:Operand} (h:wN T E M t t' x=some out):aF P ⟨d,.convert t t' x,ty,pos,aft,gd⟩ E M out:=by
 unfold wN at h
 split at h
 rotate_left
 ·cases h
 rename_i e bs ht nR hs
 split at h
 rotate_left
 ·cases h
 rename_i he
 simp only [Option.some.injEq] at h;subst h
 intro D w0 K0 β F I ρ w C _
 have Mr:=C.str (x:=x) (l:=bs) hs
 obtain ⟨k,c,hk,hc,fG⟩:=JQ (d:=d) (ty:=ty) (pos:=pos) (aft:=aft) (gd:=gd) (w:=w) (cI hT ht) (cI hT nR) (cI hT he) Mr
 refine aT.pure fG ?_
 have s1:St D w0 (w.drew.alloc (.cells c e (0,0))) ((w.heap.size,.cells c e (0,0))::((List.range M.length).flatMap F++I)):=C.rm.st.new (Bo w (.cells c e (0,0))).1 (Bo w (.cells c e (0,0))).2
 have s2:=s1.set (.cells c e (c.size,c.size+1))
 have R2:RM D w0 K0 M β F ([(w.heap.size,.cells c e (c.size,c.size+1))]++I) (b7 (w.drew.alloc (.cells c e (0,0))) w.heap.size (.cells c e (c.size,c.size+1))):=by
  refine ⟨C.rm.len,fun v bl hv=>(C.rm.blk v bl hv).mono (fun w hw=>⟨hw.1,(Holds.app.1 hw.2).2⟩) (Ext.refl _),?_⟩
  exact s2.perm (by classical rw [List.perm_iff_count];intro z;simp only [List.count_append,List.count_cons,List.count_nil];omega)
 refine ⟨β,F,_,R2,(Ext.refl β).b _,⟨_,rfl⟩,fun _ _ _=>rfl,?_⟩
 have hlen:(af bs).length=bs.length:=by simp [af]
 refine .d (.ro (fun i=>[Value.int .u8 (bs.getD i 0).toNat]) (fun i r hi=>?_) ⟨_,_,by rw [hlen],by rw [hlen];exact hk⟩ (fun w' dt=>?_) fun i r j cc z h1 h2 h3=>?_)
 ·simp only [af,List.getElem?_map,Option.map_eq_some_iff] at hi
  obtain ⟨b,-,rfl⟩:=hi;exact ⟨rfl,rfl⟩
 ·have aN:w'.heap[w.heap.size]?=some (.cells c e (c.size,c.size+1)):=(Holds.app.1 dt.2).1.one
  rw [hlen,Bn]
  refine ⟨by simp,Or.inr ⟨_,k,rfl,fun j hj=>?_⟩⟩
  rw [add_eq,Nat.zero_add,cell_of aN,hc]
  have iI:j<bs.length:=by simpa using hj
  rw [Array.getElem?_append_left (by simpa using iI)]
  simp [iI,List.getD_eq_getElem?_getD]
 ·simp only [af,List.getElem?_map,Option.map_eq_some_iff] at h1
  obtain ⟨b,hb,rfl⟩:=h1
  cases j with
  | succ j=>simp at h2
  | zero=>
   simp at h2 h3;subst h2;subst h3
   simp only [List.getD_eq_getElem?_getD,hb,Option.getD_some]
   exact .v _
end Go.Proofs.YtcnpikbbmbombaaDoor
namespace Go.Proofs.YtcnpikbbmbombaaDoor
open Go.RowKit
variable {P:Program} {T:aJ} {D:List Nat} {w0:World} {K0:World→Prop} {E:List (Nat×AV)} {M:List aj} {β:Beta} {F:Nat→ak} {I X:ak} {ρ:Operand→Value} {w:World}
variable {d:Option Tmp} {ty:TypeId} {pos:String} {aft:Array Edge} {gd:Option (Nat×Bool)} {oc:Option aR} {out:Out}
def s9 (l:List UInt8):AV:=.d (.v (.string ⟨l.toArray⟩))
theorem AW (l:List UInt8):(⟨l.toArray⟩:ByteArray).size=l.length:=by simp [ByteArray.size]
theorem Iq {op:BinOp} {t t':TypeId} {x y:Operand} {a b:List UInt8} (Nv:op=.add) (hx:ρ x=.string ⟨a.toArray⟩) (hy:ρ y=.string ⟨b.toArray⟩) (hle:a.length+b.length≤9223372036854775807):
  (execOp ρ ⟨d,.binOp op t x y t',ty,pos,aft,gd⟩).run P w=.ok (.value (.string ⟨(a++b).toArray⟩)) w:=by
 subst Nv
 have hn:¬ (((a.length+b.length:Nat):Int)>IntKind.i64.max):=by simp [IntKind.max,IntKind.signed,IntKind.bits];omega
 have lx:(⟨a.toArray⟩:ByteArray)++⟨b.toArray⟩=⟨(a++b).toArray⟩:=by
  apply ByteArray.ext;simp
 simp only [execOp,hx,hy,eqGuard,binOp,Op.stringOp,Sem.run_bind,Sem.run_pure,Result.andThen_ok,AW]
 rw [if_neg hn,lx]
 simp
def xE (E:List (Nat×AV)) (M:List aj) (op:BinOp) (x y:Operand):Option Out:=
 match op,jx (aE E x),jx (aE E y) with
 | .add,some a,some b=>some (lk [a.length+b.length≤9223372036854775807] (s9 (a++b)) M)
 | _,_,_=>none
theorem Ir {op:BinOp} {t t':TypeId} {x y:Operand} (h:xE E M op x y=some out):aF P ⟨d,.binOp op t x y t',ty,pos,aft,gd⟩ E M out:=by
 unfold xE at h
 split at h
 ·rename_i a b ha hb
  simp only [Option.some.injEq] at h;subst h
  exact aF.same fun C hv=>⟨_,fun w' _=>Iq rfl (C.str ha) (C.str hb) hv.1,.d (.v _)⟩
 ·cases h
theorem EN {t:TypeId} {x ix:Operand} {l:List UInt8} {k:IntKind} {i:Nat} {u:UInt8} (ht:P.underlying t=some .string) (hx:ρ x=.string ⟨l.toArray⟩) (hi:ρ ix=.int k (i:Int)) (hu:l[i]?=some u):
  (execOp ρ ⟨d,.index t x ix,ty,pos,aft,gd⟩).run P w=.ok (.value (.int .u8 (u.toNat:Int))) w:=by
 have h4:(⟨l.toArray⟩:ByteArray)[i]?=some u:=by
  obtain ⟨hi,rfl⟩:=List.getElem?_eq_some_iff.1 hu
  exact getElem?_pos (⟨l.toArray⟩:ByteArray) i (by show i<l.toArray.size;simpa using hi)
 simp [execOp,hx,hi,Instr.index,asIntOf,Sem.run_bind,run_underlying ht,h4]
def wO (T:aJ) (E:List (Nat×AV)) (M:List aj) (oc:Option aR) (t:TypeId) (x ix:Operand):Option Out:=
 match cU T t,jx (aE E x),cF (aE E ix),oc with
 | some .st,some l,some (_,z),some (.ix i [c])=>some (lk [z=(i:Int),∃ u:UInt8,l[i]?=some u∧c=.v (.int .u8 (u.toNat:Int))] (.d c) M)
 | _,_,_,_=>none
theorem GU (hT:aU P T=true) {t:TypeId} {x ix:Operand} (h:wO T E M oc t x ix=some out):aF P ⟨d,.index t x ix,ty,pos,aft,gd⟩ E M out:=by
 unfold wO at h
 split at h
 ·rename_i l k z i c hu hx hz
  simp only [Option.some.injEq] at h;subst h
  refine aF.same fun C hv=>?_
  obtain ⟨rfl,⟨u,h1,rfl⟩,-⟩:=hv
  exact ⟨_,fun w' _=>EN (cI hT hu) (C.str hx) (C.int hz) h1,.d (.v _)⟩
 ·cases h
theorem Mt (l:List UInt8) (o c:Nat):(⟨l.toArray⟩:ByteArray).extract o c=⟨((l.take c).drop o).toArray⟩:=by
 apply ByteArray.ext
 rw [ByteArray.data_extract]
 apply Array.toList_inj.1
 simp [Array.toList_extract,List.extract_eq_take_drop,List.drop_take]
theorem uE {t:TypeId} {x:Operand} {lo hi:Option Operand} {l:List UInt8} {o c:Nat} (ht:P.underlying t=some .string) (hx:ρ x=.string ⟨l.toArray⟩)
  (hb:(Instr.sliceBounds false l.length l.length (lo.map ρ) (hi.map ρ) none).run P w=.ok (o,c,l.length) w):
  (execOp ρ ⟨d,.slice t x lo hi none,ty,pos,aft,gd⟩).run P w=.ok (.value (.string ⟨((l.take c).drop o).toArray⟩)) w:=by
 simp only [execOp,hx,Option.map_none,Instr.sliceAt,Instr.slice,Sem.run_bind,run_underlying ht,Result.andThen_ok,Option.isSome_none,Bool.false_eq_true,if_false,AW,hb,Sem.run_pure,Mt]
def xF (T:aJ) (E:List (Nat×AV)) (M:List aj) (oc:Option aR) (t:TypeId) (x:Operand) (lo hi mx:Option Operand):Option Out:=
 match cU T t,jx (aE E x),oc,mx with
 | some .st,some l,some (.n2 c o),none=>(match lo,hi with
  | none,some h=>(match cF (aE E h) with
   | some (.i64,z)=>some (lk [z=(c:Int),c≤l.length] (s9 (l.take c)) M)
   | _=>none)
  | some lo,none=>(match cF (aE E lo) with
   | some (.i64,z)=>some (lk [z=(o:Int),o≤l.length] (s9 (l.drop o)) M)
   | _=>none)
  | some lo,some h=>(match cF (aE E lo),cF (aE E h) with
   | some (.i64,z),some (.i64,z')=>some (lk [z=(o:Int),z'=(c:Int),o≤c,c≤l.length] (s9 ((l.take c).drop o)) M)
   | _,_=>none)
  | _,_=>none)
 | _,_,_,_=>none
theorem Is (hT:aU P T=true) {t:TypeId} {x:Operand} {lo hi mx:Option Operand} (h:xF T E M oc t x lo hi mx=some out):aF P ⟨d,.slice t x lo hi mx,ty,pos,aft,gd⟩ E M out:=by
 unfold xF at h
 split at h
 rotate_left
 ·cases h
 rename_i l c o hu hx
 replace hu:=cI hT hu
 split at h
 ·rename_i hh
  split at h
  rotate_left
  ·cases h
  rename_i z hz
  simp only [Option.some.injEq] at h;subst h
  refine aF.same ?_
  intro D w0 K0 β F I ρ w C hv
  obtain ⟨rfl,hc,-⟩:=hv
  refine ⟨.string ⟨(l.take c).toArray⟩,fun w' _=>?_,.d (.v _)⟩
  have:=uE (P:=P) (ρ:=ρ) (w:=w') (d:=d) (ty:=ty) (pos:=pos) (aft:=aft) (gd:=gd) (lo:=none) (hi:=some hh) (o:=0) (c:=c) hu (C.str hx) (by simp [Instr.sliceBounds,C.int hz,iq hc])
  simpa using this
 ·rename_i ll
  split at h
  rotate_left
  ·cases h
  rename_i z hz
  simp only [Option.some.injEq] at h;subst h
  refine aF.same ?_
  intro D w0 K0 β F I ρ w C hv
  obtain ⟨rfl,ho,-⟩:=hv
  refine ⟨.string ⟨(l.drop o).toArray⟩,fun w' _=>?_,.d (.v _)⟩
  have:=uE (P:=P) (ρ:=ρ) (w:=w') (d:=d) (ty:=ty) (pos:=pos) (aft:=aft) (gd:=gd) (lo:=some ll) (hi:=none) (o:=o) (c:=l.length) hu (C.str hx) (by simp [Instr.sliceBounds,C.int hz,iq ho])
  simpa using this
 ·rename_i ll hh
  split at h
  rotate_left
  ·cases h
  rename_i z z' hz jh
  simp only [Option.some.injEq] at h;subst h
  refine aF.same fun C hv=>?_
  obtain ⟨rfl,rfl,ho,hc,-⟩:=hv
  refine ⟨.string ⟨((l.take c).drop o).toArray⟩,fun w' _=>?_,.d (.v _)⟩
  exact uE hu (C.str hx) (by simp [Instr.sliceBounds,C.int hz,C.int jh,iq hc,iq ho])
 ·cases h
def wP (T:aJ) (E:List (Nat×AV)) (M:List aj) (oc:Option aR) (t:TypeId) (x ix:Operand):Option Out:=
 match x,cF (aE E ix),cU T t,oc with
 | .global g,some (_,z),some (.ar n e),some (.ix i row)=>(match ff T e,ld g M with
  | some k,some qG=>some (lk [z=(i:Int),i<n,(qG.drop (i*k)).take k=row] (.rp row 0) M)
  | _,_=>none)
 | _,_,_,_=>none
theorem GV (hT:aU P T=true) {t:TypeId} {x ix:Operand} (h:wP T E M oc t x ix=some out):aF P ⟨d,.indexAddr t x ix,ty,pos,aft,gd⟩ E M out:=by
 unfold wP at h
 split at h
 rotate_left
 ·cases h
 rename_i g kk z n e i row hz ht
 split at h
 rotate_left
 ·cases h
 rename_i k qG hk hg
 simp only [Option.some.injEq] at h;subst h
 refine aF.same fun C c6=>?_
 obtain ⟨rfl,hi,rfl,-⟩:=c6
 obtain ⟨u,hu⟩:=u4 hg
 obtain ⟨H,-,hB,-⟩:=C.rm.at hu
 cases hB with
 | gw X hl jE hr=>
  have e0:(⟨g,0,none⟩:Addr).add (((i:Nat):Int).toNat*k)=((⟨g,0,none⟩:Addr).add (i*k)).add 0:=by rw [add_zero'];simp
  refine ⟨_,fun _ _=>ob (cI hT ht) (ga hT hk) (C.Cu g) (C.int hz) (by simp) (by simp;omega),?_⟩
  rw [e0]
  refine .rp _ ((X.drop (i*k)).take k) (by simp [hl]) (fun w' dt j y hj=>?_) (fun j c' y h1 h2=>?_)
  ·rw [List.getElem?_take] at hj
   split at hj
   ·rw [List.getElem?_drop] at hj
    rw [Addr.mV];exact jE w' dt _ y hj
   ·cases hj
  ·rw [List.getElem?_take] at h1 h2
   split at h1
   ·rename_i hj
    rw [if_pos hj] at h2
    rw [List.getElem?_drop] at h1 h2
    exact hr _ _ _ h1 h2
   ·cases h1
theorem AX (K:World→Prop) (bs:List UInt8):de K 1 (af bs) (fun i=>[Value.int .u8 (bs.getD i 0).toNat]) (fun _ _=>[]):=by
 refine ⟨fun i r hi=>?_,fun i r j cc z h1 h2 h3=>?_⟩
 ·simp only [af,List.getElem?_map,Option.map_eq_some_iff] at hi
  obtain ⟨b,-,rfl⟩:=hi;exact ⟨rfl,rfl⟩
 ·simp only [af,List.getElem?_map,Option.map_eq_some_iff] at h1
  obtain ⟨b,hb,rfl⟩:=h1
  cases j with
  | succ j=>simp at h2
  | zero=>
   simp at h2 h3;subst h2;subst h3
   simp only [List.getD_eq_getElem?_getD,hb,Option.getD_some]
   exact .v _
theorem Ad (bs:List UInt8):lay bs.length (fun i=>[Value.int .u8 (bs.getD i 0).toNat])=bs.map fun b:UInt8=>Value.int .u8 (b.toNat:Int):=by
 rw [Bn]
 apply List.ext_getElem
 ·simp
 ·intro i h1 h2
  simp only [List.length_map,List.length_range] at h1
  simp [List.getD_eq_getElem?_getD,List.getElem?_eq_getElem h1]
theorem Ae (bs:List UInt8):bc (af bs):=by simp [bc,AV.one,bU,af]
def wQ (T:aJ) (E:List (Nat×AV)) (M:List aj) (st xt:TypeId) (x y:Operand):Option Out:=
 match iL T st,cU T xt,jx (aE E y),aE E x with
 | some (e,k,b,_),some .st,some bs,some vx=>bif k.beq 1 then (match o4 M e k vx with
  | some (some u,n,rows)=>some ⟨[n=rows.length,(2*(n+bs.length)+192)*b≤281474976710656,n+bs.length<4611686018427387904],.sl u (n+bs.length),(M.map (gi [u])).set u (.rw e k (rows++af bs)),[u],[u],none⟩
  | some (none,_,_)=>some ⟨[(2*(0+bs.length)+192)*b≤281474976710656,0+bs.length<4611686018427387904],.sl M.length bs.length,M++[.rw e k (af bs)],[],[],none⟩
  | none=>none) else none
 | _,_,_,_=>none
theorem GW (hT:aU P T=true) {st xt:TypeId} {x y:Operand} (h:wQ T E M st xt x y=some out):aF P ⟨d,.call ⟨.builtin .append,#[x,y],#[st,xt]⟩,ty,pos,aft,gd⟩ E M out:=by
 unfold wQ at h
 split at h
 rotate_left
 ·cases h
 rename_i e k b z bs vx he hu hs hx
 cases j7:k.beq 1 with
 | false=>simp [j7] at h
 | true=>
  simp only [j7,cond_true] at h
  obtain rfl:=Nat.eq_of_beq_eq_true j7
  have Dh:(af bs).length=bs.length:=by simp [af]
  split at h
  ·rename_i u n rows hd
   simp only [Option.some.injEq] at h;subst h
   obtain ⟨rfl,hM⟩:=ud hd
   intro D w0 K0 β F I ρ w C hv
   obtain ⟨hn,h1,h2,-⟩:=hv
   obtain ⟨X1,G1,H0,hF,dN,a1,-⟩:=lU C.rm hM hn (C.ev hx)
   have R1:=C.rm.x.eZ hM
   rw [hF,List.nil_append] at R1
   have aI:u<(M.set u .dead).length:=by rw [List.length_set];exact eT hM
   have fQ:km P xt w 1 (ρ y) bs.length (lay bs.length fun i=>[Value.int .u8 (bs.getD i 0).toNat]):=by
    rw [Ad,C.str hs];exact km.str (cI hT hu)
   refine (uS hT he rfl rfl (R1.perm (Y:=(H0++bu n 1 G1)++[]) (by rw [List.append_nil])) aI (by simp [aG]) dN hn Dh.symm a1 rfl (AX _ bs) (by rw [kN]) fQ h1 h2 (Ae bs)).mono ?_
   rintro v' w' ⟨ax,F',R',hE,jF,hr⟩
   rw [tN] at R'
   exact ⟨ax,F',I,R',hE,bK.refl _,fun q _ hq=>by have po:q≠u:=(by simpa using hq);rw [jF q po];simp only [aG];rw [if_neg po],hr⟩
  ·rename_i n0 r0 hd
   simp only [Option.some.injEq] at h;subst h
   obtain rfl:=uf hd
   intro D w0 K0 β F I ρ w C hv
   obtain ⟨h1,h2,-⟩:=hv
   have lz:ρ x=.slice none 0 0:=by have:=C.ev hx;generalize ρ x=q at this;cases this with | d r=>cases r;rfl
   have fQ:km P xt w 1 (ρ y) bs.length (lay bs.length fun i=>[Value.int .u8 (bs.getD i 0).toNat]):=by
    rw [Ad,C.str hs];exact km.str (cI hT hu)
   refine (uT hT he lz rfl C.rm.x Dh.symm (AX _ bs) (by rw [kN]) fQ h1 h2 (Ae bs)).mono ?_
   rintro v' w' ⟨ax,F',R',hE,jF,hr⟩
   exact ⟨ax,F',I,R',hE.b _,bK.refl _,fun q hq _=>jF q hq,hr⟩
  ·cases h
def vL (E:List (Nat×AV)) (M:List aj) (r:Value) (c x y:Operand):Option Out:=
 match aE E c,aE E x,aE E y with
 | some (.d (.v vc)),some (.d (.v vx)),some (.d (.v vy))=>some (lk [∃ b:Bool,vc=.bool b∧(bif b then vx else vy)=r] (.d (.v r)) M)
 | _,_,_=>none
theorem Ctx.val (C:Ctx D w0 K0 E M β F I ρ w) {x:Operand} {v:Value} (h:aE E x=some (.d (.v v))):ρ x=v:=by
 obtain ⟨y,hy,r⟩:=C.bJ h
 cases r with | d r=>cases r;exact hy
theorem FG {r:Value} {c x y:Operand} (h:vL E M r c x y=some out):aF P ⟨d,.pick c x y,ty,pos,aft,gd⟩ E M out:=by
 unfold vL at h
 split at h
 ·rename_i vc vx vy hc hx hy
  simp only [Option.some.injEq] at h;subst h
  refine jQ rR fun C c6=>?_
  obtain ⟨⟨b,rfl,rfl⟩,-⟩:=c6
  refine ⟨_,.d (.v _),fun w Φ aC=>JD (C.val hc) (C.val hx) (C.val hy) ?_⟩
  cases b<;>exact aC
 ·cases h
def mn (P:Program) (t t':TypeId):Bool:=match P.underlying t,P.underlying t' with
 | some (.pointer s),some .unsafePointer=>(match P.info? s with | some j=>!(j.size==0) | none=>false)
 | _,_=>false
def mq (P:Program) (t t' T n:Nat):Bool:=match P.underlying t,P.underlying t' with
 | some .unsafePointer,some (.pointer u)=>(P.info? u).isSome&&liesAt P P.depth T (n / P.cellsOf T) 0 u 1
 | _,_=>false
def vM (P:Program) (E:List (Nat×AV)) (M:List aj) (oc:Option aR) (t t':TypeId) (x:Operand):Option Out:=
 match aE E x,oc with
 | some (.pt u 0),some (.b c)=>(match M[u]? with
  | some (.bx Tb cells)=>some ⟨[(bif c then mn P t t' else mq P t t' Tb cells.length)=true,0<cells.length],.pt u 0,M,[],[],some [u]⟩
  | _=>none)
 | _,_=>none
theorem Af {w:World} {b:Nat} {c:Array Value} {t:TypeId} {fr:Nat×Nat} (h:w.heap[b]?=some (.cells c t fr)):w.shape? b=some (t,c.size):=by
 unfold World.shape?;rw [h]
theorem FH {t t':TypeId} {x:Operand} (h:vM P E M oc t t' x=some out):aF P ⟨d,.convert t t' x,ty,pos,aft,gd⟩ E M out:=by
 unfold vM at h
 split at h
 rotate_left
 ·cases h
 rename_i u c hx
 split at h
 rotate_left
 ·cases h
 rename_i Tb cells hM
 simp only [Option.some.injEq] at h;subst h
 refine aF.look ?_ (by simpa using eT hM)
 intro D w0 K0 β F I ρ w C hv
 obtain ⟨hc,h0,-⟩:=hv
 obtain ⟨y,hy,r⟩:=C.bJ hx
 cases r with
 | @pt _ _ b cc hb=>
  refine ⟨_,.pt hb,fun w' hs=>?_⟩
  obtain ⟨H,hF,hB,-⟩:=C.rm.at hM
  have hH:Holds w' (F u):=hs.2 u (by simp)
  rw [hF] at hH
  cases hB with
  | bx aN ys hl hr=>
   rw [hb] at aN;cases aN
   have nG:=Af hH.one
   have bp:ys.toArray.size=cells.length:=by simp [hl]
   rw [bp] at nG
   have key:(convert t t' (.pointer (some ⟨b,0,none⟩))).run P w'=.ok (.pointer (some ⟨b,0,none⟩)) w':=by
    cases c with
    | true=>
     simp only [cond_true] at hc
     unfold mn at hc
     split at hc
     ·rename_i s h1 h2
      split at hc
      ·rename_i j hj
       exact Go.Lib.run_to_unsafe w' ⟨b,0,none⟩ h1 h2 hj (by simpa using hc) nG h0
      ·cases hc
     ·cases hc
    | false=>
     simp only [cond_false] at hc
     unfold mq at hc
     split at hc
     ·rename_i s h1 h2
      rw [Bool.and_eq_true] at hc
      obtain ⟨j,hj⟩:=Option.isSome_iff_exists.1 hc.1
      exact Go.Lib.run_from_unsafe w' ⟨b,0,none⟩ h1 h2 hj nG hc.2
     ·cases hc
   simp only [execOp,hy,Sem.run_bind,key,Result.andThen_ok,Sem.run_pure]
def je (P:Program) (t:TypeId):Bool:=match P.underlying t with | some (.pointer te)=>(P.info? te).isSome | _=>false
def xG (P:Program) (E:List (Nat×AV)) (M:List aj) (op:BinOp) (t:TypeId) (x y:Operand):Option Out:=
 match op,aE E x,aE E y with
 | .eql,some (.pt u o),some (.pt v q)=>bif Nat.beq u v&&Nat.beq o q then some (lk [je P t=true] (.b true) M) else none
 | .neq,some (.pt u o),some (.pt v q)=>bif Nat.beq u v&&Nat.beq o q then some (lk [je P t=true] (.b false) M) else none
 | _,_,_=>none
theorem AY {t:TypeId} (h:je P t=true):∃ te j,P.underlying t=some (.pointer te)∧P.info? te=some j:=by
 unfold je at h
 split at h
 ·rename_i te h1
  obtain ⟨j,hj⟩:=Option.isSome_iff_exists.1 h
  exact ⟨te,j,h1,hj⟩
 ·cases h
theorem It {op:BinOp} {t t':TypeId} {x y:Operand} (h:xG P E M op t x y=some out):aF P ⟨d,.binOp op t x y t',ty,pos,aft,gd⟩ E M out:=by
 unfold xG at h
 split at h
 ·rename_i u o v q hx hy
  cases hc:(Nat.beq u v&&Nat.beq o q) with
  | false=>simp [hc] at h
  | true=>
   simp only [hc,cond_true,Option.some.injEq] at h;subst h
   rw [Bool.and_eq_true] at hc
   obtain rfl:=Nat.eq_of_beq_eq_true hc.1
   obtain rfl:=Nat.eq_of_beq_eq_true hc.2
   refine aF.same fun C hv=>?_
   obtain ⟨te,j,h1,h2⟩:=AY hv.1
   obtain ⟨y1,e1,r1⟩:=C.bJ hx
   obtain ⟨y2,e2,r2⟩:=C.bJ hy
   cases r1 with
   | pt hb=>
    cases r2 with
    | pt hC=>
     rw [hb] at hC;cases hC
     refine ⟨_,fun w' _=>?_,.d (.v _)⟩
     simp only [execOp,e1,e2,eqGuard,Sem.run_bind,Sem.run_pure,Result.andThen_ok,run_eql_ptr_same w' _ h1 h2,Bool.not_true,Bool.false_eq_true,if_false]
 ·rename_i u o v q hx hy
  cases hc:(Nat.beq u v&&Nat.beq o q) with
  | false=>simp [hc] at h
  | true=>
   simp only [hc,cond_true,Option.some.injEq] at h;subst h
   rw [Bool.and_eq_true] at hc
   obtain rfl:=Nat.eq_of_beq_eq_true hc.1
   obtain rfl:=Nat.eq_of_beq_eq_true hc.2
   refine aF.same fun C hv=>?_
   obtain ⟨te,j,h1,h2⟩:=AY hv.1
   obtain ⟨y1,e1,r1⟩:=C.bJ hx
   obtain ⟨y2,e2,r2⟩:=C.bJ hy
   cases r1 with
   | pt hb=>
    cases r2 with
    | pt hC=>
     rw [hb] at hC;cases hC
     refine ⟨_,fun w' _=>?_,.d (.v _)⟩
     simp only [execOp,e1,e2,eqGuard,Sem.run_bind,Sem.run_pure,Result.andThen_ok,Go.Lib.run_neq_ptr_same w' _ h1 h2,Bool.not_true,Bool.false_eq_true,if_false]
 ·cases h
def qt (P:Program) (f:FuncId):Prop:=∃ fn,P.funcs[f]?=some fn∧(fn.name == "runtime.NumGoroutine")=false∧fn.body.isNone=true∧Extern.findNext fn=none∧Extern.find fn=some Extern.AbiNoEscape.same
def vN (P:Program) (E:List (Nat×AV)) (M:List aj) (g:Operand) (args:Array Operand):Option Out:=
 match aE E g,args with
 | some (.fn f []),⟨[x]⟩=>(match aE E x with | some (.pt u o)=>some (lk [qt P f] (.pt u o) M) | _=>none)
 | _,_=>none
theorem FI {g:Operand} {args:Array Operand} {eJ:Array TypeId} (h:vN P E M g args=some out):aF P ⟨d,.call ⟨.value g,args,eJ⟩,ty,pos,aft,gd⟩ E M out:=by
 unfold vN at h
 split at h
 ·rename_i f x hg
  split at h
  ·rename_i u o hx
   simp only [Option.some.injEq] at h;subst h
   refine aF.same fun C hv=>?_
   obtain ⟨⟨fn,h1,h2,h3,h4,h5⟩,-⟩:=hv
   obtain ⟨yg,eg,rg⟩:=C.bJ hg
   obtain ⟨yx,ex,rx⟩:=C.bJ hx
   refine ⟨yx,fun w' _=>?_,rx⟩
   cases rg with
   | fn cs hl hr=>
    have cC:cs=[]:=List.eq_nil_of_length_eq_zero (by simpa using hl)
    subst cC
    have:=run_callFunc_extern h1 h2 h3 h4 h5 #[yx] w'
    simp only [Go.Lib.run_noEscape,Result.andThen_ok] at this
    simp [execOp,resolve,eg,ex,Deferred.ofValue,invoke,this]
  ·cases h
 ·cases h
def vO (E:List (Nat×AV)) (M:List aj) (x:Operand):Option Out:=
 match aE E x with
 | some (.sl u n)=>(match M[u]? with | some (.rw _ k rows)=>bif k.beq 1 then some ⟨[n=rows.length,0<n],.ep u 1 0 0,M,[],[],some [u]⟩ else none | _=>none)
 | _=>none
theorem FJ {t:TypeId} {x:Operand} (h:vO E M x=some out):aF P ⟨d,.call ⟨.builtin .unsafeSliceData,#[x],#[t]⟩,ty,pos,aft,gd⟩ E M out:=by
 unfold vO at h
 split at h
 rotate_left
 ·cases h
 rename_i u n hx
 split at h
 rotate_left
 ·cases h
 rename_i Tr k rows hM
 cases j7:k.beq 1 with
 | false=>simp [j7] at h
 | true=>
  simp only [j7,cond_true,Option.some.injEq] at h;subst h
  obtain rfl:=Nat.eq_of_beq_eq_true j7
  refine aF.look ?_ (by simpa using eT hM)
  intro D w0 K0 β F I ρ w C hv
  obtain ⟨hn,h0,-⟩:=hv
  obtain ⟨y,hy,r⟩:=C.bJ hx
  cases r with
  | @sl _ _ cc a hb=>
   obtain ⟨H,hF,hB,-⟩:=C.rm.at hM
   cases hB with
   | rw aN X G hl hs hr=>
    rw [hb] at aN;cases aN
    obtain ⟨b',cap,cs,he,rfl,cC,dq,lB⟩:=hs.block (by omega)
    simp only [Value.slice.injEq] at he;obtain ⟨rfl,-,rfl⟩:=he
    refine ⟨.pointer (some ⟨b',0,none⟩),by simpa using au.ep (k:=1) (i:=0) (o:=0) hb,fun w' _=>?_⟩
    have:=Go.Lib.run_unsafeSliceData_row (P:=P) w' #[t] ty ⟨b',0,none⟩ n cc (by omega)
    simp only [execOp,resolve,List.map_toArray,List.map,hy,Sem.run_bind,Sem.run_pure,Result.andThen_ok,invoke,builtin,this]
theorem Iu {w:World} {b n:Nat} {c:Array Value} {e:TypeId} (hb:w.heap[b]?=some (.cells c e (0,0))) (hn:n≠0):w.freeze ⟨b,0,none⟩ n=b7 w b (.cells c e (0,n)):=by
 unfold World.freeze b7
 rw [if_neg hn]
 congr 1
 apply Array.ext_getElem?
 intro j
 have aI:=kj hb
 rw [Array.getElem?_modify,Array.getElem?_setIfInBounds]
 by_cases e':b=j
 ·subst e'
  have hg:w.heap[b]=.cells c e (0,0):=by rw [Array.getElem?_eq_getElem aI] at hb;exact Option.some.inj hb
  simp [aI,hg]
 ·simp [e']
def qH (P:Program) (t T:TypeId):Bool:=match P.underlying t with | some (.pointer e)=>Nat.beq e T&&Nat.beq (P.cellsOf e) 1 | _=>false
def wR (P:Program) (E:List (Nat×AV)) (M:List aj) (oc:Option aR) (t:TypeId) (x y:Operand):Option Out:=
 match aE E x,cF (aE E y),oc with
 | some (.ep u 1 0 0),some (.i64,z),some (.res (.v (.string s)))=>(match M[u]? with
  | some (.rw Tr k rows)=>bif k.beq 1 then some ⟨[z=(rows.length:Int),0<rows.length,rows=af s.data.toList,qH P t Tr=true,rows.length≤9223372036854775807],.d (.v (.string s)),M.set u .dead,[u],[],none⟩ else none
  | _=>none)
 | _,_,_=>none
theorem GX {t t2:TypeId} {x y:Operand} (h:wR P E M oc t x y=some out):aF P ⟨d,.call ⟨.builtin .unsafeString,#[x,y],#[t,t2]⟩,ty,pos,aft,gd⟩ E M out:=by
 unfold wR at h
 split at h
 rotate_left
 ·cases h
 rename_i u z s hx hz
 split at h
 rotate_left
 ·cases h
 rename_i Tr k rows hM
 cases j7:k.beq 1 with
 | false=>simp [j7] at h
 | true=>
  simp only [j7,cond_true,Option.some.injEq] at h;subst h
  obtain rfl:=Nat.eq_of_beq_eq_true j7
  intro D w0 K0 β F I ρ w C hv
  obtain ⟨rfl,h0,yt,mM,OW,-⟩:=hv
  generalize hl:s.data.toList=bs at yt
  have hs:s=⟨bs.toArray⟩:=by rw [← hl]
  subst hs
  have hlen:rows.length=bs.length:=by rw [yt];simp [af]
  obtain ⟨yx,ex,rx⟩:=C.bJ hx
  have Di:=C.int hz
  cases rx with
  | @ep _ _ _ _ b cc hb=>
   have R1:=C.rm.x.eZ hM
   have hB:=C.rm.blk u _ hM
   have hH:=C.rm.iu hM
   generalize ji:F u=Fu at hB R1 hH
   cases hB with
   | @rw _ _ _ _ _ H0 aN X G cN Nw hr=>
    rw [hb] at aN;cases aN
    obtain ⟨b',cap,cs,he,rfl,cC,dq,lB⟩:=Nw.block (by omega)
    simp only [Value.slice.injEq,Option.some.injEq,Addr.mk.injEq] at he;obtain ⟨⟨rfl,-⟩,-,rfl⟩:=he
    have hw:w.heap[b]?=some (.cells cs Tr (0,0)):=(Holds.app.1 hH).1.one
    have fG:(Builtin.unsafeString_ #[t,t2] ty #[.pointer (some ⟨b,0,none⟩),.int .i64 bs.length]).run P w=.ok (.string ⟨bs.toArray⟩) (w.freeze ⟨b,0,none⟩ bs.length):=by
     unfold qH at mM
     split at mM
     ·rename_i e he
      rw [Bool.and_eq_true] at mM
      obtain rfl:=Nat.eq_of_beq_eq_true mM.1
      refine Go.Lib.run_unsafeString_row w t t2 ty e he (Nat.eq_of_beq_eq_true mM.2) b cs.size (Af hw) bs (by intro hn;rw [hn,List.length_nil] at hlen;omega) (by rw [cC,← hlen];omega) (by omega) fun j q hj=>?_
      rw [add_eq,Nat.zero_add,cell_of hw]
      have tE:=(List.getElem?_eq_some_iff.1 hj).1
      have e1:(cs.toList.take (rows.length*1))[j]?=cs[j]?:=by rw [List.getElem?_take,if_pos (by omega),Array.getElem?_toList]
      rw [← e1,lB]
      have bV:(af bs)[j]?=some [.v (.int .u8 (q.toNat:Int))]:=by simp [af,hj]
      rw [← yt] at bV
      obtain ⟨xX,xY⟩:=cN j _ bV
      have hg:=jN (n:=rows.length) (k:=1) (X:=X) (fun i hi=>(cN i _ (List.getElem?_eq_getElem hi)).2) (i:=j) (j:=0) (by omega) (by omega)
      rw [Nat.mul_one,Nat.add_zero] at hg
      obtain ⟨v0,ao⟩:∃ v0,(X j)[0]?=some v0:=⟨(X j)[0]'(by omega),List.getElem?_eq_getElem _⟩
      have hd:=hr j _ 0 _ _ bV rfl ao
      generalize G j 0=GG at hd
      cases hd
      rw [hg,ao]
     ·cases mM
    rw [Iu hw (by omega)] at fG
    have hex:(execOp ρ ⟨d,.call ⟨.builtin .unsafeString,#[x,y],#[t,t2]⟩,ty,pos,aft,gd⟩).run P w=.ok (.value (.string ⟨bs.toArray⟩)) (b7 w b (.cells cs Tr (0,bs.length))):=by
     rw [hlen] at Di
     simp only [execOp,resolve,List.map_toArray,List.map,ex,Di,Nat.zero_mul,Nat.zero_add,Sem.run_bind,Sem.run_pure,Result.andThen_ok,invoke,builtin,fG]
    refine aT.pure hex ?_
    have R2:=(R1.perm (Y:=[(b,.cells cs Tr (0,0))]++bu rows.length 1 G) (by rw [List.nil_append])).drop
    have bj:=(R2.st.perm (K:=(b,.cells cs Tr (0,0))::((List.range (M.set u .dead).length).flatMap (aG F u [])++I)) (by classical rw [List.perm_iff_count];intro z;simp only [List.count_append,List.count_cons,List.count_nil];omega)).set (.cells cs Tr (0,bs.length))
    refine ⟨β,aG F u [],[(b,.cells cs Tr (0,bs.length))]++I,⟨R2.len,fun v bl hv=>(R2.blk v bl hv).mono (fun w hw=>⟨hw.1,(Holds.app.1 hw.2).2⟩) (Ext.refl _),?_⟩,(Ext.refl β).b _,⟨_,rfl⟩,fun v hv hn=>by simp only [aG];rw [if_neg (by simpa using hn)],.d (.v _)⟩
    exact bj.perm (by classical rw [List.perm_iff_count];intro z;simp only [List.count_append,List.count_cons,List.count_nil];omega)
end Go.Proofs.YtcnpikbbmbombaaDoor
namespace Go.Proofs.YtcnpikbbmbombaaDoor
open Go.RowKit
variable {P:Program} {T:aJ} {D:List Nat} {w0:World} {K0:World→Prop} {E:List (Nat×AV)} {M:List aj} {β:Beta} {F:Nat→ak} {I X:ak} {ρ:Operand→Value} {w:World}
variable {d:Option Tmp} {ty:TypeId} {pos:String} {aft:Array Edge} {gd:Option (Nat×Bool)} {oc:Option aR} {out:Out}
def wS (T:aJ) (E:List (Nat×AV)) (M:List aj) (t:TypeId) (x:Operand):Option Out:=
 match cU T t,aE E x with
 | some (.sl _),some (.d (.v (.slice none 0 0)))=>some (lk [] (.n 0) M)
 | _,_=>none
theorem GY {x:Operand} {t e n c:Nat} {a:Option Addr} (ht:P.underlying t=some (.slice e)) (hx:ρ x=.slice a n c) (w:World):(execOp ρ ⟨d,.call ⟨.builtin .cap,#[x],#[t]⟩,ty,pos,aft,gd⟩).run P w=.ok (.value (.int .i64 (c:Int))) w:=by
 have:(Builtin.cap_ #[t] ty #[.slice a n c]).run P w=.ok (.int .i64 (c:Int)) w:=by
  unfold Builtin.cap_
  simp only [List.getElem?_toArray,List.getElem?_cons_zero,Sem.run_bind,run_underlying ht,Result.andThen_ok,Sem.run_pure];rfl
 simp only [execOp,resolve,List.map_toArray,List.map,hx,Sem.run_bind,Sem.run_pure,Result.andThen_ok,invoke,builtin,this]
theorem GZ (hT:aU P T=true) {t:TypeId} {x:Operand} (h:wS T E M t x=some out):aF P ⟨d,.call ⟨.builtin .cap,#[x],#[t]⟩,ty,pos,aft,gd⟩ E M out:=by
 unfold wS at h
 split at h
 ·rename_i e ht hx
  simp only [Option.some.injEq] at h;subst h
  have nR:=cI hT ht
  refine aF.same fun C c6=>?_
  obtain ⟨y,hy,r⟩:=C.bJ hx
  cases r with
  | d hd=>cases hd;exact ⟨_,fun w' _=>GY nR hy w',.d (.v _)⟩
 ·cases h
def ta (P:Program) (f e:Nat):Prop:=∃ fn t,P.funcs[f]?=some fn∧(fn.name == "runtime.NumGoroutine")=false∧fn.body.isNone=true∧Extern.findNext fn=none∧Extern.find fn=some (Extern.BytealgMakeNoZero.makeNoZero fn.params fn.resultTypes)∧fn.resultTypes=#[t]∧P.underlying t=some (.slice e)
def wT (P:Program) (E:List (Nat×AV)) (M:List aj) (oc:Option aR) (g:Operand) (args:Array Operand):Option Out:=
 match aE E g,args,oc with
 | some (.fn f []),⟨[x]⟩,some (.n2 m e)=>(match cF (aE E x) with
  | some (.i64,z)=>some ⟨[ta P f e,z=(m:Int),m≤281474976710656],.sl M.length m,M++[.rw e 1 (List.replicate m [.jk])],[],[],none⟩
  | _=>none)
 | _,_,_=>none
theorem G3 {f e m:Nat} (h:ta P f e) (hm:m≤281474976710656) (w:World):∃ (c:Nat) (cs:Array Value),m≤c∧cs.size=c∧(callFunc f #[.int .i64 (m:Int)]).run P w=.ok (.value (.slice (some ⟨w.heap.size,0,none⟩) m c)) (w.drew.drew.alloc (.cells cs e (0,0))):=by
 obtain ⟨fn,t,h1,h2,h3,h4,h5,h6,h7⟩:=h
 obtain ⟨cs,hr,hc,-⟩:=Go.Lib.run_makeNoZero (P:=P) (w:=w) fn.params t e h7 m hm
 refine ⟨cs.size,cs,hc,rfl,?_⟩
 rw [run_callFunc_extern h1 h2 h3 h4 h5,h6,hr];rfl
theorem G4 {g:Operand} {args:Array Operand} {eJ:Array TypeId} (h:wT P E M oc g args=some out):aF P ⟨d,.call ⟨.value g,args,eJ⟩,ty,pos,aft,gd⟩ E M out:=by
 unfold wT at h
 split at h
 ·rename_i f x m e hg
  split at h
  ·rename_i z hx
   simp only [Option.some.injEq] at h;subst h
   intro D w0 K0 β F I ρ w C hv
   obtain ⟨hN,rfl,hm,-⟩:=hv
   obtain ⟨yg,eg,rg⟩:=C.bJ hg
   have ex:=C.int hx
   cases rg with
   | fn cs hl hr=>
    have cC:cs=[]:=List.eq_nil_of_length_eq_zero (by simpa using hl)
    subst cC
    obtain ⟨c,cs,h1,h2,h3⟩:=G3 hN hm w
    refine aT.pure (v:=.slice (some ⟨w.heap.size,0,none⟩) m c) (w':=w.drew.drew.alloc (.cells cs e (0,0))) (by simp [execOp,resolve,eg,ex,Deferred.ofValue,invoke,h3]) ?_
    have gr:Gr w (w.drew.drew.alloc (.cells cs e (0,0))):=((Gr.drew w).trans (Gr.drew w.drew)).trans (Gr.alloc w.drew.drew _)
    have nf:di w (w.drew.drew.alloc (.cells cs e (0,0))) [(w.heap.size,.cells cs e (0,0))]:=(di.alloc w.drew.drew (.cells cs e (0,0))).ahead ((Gr.drew w).trans (Gr.drew w.drew))
    refine ⟨_,_,I,C.rm.new (q:=(some ⟨w.heap.size,0,none⟩,c)) gr nf ?_,(Ext.app _ _).b _,bK.refl _,lW _ _,.sl (iv C.rm _)⟩
    have hX:∀ i,i<m→([cs[i]!]:List Value).length=1:=fun _ _=>rfl
    have mj:lay m (fun i=>[cs[i]!])=cs.toList.take m:=by
     have key:∀ k,k≤cs.size→lay k (fun i=>[cs[i]!])=cs.toList.take k:=by
      intro k
      induction k with
      | zero=>intro _;simp [lay]
      | succ k ih=>
       intro hk
       have:=ih (by omega)
       simp only [lay] at this ⊢
       rw [List.range_succ,List.flatMap_append,this,List.take_add_one,Array.getElem?_toList,Array.getElem?_eq_getElem (by omega)]
       simp [getElem!_pos cs k (by omega)]
     exact key m (by omega)
    have:=bq.rw (K:=fun w=>K0 w∧Holds w I) (β:=β++[(some ⟨w.heap.size,0,none⟩,c)]) (u:=M.length) (T:=e) (k:=1) (rows:=List.replicate m [.jk]) (H0:=[(w.heap.size,.cells cs e (0,0))]) (iv C.rm _) (fun i=>[cs[i]!]) (fun _ _=>[]) (fun i r hi=>by
     rw [List.getElem?_replicate] at hi
     split at hi
     ·simp only [Option.some.injEq] at hi;subst hi;exact ⟨rfl,rfl⟩
     ·simp at hi) (by
     rw [List.length_replicate]
     exact ⟨by rw [mj];simp;omega,Or.inr ⟨w.heap.size,c,_,rfl,rfl,by rw [h2];omega,h1,by rw [mj];simp⟩⟩) (fun i r j q x hi h1 h2=>by
     rw [List.getElem?_replicate] at hi
     split at hi
     ·simp only [Option.some.injEq] at hi;subst hi
      cases j with
      | succ j=>simp at h1
      | zero=>simp at h1;subst h1;exact .jk _
     ·simp at hi)
    rw [kN,List.append_nil] at this
    exact this
  ·cases h
 ·cases h
end Go.Proofs.YtcnpikbbmbombaaDoor
namespace Go.Proofs.YtcnpikbbmbombaaDoor
open Go.RowKit
variable {P:Program} {T:aJ} {D:List Nat} {w0:World} {K0:World→Prop} {E:List (Nat×AV)} {M:List aj} {β:Beta} {F:Nat→ak} {I:ak} {ρ:Operand→Value} {w:World}
variable {d:Option Tmp} {ty:TypeId} {pos:String} {aft:Array Edge} {gd:Option (Nat×Bool)} {oc:Option aR} {out:Out}
theorem JR {K:World→Prop} {u b c e k m m2 o:Nat} {cells l:List AV} {ys zs:List Value} (hb:β[u]?=some (some ⟨b,0,none⟩,c)) (hl:ys.length=c*k) (hm:cells.length=m*k) (hr:∀ (j:Nat) c y,cells[j]?=some c→ys[j]?=some y→au K β c y)
  (ey:zs.length=l.length) (hz:∀ (j:Nat) c y,l[j]?=some c→zs[j]?=some y→au K β c y) (ho:o≤cells.length) (Dj:m2≤c) (hlen:(cells.take o++(l++cells.drop (o+l.length))).length=m2*k):
  bq K β u (.fl e k m2 (cells.take o++(l++cells.drop (o+l.length)))) [(b,.cells (b5 ys.toArray o zs) e (0,0))]:=by
 have No:m2*k≤c*k:=Nat.mul_le_mul_right _ Dj
 have wD:=hlen
 simp only [List.length_append,List.length_take,List.length_drop] at wD
 have hle:o+zs.length≤ys.toArray.size:=by simp;omega
 have he:(b5 ys.toArray o zs)=(b5 ys.toArray o zs).toList.toArray:=by simp
 rw [he]
 refine .fl hb _ (by rw [Array.length_toList,kK];simpa using hl) hlen Dj ?_
 intro j c z e1 e2
 rw [Array.getElem?_toList,od _ _ _ _ hle] at e2
 by_cases hj:o≤j∧j<o+zs.length
 ·rw [if_pos hj] at e2
  rw [List.getElem?_append_right (by simp;omega),List.getElem?_append_left (by simp;omega)] at e1
  refine hz (j-o) c z ?_ e2
  rw [← e1];congr 1;simp;omega
 ·rw [if_neg hj] at e2
  rw [List.getElem?_toArray] at e2
  refine hr j c z ?_ e2
  rcases Nat.lt_or_ge j o with mF | mF
  ·rw [List.getElem?_append_left (by simp;omega),List.getElem?_take,if_pos mF] at e1;exact e1
  ·rw [List.getElem?_append_right (by simp;omega),List.getElem?_append_right (by simp;omega),List.getElem?_drop] at e1
   rw [← e1];congr 1;simp;omega
theorem AZ {α:Type} {k:Nat}:∀ {rows:List (List α)},(∀ r ∈ rows,r.length=k)→rows.flatten.length=rows.length*k∧∀ (i j:Nat) r,rows[i]?=some r→j<k→rows.flatten[i*k+j]?=r[j]?
 | [],_=>⟨by simp,by simp⟩
 | r::rs,h=>by
  have hr:=h r (by simp)
  obtain ⟨h1,h2⟩:=AZ (rows:=rs) (fun x hx=>h x (by simp [hx]))
  refine ⟨by simp [h1,hr,Nat.succ_mul,Nat.add_comm],fun i j q hq hj=>?_⟩
  cases i with
  | zero=>simp at hq;subst hq;rw [Nat.zero_mul,Nat.zero_add,List.flatten_cons,List.getElem?_append_left (by omega)]
  | succ i=>
   simp at hq
   rw [List.flatten_cons,List.getElem?_append_right (by rw [Nat.succ_mul];omega),← h2 i j q hq hj]
   congr 1;rw [Nat.succ_mul];omega
theorem Iv {K:World→Prop} {l:List AV} {X:List Value} (h:l.all AV.one=true) (hl:X.length=l.length) (hr:∀ (j:Nat) c z,l[j]?=some c→X[j]?=some z→au K β c z):∀ q ∈ X,bU q=true:=by
 intro q hq
 obtain ⟨j,hj,rfl⟩:=List.getElem_of_mem hq
 have iI:j<l.length:=by omega
 exact AV.vv (hr j _ _ (List.getElem?_eq_getElem iI) (List.getElem?_eq_getElem hj)) (List.all_eq_true.1 h _ (List.getElem_mem iI))
def vP (T:aJ) (E:List (Nat×AV)) (M:List aj) (oc:Option aR) (st:TypeId) (x y:Operand):Option Out:=
 match iL T st,aE E x,aE E y,oc with
 | some (_,k,_,_),some (.sf u k' 0 n _),some (.d (.ro k3 rows)),some (.res (.ag ds))=>(match M[u]? with
  | some (.fl e2 k2 m cells)=>bif k.beq k'&&(k.beq k2&&(k.beq k3&&n.ble m)) then some ⟨[bc rows,(rows.flatten.map AV.d).take (min rows.length n*k)++cells.drop ((rows.flatten.map AV.d).take (min rows.length n*k)).length=ds.map AV.d],.d (.v (.int .i64 ((min rows.length n:Nat):Int))),M.set u (.fl e2 k2 m (ds.map .d)),[u],[],none⟩ else none
  | _=>none)
 | _,_,_,_=>none
theorem FK (hT:aU P T=true) {st xt:TypeId} {x y:Operand} (h:vP T E M oc st x y=some out):aF P ⟨d,.call ⟨.builtin .copy,#[x,y],#[st,xt]⟩,ty,pos,aft,gd⟩ E M out:=by
 unfold vP at h
 split at h
 rotate_left
 ·simp at h
 rename_i e k b z u k' n q k3 rows ds he hx hy
 obtain ⟨zv,ok,-,-⟩:=kn hT he
 split at h
 rotate_left
 ·simp at h
 rename_i e2 k2 m cells hM
 cases hc:(k.beq k'&&(k.beq k2&&(k.beq k3&&n.ble m))) with
 | false=>simp [hc] at h
 | true=>
 simp only [hc,cond_true,Option.some.injEq] at h;subst h
 simp only [Bool.and_eq_true] at hc
 obtain ⟨c1,c2,c4,c3⟩:=hc
 obtain rfl:=Nat.eq_of_beq_eq_true c1
 obtain rfl:=Nat.eq_of_beq_eq_true c2
 obtain rfl:=Nat.eq_of_beq_eq_true c4
 have tC:=Nat.le_of_ble_eq_true c3
 intro D w0 K0 β F I ρ w C hv
 obtain ⟨dw,Nx,-⟩:=hv
 obtain ⟨yx,iK,rx⟩:=C.bJ hx
 obtain ⟨yy,nL,ry⟩:=C.bJ hy
 obtain ⟨X,ra,hs⟩:=AO C.now ry
 have hX:∀ i,i<rows.length→(X i).length=k:=fun i hi=>(ra.hl i _ (List.getElem?_eq_getElem hi)).2
 have gj:∀ r ∈ rows,r.length=k:=fun r hr=>by
  obtain ⟨i,hi,rfl⟩:=List.getElem_of_mem hr
  exact (ra.hl i _ (List.getElem?_eq_getElem hi)).1
 obtain ⟨f1,f2⟩:=AZ gj
 have gp:=ec hX
 have s2:(lay rows.length X).length=(rows.flatten.map AV.d).length:=by rw [gp,List.length_map,f1]
 have s3:∀ (j:Nat) c z,(rows.flatten.map AV.d)[j]?=some c→(lay rows.length X)[j]?=some z→au (fun w=>K0 w∧Holds w I) β c z:=fun j c z e1 e2=>by
  have tE:j<rows.length*k:=by rw [← gp];exact (List.getElem?_eq_some_iff.1 e2).1
  have hk:0<k:=by
   rcases Nat.eq_zero_or_pos k with h0 | h0
   ·subst h0;simp at tE
   ·exact h0
  have hd:j / k<rows.length:=Nat.div_lt_of_lt_mul (by rw [Nat.mul_comm];exact tE)
  have hm:j%k<k:=Nat.mod_lt _ hk
  have e:j / k*k+j%k=j:=by rw [Nat.mul_comm,Nat.div_add_mod]
  have bV:rows[j / k]?=some rows[j / k]:=List.getElem?_eq_getElem hd
  have g1:=jN hX hd hm
  have g2:=f2 _ _ _ bV hm
  rw [e] at g1 g2
  rw [g1] at e2
  rw [List.getElem?_map,g2,Option.map_eq_some_iff] at e1
  obtain ⟨c',e1,rfl⟩:=e1
  exact .d (ra.hr _ _ _ c' z bV e1 e2)
 have K7:(rows.flatten.map AV.d).all AV.one=true:=by
  unfold bc at dw
  rw [List.all_eq_true] at dw ⊢
  intro c hc
  obtain ⟨c',h1,rfl⟩:=List.mem_map.1 hc
  obtain ⟨r,h2,h3⟩:=List.mem_flatten.1 h1
  exact List.all_eq_true.1 (dw r h2) c' h3
 have wI:=Iv K7 s2 s3
 have ml:min rows.length n≤rows.length:=Nat.min_le_left _ _
 obtain ⟨hlen,oI⟩:=hs.pre (P:=P) ml
 have bp:∀ w:World,(sizeOf e).run P w=.ok k w:=fun w=>by obtain ⟨i,hi,h1,-⟩:=ok.info;simp [sizeOf,typeInfo,Sem.run_bind,hi,h1]
 cases rx with
 | @sf _ _ _ _ bb cc cap _ hb dq hn hq=>
 obtain ⟨H,hF,hB,hH⟩:=C.rm.at hM
 cases hB with
 | fl aN ys hl hm mK hr=>
 rw [hb] at aN;cases aN
 have hw:=hH.one
 have a1:n*k≤m*k:=Nat.mul_le_mul_right _ tC
 have a2:m*k≤ys.length:=by rw [hl];exact Nat.mul_le_mul_right _ mK
 have a4:min rows.length n*k≤n*k:=Nat.mul_le_mul_right _ (Nat.min_le_right _ _)
 have a5:min rows.length n*k≤rows.length*k:=Nat.mul_le_mul_right _ ml
 have k9:=n9 (P:=P) ((lay rows.length X).take (min rows.length n*k)) w ys.toArray (0*k) 0 hw (by simp;omega) (fun q hq=>wI q (List.mem_of_mem_take hq))
 simp only [Nat.add_zero] at k9
 refine aT.pure (v:=.int .i64 ((min rows.length n:Nat):Int)) (w':=b7 w bb (.cells (b5 ys.toArray (0*k) ((lay rows.length X).take (min rows.length n*k))) e2 (0,0))) ?_ ?_
 ·have wJ:Nat.min rows.length n=min rows.length n:=rfl
  simp only [execOp,resolve,List.map_toArray,List.map,iK,nL,Sem.run_bind,Sem.run_pure,Result.andThen_ok,invoke,builtin,Builtin.copy_,List.getElem?_toArray,List.getElem?_cons_zero,List.getElem?_cons_succ,run_underlying ok.bj,hlen,wJ,bp,oI,k9]
  rfl
 ·have yu:=JR (K:=fun w=>K0 w∧Holds w I) (e:=e2) (m2:=m) (o:=0*k) (l:=(rows.flatten.map AV.d).take (min rows.length n*k)) (zs:=(lay rows.length X).take (min rows.length n*k)) hb hl hm hr (by rw [List.length_take,List.length_take,s2]) (fun j c z e1 e2=>by
    rw [List.getElem?_take] at e1 e2
    split at e1
    ·rename_i hj;rw [if_pos hj] at e2;exact s3 j c z e1 e2
    ·simp at e1) (by omega) mK (by
    simp only [List.length_append,List.length_take,List.length_drop]
    omega)
  rw [Nat.zero_mul,List.take_zero,List.nil_append,Nat.zero_add,Nx] at yu
  rw [Nat.zero_mul]
  exact ⟨β,_,I,C.rm.set hM hF yu,(Ext.refl β).b _,bK.refl _,fun v hv hn=>by simp only [aG];rw [if_neg (by simpa using hn)],.d (.v _)⟩
def wU (T:aJ) (E:List (Nat×AV)) (M:List aj) (oc:Option aR) (t:TypeId) (x ix:Operand):Option Out:=
 match cU T t,aE E x,cF (aE E ix),oc with
 | some (.ar n e),some (.ag l),some (_,z),some (.ix i [c])=>(match ff T e with
  | some k=>some (lk [z=(i:Int),i<n,nM T e l (i*k)=some (.d c)] (.d c) M)
  | none=>none)
 | _,_,_,_=>none
theorem G5 (hT:aU P T=true) {t:TypeId} {x ix:Operand} (h:wU T E M oc t x ix=some out):aF P ⟨d,.index t x ix,ty,pos,aft,gd⟩ E M out:=by
 unfold wU at h
 split at h
 ·rename_i n e l _ z i c hu hx hz
  split at h
  ·rename_i k hk
   simp only [Option.some.injEq] at h;subst h
   have bp:∀ w:World,(sizeOf e).run P w=.ok k w:=fun w=>by
    have:=ga hT hk
    cases hi:P.info? e with
    | none=>simp [hi] at this
    | some inf=>simp only [hi,Option.map_some,Option.some.injEq] at this;simp [sizeOf,typeInfo,Sem.run_bind,hi,this]
   refine aF.same ?_
   intro D w0 K0 β F I ρ w C hv
   obtain ⟨rfl,aI,hp,-⟩:=hv
   have r:=C.ev hx
   have hi:=C.int hz
   generalize hy:ρ x=y at r
   cases r with
   | ag ys hl hr=>
    obtain ⟨y,h1,h2⟩:=vG hT hp hl hr
    refine ⟨y,fun w' _=>?_,h1⟩
    have fT:=cI hT hu
    have hc:(0:Int)≤(i:Int)∧(i:Int)<(n:Int):=by omega
    simp only [execOp,hy,hi,Instr.index,asIntOf,Sem.run_bind,Sem.run_pure,run_underlying fT,Result.andThen_ok]
    rw [if_pos hc]
    simp only [Sem.run_bind,bp,Result.andThen_ok,Int.toNat_natCast,h2,Sem.run_pure]
  ·simp at h
 ·simp at h
def vQ (T:aJ) (E:List (Nat×AV)) (M:List aj) (t:TypeId) (x:Operand):Option Out:=
 match aE E x with
 | some (.pt u o)=>(match M[u]? with
  | some (.fl _ _ _ cells)=>(match kD T t cells o with | some v=>some ⟨[],v,M,[],[],some [u]⟩ | none=>none)
  | _=>none)
 | _=>none
theorem FL (hT:aU P T=true) {t:TypeId} {x:Operand} (h:vQ T E M t x=some out):aF P ⟨d,.load t x,ty,pos,aft,gd⟩ E M out:=by
 unfold vQ at h
 split at h
 ·rename_i u o hv
  split at h
  ·rename_i Tt k m cells hM
   split at h
   ·rename_i v jg
    simp only [Option.some.injEq] at h;subst h
    refine aF.look (fun C _=>?_) (by simpa using eT hM)
    obtain ⟨y,hy,r⟩:=C.bJ hv
    cases r with
    | pt hb=>
     obtain ⟨H,hF,hB,hH⟩:=C.rm.at hM
     cases hB with
     | fl aN ys hl hm hc hr=>
      rw [hb] at aN;cases aN
      have hlen:cells.length≤ys.length:=by rw [hl,hm];exact Nat.mul_le_mul_right _ hc
      obtain ⟨y',h1,h2⟩:=oL hT (a:=⟨_,0,none⟩) (ys:=ys.take cells.length) (fun l ys=>au.ag ys) jg (hy.trans (by rw [add_eq,Nat.zero_add])) (by simp;omega) (fun j c z e1 e2=>hr j c z e1 (by
       rw [List.getElem?_take] at e2
       split at e2
       ·exact e2
       ·simp at e2))
      refine ⟨y',h1,fun w' hs=>h2 w' fun j z hj=>?_⟩
      have hw:Holds w' _:=hs.2 u (by simp)
      rw [hF] at hw
      rw [List.getElem?_take] at hj
      split at hj
      ·rw [add_eq,cell_of hw.one,Nat.zero_add];simpa using hj
      ·simp at hj
   ·simp at h
  ·simp at h
 ·simp at h
def Cx:List Value→Bool
 | .nilFunc::_=>true
 | _=>false
def u6 (T:aJ) (M:List aj) (t:TypeId):Option Out:=
 match cU T t,oT T t with
 | some (.ar n e),some l=>(match ff T e with
  | some k=>bif l.length.beq (n*k)&&!Cx l then some ⟨[],.pt M.length 0,M++[.fl t k n (kT l)],[],[],none⟩ else none
  | none=>none)
 | _,_=>none
theorem EO (hT:aU P T=true) {t:TypeId} (h:u6 T M t=some out):aF P ⟨d,.alloc t,ty,pos,aft,gd⟩ E M out:=by
 unfold u6 at h
 split at h
 rotate_left
 ·simp at h
 rename_i n e l ht hz
 split at h
 rotate_left
 ·simp at h
 rename_i k hk
 cases hc:(l.length.beq (n*k)&&!Cx l) with
 | false=>simp [hc] at h
 | true=>
  simp only [hc,cond_true,Option.some.injEq] at h;subst h
  have gp:=Nat.eq_of_beq_eq_true (Bool.and_eq_true_iff.1 hc).1
  obtain ⟨z,nJ,nK⟩:=rO hT hz
  intro D w0 K0 β F I ρ w C _
  refine zV (nK w) fun b w' g n'=>?_
  rw [nJ] at n'
  obtain ⟨h1,h2⟩:=pY (K:=fun w=>K0 w∧Holds w I) (β:=β++[(some ⟨b,0,none⟩,n)]) l
  exact ⟨_,_,I,C.rm.new (q:=(some ⟨b,0,none⟩,n)) g n' (.fl (iv C.rm _) l gp (by rw [← h1,gp]) (Nat.le_refl _) h2),(Ext.app _ _).b _,bK.refl _,lW _ _,.pt (iv C.rm _)⟩
def xH (T:aJ) (E:List (Nat×AV)) (M:List aj) (t:TypeId) (x:Operand) (lo hi mx:Option Operand):Option Out:=
 match cU T t,aE E x,lo,hi,mx with
 | some (.ar n e),some (.pt u 0),none,none,none=>(match ff T e,M[u]? with
  | some k,some (.fl _ k2 m _)=>bif k.beq k2&&(n.ble m&&Nat.blt 0 n) then some (lk [] (.sf u k 0 n (some n)) M) else none
  | _,_=>none)
 | _,_,_,_,_=>none
theorem Iw (hT:aU P T=true) {t:TypeId} {x:Operand} {lo hi mx:Option Operand} (h:xH T E M t x lo hi mx=some out):aF P ⟨d,.slice t x lo hi mx,ty,pos,aft,gd⟩ E M out:=by
 unfold xH at h
 split at h
 rotate_left
 ·simp at h
 rename_i n e u ht hx
 split at h
 rotate_left
 ·simp at h
 rename_i k T2 k2 m cells hk hM
 cases hc:(k.beq k2&&(n.ble m&&Nat.blt 0 n)) with
 | false=>simp [hc] at h
 | true=>
  simp only [hc,cond_true,Option.some.injEq] at h;subst h
  simp only [Bool.and_eq_true] at hc
  obtain ⟨c1,c2,c3⟩:=hc
  obtain rfl:=Nat.eq_of_beq_eq_true c1
  have Dk:=Nat.le_of_ble_eq_true c2
  have nx:0<n:=by simpa [Nat.blt_eq] using c3
  have nR:=cI hT ht
  refine aF.same fun {D w0 K0 β F I ρ w} C _=>?_
  obtain ⟨y,hy,r⟩:=C.bJ hx
  cases r with
  | @pt _ _ b c hb=>
   obtain ⟨H,hF,hB,hH⟩:=C.rm.at hM
   cases hB with
   | fl aN ys hl hm mK hr=>
    rw [hb] at aN;cases aN
    have hs:=au.sf (K:=fun w=>K0 w∧Holds w I) (u:=u) (k:=k) (o:=0) (n:=n) (cap:=n) (q:=some n) hb (by omega) (Nat.le_refl _) rfl
    rw [Nat.zero_mul] at hs
    refine ⟨_,fun w' _=>?_,hs⟩
    have bp:(sizeOf e).run P w'=.ok k w':=by
     have:=ga hT hk
     cases e6:P.info? e with
     | none=>simp [e6] at this
     | some inf=>simp only [e6,Option.map_some,Option.some.injEq] at this;simp [sizeOf,typeInfo,Sem.run_bind,e6,this]
    have q4:¬ n=0:=by omega
    simp [execOp,hy,Instr.sliceAt,Instr.sureAddr,Instr.sliceBounds,Sem.run_bind,run_underlying nR,bp,q4,add_eq]
end Go.Proofs.YtcnpikbbmbombaaDoor
namespace Go.Proofs.YtcnpikbbmbombaaDoor
open Go.RowKit
variable {P:Program} {T:aJ} {E:List (Nat×AV)} {M:List aj}
variable {d:Option Tmp} {ty:TypeId} {pos:String} {aft:Array Edge} {gd:Option (Nat×Bool)} {oc:Option aR} {out:Out}
inductive Ny where
 | fn (f:FuncId)
 | yl (u:Nat)
abbrev fq:=Ny→List AV→List aj→aR→Option Out
def Bp (P:Program) (f:FuncId) (args:List AV) (M:List aj) (out:Out):Prop:=
 gG P f=true∧∀ {D:List Nat} {w0:World} {K0:World→Prop} {β:Beta} {F:Nat→ak} {I:ak} {w:World} (ys:List Value),RM D w0 K0 M β F I w→(∀ w,Kp D w0 w→K0 w)→aX out.vc→ys.length=args.length→(∀ (j:Nat) c y,args[j]?=some c→ys[j]?=some y→au (fun w=>K0 w∧Holds w I) β c y)→
  Calls P f ys.toArray w fun e w'=>∃ v,e=.returned v∧∃ ax F' I',RM D w0 K0 out.M ax F' I' w'∧fO out.mv β ax∧bK I I'∧(∀ u,u<M.length→u ∉ out.tc→F' u=F u)∧au (fun w=>K0 w∧Holds w I') ax out.av v
def A0 (P:Program) (u:Nat) (args:List AV) (M:List aj) (out:Out):Prop:=
 ∀ {D:List Nat} {w0:World} {K0:World→Prop} {β:Beta} {F:Nat→ak} {I:ak} {w:World} (ys:List Value) (l c:Nat),RM D w0 K0 M β F I w→(∀ w,Kp D w0 w→K0 w)→aX out.vc→ys.length=args.length→(∀ (j:Nat) c y,args[j]?=some c→ys[j]?=some y→au (fun w=>K0 w∧Holds w I) β c y)→β[u]?=some (some ⟨l,0,none⟩,c)→
  ∃ fn tmps cR body,(Instr.yield l ys.toArray).run P w=.ok (.round l fn tmps cR body) w∧RoundIn Fence.wide 0 P l fn tmps cR body w fun e w'=>∃ v,e=.returned v∧∃ ax F' I',RM D w0 K0 out.M ax F' I' w'∧fO out.mv β ax∧bK I I'∧(∀ u,u<M.length→u ∉ out.tc→F' u=F u)∧au (fun w=>K0 w∧Holds w I') ax out.av v
def jf (P:Program) (cl:fq):Prop:=∀ c args M o out,cl c args M o=some out→out.rd=none∧match c with | .fn f=>Bp P f args M out | .yl u=>A0 P u args M out
def wV (cl:fq) (E:List (Nat×AV)) (M:List aj) (o:aR) (g:Operand) (args:Array Operand):Option Out:=
 match aE E g,ky E args.toList with
 | some (.fn f b8),some l=>cl (.fn f) (l++b8) M o
 | some (.yl u),some l=>cl (.yl u) l M o
 | _,_=>none
theorem G6 {cl:fq} (cu:jf P cl) {o:aR} {g:Operand} {args:Array Operand} {eJ:Array TypeId} (h:wV cl E M o g args=some out):aF P ⟨d,.call ⟨.value g,args,eJ⟩,ty,pos,aft,gd⟩ E M out:=by
 unfold wV at h
 split at h
 ·rename_i f b8 l hg hl
  obtain ⟨dO,jY,hc⟩:=cu _ _ _ _ _ h
  unfold aF
  rw [dO]
  intro D w0 K0 β F I ρ w C hv
  obtain ⟨y,hy,r⟩:=C.bJ hg
  cases r with
  | fn cs Mu fV=>
   obtain ⟨dy,j5⟩:=C.mG hl
   have hm:args.map ρ=(args.toList.map ρ).toArray:=by rw [← Array.toList_map]
   refine pW hy jY hm ?_
   have k6:((args.toList.map ρ).toArray++cs.toArray:Array Value)=(args.toList.map ρ++cs).toArray:=by simp
   rw [k6]
   refine hc _ C.rm C.k hv (by rw [List.length_append,List.length_append,dy,Mu]) ?_
   intro j c y h1 h2
   rcases Nat.lt_or_ge j l.length with hj | hj
   ·rw [List.getElem?_append_left hj] at h1
    rw [List.getElem?_append_left (by omega)] at h2
    exact j5 j c y h1 h2
   ·rw [List.getElem?_append_right hj] at h1
    rw [List.getElem?_append_right (by omega),dy] at h2
    exact fV _ c y h1 h2
 ·rename_i u l hg hl
  obtain ⟨dO,hc⟩:=cu _ _ _ _ _ h
  unfold aF
  rw [dO]
  intro D w0 K0 β F I ρ w C hv
  obtain ⟨y,hy,r⟩:=C.bJ hg
  cases r with
  | @yl _ bb cc hb=>
   obtain ⟨dy,j5⟩:=C.mG hl
   obtain ⟨fn,tmps,cR,body,h1,h2⟩:=hc _ _ _ C.rm C.k hv dy j5 hb
   have hm:args.map ρ=(args.toList.map ρ).toArray:=by rw [← Array.toList_map]
   unfold aT
   have hr:(execOp ρ ⟨d,.call ⟨.value g,args,eJ⟩,ty,pos,aft,gd⟩).run P w=.ok (.round bb fn tmps cR body) w:=by
    simp [execOp,resolve,hy,hm,Deferred.ofValue,invoke,h1]
   rw [hr]
   exact h2
 ·simp at h
def xI (P:Program) (T:aJ) (E:List (Nat×AV)) (M:List aj) (oc:Option aR) (op:BinOp) (t:TypeId) (x y:Operand):Option Out:=
 match wm E M oc op x y with
 | some o=>some o
 | none=>(match wq E M oc op x y with
  | some o=>some o
  | none=>(match xr P E M oc op t x y with
   | some o=>some o
   | none=>(match wE P E M oc op t x y with
    | some o=>some o
    | none=>wF T E M oc op t x y)))
theorem Ix (hT:aU P T=true) {op:BinOp} {t t':TypeId} {x y:Operand} (h:xI P T E M oc op t x y=some out):aF P ⟨d,.binOp op t x y t',ty,pos,aft,gd⟩ E M out:=by
 unfold xI at h
 split at h
 ·rename_i hh;simp only [Option.some.injEq] at h;subst h;exact Gw hh
 ·split at h
  ·rename_i hh;simp only [Option.some.injEq] at h;subst h;exact Gz hh
  ·split at h
   ·rename_i hh;simp only [Option.some.injEq] at h;subst h;exact Ih hh
   ·split at h
    ·rename_i hh;simp only [Option.some.injEq] at h;subst h;exact GI hh
    ·exact GJ hT h
def wW (T:aJ) (E:List (Nat×AV)) (M:List aj) (oc:Option aR) (t t':TypeId) (x:Operand):Option Out:=
 match vz T E M oc t t' x with
 | some o=>some o
 | none=>(match xy T E M oc t t' x with
  | some o=>some o
  | none=>vF T E M t t' x)
theorem G7 (hT:aU P T=true) {t t':TypeId} {x:Operand} (h:wW T E M oc t t' x=some out):aF P ⟨d,.convert t t' x,ty,pos,aft,gd⟩ E M out:=by
 unfold wW at h
 split at h
 ·rename_i hh;simp only [Option.some.injEq] at h;subst h;exact Fp hT hh
 ·split at h
  ·rename_i hh;simp only [Option.some.injEq] at h;subst h;exact Il hT hh
  ·exact Fx hT h
def step (P:Program) (T:aJ) (cl:fq) (E:List (Nat×AV)) (M:List aj) (oc:Option aR):Op→Option Out
 | .move x=>sL E M x
 | .assign x=>sL E M x
 | .nilCheck x=>xi E M x
 | .extract x i=>uv E M x i
 | .fieldAddr s x f=>vt T E M s x f
 | .indexAddr t x i=>(match vu T E M oc t x i with | some o=>some o | none=>(match uW T E M oc t x i with | some o=>some o | none=>(match u2 T E M oc t x i with | some o=>some o | none=>(match uX T E M oc t x i with | some o=>some o | none=>(match u5 T E M oc t x i with | some o=>some o | none=>wP T E M oc t x i)))))
 | .load t x=>(match wk T E M oc t x with | some o=>some o | none=>(match wG T E M oc t x with | some o=>some o | none=>(match vK T E M oc t x with | some o=>some o | none=>vQ T E M t x)))
 | .store t x y=>(match uQ T E M t x y with | some o=>some o | none=>(match uV T E M oc t x y with | some o=>some o | none=>u3 T E M oc t x y))
 | .box t x=>xm E M t x
 | .alloc t=>(match oc with | some (.b _)=>u6 T M t | _=>vw T M t)
 | .pick c x y=>(match oc with | some (.res (.v r))=>vL E M r c x y | _=>wo E M oc c x y)
 | .unOp .not _ x=>xn E M oc x
 | .unOp .xor _ x=>xo E M oc x
 | .binOp op t x y _=>(match xI P T E M oc op t x y with | some o=>some o | none=>(match wM P E M op t x y with | some o=>some o | none=>(match xE E M op x y with | some o=>some o | none=>xG P E M op t x y)))
 | .convert t t' x=>(match wW T E M oc t t' x with | some o=>some o | none=>(match wN T E M t t' x with | some o=>some o | none=>vM P E M oc t t' x))
 | .build t parts=>(match vD T E M t parts with | some o=>some o | none=>uU T E M t parts)
 | .field t x f=>xA T E M t x f
 | .index t x i=>(match xB T E M oc t x i with | some o=>some o | none=>(match wK T E M oc t x i with | some o=>some o | none=>(match wO T E M oc t x i with | some o=>some o | none=>wU T E M oc t x i)))
 | .slice t x lo hi mx=>(match yo T E M oc t x lo hi mx with | some o=>some o | none=>(match xC T E M oc t x lo hi mx with | some o=>some o | none=>(match xF T E M oc t x lo hi mx with | some o=>some o | none=>xH T E M t x lo hi mx)))
 | .buildSlice t len parts=>xx T E M t len parts
 | .makeSlice t x y=>(match wC T E M oc t x y with | some o=>some o | none=>vH T E M oc t x y)
 | .makeFunc fn first b8=>wv E M fn first b8
 | .call ⟨.builtin bi,⟨[x]⟩,⟨[t]⟩⟩=>(match bi with | .len=>xq T E M oc t x | .clear=>vI T E M t x | .unsafeSliceData=>vO E M x | .cap=>wS T E M t x | _=>none)
 | .call ⟨.builtin bi,⟨[x,y]⟩,⟨[st,xt]⟩⟩=>(match bi with | .append=>(match xu T E M st xt x y with | some o=>some o | none=>wQ T E M st xt x y) | .copy=>(match wH T E M oc st x y with | some o=>some o | none=>vP T E M oc st x y) | .unsafeString=>wR P E M oc st x y | _=>x3 E M oc bi x y)
 | .call ⟨.value g,args,_⟩=>(match oc with | some (.bG n tb)=>wV cl E M (.bG n tb) g args | some (.aO x)=>o3 P E M (some (.aO x)) g args | some (.mem l x M')=>wL P E M (some (.mem l x M')) g args | some (.stay l x)=>vJ P E M (some (.stay l x)) g args | some (.b _)=>vN P E M g args | some (.n2 m e)=>wT P E M (some (.n2 m e)) g args | _=>wy P E M oc g args)
 | _=>none
theorem oB (hT:aU P T=true) {cl:fq} (cu:jf P cl) {op:Op} (h:step P T cl E M oc op=some out):aF P ⟨d,op,ty,pos,aft,gd⟩ E M out:=by
 unfold step at h
 split at h
 ·exact (zY h).1
 ·exact (zY h).2
 ·exact H9 h
 ·exact Ek h
 ·exact Fj hT h
 ·split at h
  ·rename_i hh;simp only [Option.some.injEq] at h;subst h;exact Fk hT hh
  ·split at h
   ·rename_i hh;simp only [Option.some.injEq] at h;subst h;exact EH hT hh
   ·split at h
    ·rename_i hh;simp only [Option.some.injEq] at h;subst h;exact EJ hT hh
    ·split at h
     ·rename_i hh;simp only [Option.some.injEq] at h;subst h;exact EI hT hh
     ·split at h
      ·rename_i hh;simp only [Option.some.injEq] at h;subst h;exact EM hT hh
      ·exact GV hT h
 ·split at h
  ·rename_i hh;simp only [Option.some.injEq] at h;subst h;exact Gv hT hh
  ·split at h
   ·rename_i hh;simp only [Option.some.injEq] at h;subst h;exact GK hT hh
   ·split at h
    ·rename_i hh;simp only [Option.some.injEq] at h;subst h;exact FE hT hh
    ·exact FL hT h
 ·split at h
  ·rename_i hh;simp only [Option.some.injEq] at h;subst h;exact EE hT hh
  ·split at h
   ·rename_i hh;simp only [Option.some.injEq] at h;subst h;exact EG hT hh
   ·exact EK hT h
 ·exact Ia h
 ·split at h
  ·exact EO hT h
  ·exact Fo hT h
 ·split at h
  ·exact FG h
  ·exact Gy h
 ·exact Ib h
 ·exact Ic h
 ·split at h
  ·rename_i hh;simp only [Option.some.injEq] at h;subst h;exact Ix hT hh
  ·split at h
   ·rename_i hh;simp only [Option.some.injEq] at h;subst h;exact GR hh
   ·split at h
    ·rename_i hh;simp only [Option.some.injEq] at h;subst h;exact Ir hh
    ·exact It h
 ·split at h
  ·rename_i hh;simp only [Option.some.injEq] at h;subst h;exact G7 hT hh
  ·split at h
   ·rename_i hh;simp only [Option.some.injEq] at h;subst h;exact GS hT hh
   ·exact FH h
 ·split at h
  ·rename_i hh;simp only [Option.some.injEq] at h;subst h;exact Fs hT hh
  ·exact EF hT h
 ·exact Im hT h
 ·split at h
  ·rename_i hh;simp only [Option.some.injEq] at h;subst h;exact Io hT hh
  ·split at h
   ·rename_i hh;simp only [Option.some.injEq] at h;subst h;exact GO hT hh
   ·split at h
    ·rename_i hh;simp only [Option.some.injEq] at h;subst h;exact GU hT hh
    ·exact G5 hT h
 ·split at h
  ·rename_i hh;simp only [Option.some.injEq] at h;subst h;exact JO hT hh
  ·split at h
   ·rename_i hh;simp only [Option.some.injEq] at h;subst h;exact Ip hT hh
   ·split at h
    ·rename_i hh;simp only [Option.some.injEq] at h;subst h;exact Is hT hh
    ·exact Iw hT h
 ·exact Ik hT h
 ·split at h
  ·rename_i hh;simp only [Option.some.injEq] at h;subst h;exact GH hT hh
  ·exact FA hT h
 ·exact GA h
 ·split at h
  ·exact Ie hT h
  ·exact FC hT h
  ·exact FJ h
  ·exact GZ hT h
  ·simp at h
 ·split at h
  ·split at h
   ·rename_i hh;simp only [Option.some.injEq] at h;subst h;exact Ii hT hh
   ·exact GW hT h
  ·split at h
   ·rename_i hh;simp only [Option.some.injEq] at h;subst h;exact GL hT hh
   ·exact FK hT h
  ·exact GX h
  ·exact JJ h
 ·split at h
  ·exact G6 cu h
  ·exact AN h
  ·exact GQ h
  ·exact FD h
  ·exact FI h
  ·exact G4 h
  ·exact GD h
 ·simp at h
end Go.Proofs.YtcnpikbbmbombaaDoor
namespace Go.Proofs.YtcnpikbbmbombaaDoor
open Go.RowKit
def mr:List (Nat×aR)→Nat→Option aR
 | [],_=>none
 | (k,v)::r,s=>bif k.beq s then some v else mr r s
def gT (E:List (Nat×AV)) (dst:Option Nat) (v:AV):List (Nat×AV):=match dst with | some d=>(d,v)::E | none=>E
def oY (mv:List Nat):List (Nat×AV)→List (Nat×AV)
 | []=>[]
 | (k,v)::r=>(k,bif iw mv v then v else .d .jk)::oY mv r
def oZ (mv:List Nat) (E:List (Nat×AV)):List (Nat×AV):=match mv with | []=>E | _=>oY mv E
theorem zb {mv:List Nat}:∀ {E:List (Nat×AV)} {t:Nat} {v:AV},bS (oY mv E) t=some v→∃ u,bS E t=some u∧v=bif iw mv u then u else .d .jk
 | [],t,v,h=>by simp [oY,bS] at h
 | (k,u)::r,t,v,h=>by
  unfold oY bS at h
  unfold bS
  cases hk:k.beq t with
  | true=>simp only [hk,cond_true,Option.some.injEq] at h ⊢;exact ⟨u,rfl,h.symm⟩
  | false=>simp only [hk,cond_false] at h ⊢;exact zb h
theorem G8 {K:World→Prop} {β ax:Beta} {mv:List Nat} (e:fO mv β ax) {ρ:Operand→Value} {E:List (Nat×AV)} (h:∀ t v,bS E t=some v→au K β v (ρ (.tmp t))):∀ t v,bS (oY mv E) t=some v→au K ax v (ρ (.tmp t)):=by
 intro t v hv
 obtain ⟨u,h1,h2⟩:=zb hv
 cases hc:iw mv u with
 | true=>simp only [hc,cond_true] at h2;subst h2;exact pZ e hc (h t _ h1)
 | false=>simp only [hc,cond_false] at h2;subst h2;exact .d (.jk _)
theorem uF {K:World→Prop} {β ax:Beta} {mv:List Nat} (e:fO mv β ax) {E:List (Nat×AV)} {ρ:Operand→Value} (h:∀ t v,bS E t=some v→au K β v (ρ (.tmp t))):∀ t v,bS (oZ mv E) t=some v→au K ax v (ρ (.tmp t)):=by
 intro t v hx
 unfold oZ at hx
 split at hx
 ·exact (h t v hx).mono (fun _ h=>h) fun u z hz=>e u z (by simp) hz
 ·exact G8 e h t v hx
def qi:Option AV→Option (Option Bool)
 | some (.d (.v (.bool c)))=>some (some c)
 | some (.d (.v (.tuple _)))=>some none
 | _=>none
def mb (sz:Nat) (ops:Array Oper) (E:List (Nat×AV)):Option (Nat×Bool)→Option Bool
 | none=>some true
 | some (j,want)=>(match qo ops j with
  | some s=>(bif s.blt sz then (match qi (bS E s) with
   | some (some true)=>some want
   | some (some false)=>some (!want)
   | some none=>some false
   | none=>none) else none)
  | none=>none)
def fR (sz:Nat):Option Nat→Bool
 | some d=>d.blt sz
 | none=>true
structure RS where
 vc:List Prop
 E:List (Nat×AV)
 M:List aj
 tc:List Nat
 mv:List Nat
def xJ (P:Program) (T:aJ) (cl:fq) (E:List (Nat×AV)) (M:List aj) (op:Op) (oc:aR):Option (List Prop×List Nat×Value):=
 match oc,op with
 | .aO (.v x),.call ⟨.value g,args,_⟩=>(match o3 P E M (some (.aO (.v x))) g args with | some out=>some (out.vc,out.tc,x) | none=>none)
 | oc,op=>(match step P T cl E M (some oc) op with | some ⟨vc,.d (.v x),_,tc,_,some _⟩=>some (vc,tc,x) | _=>none)
def Bq (sz:Nat) (ops:Array Oper) (E:List (Nat×AV)):Option (Nat×Bool)→Option (Value×Bool)
 | some (j,want)=>(match qo ops j with
  | some s=>bif s.blt sz then (match bS E s with | some (.d (.v y))=>some (y,want) | _=>none) else none
  | none=>none)
 | none=>none
def jR (y:Value):Option Bool:=match y with | .bool b=>some b | _=>none
def iW (P:Program) (T:aJ) (cl:fq) (sz:Nat) (ops:Array Oper):List Oper→Nat→List (Nat×aR)→RS→Option RS
 | [],_,_,s=>some s
 | o::r,i,oc,⟨vc,E,M,tc,mv⟩=>
  bif fR sz o.dst then (match mr oc i with
  | some (.may c oo)=>(match xJ P T cl E M o.op oo,Bq sz ops E o.guard with
   | some (mN,q5,x),some (y,want)=>iW P T cl sz ops r (i+1) oc ⟨vc++[(jR y==some want)=c,c=true→aX mN],gT E o.dst (.d (.v (bif c then x else undef))),M,q5++tc,mv⟩
   | _,_=>none)
  | _=>(match mb sz ops E o.guard with
   | some true=>(match step P T cl E M (mr oc i) o.op with
    | some out=>(bif Nat.ble M.length out.M.length then iW P T cl sz ops r (i+1) oc ⟨vc++out.vc,gT (oZ out.mv E) o.dst out.av,out.M,out.tc++tc,out.mv++mv⟩ else none)
    | none=>none)
   | some false=>iW P T cl sz ops r (i+1) oc ⟨vc,gT E o.dst (.d (.v undef)),M,tc,mv⟩
   | none=>none))
  else none
structure et where
 β:Beta
 F:Nat→ak
 I:ak
 m:Nat
def Since (b:et) (mv tc:List Nat) (β:Beta) (F:Nat→ak) (I:ak):Prop:=fO mv b.β β∧bK b.I I∧∀ u,u<b.m→u ∉ tc→F u=b.F u
theorem Since.step {b:et} {mv tc mv' q5:List Nat} {β ax:Beta} {F F':Nat→ak} {I I':ak} {n:Nat} (h:Since b mv tc β F I) (hn:b.m≤n) (e:fO mv' β ax) (hI:bK I I') (hF:∀ u,u<n→u ∉ q5→F' u=F u):Since b (mv'++mv) (q5++tc) ax F' I':=
 ⟨fun u x hu hx=>e u x (fun h'=>hu (List.mem_append_left _ h')) (h.1 u x (fun h'=>hu (List.mem_append_right _ h')) hx),h.2.1.trans hI,fun u hu ht=>(hF u (by omega) fun h'=>ht (List.mem_append_left _ h')).trans (h.2.2 u hu fun h'=>ht (List.mem_append_right _ h'))⟩
variable {mk:Bool} {ro:Option Nat} {P:Program} {T:aJ} {cl:fq} {D:List Nat} {w0:World} {K0:World→Prop} {E:List (Nat×AV)} {M:List aj} {β:Beta} {F:Nat→ak} {I:ak} {ρ:Operand→Value} {w:World} {a:Act} {sz:Nat} {ops:Array Oper} {Q:Exit→Act→World→Prop}
def Mk (mk:Bool) (ds:List Deferred) (I:ak):Prop:=match mk with
 | false=>ds=[]
 | true=>ds.Nodup∧∀ d ∈ ds,∃ b,d={ target:=.collected b,args:=#[] }∧(b,Obj.deferred (some [])) ∈ I
theorem Mk.grow {ds:List Deferred} {I I':ak} (h:Mk mk ds I) (g:bK I I'):Mk mk ds I':=by
 cases mk with
 | false=>exact h
 | true=>obtain ⟨J,rfl⟩:=g;exact ⟨h.1,fun d hd=>let ⟨b,h1,h2⟩:=h.2 d hd;⟨b,h1,List.mem_append_right _ h2⟩⟩
theorem Mk.nil (I:ak):Mk mk [] I:=by cases mk with | false=>rfl | true=>exact ⟨List.nodup_nil,fun d hd=>by cases hd⟩
theorem RE.put (size:a.tmps.size=sz) {ax:Beta} {I':ak} (defers:Mk mk a.defers I') (hs:∀ t v,bS E t=some v→au (fun w=>K0 w∧Holds w I') ax v (a.eval (.tmp t))) {dst:Option Nat} (hd:fR sz dst=true) {v:Value} {av:AV} (hv:au (fun w=>K0 w∧Holds w I') ax av v):
  (a.put dst v).tmps.size=sz∧Mk mk (a.put dst v).defers I'∧∀ t u,bS (gT E dst av) t=some u→au (fun w=>K0 w∧Holds w I') ax u ((a.put dst v).eval (.tmp t)):=by
 refine ⟨by rw [Gk,size],by rw [put_defers];exact defers,?_⟩
 cases dst with
 | none=>exact hs
 | some d=>
  have aI:d<sz:=by simpa [fR,Nat.blt_eq] using hd
  intro t u hx
  unfold gT bS at hx
  cases hk:d.beq t with
  | true=>
   simp only [hk,cond_true,Option.some.injEq] at hx
   subst hx
   rw [← Nat.eq_of_beq_eq_true hk,D8 a d v (by omega)];exact hv
  | false=>
   simp only [hk,cond_false] at hx
   rw [D1 a d t v (fun e=>by subst e;simp at hk)];exact hs t u hx
theorem FM {K:World→Prop} {β:Beta} {av:Option AV} {y:Value} {g:Option Bool} (h:qi av=some g) {v:AV} (hv:av=some v) (r:au K β v y):jR y=g:=by
 subst hv
 unfold qi at h
 split at h
 ·rename_i hx;cases hx;simp only [Option.some.injEq] at h;subst h
  cases r with | d r=>cases r;rfl
 ·rename_i hx;cases hx;simp only [Option.some.injEq] at h;subst h
  cases r with | d r=>cases r;rfl
 ·simp at h
theorem kh {o:Oper} {b:Bool} (size:a.tmps.size=sz) {K:World→Prop} (hs:∀ t v,bS E t=some v→au K β v (a.eval (.tmp t))) (h:mb sz ops E o.guard=some b):Region.wanted o (yielded ops a.tmps)=b:=by
 unfold Region.wanted
 cases hg:o.guard with
 | none=>rw [hg] at h;simp only [mb,Option.some.injEq] at h;exact h
 | some g=>
  obtain ⟨j,want⟩:=g
  rw [hg] at h
  unfold mb at h
  cases hj:qo ops j with
  | none=>simp [hj] at h
  | some s=>
   simp only [hj] at h
   cases bp:s.blt sz with
   | false=>simp [bp] at h
   | true=>
    simp only [bp,cond_true] at h
    have aI:s<a.tmps.size:=by rw [size];simpa [Nat.blt_eq] using bp
    have hy:∀ g,qi (bS E s)=some g→yielded ops a.tmps j=g:=by
     intro g jH
     rw [y6 hj aI]
     show jR _=g
     cases hl:bS E s with
     | none=>rw [hl] at jH;simp [qi] at jH
     | some v=>exact FM jH hl (hs _ _ hl)
    split at h
    ·rename_i jH;simp only [Option.some.injEq] at h;subst h;dsimp only;rw [hy _ jH];cases want<;>rfl
    ·rename_i jH;simp only [Option.some.injEq] at h;subst h;dsimp only;rw [hy _ jH];cases want<;>rfl
    ·rename_i jH;simp only [Option.some.injEq] at h;subst h;dsimp only;rw [hy _ jH];cases want<;>rfl
    ·simp at h
theorem vR (l:List Oper):∀ (i:Nat) (oc:List (Nat×aR)) (s:RS) {s':RS},iW P T cl sz ops l i oc s=some s'→aX s'.vc→aX s.vc:=by
 induction l with
 | nil=>
  intro i oc s s' h
  simp only [iW,Option.some.injEq] at h
  subst h;exact id
 | cons o r ih=>
  intro i oc s s' h hv
  obtain ⟨vc,E,M,tc,mv⟩:=s
  unfold iW at h
  cases hd:fR sz o.dst with
  | false=>simp [hd] at h
  | true=>
   simp only [hd,cond_true] at h
   split at h
   ·split at h
    ·exact (aX.app.1 (ih _ _ _ h hv)).1
    ·simp at h
   split at h
   ·split at h
    ·rename_i out _
     cases hb:Nat.ble M.length out.M.length with
     | false=>simp [hb] at h
     | true=>simp only [hb,cond_true] at h;exact (aX.app.1 (ih _ _ _ h hv)).1
    ·simp at h
   ·have:=ih _ _ _ h hv;exact this
   ·simp at h
def ch (mk:Bool) (D:List Nat) (w0:World) (K0:World→Prop) (sz:Nat) (E:List (Nat×AV)) (M:List aj) (a:Act) (w:World):Prop:=
 a.tmps.size=sz∧∃ I,Mk mk a.defers I∧∃ β F,RM D w0 K0 M β F I w∧∀ t v,bS E t=some v→au (fun w=>K0 w∧Holds w I) β v (a.eval (.tmp t))
abbrev dz (D:List Nat) (w0:World) (K0:World→Prop) (sz:Nat) (E:List (Nat×AV)) (M:List aj) (a:Act) (w:World):Prop:=ch false D w0 K0 sz E M a w
def c7 (mk:Bool) (D:List Nat) (w0:World) (K0:World→Prop) (sz:Nat) (b:et) (s:RS) (a:Act) (w:World):Prop:=
 a.tmps.size=sz∧∃ I,Mk mk a.defers I∧b.m≤s.M.length∧∃ β F,RM D w0 K0 s.M β F I w∧Since b s.mv s.tc β F I∧∀ t v,bS s.E t=some v→au (fun w=>K0 w∧Holds w I) β v (a.eval (.tmp t))
theorem ch.np (r:ch false D w0 K0 sz E M a w):a.defers=[]:=let ⟨_,_,h,_⟩:=r;h
theorem c7.np {b:et} {s:RS} (r:c7 false D w0 K0 sz b s a w):a.defers=[]:=let ⟨_,_,h,_⟩:=r;h
theorem c7.re {b:et} {s:RS} (r:c7 mk D w0 K0 sz b s a w):ch mk D w0 K0 sz s.E s.M a w:=let ⟨h1,I,h2,_,β,F,h3,_,h4⟩:=r;⟨h1,I,h2,β,F,h3,h4⟩
theorem ch.b (r:ch mk D w0 K0 sz E M a w) (vc:List Prop):∃ b,c7 mk D w0 K0 sz b ⟨vc,E,M,[],[]⟩ a w:=
 let ⟨h1,I,h2,β,F,h3,h4⟩:=r
 ⟨⟨β,F,I,M.length⟩,h1,I,h2,Nat.le_refl _,β,F,h3,⟨fun _ _ _ h=>h,bK.refl _,fun _ _ _=>rfl⟩,h4⟩
theorem JS {g:Operand} {args:Array Operand} {x:Value} {out:Out} (h:o3 P E M (some (.aO (.v x))) g args=some out):out.av=.d (.v x)∧out.M=M∧out.mv=[]∧out.rd=none:=by
 unfold o3 at h
 split at h
 ·rename_i f b8 l y _ _ yv
  simp only [Option.some.injEq,aR.aO.injEq] at yv;subst yv
  cases dW:(kZ (DV.v x)&&(l++b8).all qQ) with
  | false=>rw [dW] at h;cases h
  | true=>
   rw [dW] at h
   simp only [cond_true,Option.some.injEq] at h;subst h
   exact ⟨rfl,rfl,rfl,rfl⟩
 ·cases h
theorem Iy (hT:aU P T=true) (cu:jf P cl) {d:Option Tmp} {op:Op} {ty:TypeId} {pos:String} {aft:Array Edge} {gd:Option (Nat×Bool)} {oc:aR} {vc:List Prop} {tc:List Nat} {x:Value} (h:xJ P T cl E M op oc=some (vc,tc,x)):
  tz P ⟨d,op,ty,pos,aft,gd⟩ E M ⟨vc,.d (.v x),M,tc,[],none⟩:=by
 unfold xJ at h
 split at h
 ·split at h
  ·rename_i out hs
   simp only [Option.some.injEq,Prod.mk.injEq] at h
   obtain ⟨rfl,rfl,rfl⟩:=h
   obtain ⟨h1,h2,h3,h4⟩:=JS hs
   obtain ⟨vc,av,M2,tc,mv,rd⟩:=out
   dsimp only at h1 h2 h3 h4
   subst h1 h2 h3 h4
   intro D w0 K0 β F I ρ w C hv
   exact AN hs C hv
  ·cases h
 ·split at h
  ·rename_i hs
   simp only [Option.some.injEq,Prod.mk.injEq] at h
   obtain ⟨rfl,rfl,rfl⟩:=h
   have hd:=oB (P:=P) hT cu (d:=d) (ty:=ty) (pos:=pos) (aft:=aft) (gd:=gd) hs
   have tF:=hd
   obtain ⟨-,h2,h3,-⟩:=tF
   dsimp only at h2 h3
   subst h2 h3
   intro D w0 K0 β F I ρ w C hv
   exact hd.pj C hv
  ·cases h
theorem JT (hT:aU P T=true) (cu:jf P cl) (hK:∀ w,Kp D w0 w→K0 w) {b:et}:∀ (l:List Oper) (i:Nat) (oc:List (Nat×aR)) (s:RS) {s':RS} (a:Act) (w:World),iW P T cl sz ops l i oc s=some s'→c7 mk D w0 K0 sz b s a w→aX s'.vc→(∀ a' w',c7 mk D w0 K0 sz b s' a' w'→Q .normal a' w')→iH P ops Q (l.map (·,false)) a w:=by
 intro l
 induction l with
 | nil=>
  intro i oc s s' a w h R _ k
  simp only [iW,Option.some.injEq] at h
  subst h
  exact k a w R
 | cons o r ih=>
  intro i oc s s' a w h R hv k
  obtain ⟨vc,E,M,tc,mv⟩:=s
  unfold iW at h
  cases hd:fR sz o.dst with
  | false=>simp [hd] at h
  | true=>
   simp only [hd,cond_true] at h
   obtain ⟨size,I,defers,hm,β,F,Rm,b4,hs⟩:=R
   dsimp only at Rm hs hm b4
   simp only [List.map_cons]
   unfold iH
   simp only [cond_false]
   have K8:iW P T cl sz ops r (i+1) oc ⟨vc,gT E o.dst (.d (.v undef)),M,tc,mv⟩=some s'→iH P ops Q (r.map (·,false)) (a.put o.dst undef) w:=by
    intro hr
    obtain ⟨e1,e2,e3⟩:=RE.put (E:=E) size defers hs hd (.d (.v undef))
    exact ih _ _ _ _ _ hr ⟨e1,I,e2,hm,β,F,Rm,b4,e3⟩ hv k
   have fG:∀ out:Out,step P T cl E M (mr oc i) o.op=some out→(bif Nat.ble M.length out.M.length then iW P T cl sz ops r (i+1) oc ⟨vc++out.vc,gT (oZ out.mv E) o.dst out.av,out.M,out.tc++tc,out.mv++mv⟩ else none)=some s'→aT P o a.eval w fun v w'=>iH P ops Q (r.map (·,false)) (a.put o.dst v) w':=by
    intro out bj hr
    cases hb:Nat.ble M.length out.M.length with
    | false=>simp [hb] at hr
    | true=>
    simp only [hb,cond_true] at hr
    have hlen:=Nat.le_of_ble_eq_true hb
    have C:Ctx D w0 K0 E M β F I a.eval w:=⟨Rm,hs,fun _=>rfl,fun _=>rfl,fun _=>rfl,hK⟩
    have lf:=(aX.app.1 (vR _ _ _ _ hr hv)).2
    have:=(oB (P:=P) hT cu (d:=o.dst) (ty:=o.type) (pos:=o.pos) (aft:=o.after) (gd:=o.guard) bj).pj C lf
    refine aT.mono this fun v w' ⟨ax,F',I',R',e,hI,hF,mO⟩=>?_
    have hk:=uF (ρ:=a.eval) e hs
    obtain ⟨e1,e2,e3⟩:=RE.put size (defers.grow hI) (fun t v hx=>(hk t v hx).mono (fun w hw=>⟨hw.1,hI.holds w hw.2⟩) (Ext.refl _)) hd mO
    exact ih _ _ _ _ _ hr ⟨e1,I',e2,Nat.le_trans hm hlen,ax,F',R',b4.step hm e hI hF,e3⟩ hv k
   split at h
   ·rename_i c oo yv
    split at h
    rotate_left
    ·simp at h
    rename_i mN q5 x y want Mv j8
    have fJ:=(aX.app.1 (vR _ _ _ _ h hv)).2
    obtain ⟨hc,c6,-⟩:=fJ
    have C:Ctx D w0 K0 E M β F I a.eval w:=⟨Rm,hs,fun _=>rfl,fun _=>rfl,fun _=>rfl,hK⟩
    unfold Bq at j8
    split at j8
    rotate_left
    ·cases j8
    rename_i j OA hg
    split at j8
    rotate_left
    ·cases j8
    rename_i s0 hj
    cases bp:s0.blt sz with
    | false=>simp [bp] at j8
    | true=>
    simp only [bp,cond_true] at j8
    split at j8
    rotate_left
    ·cases j8
    rename_i y' K9
    simp only [Option.some.injEq,Prod.mk.injEq] at j8
    obtain ⟨rfl,rfl⟩:=j8
    have aI:s0<a.tmps.size:=by rw [size];simpa [Nat.blt_eq] using bp
    have x2:yielded ops a.tmps j=jR y':=by
     rw [y6 hj aI]
     have hr:=hs _ _ K9
     generalize a.eval (.tmp s0)=z at hr
     cases hr with | d hr=>cases hr;rfl
    split
    ·rename_i q6;rw [hg] at q6;cases q6
    ·rename_i j2 OB q6
     rw [hg] at q6;cases q6
     refine ⟨fun hn=>?_,fun hn=>?_⟩
     ·have Dl:c=true:=by rw [← hc,beq_iff_eq,← x2];exact hn
      subst Dl
      have:=Iy hT cu (d:=o.dst) (ty:=o.type) (pos:=o.pos) (aft:=o.after) (gd:=o.guard) Mv C (c6 rfl)
      refine aT.mono this fun v w' ⟨ax,F',I',R',e,hI,hF,mO⟩=>?_
      obtain ⟨e1,e2,e3⟩:=RE.put (E:=E) size (defers.grow hI) (fun t v hx=>(hs t v hx).mono (fun w hw=>⟨hw.1,hI.holds w hw.2⟩) (fun u x hx=>e u x (by simp) hx)) hd mO
      exact ih _ _ _ _ _ h ⟨e1,I',e2,hm,ax,F',R',b4.step (mv':=[]) hm e hI hF,e3⟩ hv k
     ·have Nz:c=false:=by rw [← hc,beq_eq_false_iff_ne,← x2];exact hn
      subst Nz
      obtain ⟨e1,e2,e3⟩:=RE.put (E:=E) size defers hs hd (.d (.v undef))
      exact ih _ _ _ _ _ h ⟨e1,I,e2,hm,β,F,Rm,⟨b4.1,b4.2.1,fun u hu ht=>b4.2.2 u hu fun h'=>ht (List.mem_append_right _ h')⟩,e3⟩ hv k
   split at h
   ·rename_i hw
    have eG:=kh (ops:=ops) size hs hw
    split at h
    ·rename_i out bj
     have Dm:=fG out bj h
     split
     ·exact Dm
     ·rename_i j want hg
      refine ⟨fun _=>Dm,fun hn=>?_⟩
      simp only [Region.wanted,hg,beq_iff_eq] at eG
      exact absurd eG hn
    ·simp at h
   ·rename_i hw
    have eG:=kh (ops:=ops) size hs hw
    split
    ·rename_i hg;simp [Region.wanted,hg] at eG
    ·rename_i j want hg
     refine ⟨fun hn=>?_,fun _=>K8 h⟩
     simp only [Region.wanted,hg,beq_eq_false_iff_ne] at eG
     exact absurd hn eG
   ·simp at h
theorem Mw (hT:aU P T=true) (cu:jf P cl) (hK:∀ w,Kp D w0 w→K0 w) {b:et} {s:RS} (R:c7 mk D w0 K0 sz b s a w) (oc:List (Nat×aR)) {id:Nat} {s':RS} (h:iW P T cl sz ops ops.toList 0 oc s=some s') (hv:aX s'.vc) (k:∀ a' w',c7 mk D w0 K0 sz b s' a' w'→Q .normal a' w'):(Code.region id ops false).wpIn (Fl ro) 0 P Q a w:=
 Eh (JT hT cu hK _ _ _ _ a w h R hv k)
def lX (P:Program) (ops:Array Oper) (Rk:World→Prop) (o:Oper) (v:Value) (a:Act):Prop:=
 (Region.wanted o (yielded ops a.tmps)=true∧∀ w,Rk w→(execOp a.eval o).run P w=.ok (.value v) w)∨(Region.wanted o (yielded ops a.tmps)=false∧v=undef)
theorem lX.wpOp {Rk:World→Prop} {i:Nat} {o:Oper} {v:Value} (hi:ops[i]?=some o) (hy:lX P ops Rk o v a) {K:Act→World→Prop} (hR:Rk w) (h:K (a.put o.dst v) w):Go.wpOpIn (Fl ro) 0 P ops Q i K a w:=by
 unfold Go.wpOpIn
 simp only [hi]
 rcases hy with hy | ⟨hy,rfl⟩
 ·simp only [hy.1,if_true]
  refine ⟨fun _ _=>trivial,?_⟩
  rw [show (Fl ro).round=ro from rfl,H4 (hy.2 w hR)];exact h
 ·simp only [hy,Bool.false_eq_true,if_false];exact ⟨fun _ _=>trivial,h⟩
theorem yO {Rk:World→Prop} {i:Nat} {oi:Oper} {v:Value} (hi:ops[i]?=some oi) (gU:∀ (j:Nat) (o:Oper) cs b,ops[j]?=some o→o.op≠.select cs b)
  (hQ:∀ c a w,Q (.panic c) (a.put oi.dst v) w→Q (.panic c) a w):
  ∀ (fuel:Nat) (L:Array Bool) (a:Act) (w:World),
   (∀ j oj,ops[j]?=some oj→j≠i→L.getD j true=false→(∀ e ∈ oj.after,Region.binds .any e=true→e.on≠i)→oi.apart ops oj=true)→
   i ∈ Region.ready .any ops L→lX P ops Rk oi v a→
   jP ro P ops Q Rk fuel (L.setIfInBounds i true) (a.put oi.dst v) w→jP ro P ops Q Rk (fuel+1) L a w:=by
 intro fuel
 induction fuel with
 | zero=>
  intro L a w _ hr hy H
  refine ⟨H.rk,fun h=>(by rw [h] at hr;cases hr),fun j hj=>?_⟩
  by_cases fY:j=i
  ·subst fY;exact hy.wpOp hi H.rk H
  ·have:=ready_mono hj fY
   rw [H.2.1] at this
   cases this
 | succ fuel ih=>
  intro L a w k4 hr hy H
  refine ⟨H.rk,fun h=>(by rw [h] at hr;cases hr),fun j hj=>?_⟩
  by_cases fY:j=i
  ·subst fY;exact hy.wpOp hi H.rk H
  ·have h1:=H.2.2 j (ready_mono hj fY)
   obtain ⟨qI,oj,mP,gj⟩:=mem_ready.1 hj
   have td:∀ e ∈ oj.after,Region.binds .any e=true→e.on≠i:=fun e he hb heq=>by
    have h1:=gj e he hb
    have h0:=(mem_ready.1 hr).1
    rw [heq] at h1
    rcases Nat.lt_or_ge i L.size with h' | h'
    ·simp [h'] at h0 h1;rw [h0] at h1;cases h1
    ·simp [Array.getElem?_eq_none h'] at h1
   have lx:=k4 j oj mP fY qI td
   obtain ⟨_,_,h3⟩:=Oper.apart_spec lx
   have h2:=yR (Y:=lX P ops Rk oi v) mP lx (fun cs b=>gU j oj cs b mP)
    (fun a hy u=>by unfold lX at *;rw [execOp_put oi (fun cs b=>gU i oi cs b hi) a oj.dst u h3,wanted_put oi a oj.dst u h3];exact hy) (fun a d hy=>hy) hQ hy h1
   have vS:∀ k ok,ops[k]?=some ok→k≠i→(L.setIfInBounds j true).getD k true=false→
     (∀ e ∈ ok.after,Region.binds .any e=true→e.on≠i)→oi.apart ops ok=true:=fun k ok hk yw lD jj=>by
    refine k4 k ok hk yw ?_ jj
    by_cases mL:j=k
    ·subst mL;exact qI
    ·rw [getD_set_ne true mL] at lD;exact lD
   refine wpOpIn_mono (fun a' w' h3=>ih (L.setIfInBounds j true) a' w' vS (ready_mono hr (Ne.symm fY)) h3.1 ?_) h2
   rw [Array.setIfInBounds_comm _ _ fY]
   exact h3.2
def kV:Op→Bool
 | .move _=>true
 | .assign _=>true
 | .pick _ _ _=>true
 | .load _ _=>true
 | .nilCheck _=>true
 | .binOp _ _ _ _ _=>true
 | .unOp _ _ _=>true
 | .fieldAddr _ _ _=>true
 | .indexAddr _ _ _=>true
 | .extract _ _=>true
 | .makeFunc _ _ _=>true
 | .build _ _=>true
 | .slice _ _ _ _ _=>true
 | .index _ _ _=>true
 | .field _ _ _=>true
 | .convert _ _ _=>true
 | .call ⟨.builtin .len,_,_⟩=>true
 | _=>false
def lR (ops:Array Oper) (L:Array Bool):List Nat→Option Nat
 | []=>none
 | i::r=>(match ops[i]? with | some o=>bif kV o.op&&Region.free .any ops L i then some i else lR ops L r | none=>lR ops L r)
inductive q7 where
 | fin
 | look (i:Nat)
 | one (i:Nat)
 | bad
def qJ (ops:Array Oper) (L:Array Bool):List Nat→q7
 | []=>.fin
 | [i]=>.one i
 | i::k::r=>(match lR ops L (i::k::r) with
  | some j=>.look j
  | none=>.bad)
def q8 (ops:Array Oper) (L:Array Bool):q7:=qJ ops L (Region.ready .any ops L)
def xK (rd tc:List Nat):Bool:=rd.all fun u=>!(tc.elem u)
def mw (ops:Array Oper) (k i:Nat):Bool:=match ops[k]? with
 | some o=>!(kV o.op)&&o.after.any fun e=>Region.binds .any e&&Nat.beq e.on i
 | none=>false
def iy (ops:Array Oper) (i:Nat) (L:Array Bool):Bool:=(List.range ops.size).all fun k=>!(mw ops k i&&L.getD k true)
theorem zc {i:Nat} {L:Array Bool}:iy ops i L=true↔∀ k,k<ops.size→mw ops k i=true→L.getD k true=false:=by
 unfold iy
 rw [List.all_eq_true]
 constructor
 ·intro h k hk hd
  have:=h k (List.mem_range.2 hk)
  rw [hd] at this;simpa using this
 ·intro h k hk
  cases hd:mw ops k i with
  | false=>rfl
  | true=>rw [h k (List.mem_range.1 hk) hd];rfl
theorem p3 {i j:Nat} {L:Array Bool} (hd:mw ops j i=false) (h:iy ops i L=true):iy ops i (L.setIfInBounds j true)=true:=by
 rw [zc] at *
 intro k hk eM
 rw [getD_set_ne true (fun e=>by subst e;rw [hd] at eM;cases eM)]
 exact h k hk eM
theorem r3 {i j:Nat} {o:Oper} (ho:ops[j]?=some o) (hp:kV o.op=true):mw ops j i=false:=by unfold mw;rw [ho];simp [hp]
theorem JU {i j:Nat} {o:Oper} (ho:ops[j]?=some o) (jj:∀ e ∈ o.after,Region.binds .any e=true→e.on≠i):mw ops j i=false:=by
 unfold mw;rw [ho]
 simp only [Bool.and_eq_false_iff]
 refine .inr ?_
 rw [Array.any_eq_false]
 intro q hq h
 simp only [Bool.and_eq_true] at h
 exact jj _ (Array.getElem_mem hq) h.1 (Nat.eq_of_beq_eq_true h.2)
def Sub (L L':Array Bool):Prop:=∀ k,L.getD k true=true→L'.getD k true=true
theorem Sub.refl (L:Array Bool):Sub L L:=fun _ h=>h
theorem Sub.sx {L L':Array Bool} {j:Nat} (h:Sub (L.setIfInBounds j true) L'):Sub L L':=fun k hk=>h k (by
 by_cases e:j=k
 ·subst e
  rcases Nat.lt_or_ge j L.size with h' | h'
  ·simp [h']
  ·simp [h']
 ·rw [getD_set_ne true e];exact hk)
theorem EP {i:Nat} {L L':Array Bool} (h:Sub L L') (ha:iy ops i L'=true):iy ops i L=true:=by
 rw [zc] at *
 intro k hk hd
 cases e:L.getD k true with
 | false=>rfl
 | true=>have h1:=ha k hk hd;rw [h k e] at h1;cases h1
def wX (ops:Array Oper) (L:Array Bool) (rd:List (Nat×Nat)) (tc:List Nat):Bool:=rd.all fun q=>!(tc.elem q.2)||!(iy ops q.1 L)
def jS (ro:Option Nat) (P:Program) (ops:Array Oper) (Q:Exit→Act→World→Prop) (Rk:Array Bool→World→Prop):Nat→Array Bool→Act→World→Prop
 | 0,L,a,w=>Rk L w∧Region.ready .any ops L=[]∧Q .normal a w
 | fuel+1,L,a,w=>Rk L w∧(Region.ready .any ops L=[]→Q .normal a w)∧∀ i ∈ Region.ready .any ops L,wpOpIn (Fl ro) 0 P ops Q i (jS ro P ops Q Rk fuel (L.setIfInBounds i true)) a w
theorem jS.rk {Rk:Array Bool→World→Prop} {fuel:Nat} {L:Array Bool} {a:Act} {w:World} (h:jS ro P ops Q Rk fuel L a w):Rk L w:=by cases fuel<;>exact h.1
theorem jS.to {Rk:Array Bool→World→Prop}:∀ {fuel:Nat} {L:Array Bool} {a:Act} {w:World},jS ro P ops Q Rk fuel L a w→wpAnyIn (Fl ro) 0 P .any ops Q fuel L a w
 | 0,_,_,_,h=>h.2
 | _+1,_,_,_,h=>⟨h.2.1,fun i hi=>wpOpIn_mono (fun _ _ h=>jS.to h) (h.2.2 i hi)⟩
theorem yU {Rk qM:Array Bool→World→Prop} (h:∀ L w,qM L w→Rk L w):∀ {fuel:Nat} {L:Array Bool} {a:Act} {w:World},jS ro P ops Q qM fuel L a w→jS ro P ops Q Rk fuel L a w
 | 0,_,_,_,k=>⟨h _ _ k.1,k.2⟩
 | _+1,_,_,_,k=>⟨h _ _ k.1,k.2.1,fun i hi=>wpOpIn_mono (fun _ _ k=>yU h k) (k.2.2 i hi)⟩
theorem yQ {Rk:Array Bool→World→Prop} {S:World→Prop} {i:Nat} {oi:Oper} {v:Value} (hi:ops[i]?=some oi) (hp:kV oi.op=true) (gU:∀ (j:Nat) (o:Oper) cs b,ops[j]?=some o→o.op≠.select cs b)
  (hQ:∀ c a w,Q (.panic c) (a.put oi.dst v) w→Q (.panic c) a w) (Dn:∀ L w,iy ops i L=true→Rk L w→S w) (B3:∀ L w,Rk (L.setIfInBounds i true) w→Rk L w):
  ∀ (fuel:Nat) (L:Array Bool) (a:Act) (w:World),
   (∀ j oj,ops[j]?=some oj→j≠i→L.getD j true=false→(∀ e ∈ oj.after,Region.binds .any e=true→e.on≠i)→oi.apart ops oj=true)→
   i ∈ Region.ready .any ops L→iy ops i L=true→lX P ops S oi v a→
   jS ro P ops Q Rk fuel (L.setIfInBounds i true) (a.put oi.dst v) w→jS ro P ops Q Rk (fuel+1) L a w:=by
 intro fuel
 induction fuel with
 | zero=>
  intro L a w _ hr dy hy H
  refine ⟨B3 _ _ H.rk,fun h=>(by rw [h] at hr;cases hr),fun j hj=>?_⟩
  by_cases fY:j=i
  ·subst fY;exact hy.wpOp hi (Dn _ _ (p3 (r3 hi hp) dy) H.rk) H
  ·have:=ready_mono hj fY
   rw [H.2.1] at this
   cases this
 | succ fuel ih=>
  intro L a w k4 hr dy hy H
  refine ⟨B3 _ _ H.rk,fun h=>(by rw [h] at hr;cases hr),fun j hj=>?_⟩
  by_cases fY:j=i
  ·subst fY;exact hy.wpOp hi (Dn _ _ (p3 (r3 hi hp) dy) H.rk) H
  ·have h1:=H.2.2 j (ready_mono hj fY)
   obtain ⟨qI,oj,mP,gj⟩:=mem_ready.1 hj
   have td:∀ e ∈ oj.after,Region.binds .any e=true→e.on≠i:=fun e he hb heq=>by
    have h1:=gj e he hb
    have h0:=(mem_ready.1 hr).1
    rw [heq] at h1
    rcases Nat.lt_or_ge i L.size with h' | h'
    ·simp [h'] at h0 h1;rw [h0] at h1;cases h1
    ·simp [Array.getElem?_eq_none h'] at h1
   have lx:=k4 j oj mP fY qI td
   obtain ⟨_,_,h3⟩:=Oper.apart_spec lx
   have h2:=yR (Y:=lX P ops S oi v) mP lx (fun cs b=>gU j oj cs b mP)
    (fun a hy u=>by unfold lX at *;rw [execOp_put oi (fun cs b=>gU i oi cs b hi) a oj.dst u h3,wanted_put oi a oj.dst u h3];exact hy) (fun a d hy=>hy) hQ hy h1
   have vS:∀ k ok,ops[k]?=some ok→k≠i→(L.setIfInBounds j true).getD k true=false→
     (∀ e ∈ ok.after,Region.binds .any e=true→e.on≠i)→oi.apart ops ok=true:=fun k ok hk yw lD jj=>by
    refine k4 k ok hk yw ?_ jj
    by_cases mL:j=k
    ·subst mL;exact qI
    ·rw [getD_set_ne true mL] at lD;exact lD
   refine wpOpIn_mono (fun a' w' h3=>ih (L.setIfInBounds j true) a' w' vS (ready_mono hr (Ne.symm fY)) (p3 (JU mP td) dy) h3.1 ?_) h2
   rw [Array.setIfInBounds_comm _ _ fY]
   exact h3.2
def La (ops:Array Oper) (K0:World→Prop) (I:ak) (F:Nat→ak) (rd:List (Nat×Nat)) (L:Array Bool) (w:World):Prop:=(K0 w∧Holds w I)∧∀ q ∈ rd,iy ops q.1 L=true→Holds w (F q.2)
def jy (P:Program) (T:aJ) (cl:fq) (sz:Nat) (ops:Array Oper) (oc:List (Nat×aR)):Nat→Array Bool→List (Nat×Nat)→RS→Option RS
 | 0,L,_,s=>(match q8 ops L with | .fin=>some s | _=>none)
 | fuel+1,L,rd,⟨vc,E,M,tc,mv⟩=>
  match q8 ops L with
  | .fin=>some ⟨vc,E,M,tc,mv⟩
  | .bad=>none
  | .look i=>(match ops[i]? with
   | some o=>(bif fR sz o.dst&&(kV o.op&&iy ops i L) then (match mb sz ops E o.guard with
    | some true=>(match step P T cl E M (mr oc i) o.op with
     | some ⟨mN,av,_,_,_,some j9⟩=>jy P T cl sz ops oc fuel (L.setIfInBounds i true) (j9.map (fun u=>(i,u))++rd) ⟨vc++mN,gT E o.dst av,M,tc,mv⟩
     | _=>none)
    | some false=>jy P T cl sz ops oc fuel (L.setIfInBounds i true) rd ⟨vc,gT E o.dst (.d (.v undef)),M,tc,mv⟩
    | none=>none) else none)
   | none=>none)
  | .one i=>(match ops[i]? with
   | some o=>(bif fR sz o.dst then (match mb sz ops E o.guard with
    | some true=>(match step P T cl E M (mr oc i) o.op with
     | some out=>(bif wX ops (L.setIfInBounds i true) rd out.tc&&Nat.ble M.length out.M.length then jy P T cl sz ops oc fuel (L.setIfInBounds i true) rd ⟨vc++out.vc,gT (oZ out.mv E) o.dst out.av,out.M,out.tc++tc,out.mv++mv⟩ else none)
     | none=>none)
    | some false=>jy P T cl sz ops oc fuel (L.setIfInBounds i true) rd ⟨vc,gT E o.dst (.d (.v undef)),M,tc,mv⟩
    | none=>none) else none)
   | none=>none)
theorem oa {L:Array Bool}:∀ {r:List Nat} {i:Nat},lR ops L r=some i→i ∈ r∧∃ o,ops[i]?=some o∧Region.free .any ops L i=true
 | [],_,h=>by simp [lR] at h
 | j::r,i,h=>by
  unfold lR at h
  split at h
  ·rename_i o ho
   cases hc:(kV o.op&&Region.free .any ops L j) with
   | true=>simp only [hc,cond_true,Option.some.injEq] at h;subst h;simp only [Bool.and_eq_true] at hc;exact ⟨List.mem_cons_self,o,ho,hc.2⟩
   | false=>simp only [hc,cond_false] at h;exact ⟨List.mem_cons_of_mem _ (oa h).1,(oa h).2⟩
  ·exact ⟨List.mem_cons_of_mem _ (oa h).1,(oa h).2⟩
theorem u7 {L:Array Bool} {r:List Nat} {n:q7}:qJ ops L r=n→match n with | .fin=>r=[] | .look i=>i ∈ r∧∃ o,ops[i]?=some o∧Region.free .any ops L i=true | .one i=>r=[i] | .bad=>True:=by
 intro h
 match r,h with
 | [],h=>simp only [qJ] at h;subst h;rfl
 | [i],h=>simp only [qJ] at h;subst h;rfl
 | i::k::r,h=>
  rw [qJ] at h
  cases hf:lR ops L (i::k::r) with
  | some j=>rw [hf] at h;subst h;exact oa hf
  | none=>rw [hf] at h;subst h;trivial
theorem A2 {L:Array Bool} (h:q8 ops L=.fin):Region.ready .any ops L=[]:=u7 h
theorem G9 {L:Array Bool} {i:Nat} (h:q8 ops L=.look i):i ∈ Region.ready .any ops L∧∃ o,ops[i]?=some o∧Region.free .any ops L i=true:=u7 h
theorem Iz {L:Array Bool} {i:Nat} (h:q8 ops L=.one i):Region.ready .any ops L=[i]:=u7 h
theorem u9 {oc:List (Nat×aR)}:∀ (fuel:Nat) (L:Array Bool) (rd:List (Nat×Nat)) (s:RS) {s':RS},jy P T cl sz ops oc fuel L rd s=some s'→aX s'.vc→aX s.vc:=by
 intro fuel
 induction fuel with
 | zero=>
  intro L rd s s' h hv
  unfold jy at h
  split at h
  ·simp only [Option.some.injEq] at h;subst h;exact hv
  ·simp at h
 | succ fuel ih=>
  intro L rd s s' h hv
  obtain ⟨vc,E,M,tc,mv⟩:=s
  unfold jy at h
  split at h
  ·simp only [Option.some.injEq] at h;subst h;exact hv
  ·simp at h
  ·rename_i i _
   split at h
   ·rename_i o ho
    cases hd:(fR sz o.dst&&(kV o.op&&iy ops i L)) with
    | false=>simp [hd] at h
    | true=>
     simp only [hd,cond_true] at h
     split at h
     ·split at h
      ·exact (aX.app.1 (ih _ _ _ h hv)).1
      ·simp at h
     ·have:=ih _ _ _ h hv;exact this
     ·simp at h
   ·simp at h
  ·rename_i i _
   split at h
   ·rename_i o ho
    cases hd:fR sz o.dst with
    | false=>simp [hd] at h
    | true=>
     simp only [hd,cond_true] at h
     split at h
     ·split at h
      ·rename_i out _
       cases hc:(wX ops (L.setIfInBounds i true) rd out.tc&&Nat.ble M.length out.M.length) with
       | false=>simp [hc] at h
       | true=>simp only [hc,cond_true] at h;exact (aX.app.1 (ih _ _ _ h hv)).1
      ·simp at h
     ·have:=ih _ _ _ h hv;exact this
     ·simp at h
   ·simp at h
theorem IA (hT:aU P T=true) (cu:jf P cl) {b:et} (hK:∀ w,Kp D w0 w→K0 w) (gU:Region.noSelect ops=true) (hQ:∀ d v c a w,Q (.panic c) (Act.put a d v) w→Q (.panic c) a w) {oc:List (Nat×aR)}:
  ∀ (fuel:Nat) (L:Array Bool) (rd:List (Nat×Nat)) (s:RS) {s':RS} (Rk:Array Bool→World→Prop) (β:Beta) (F:Nat→ak) (I:ak) (a:Act) (w:World),jy P T cl sz ops oc fuel L rd s=some s'→a.tmps.size=sz→Mk mk a.defers I→b.m≤s.M.length→RM D w0 K0 s.M β F I w→Since b s.mv s.tc β F I→
   (∀ t v,bS s.E t=some v→au (fun w=>K0 w∧Holds w I) β v (a.eval (.tmp t)))→(∀ q ∈ rd,q.2<s.M.length)→(∀ L' w,Sub L L'→La ops K0 I F rd L' w→Rk L' w)→(∀ (j:Nat) oj,ops[j]?=some oj→kV oj.op=true→∀ L' w,Rk (L'.setIfInBounds j true) w→Rk L' w)→aX s'.vc→(∀ a' w',c7 mk D w0 K0 sz b s' a' w'→Q .normal a' w')→jS ro P ops Q Rk fuel L a w:=by
 intro fuel
 induction fuel with
 | zero=>
  intro L rd s s' Rk β F I a w h size defers hm Rm b4 hs dO fK nS hv k
  obtain ⟨vc,E,M,tc,mv⟩:=s
  have C:Ctx D w0 K0 E M β F I a.eval w:=⟨Rm,hs,fun _=>rfl,fun _=>rfl,fun _=>rfl,hK⟩
  have hR:=fK L w (Sub.refl L) ⟨C.now,fun q hq _=>C.rm.iu (List.getElem?_eq_getElem (dO q hq))⟩
  unfold jy at h
  split at h
  ·rename_i hn
   simp only [Option.some.injEq] at h;subst h
   exact ⟨hR,A2 hn,k a w ⟨size,I,defers,hm,β,F,Rm,b4,hs⟩⟩
  ·simp at h
 | succ fuel ih=>
  intro L rd s s' Rk β F I a w h size defers hm Rm b4 hs dO fK nS hv k
  obtain ⟨vc,E,M,tc,mv⟩:=s
  dsimp only at hm Rm b4 hs dO fK
  have C:Ctx D w0 K0 E M β F I a.eval w:=⟨Rm,hs,fun _=>rfl,fun _=>rfl,fun _=>rfl,hK⟩
  have hR:=fK L w (Sub.refl L) ⟨C.now,fun q hq _=>C.rm.iu (List.getElem?_eq_getElem (dO q hq))⟩
  unfold jy at h
  split at h
  ·rename_i hn
   simp only [Option.some.injEq] at h;subst h
   have hn:=A2 hn
   exact ⟨hR,fun _=>k a w ⟨size,I,defers,hm,β,F,Rm,b4,hs⟩,fun i hi=>by rw [hn] at hi;cases hi⟩
  ·simp at h
  ·rename_i i hn
   obtain ⟨q9,o',NA,k4⟩:=G9 hn
   split at h
   ·rename_i o ho
    cases tG:(fR sz o.dst&&(kV o.op&&iy ops i L)) with
    | false=>simp [tG] at h
    | true=>
     simp only [tG,cond_true] at h
     simp only [Bool.and_eq_true] at tG
     obtain ⟨hd,rh,dy⟩:=tG
     have nH:=fun j oj hj jC lD jj=>Region.free_spec ho k4 j oj hj jC lD jj
     split at h
     ·rename_i hw
      have eG:=kh (ops:=ops) size hs hw
      split at h
      ·rename_i mN av _ _ _ j9 bj
       have nT:=oB (P:=P) hT cu (d:=o.dst) (ty:=o.type) (pos:=o.pos) (aft:=o.after) (gd:=o.guard) bj
       obtain ⟨xL,rfl,-,aI⟩:=nT
       have lf:=(aX.app.1 (u9 _ _ _ _ h hv)).2
       obtain ⟨v,lb,kx⟩:=xL C lf
       obtain ⟨e1,e2,e3⟩:=RE.put (E:=E) size defers hs hd lb
       have kq:=ih (L.setIfInBounds i true) _ _ (fun L w=>Rk L w∧(iy ops i L=true→iA K0 I F j9 w)) β F I (a.put o.dst v) w h e1 e2 hm Rm b4 e3 (fun q hq=>by
         rcases List.mem_append.1 hq with e | e
         ·obtain ⟨u,hu,rfl⟩:=List.mem_map.1 e;exact aI u hu
         ·exact dO q e)
        (fun L' w hL hw=>⟨fK L' w hL.sx ⟨hw.1,fun q hq=>hw.2 q (List.mem_append_right _ hq)⟩,fun ha=>⟨hw.1,fun u hu=>hw.2 (i,u) (List.mem_append_left _ (List.mem_map.2 ⟨u,hu,rfl⟩)) ha⟩⟩)
        (fun j oj hj Dp L' w hw=>⟨nS j oj hj Dp L' w hw.1,fun ha=>hw.2 (p3 (r3 hj Dp) ha)⟩) hv k
       exact yU (fun L w hw=>hw.1) (yQ ho rh (Region.noSelect_spec gU) (hQ o.dst v) (fun L w ha hw=>hw.2 ha) (fun L w hw=>⟨nS i o ho rh L w hw.1,fun ha=>hw.2 (p3 (r3 ho rh) ha)⟩) _ L a w nH q9 dy (Or.inl ⟨eG,fun w' dt=>kx w' dt⟩) kq)
      ·simp at h
     ·rename_i hw
      have eG:=kh (ops:=ops) size hs hw
      obtain ⟨e1,e2,e3⟩:=RE.put (E:=E) size defers hs hd (.d (.v undef))
      have kq:=ih (L.setIfInBounds i true) _ _ Rk β F I (a.put o.dst undef) w h e1 e2 hm Rm b4 e3 dO (fun L' w hL=>fK L' w hL.sx) nS hv k
      exact yQ (S:=fun _=>True) ho rh (Region.noSelect_spec gU) (hQ o.dst undef) (fun _ _ _ _=>trivial) (nS i o ho rh) _ L a w nH q9 dy (Or.inr ⟨eG,rfl⟩) kq
     ·simp at h
   ·simp at h
  ·rename_i i hn
   have dw:=Iz hn
   split at h
   ·rename_i o ho
    cases hd:fR sz o.dst with
    | false=>simp [hd] at h
    | true=>
     simp only [hd,cond_true] at h
     refine ⟨hR,fun h0=>(by rw [dw] at h0;simp at h0),fun j hj=>?_⟩
     rw [dw] at hj
     obtain rfl:=List.mem_singleton.1 hj
     unfold wpOpIn
     simp only [ho]
     split at h
     ·rename_i hw
      have eG:=kh (ops:=ops) size hs hw
      simp only [eG,if_true]
      split at h
      ·rename_i out bj
       cases hc:(wX ops (L.setIfInBounds j true) rd out.tc&&Nat.ble M.length out.M.length) with
       | false=>simp [hc] at h
       | true=>
        simp only [hc,cond_true] at h
        simp only [Bool.and_eq_true] at hc
        have hlen:=Nat.le_of_ble_eq_true hc.2
        have lf:=(aX.app.1 (u9 _ _ _ _ h hv)).2
        have nT:=(oB (P:=P) hT cu (d:=o.dst) (ty:=o.type) (pos:=o.pos) (aft:=o.after) (gd:=o.guard) bj).pj C lf
        refine aT.wp nT ?_
        rintro v w' ⟨ax,F',I',R',e,hI,hF,mO⟩
        have hk:=uF (ρ:=a.eval) e hs
        obtain ⟨e1,e2,e3⟩:=RE.put size (defers.grow hI) (fun t v hx=>(hk t v hx).mono (fun w hw=>⟨hw.1,hI.holds w hw.2⟩) (Ext.refl _)) hd mO
        refine ih (L.setIfInBounds j true) _ _ Rk ax F' I' (a.put o.dst v) w' h e1 e2 (Nat.le_trans hm hlen) R' (b4.step hm e hI hF) e3 (fun q hq=>Nat.lt_of_lt_of_le (dO q hq) hlen) (fun L' w hL hw=>fK L' w hL.sx ⟨⟨hw.1.1,hI.holds w hw.1.2⟩,fun q hq ha=>?_⟩) nS hv k
        have yz:q.2 ∉ out.tc:=by
         have h1:=List.all_eq_true.1 hc.1 q hq
         rw [EP hL ha] at h1
         simpa using h1
        rw [← hF q.2 (dO q hq) yz];exact hw.2 q hq ha
      ·simp at h
     ·rename_i hw
      have eG:=kh (ops:=ops) size hs hw
      simp only [eG,Bool.false_eq_true,if_false]
      obtain ⟨e1,e2,e3⟩:=RE.put (E:=E) size defers hs hd (.d (.v undef))
      exact ⟨fun _ _=>trivial,ih (L.setIfInBounds j true) _ _ Rk β F I (a.put o.dst undef) w h e1 e2 hm Rm b4 e3 dO (fun L' w hL=>fK L' w hL.sx) nS hv k⟩
     ·simp at h
   ·simp at h
theorem Mx (hT:aU P T=true) (cu:jf P cl) (hm:P.follows .mixedOrders=true) (hK:∀ w,Kp D w0 w→K0 w) (hQ:∀ d v c a w,Q (.panic c) (Act.put a d v) w→Q (.panic c) a w) {b:et} {s:RS} (R:c7 mk D w0 K0 sz b s a w) (oc:List (Nat×aR)) {id:Nat} {s':RS} (gU:Region.noSelect ops=true)
  (h:jy P T cl sz ops oc ops.size (Array.replicate ops.size false) [] s=some s') (hv:aX s'.vc) (k:∀ a' w',c7 mk D w0 K0 sz b s' a' w'→Q .normal a' w'):(Code.region id ops true).wpIn (Fl ro) 0 P Q a w:=by
 refine wpIn_region_any hm ?_
 obtain ⟨size,I,defers,hb,β,F,Rm,b4,hs⟩:=R
 have hg:=Gr.drew w
 exact (IA hT cu hK gU hQ ops.size _ [] s (fun _ _=>True) β F I a w.drew h size defers hb (Rm.gr hg) b4 hs (by simp) (fun _ _ _ _=>trivial) (fun _ _ _ _ _ _ _=>trivial) hv k).to
end Go.Proofs.YtcnpikbbmbombaaDoor
namespace Go.Proofs.YtcnpikbbmbombaaDoor
open Go.RowKit
inductive e7 where
 | ends (R:Ending→World→Prop)
 | arr (l:Nat) (k:List Item) (Q:Act→World→Prop)
def e7.ro:e7→Option Nat
 | .ends _=>none
 | .arr l _ _=>some l
def e7.met (P:Program) (f:FuncId) (b:Frame) (cs:List Frame):e7→Machine→Prop
 | .ends R,s=>∃ e w' fr,R e w'∧Comes P s (lone fr cs w') e∧fr.fn=f∧fr.leaving P w' e
 | .arr _ k Q,s=>∃ a' w',Q a' w'∧Steps P s (lone (b.atR a' k) cs w')
theorem e7.met.of {P:Program} {f:FuncId} {b:Frame} {cs:List Frame} {G:e7} {s s':Machine} (h:Steps P s s') (g:G.met P f b cs s'):G.met P f b cs s:=by
 cases G with
 | ends R=>obtain ⟨e,w',fr,h1,h2,h3⟩:=g;exact ⟨e,w',fr,h1,.of_steps h h2,h3⟩
 | arr l k Q=>obtain ⟨a',w',h1,h2⟩:=g;exact ⟨a',w',h1,h.trans h2⟩
def aD (P:Program) (f:FuncId) (todo:List Item) (R:e7) (a:Act) (w:World):Prop:=
 ∀ (b:Frame) (cs:List Frame),b.fn=f→b.kind=.normal→b.roundOf=R.ro→R.met P f b cs (lone (b.atR a todo) cs w)
section
variable {mk:Bool} {P:Program} {f:FuncId} {R:e7} {Re:Ending→World→Prop} {a a':Act} {w w':World} {todo todo':List Item}
theorem aD.step (h:∀ (b:Frame) cs,Go.step P (lone (b.atR a todo) cs w)=.next (lone (b.atR a' todo') cs w')) (g:aD P f todo' R a' w'):aD P f todo R a w:=
 fun b cs hb hk hr=>(g b cs hb hk hr).of (.one (h b cs))
theorem aD.code {c:Code} {k:List Item} (h:c.wpIn (Fl R.ro) 0 P (fun e a w=>e=.normal∧aD P f k R a w) a w):aD P f (.code c::k) R a w:=by
 intro b cs hb hk hr
 obtain ⟨e,a1,w1,⟨rfl,hg⟩,My⟩:=h b k cs hr trivial (fun d hd=>by cases hd)
 exact (hg b cs hb hk hr).of (stepsIn_wide.1 My)
theorem aD.ret {fn:Func} {k:List Item} (hf:P.funcs[f]?=some fn) (hd:a.defers=[]) {v:Value} (hr:(results fn a.tmps).run P w=.ok v w) (h:Re (.returned v) w):aD P f (.code .ret::k) (.ends Re) a w:=by
 intro b cs hb hk lE
 rw [Frame.atR_of_none lE]
 exact ⟨.returned v,w,{ b.at a (.code .ret::k) with mode:=.returning },h,.of_steps (.one step_ret) (Steps.refl P _),hb,rfl,hd,hk,fn,by rw [← hb] at hf;exact hf,hr⟩
theorem aD.fin {fn:Func} (hf:P.funcs[f]?=some fn) (hd:a.defers=[]) {v:Value} (hr:(results fn a.tmps).run P w=.ok v w) (h:Re (.returned v) w):aD P f [] (.ends Re) a w:=by
 intro b cs hb hk lE
 rw [Frame.atR_of_none lE]
 exact ⟨.returned v,w,{ b.at a [] with mode:=.returning },h,.of_steps (.one step_end) (Steps.refl P _),hb,rfl,hd,hk,fn,by rw [← hb] at hf;exact hf,hr⟩
theorem aD.Br {l:Nat} {k:List Item} {Q:Act→World→Prop} (h:Q a w):aD P f k (.arr l k Q) a w:=fun _ _ _ _ _=>⟨a,w,h,Steps.refl P _⟩
theorem pR {fn:Func} {c:Code} {args:Array Value} (hf:P.funcs[f]?=some fn) (hb:fn.body=some c) (h:aD P f [.code c] (.ends Re) { tmps:=args++Array.replicate (fn.ntmps-args.size) undef,defers:=[] } w):Calls P f args w Re:=by
 intro cs
 let b:Frame:={ (default:Frame) with fn:=f,kind:=.normal,roundOf:=none }
 have JV:Frame.enter P f args .normal=b.atR { tmps:=args++Array.replicate (fn.ntmps-args.size) undef,defers:=[] } [.code c]:=by
  simp [Frame.enter,Frame.atR,hf,hb,b]
 rw [JV]
 exact h b cs rfl rfl rfl
theorem aD.loop {c:Code} {k:List Item} (h:aD P f (.code c::.inLoop c::k) R a w):aD P f (.code (.loop c)::k) R a w:=aD.step (fun _ _=>stepR_loop) h
theorem aD.again {c:Code} {k:List Item} (h:aD P f (.code c::.inLoop c::k) R a w):aD P f (.inLoop c::k) R a w:=aD.step (fun _ _=>stepR_inLoop) h
theorem aD.rounds {Φ:Nat→Act→World→Prop} (n:Nat) (h:∀ i,i≤n→(i<n→∀ a w,Φ (i+1) a w→aD P f todo R a w)→∀ a w,Φ i a w→aD P f todo R a w) {i:Nat} (hi:i≤n) (h0:Φ i a w):aD P f todo R a w:=by
 have key:∀ m i,i≤n→n-i=m→∀ a w,Φ i a w→aD P f todo R a w:=by
  intro m
  induction m with
  | zero=>intro i hi hm;exact h i hi fun aI=>by omega
  | succ m ih=>intro i hi hm;exact h i hi fun aI=>ih (i+1) aI (by omega)
 exact key _ i hi rfl a w h0
end
abbrev dj:=List (Nat×List (Nat×aR))
def xM:dj→Nat→List (Nat×aR)
 | [],_=>[]
 | (k,v)::r,s=>bif k.beq s then v else xM r s
def sy (P:Program) (T:aJ) (cl:fq) (sz:Nat) (ops:Array Oper) (draw:Bool) (oc:List (Nat×aR)) (s:RS):Option RS:=
 bif draw then (bif Region.noSelect ops then jy P T cl sz ops oc ops.size (Array.replicate ops.size false) [] s else none)
 else iW P T cl sz ops ops.toList 0 oc s
def dr (P:Program) (T:aJ) (cl:fq) (sz:Nat) (tb:dj):Nat→List Item→RS→Option (List Item×RS)
 | 0,todo,s=>some (todo,s)
 | n+1,todo,s=>
  match todo with
  | .code .skip::k=>dr P T cl sz tb n k s
  | .code (.label _)::k=>dr P T cl sz tb n k s
  | .inBlock _::k=>dr P T cl sz tb n k s
  | .code (.seq x y)::k=>dr P T cl sz tb n (.code x::.code y::k) s
  | .code (.cond c x y)::k=>(match kW (aE s.E c) with
   | some true=>dr P T cl sz tb n (.code x::k) s
   | some false=>dr P T cl sz tb n (.code y::k) s
   | none=>some (todo,s))
  | .code (.block id c)::k=>dr P T cl sz tb n (.code c::.inBlock id::k) s
  | .code (.exit id)::k=>(match exitTo id k with
   | some k'=>dr P T cl sz tb n k' s
   | none=>none)
  | .code (.region id ops draw)::k=>(match sy P T cl sz ops draw (xM tb id) s with
   | some s'=>dr P T cl sz tb n k s'
   | none=>none)
  | _=>some (todo,s)
variable {mk:Bool} {P:Program} {T:aJ} {cl:fq} {f:FuncId} {R:e7} {a:Act} {w:World} {D:List Nat} {w0:World} {K0:World→Prop} {E:List (Nat×AV)} {M:List aj} {sz:Nat} {tb:dj} {todo todo':List Item}
theorem FN {ops:Array Oper} {draw:Bool} {oc:List (Nat×aR)} {s s':RS} (h:sy P T cl sz ops draw oc s=some s') (hv:aX s'.vc):aX s.vc:=by
 unfold sy at h
 cases draw with
 | false=>simp only [cond_false] at h;exact vR _ _ _ _ h hv
 | true=>
  simp only [cond_true] at h
  cases hs:Region.noSelect ops with
  | false=>simp [hs] at h
  | true=>simp only [hs,cond_true] at h;exact u9 _ _ _ _ h hv
theorem A3:∀ (n:Nat) (todo:List Item) (s:RS) {todo':List Item} {s':RS},dr P T cl sz tb n todo s=some (todo',s')→aX s'.vc→aX s.vc:=by
 intro n
 induction n with
 | zero=>intro todo s todo' s' h hv;simp only [dr,Option.some.injEq,Prod.mk.injEq] at h;obtain ⟨-,rfl⟩:=h;exact hv
 | succ n ih=>
  intro todo s todo' s' h hv
  unfold dr at h
  split at h
  ·exact ih _ _ h hv
  ·exact ih _ _ h hv
  ·exact ih _ _ h hv
  ·exact ih _ _ h hv
  ·split at h
   ·exact ih _ _ h hv
   ·exact ih _ _ h hv
   ·simp only [Option.some.injEq,Prod.mk.injEq] at h;obtain ⟨-,rfl⟩:=h;exact hv
  ·exact ih _ _ h hv
  ·split at h
   ·exact ih _ _ h hv
   ·simp at h
  ·split at h
   ·rename_i hr;exact FN hr (ih _ _ h hv)
   ·simp at h
  ·simp only [Option.some.injEq,Prod.mk.injEq] at h;obtain ⟨-,rfl⟩:=h;exact hv
theorem ch.bool (R:ch mk D w0 K0 sz E M a w) {c:Operand} {b:Bool} (h:kW (aE E c)=some b):a.eval c=.bool b:=by
 obtain ⟨-,I,-,β,F,Rm,hs⟩:=R
 unfold kW at h
 split at h
 ·rename_i c' hv
  simp only [Option.some.injEq] at h;subst h
  cases c with
  | tmp t=>
   have:=hs _ _ hv
   generalize a.eval (.tmp t)=y at *
   cases this with | d r=>cases r;rfl
  | const v=>simp only [aE,Option.some.injEq,AV.d.injEq,DV.v.injEq] at hv;rw [← hv];rfl
  | global g=>simp [aE] at hv
  | func f=>simp [aE] at hv
 ·simp at h
theorem kA (hT:aU P T=true) (cu:jf P cl) (hm:P.follows .mixedOrders=true) (hK:∀ w,Kp D w0 w→K0 w) {b:et}:∀ (n:Nat) {todo:List Item} {s:RS} {a:Act} {w:World} {todo':List Item} {s':RS},dr P T cl sz tb n todo s=some (todo',s')→c7 mk D w0 K0 sz b s a w→aX s'.vc→(∀ a' w',c7 mk D w0 K0 sz b s' a' w'→aD P f todo' R a' w')→aD P f todo R a w:=by
 intro n
 induction n with
 | zero=>intro todo s a w todo' s' h r hv k;simp only [dr,Option.some.injEq,Prod.mk.injEq] at h;obtain ⟨rfl,rfl⟩:=h;exact k a w r
 | succ n ih=>
  intro todo s a w todo' s' h r hv k
  unfold dr at h
  split at h
  ·exact aD.step (fun _ _=>stepR_skip) (ih h r hv k)
  ·exact aD.step (fun _ _=>stepR_label) (ih h r hv k)
  ·exact aD.step (fun _ _=>stepR_inBlock) (ih h r hv k)
  ·exact aD.step (fun _ _=>stepR_seq) (ih h r hv k)
  ·split at h
   ·rename_i hb;exact aD.step (fun _ _=>stepR_cond (r.re.bool hb)) (ih h r hv k)
   ·rename_i hb;exact aD.step (fun _ _=>stepR_cond (r.re.bool hb)) (ih h r hv k)
   ·simp only [Option.some.injEq,Prod.mk.injEq] at h;obtain ⟨rfl,rfl⟩:=h;exact k a w r
  ·exact aD.step (fun _ _=>stepR_block) (ih h r hv k)
  ·split at h
   ·rename_i hx;exact aD.step (fun _ _=>stepR_exit hx) (ih h r hv k)
   ·simp at h
  ·split at h
   ·rename_i id ops draw k0 _ s1 hr
    refine aD.code ?_
    have dP:=A3 _ _ _ h hv
    unfold sy at hr
    cases draw with
    | false=>
     simp only [cond_false] at hr
     exact Mw hT cu hK r _ hr dP fun a' w' r'=>⟨rfl,ih h r' hv k⟩
    | true=>
     simp only [cond_true] at hr
     cases hs:Region.noSelect ops with
     | false=>simp [hs] at hr
     | true=>
      simp only [hs,cond_true] at hr
      exact Mx hT cu hm hK (by rintro d v c a w ⟨h,-⟩;cases h) r _ hs hr dP fun a' w' r'=>⟨rfl,ih h r' hv k⟩
   ·simp at h
  ·simp only [Option.some.injEq,Prod.mk.injEq] at h;obtain ⟨rfl,rfl⟩:=h;exact k a w r
theorem nU (hT:aU P T=true) (cu:jf P cl) (hm:P.follows .mixedOrders=true) (hK:∀ w,Kp D w0 w→K0 w) (n:Nat) {vc:List Prop} {s':RS} (h:dr P T cl sz tb n todo ⟨vc,E,M,[],[]⟩=some (todo',s')) (r:ch mk D w0 K0 sz E M a w) (hv:aX s'.vc) (k:∀ a' w',ch mk D w0 K0 sz s'.E s'.M a' w'→aD P f todo' R a' w'):aD P f todo R a w:=
 let ⟨_,rb⟩:=r.b vc
 kA hT cu hm hK n h rb hv fun a' w' r'=>k a' w' r'.re
end Go.Proofs.YtcnpikbbmbombaaDoor
