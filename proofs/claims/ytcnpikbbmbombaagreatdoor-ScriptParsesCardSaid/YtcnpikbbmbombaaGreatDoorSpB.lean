/-
  scriptParses_card, part 2 of 6: merged by program from the texts that it needs.
-/
import Derived.Test.YtcnpikbbmbombaaGreatDoorSpA
set_option linter.unusedSimpArgs false
set_option linter.unusedVariables false
set_option linter.unnecessarySimpa false
namespace Go.Proofs.YtcnpikbbmbombaaGreatDoor
open Go.RowKit
variable {P:Program} {T:aN} {D:List Nat} {w0:World} {K0:World→Prop} {E:List (Nat×AV)} {M:List aj} {β:Beta} {F:Nat→aq} {I X:aq} {ρ:Operand→Value} {w:World}
variable {d:Option Tmp} {ty:TypeId} {pos:String} {aft:Array Edge} {gd:Option (Nat×Bool)} {oc:Option a7} {out:Out}
def af (l:List UInt8):List (List DV):=l.map fun b=>[.v (.int .u8 (b.toNat:Int))]
theorem AQ {K:World→Prop} {l:List UInt8} {X:Nat→List Value} {G:Nat→Nat→aq} (h:dU K 1 (af l) X G):lay (af l).length X=l.map fun b:UInt8=>.int .u8 b.toNat:=by
 have hl:(af l).length=l.length:=by simp [af]
 have hX:∀ i,i<(af l).length→(X i).length=1:=fun i hi=>(h.hl i _ (List.getElem?_eq_getElem hi)).2
 apply List.ext_getElem?
 intro p
 have iG:=fi hX
 rcases Nat.lt_or_ge p l.length with hp | hp
 ·have Ej:p<(af l).length:=by omega
  have hg:=kA hX Ej (show 0<1 by omega)
  rw [Nat.mul_one,Nat.add_zero] at hg
  have cf:(af l)[p]?=some [.v (.int .u8 (l[p].toNat:Int))]:=by simp [af,List.getElem?_eq_getElem hp]
  obtain ⟨x,h1⟩:∃ x,(X p)[0]?=some x:=⟨(X p)[0]'(by rw [hX p Ej];omega),List.getElem?_eq_getElem _⟩
  have hd:=h.hr p _ 0 _ _ cf rfl h1
  generalize G p 0=GG at hd
  cases hd
  rw [hg,h1,List.getElem?_map,List.getElem?_eq_getElem hp];rfl
 ·rw [List.getElem?_eq_none (by omega),List.getElem?_eq_none (by simp;omega)]
def yN (T:aN) (E:List (Nat×AV)) (M:List aj) (oc:Option a7) (t t':TypeId) (x:Operand):Option Out:=
 match jB T t,dv T t',oc with
 | some (e,_,_,_),some .st,some (.res (.v (.string s)))=>(match dv T e,aJ E x with
  | some (.it .u8),some (.d (.ro k rows))=>bif Nat.beq k 1 then some (lk [rows=af s.data.toList] (.d (.v (.string s))) M) else none
  | some (.it .u8),some (.sl u n)=>(match M[u]? with | some (.rw _ k rows)=>bif Nat.beq k 1 then some ⟨[n=rows.length,rows=af s.data.toList],.d (.v (.string s)),M,[],[],some [u]⟩ else none | _=>none)
  | _,_=>none)
 | _,_,_=>none
theorem Jr (hT:bc P T=true) {t t':TypeId} {x:Operand} (h:yN T E M oc t t' x=some out):aK P ⟨d,.convert t t' x,ty,pos,aft,gd⟩ E M out:=by
 unfold yN at h
 split at h
 ·rename_i e _ _ _ s he bC
  obtain ⟨zv,ok,-,-⟩:=lg hT he
  split at h
  ·rename_i k rows sc hx
   cases hk:Nat.beq k 1 with
   | false=>simp [hk] at h
   | true=>
    simp only [hk,cond_true,Option.some.injEq] at h;subst h
    obtain rfl:=Nat.eq_of_beq_eq_true hk
    refine aK.same ?_
    intro D w0 K0 β F I ρ w C hv
    obtain ⟨rfl,-⟩:=hv
    have r:=C.ev hx
    generalize hy:ρ x=y at r
    cases r with | d r=>
    cases r with
    | ro X hl jz hs hr=>
     refine ⟨_,fun w' eT=>sT (.of fun _=>⟨_,rfl⟩) (Am (l:=s.data.toList) ok.bC (c8 hT sc) (c8 hT bC) hy ?_ ⟨rfl,rfl⟩),.d (.v _)⟩
     have:=hs w' eT
     rw [AQ (G:=fun _ _=>[]) ⟨hl,hr⟩] at this
     simpa [af] using this
  ·rename_i u n sc hx
   split at h
   ·rename_i T2 k rows hM
    cases hk:Nat.beq k 1 with
    | false=>simp [hk] at h
    | true=>
     simp only [hk,cond_true,Option.some.injEq] at h;subst h
     obtain rfl:=Nat.eq_of_beq_eq_true hk
     refine aK.look ?_ (by simpa using fK hM)
     intro D w0 K0 β F I ρ w C hv
     obtain ⟨rfl,rfl,-⟩:=hv
     obtain ⟨X,G,H0,hF,eU,ra,hH⟩:=mU C.rm hM rfl (C.ev hx)
     refine ⟨_,.d (.v _),fun w' eT=>sT (.of fun _=>⟨_,rfl⟩) (Am (l:=s.data.toList) ok.bC (c8 hT sc) (c8 hT bC) rfl ?_ ⟨rfl,rfl⟩)⟩
     have Ek:Holds w' (F u):=eT.2 u (by simp)
     rw [hF] at Ek
     have:=eU.src (Holds.app.1 Ek).1
     rw [AQ ra] at this
     simpa [af] using this
   ·simp at h
  ·simp at h
 ·simp at h
def pT (P:Program) (t:TypeId):Bool:=match P.underlying t with | some .bool=>true | _=>false
theorem Ao {t:TypeId} (h:pT P t=true) (a b:Bool) (w:World):(Op.equal t (.bool a) (.bool b)).run P w=.ok (a==b) w:=by
 unfold pT at h
 split at h
 ·rename_i hu
  have:∀ m,(Op.equalIn (m+1) t (.bool a) (.bool b)).run P w=.ok (a==b) w:=by intro m;simp [Op.equalIn,Sem.run_bind,run_underlying hu]
  exact this 9999
 ·simp at h
def xR (P:Program) (E:List (Nat×AV)) (M:List aj) (oc:Option a7) (op:BinOp) (t:TypeId) (x y:Operand):Option Out:=
 match l5 (aJ E x),l5 (aJ E y),op with
 | some a,some b,.eql=>bif pT P t then some (l6 oc (a==b) M) else none
 | some a,some b,.neq=>bif pT P t then some (l6 oc (!(a==b)) M) else none
 | _,_,_=>none
theorem HQ {op:BinOp} {t t':TypeId} {x y:Operand} (h:xR P E M oc op t x y=some out):aK P ⟨d,.binOp op t x y t',ty,pos,aft,gd⟩ E M out:=by
 unfold xR at h
 split at h
 ·rename_i a b ha zt
  cases hb:pT P t with
  | false=>simp [hb] at h
  | true=>
   simp only [hb,cond_true,Option.some.injEq] at h;subst h
   exact n3 (.of fun _=>⟨_,rfl⟩) fun C w Φ aH=>.pure (v:=.bool (a==b)) (by simp [execOp,C.bool ha,C.bool zt,eqGuard,binOp,Ao hb]) aH
 ·rename_i a b ha zt
  cases hb:pT P t with
  | false=>simp [hb] at h
  | true=>
   simp only [hb,cond_true,Option.some.injEq] at h;subst h
   exact n3 (.of fun _=>⟨_,rfl⟩) fun C w Φ aH=>.pure (v:=.bool (!(a==b))) (by simp [execOp,C.bool ha,C.bool zt,eqGuard,binOp,Ao hb]) aH
 ·simp at h
def xS (T:aN) (E:List (Nat×AV)) (M:List aj) (oc:Option a7) (op:BinOp) (t:TypeId) (x y:Operand):Option Out:=
 match op,dv T t,y,aJ E x with
 | .eql,some (.sl _),.const (.slice none 0 0),some (.d (.v (.slice a _ _)))=>some (l6 oc a.isNone M)
 | .eql,some (.sl _),.const (.slice none 0 0),some (.d (.ro _ rows))=>some (lk [0<rows.length] (.b false) M)
 | .eql,some (.sl _),.const (.slice none 0 0),some (.sl u n)=>(match M[u]? with | some (.rw _ _ rows)=>some ⟨[n=rows.length,0<n],.b false,M,[],[],some [u]⟩ | _=>none)
 | _,_,_,_=>none
theorem HR (hT:bc P T=true) {op:BinOp} {t t':TypeId} {x y:Operand} (h:xS T E M oc op t x y=some out):aK P ⟨d,.binOp op t x y t',ty,pos,aft,gd⟩ E M out:=by
 unfold xS at h
 split at h
 ·rename_i e a n c hu hx
  simp only [Option.some.injEq] at h;subst h
  refine n3 (.of fun _=>⟨_,rfl⟩) ?_
  intro D w0 K0 β F I ρ w' C w Φ aH
  have r:=C.ev hx
  generalize hy:ρ x=y at r
  cases r with | d r=>cases r;exact vi (c8 hT hu) hy (C.const _) rfl aH
 ·rename_i e k rows hu hx
  simp only [Option.some.injEq] at h;subst h
  refine kD (.of fun _=>⟨_,rfl⟩) ?_
  intro D w0 K0 β F I ρ w' C hv
  obtain ⟨oz,-⟩:=hv
  have r:=C.ev hx
  generalize hy:ρ x=y at r
  cases r with | d r=>
  cases r with
  | ro X hl jz hs hr=>
   obtain ⟨a,c,uN,-⟩:=(hs _ C.now).row oz
   exact ⟨_,.d (.v _),fun w Φ aH=>vi (c8 hT hu) (hy.trans uN) (C.const _) rfl aH⟩
 ·rename_i e u n hu hx
  split at h
  ·rename_i T2 k rows hM
   simp only [Option.some.injEq] at h;subst h
   refine aK.look ?_ (by simpa using fK hM)
   intro D w0 K0 β F I ρ w C hv
   obtain ⟨hn,oz,-⟩:=hv
   obtain ⟨X,G,H0,hF,eU,ra,hH⟩:=mU C.rm hM hn (C.ev hx)
   obtain ⟨b,cap,cs,zu,-⟩:=eU.block oz
   exact ⟨_,.d (.v _),fun w' _=>sT (.of fun _=>⟨_,rfl⟩) (vi (c8 hT hu) zu (C.const _) rfl ⟨rfl,rfl⟩)⟩
  ·simp at h
 ·simp at h
def w7 (T:aN) (E:List (Nat×AV)) (M:List aj) (t t':TypeId) (x:Operand):Option Out:=
 bif Nat.beq t t' then (match jB T t with
 | some (e,k,_,_)=>(match dv T e,aJ E x with
  | some (.it .u8),some (.sl u n)=>(match M[u]? with
   | some (.rw e' k' rows)=>bif Nat.beq e e'&&Nat.beq k k'&&rows.all (fun r=>r.all DV.cp) then some ⟨[n=rows.length,0<n],.d (.ro k rows),M.set u .dead,[u],[],none⟩ else none
   | _=>none)
  | _,_=>none)
 | none=>none) else none
theorem GH (hT:bc P T=true) {t t':TypeId} {x:Operand} (h:w7 T E M t t' x=some out):aK P ⟨d,.convert t t' x,ty,pos,aft,gd⟩ E M out:=by
 unfold w7 at h
 cases zw:Nat.beq t t' with
 | false=>simp [zw] at h
 | true=>
  simp only [zw,cond_true] at h
  obtain rfl:=Nat.eq_of_beq_eq_true zw
  split at h
  ·rename_i e k _ _ he
   obtain ⟨zv,ok,-,-⟩:=lg hT he
   split at h
   ·rename_i u n sc hx
    split at h
    ·rename_i e' k' rows hM
     cases hc:(Nat.beq e e'&&Nat.beq k k'&&rows.all fun r=>r.all DV.cp) with
     | false=>simp [hc] at h
     | true=>
      simp only [hc,cond_true,Option.some.injEq] at h;subst h
      simp only [Bool.and_eq_true] at hc
      obtain rfl:=Nat.eq_of_beq_eq_true hc.1.1
      obtain rfl:=Nat.eq_of_beq_eq_true hc.1.2
      intro D w0 K0 β F I ρ w C hv
      obtain ⟨hn,oz,-⟩:=hv
      obtain ⟨X,G,H0,hF,eU,ra,hH⟩:=mU C.rm hM hn (C.ev hx)
      obtain ⟨b,cap,cs,zu,rfl,cS,hle,tL⟩:=eU.block oz
      have R1:=C.rm.x.fS hM
      rw [hF,List.nil_append] at R1
      have hb:=hH.one
      refine Ft ok.bC (c8 hT sc) zu hb ?_
      have mb:St D w0 w ((b,.cells cs e (0,0))::(bL n k G++((List.range (M.set u .dead).length).flatMap (aM F u [])++I))):=R1.st.perm (by classical rw [List.perm_iff_count];intro z;simp only [List.count_append,List.count_cons,List.count_nil];omega)
      have mc:=mb.set (.cells cs e (cs.size,cs.size+1))
      have R2:RM D w0 K0 (M.set u .dead) β (aM F u []) ([(b,.cells cs e (cs.size,cs.size+1))]++I) (cC w b (.cells cs e (cs.size,cs.size+1))):=by
       refine ⟨R1.len,fun v bl hv=>(R1.blk v bl hv).mono (fun w hw=>⟨hw.1,(Holds.app.1 hw.2).2⟩) (Ext.refl _),?_⟩
       have:=(mc.perm (K:=bL n k G++((List.range (M.set u .dead).length).flatMap (aM F u [])++([(b,.cells cs e (cs.size,cs.size+1))]++I))) (by classical rw [List.perm_iff_count];intro z;simp only [List.count_append,List.count_cons,List.count_nil];omega)).mO
       exact this
      refine ⟨β,_,_,R2,(Ext.refl β).b _,⟨_,rfl⟩,fun q _ hq=>by simp only [aM];rw [if_neg (by simpa using hq)],?_⟩
      refine .d (.ro X ra.hl ⟨_,_,by rw [← hn],by rw [← hn];exact hle⟩ (fun w' eT=>?_) fun i r j c x h1 h2 h3=>?_)
      ·have aQ:w'.heap[b]?=some (.cells cs e (cs.size,cs.size+1)):=(Holds.app.1 eT.2).1.one
       refine ⟨by rw [← hn];exact eU.1,Or.inr ⟨_,cap,by rw [← hn],fun j hj=>?_⟩⟩
       rw [add_eq,Nat.zero_add,cell_of aQ]
       have nu:lay rows.length X=cs.toList.take (n*k):=by rw [← hn];exact tL.symm
       have key:∀ q,q=cs.toList.take (n*k)→∀ (hj:j<q.length),cs[j]?=some q[j]:=by
        intro q hq hj
        subst hq
        have jy:=hj
        simp only [List.length_take] at jy
        rw [List.getElem_take,← Array.getElem?_toList]
        exact List.getElem?_eq_getElem _
       exact key _ nu hj
      ·have:=(ra.hr i r j c x h1 h2 h3).cp (List.all_eq_true.1 (List.all_eq_true.1 hc.2 r (List.mem_of_getElem? h1)) c (List.mem_of_getElem? h2))
       exact this.mono fun w hw=>⟨hw.1,(Holds.app.1 hw.2).2⟩
    ·simp at h
   ·simp at h
  ·simp at h
theorem GI {t:TypeId} {xs:Array Value} {o:Nat} {v:Value} (w:World) (ht:scalar P t=true) (h:xs[o]?=some v):(part t xs o).run P w=.ok v w:=by
 simp [part,Sem.run_bind,zX ht,h]
theorem GJ {t:TypeId} {xs:Array Value} {o n:Nat} (w:World) (ht:ng P t n=true):(part t xs o).run P w=.ok (.agg (xs.extract o (o+n))) w:=by
 unfold ng at ht
 simp only [Bool.and_eq_true] at ht
 obtain ⟨h1,h2⟩:=ht
 cases hu:P.underlying t with
 | none=>simp [hu] at h1
 | some u=>
  cases hi:P.info? t with
  | none=>simp [hi] at h2
  | some i=>
   simp only [hi,beq_iff_eq] at h2
   have ha:(isAgg t).run P w=.ok true w:=by cases u<;>simp [hu] at h1<;>simp [isAgg,Sem.run_bind,run_underlying hu]
   simp [part,Sem.run_bind,ha,sizeOf,typeInfo,hi,h2]
def oN (T:aN) (e:TypeId) (l:List AV) (o:Nat):Option AV:=lI T e l o
theorem w9 (hT:bc P T=true) {K:World→Prop} {e:TypeId} {l:List AV} {o:Nat} {v:AV} (h:oN T e l o=some v) {ys:List Value} (hl:ys.length=l.length) (hr:∀ (j:Nat) c y,l[j]?=some c→ys[j]?=some y→az K β c y):
  ∃ y,az K β v y∧∀ w:World,(part e ys.toArray o).run P w=.ok y w:=by
 unfold oN lI at h
 split at h
 ·rename_i ht
  obtain ⟨y,h1,h2⟩:=wR hl hr h
  exact ⟨y,h2,fun w=>GI w (wa hT ht) (by simpa using h1)⟩
 ·rename_i n ht
  simp only [yB] at h
  cases hb:(o+n).ble l.length with
  | false=>simp [hb] at h
  | true=>
   simp only [hb,cond_true,Option.some.injEq] at h
   have hle:o+n≤l.length:=Nat.le_of_ble_eq_true hb
   subst h
   have he:(ys.toArray.extract o (o+n))=((ys.drop o).take n).toArray:=by
    simp [List.extract_eq_take_drop]
   refine ⟨.agg ((ys.drop o).take n).toArray,.ag _ (by simp;omega) ?_,fun w=>by rw [GJ w (A7 hT ht),he]⟩
   intro j c y h1 h2
   rw [List.getElem?_take,List.getElem?_drop] at h1 h2
   split at h1
   ·rename_i hj;rw [if_pos hj] at h2;exact hr _ _ _ h1 h2
   ·simp at h1
 ·simp at h
def yO (T:aN) (E:List (Nat×AV)) (M:List aj) (t:TypeId) (x:Operand) (f:Nat):Option Out:=
 match zd T t f,aJ E x with
 | some (o,ty),some (.ag l)=>(match oN T ty l o with | some v=>some (lk [] v M) | none=>none)
 | _,_=>none
theorem Js (hT:bc P T=true) {t:TypeId} {x:Operand} {f:Nat} (h:yO T E M t x f=some out):aK P ⟨d,.field t x f,ty,pos,aft,gd⟩ E M out:=by
 unfold yO at h
 split at h
 ·rename_i o e l hf hx
  split at h
  ·rename_i v hp
   simp only [Option.some.injEq] at h;subst h
   obtain ⟨fs,q,hu,hq,rfl,rfl⟩:=KR hT hf
   refine aK.same ?_
   intro D w0 K0 β F I ρ w C _
   have r:=C.ev hx
   generalize hy:ρ x=y at r
   cases r with
   | ag ys hl hr=>
    obtain ⟨y,h1,h2⟩:=w9 hT hp hl hr
    exact ⟨y,fun w' _=>by simp only [execOp,hy,Instr.field,Sem.run_bind,run_underlying hu,Result.andThen_ok,hq,asAgg,Sem.run_pure,h2],h1⟩
  ·simp at h
 ·simp at h
def yP (T:aN) (E:List (Nat×AV)) (M:List aj) (oc:Option a7) (t:TypeId) (x ix:Operand):Option Out:=
 match dv T t,aJ E x,cU (aJ E ix),oc with
 | some (.ar n e),some (.ag l),some (_,z),some (.n i)=>(match gi T e with
  | some k=>(match oN T e l (i*k) with | some v=>some (lk [z=(i:Int),i<n] v M) | none=>none)
  | none=>none)
 | _,_,_,_=>none
theorem Jt (hT:bc P T=true) {t:TypeId} {x ix:Operand} (h:yP T E M oc t x ix=some out):aK P ⟨d,.index t x ix,ty,pos,aft,gd⟩ E M out:=by
 unfold yP at h
 split at h
 ·rename_i n e l _ z i hu hx hz
  split at h
  ·rename_i k hk
   split at h
   ·rename_i v hp
    simp only [Option.some.injEq] at h;subst h
    have bJ:∀ w:World,(sizeOf e).run P w=.ok k w:=fun w=>by
     have:=iz hT hk
     cases hi:P.info? e with
     | none=>simp [hi] at this
     | some inf=>simp only [hi,Option.map_some,Option.some.injEq] at this;simp [sizeOf,typeInfo,Sem.run_bind,hi,this]
    refine aK.same ?_
    intro D w0 K0 β F I ρ w C hv
    obtain ⟨rfl,aO,-⟩:=hv
    have r:=C.ev hx
    have hi:=C.int hz
    generalize hy:ρ x=y at r
    cases r with
    | ag ys hl hr=>
     obtain ⟨y,h1,h2⟩:=w9 hT hp hl hr
     refine ⟨y,fun w' _=>?_,h1⟩
     have iq:=c8 hT hu
     have hc:(0:Int)≤(i:Int)∧(i:Int)<(n:Int):=by omega
     simp only [execOp,hy,hi,Instr.index,asIntOf,Sem.run_bind,Sem.run_pure,run_underlying iq,Result.andThen_ok]
     rw [if_pos hc]
     simp only [Sem.run_bind,bJ,Result.andThen_ok,Int.toNat_natCast,h2,Sem.run_pure]
   ·simp at h
  ·simp at h
 ·simp at h
def wh (T:aN) (E:List (Nat×AV)) (M:List aj) (t:TypeId) (parts:Array (Nat×Operand)):Option Out:=
 match dv T t,pP T t with
 | some (.ar _ e),some z=>(match gi T e with
  | some k=>(match lr E (fun i=>some (i*k,k)) (lZ z) parts.toList with
   | some l=>some (lk [] (.ag l) M)
   | none=>none)
  | none=>none)
 | _,_=>none
theorem FV (hT:bc P T=true) {t:TypeId} {parts:Array (Nat×Operand)} (h:wh T E M t parts=some out):aK P ⟨d,.build t parts,ty,pos,aft,gd⟩ E M out:=by
 unfold wh at h
 split at h
 ·rename_i n e z hu hz
  split at h
  ·rename_i k hk
   split at h
   ·rename_i l hl
    simp only [Option.some.injEq] at h;subst h
    obtain ⟨zv,oK,oL⟩:=sR hT hz
    have bJ:∀ w:World,(sizeOf e).run P w=.ok k w:=fun w=>by
     have:=iz hT hk
     cases hi:P.info? e with
     | none=>simp [hi] at this
     | some inf=>simp only [hi,Option.map_some,Option.some.injEq] at this;simp [sizeOf,typeInfo,Sem.run_bind,hi,this]
    refine aK.same ?_
    intro D w0 K0 β F I ρ w C _
    obtain ⟨p1,p2⟩:=qJ (K:=fun w=>K0 w∧Holds w I) (β:=β) z
    obtain ⟨b8,g1,g2,g3⟩:=sW C (cs:=z.toArray) hl (by simpa using p1) (by intro j c y e1 e2;exact p2 j c y e1 (by simpa using e2))
    refine ⟨.agg b8,fun w' _=>?_,?_⟩
    ·have qj:(parts.map fun (p:Nat×Operand)=>(p.1,ρ p.2)).toList=parts.toList.map fun p=>(p.1,ρ p.2):=by simp
     have hb:(Instr.build t (parts.map fun (p:Nat×Operand)=>(p.1,ρ p.2))).run P w'=.ok (.agg b8) w':=by
      simp only [Instr.build,Sem.run_bind,oL,Result.andThen_ok,run_underlying (c8 hT hu),bJ,oK,qj,g1,Sem.run_pure]
     simp only [execOp,Sem.run_bind]
     have:(parts.map fun (i,x)=>(i,ρ x))=parts.map fun (p:Nat×Operand)=>(p.1,ρ p.2):=rfl
     rw [this,hb];rfl
    ·have:(az (fun w=>K0 w∧Holds w I) β (.ag l) (.agg b8.toList.toArray)):=.ag b8.toList (by simpa using g2) (by intro j c y e1 e2;exact g3 j c y e1 (by simpa using e2))
     simpa using this
   ·simp at h
  ·simp at h
 ·simp at h
end Go.Proofs.YtcnpikbbmbombaaGreatDoor
namespace Go.Proofs.YtcnpikbbmbombaaGreatDoor
open Go.RowKit
variable {P:Program} {T:aN} {D:List Nat} {w0:World} {K0:World→Prop} {E:List (Nat×AV)} {M:List aj} {β:Beta} {F:Nat→aq} {I X:aq} {ρ:Operand→Value} {w:World}
variable {d:Option Tmp} {ty:TypeId} {pos:String} {aft:Array Edge} {gd:Option (Nat×Bool)} {oc:Option a7} {out:Out}
theorem bN.jl (R:bN D w0 K0 M β F I X w) {u:Nat} {blk:aj} (h:M[u]?=some blk):Holds w (F u):=by
 intro x hx
 obtain ⟨hu,-⟩:=List.getElem?_eq_some_iff.1 h
 exact R.st.holds x (List.mem_append_left _ (List.mem_flatMap.2 ⟨u,List.mem_range.2 hu,hx⟩))
theorem bN.back {X Y:aq} (R:bN D w0 K0 M β F I (X++Y) w) {u:Nat} (hu:u<M.length) (hF:F u=[]) {blk:aj} (hb:bB (fun w=>K0 w∧Holds w I) β u blk X):
  bN D w0 K0 (M.set u blk) β (aM F u X) I Y w where
 len:=by rw [List.length_set];exact R.len
 blk:=by
  intro v bl hv
  rw [List.getElem?_set] at hv
  by_cases e:u=v
  ·subst e
   simp only [hu,if_pos,Option.some.injEq] at hv;subst hv
   simpa [aM] using hb
  ·rw [if_neg e] at hv
   have:aM F u X v=F v:=by simp only [aM];rw [if_neg (fun h=>e h.symm)]
   rw [this];exact R.blk v bl hv
 st:=by
  have hs:=R.st
  rw [List.length_set,range_split hu]
  rw [range_split hu,hF] at hs
  have c1:(List.range u).flatMap (aM F u X)=(List.range u).flatMap F:=fN fun a ha=>by have:=List.mem_range.1 ha;simp [aM];omega
  have c2:(List.range' (u+1) (M.length-(u+1))).flatMap (aM F u X)=(List.range' (u+1) (M.length-(u+1))).flatMap F:=fN fun a ha=>by have:=(List.mem_range'_1.1 ha).1;simp [aM];omega
  have iq:aM F u X u=X:=by simp [aM]
  rw [c1,c2,iq]
  exact hs.perm (by classical rw [List.perm_iff_count];intro z;simp only [List.count_append,List.count_nil];omega)
theorem Ab {k o m:Nat} (h:o+m≤k) (f:Nat→aq):(List.range k).flatMap f=(List.range o).flatMap f++((List.range' o m).flatMap f++(List.range' (o+m) (k-(o+m))).flatMap f):=by
 have:List.range k=List.range o++(List.range' o m++List.range' (o+m) (k-(o+m))):=by
  rw [List.range_eq_range',List.range_eq_range']
  have h1:k=o+(m+(k-(o+m))):=by omega
  conv=>lhs;rw [h1]
  rw [← List.range'_append_1,← List.range'_append_1]
  simp
 rw [this,List.flatMap_append,List.flatMap_append]
def eA (G:Nat→Nat→aq) (i o m:Nat) (Gx:Nat→aq):Nat→Nat→aq:=fun a j=>if a=i∧o≤j∧j<o+m then Gx (j-o) else G a j
theorem vN {n k i o m:Nat} (hi:i<n) (ho:o+m≤k) (G:Nat→Nat→aq) (Gx:Nat→aq):(bL n k G++(List.range m).flatMap Gx).Perm (bL n k (eA G i o m Gx)++(List.range' o m).flatMap (G i)):=by
 unfold bL
 have c1:(List.range i).flatMap (fun a=>(List.range k).flatMap (eA G i o m Gx a))=(List.range i).flatMap (fun a=>(List.range k).flatMap (G a)):=fN fun a ha=>fN fun j _=>by have:=List.mem_range.1 ha;simp only [eA];rw [if_neg (by omega)]
 have c2:(List.range' (i+1) (n-(i+1))).flatMap (fun a=>(List.range k).flatMap (eA G i o m Gx a))=(List.range' (i+1) (n-(i+1))).flatMap (fun a=>(List.range k).flatMap (G a)):=fN fun a ha=>fN fun j _=>by have:=(List.mem_range'_1.1 ha).1;simp only [eA];rw [if_neg (by omega)]
 have c3:(List.range o).flatMap (eA G i o m Gx i)=(List.range o).flatMap (G i):=fN fun j hj=>by have:=List.mem_range.1 hj;simp only [eA];rw [if_neg (by omega)]
 have c4:(List.range' o m).flatMap (eA G i o m Gx i)=(List.range m).flatMap Gx:=by
  rw [List.range'_eq_map_range,List.flatMap_map]
  exact fN fun j hj=>by
   have:=List.mem_range.1 hj
   show eA G i o m Gx i (o+j)=Gx j
   unfold eA;rw [if_pos ⟨rfl,by omega,by omega⟩,Nat.add_sub_cancel_left]
 have c5:(List.range' (o+m) (k-(o+m))).flatMap (eA G i o m Gx i)=(List.range' (o+m) (k-(o+m))).flatMap (G i):=fN fun j hj=>by have:=(List.mem_range'_1.1 hj).1;simp only [eA];rw [if_neg (by omega)]
 rw [range_split hi (fun a=>(List.range k).flatMap (G a)),range_split hi (fun a=>(List.range k).flatMap (eA G i o m Gx a)),c1,c2]
 rw [Ab ho (G i),Ab ho (eA G i o m Gx i),c3,c4,c5]
 classical rw [List.perm_iff_count];intro z;simp only [List.count_append];omega
def js (X:Nat→List Value) (i o:Nat) (zs:List Value):Nat→List Value:=fun a=>if a=i then (X i).take o++(zs++(X i).drop (o+zs.length)) else X a
theorem n4 {α:Type} {l zs:List α} {o j:Nat} (h:o+zs.length≤l.length):(l.take o++(zs++l.drop (o+zs.length)))[j]?=if o≤j∧j<o+zs.length then zs[j-o]? else l[j]?:=by
 by_cases h1:o≤j∧j<o+zs.length
 ·rw [if_pos h1,List.getElem?_append_right (by simp;omega),List.getElem?_append_left (by simp;omega)]
  congr 1;simp;omega
 ·rw [if_neg h1]
  rcases Nat.lt_or_ge j o with hj | hj
  ·rw [List.getElem?_append_left (by simp;omega),List.getElem?_take,if_pos hj]
  ·rw [List.getElem?_append_right (by simp;omega),List.getElem?_append_right (by simp;omega),List.getElem?_drop]
   congr 1;simp;omega
theorem qT {X:Nat→List Value} {i o k:Nat} {zs:List Value} (ho:o+zs.length≤k) {a:Nat} (h:(X a).length=k):(js X i o zs a).length=k:=by
 unfold js;split
 ·rename_i e;subst e;simp;omega
 ·exact h
theorem BO {n k i o:Nat} {X:Nat→List Value} {zs:List Value} {cs:Array Value} (hX:∀ a,a<n→(X a).length=k) (hi:i<n) (ho:o+zs.length≤k) (ht:cs.toList.take (n*k)=lay n X) (bJ:n*k≤cs.size):
  (cA cs (i*k+o) zs).toList.take (n*k)=lay n (js X i o zs):=by
 have El:∀ a,a<n→(js X i o zs a).length=k:=fun a ha=>qT ho (hX a ha)
 have iG:=fi El
 have zx:i*k+k≤n*k:=by have:=Nat.mul_le_mul_right k (show i+1≤n from hi);rw [Nat.succ_mul] at this;exact this
 apply List.ext_getElem?
 intro p
 rcases Nat.lt_or_ge p (n*k) with hp | hp
 ·have hk:0<k:=by
   rcases Nat.eq_zero_or_pos k with h0 | h0
   ·subst h0;simp at hp
   ·exact h0
  have hd:p / k<n:=Nat.div_lt_of_lt_mul (by rw [Nat.mul_comm];exact hp)
  have hm:p%k<k:=Nat.mod_lt _ hk
  have hg:=kA El hd hm
  have Em:=kA hX hd hm
  have e:p / k*k+p%k=p:=by rw [Nat.mul_comm,Nat.div_add_mod]
  rw [e] at hg Em
  rw [hg,List.getElem?_take,if_pos hp,Array.getElem?_toList,o8 _ _ _ _ (by omega)]
  have hc:cs[p]?=(X (p / k))[p%k]?:=by rw [← Em,← ht,List.getElem?_take,if_pos hp,Array.getElem?_toList]
  generalize hA:p / k=a at *
  generalize hJ:p%k=j at *
  by_cases ha:a=i
  ·subst ha
   unfold js
   rw [if_pos rfl,n4 (by rw [hX a hd];exact ho)]
   by_cases h1:o≤j∧j<o+zs.length
   ·rw [if_pos h1,if_pos (by omega)];congr 1;omega
   ·rw [if_neg h1,if_neg (by omega)];exact hc
  ·unfold js
   rw [if_neg ha,if_neg ?_]
   ·exact hc
   ·intro h1
    rcases Nat.lt_or_gt_of_ne ha with h2 | h2
    ·have:=Nat.mul_le_mul_right k (show a+1≤i from h2);rw [Nat.succ_mul] at this;omega
    ·have:=Nat.mul_le_mul_right k (show i+1≤a from h2);rw [Nat.succ_mul] at this;omega
 ·rw [List.getElem?_eq_none (by simp [lS];omega),List.getElem?_eq_none (by omega)]
theorem dU.put {K:World→Prop} {k i o:Nat} {rows:List (List DV)} {X:Nat→List Value} {G:Nat→Nat→aq} {row xs:List DV} {zs:List Value} {Gx:Nat→aq} (h:dU K k rows X G) (cf:rows[i]?=some row) (ho:o+zs.length≤k) (hx:zs.length=xs.length) (hd:∀ (j:Nat) c y,xs[j]?=some c→zs[j]?=some y→bV K c y (Gx j)):
  dU K k (rows.set i (row.take o++(xs++row.drop (o+xs.length)))) (js X i o zs) (eA G i o zs.length Gx):=by
 have lK:=h.hl i row cf
 constructor
 ·intro a r ha
  rw [List.getElem?_set] at ha
  by_cases e:i=a
  ·subst e
   rw [if_pos rfl] at ha
   split at ha
   ·simp only [Option.some.injEq] at ha;subst ha
    exact ⟨by simp;omega,qT ho lK.2⟩
   ·simp at ha
  ·rw [if_neg e] at ha
   have:=h.hl a r ha
   exact ⟨this.1,qT ho this.2⟩
 ·intro a r j c x ha hj mA
  rw [List.getElem?_set] at ha
  by_cases e:i=a
  ·subst e
   rw [if_pos rfl] at ha
   split at ha
   ·simp only [Option.some.injEq] at ha;subst ha
    rw [n4 (by omega)] at hj
    unfold js at mA
    rw [if_pos rfl,n4 (by omega)] at mA
    unfold eA
    by_cases h1:o≤j∧j<o+zs.length
    ·rw [if_pos (by omega)] at hj
     rw [if_pos h1] at mA
     rw [if_pos ⟨rfl,h1⟩]
     exact hd _ c x hj mA
    ·rw [if_neg (by omega)] at hj
     rw [if_neg h1] at mA
     rw [if_neg (fun q=>h1 q.2)]
     exact h.hr i row j c x cf hj mA
   ·simp at ha
  ·rw [if_neg e] at ha
   unfold js at mA
   rw [if_neg (fun q=>e q.symm)] at mA
   unfold eA
   rw [if_neg (fun q=>e q.1.symm)]
   exact h.hr a r j c x ha hj mA
def wj (T:aN) (E:List (Nat×AV)) (M:List aj) (oc:Option a7) (t:TypeId) (x y:Operand):Option Out:=
 match aJ E x,aJ E y,gi T t,oc with
 | some (.ep u k i o),some v,some n,some (.ix _ row)=>(match oa v with
  | some l=>(match kH M l with
   | some (vc,xs,M')=>(match M'[u]? with
    | some (.rw e k' rows)=>bif k.beq k'&&l.length.beq n&&(o+n).ble k then some ⟨(rows[i]?=some row)::vc,.d .jk,M'.set u (.rw e k (rows.set i (row.take o++(xs++row.drop (o+xs.length))))),u::p6 l,[],none⟩ else none
    | _=>none)
   | none=>none)
  | none=>none)
 | _,_,_,_=>none
theorem FW (hT:bc P T=true) {t:TypeId} {x y:Operand} (h:wj T E M oc t x y=some out):aK P ⟨d,.store t x y,ty,pos,aft,gd⟩ E M out:=by
 unfold wj at h
 split at h
 rotate_left
 ·simp at h
 rename_i u k i o v n i0 row hx hy hn
 split at h
 rotate_left
 ·simp at h
 rename_i l hl
 split at h
 rotate_left
 ·simp at h
 rename_i vc xs M' hp
 split at h
 rotate_left
 ·simp at h
 rename_i e k' rows hM
 cases hc:(k.beq k'&&l.length.beq n&&(o+n).ble k) with
 | false=>simp [hc] at h
 | true=>
  simp only [hc,cond_true,Option.some.injEq] at h;subst h
  simp only [Bool.and_eq_true] at hc
  obtain rfl:=Nat.eq_of_beq_eq_true hc.1.1
  have r4:=Nat.eq_of_beq_eq_true hc.1.2
  have hle:=Nat.le_of_ble_eq_true hc.2
  intro D w0 K0 β F I ρ w C hv
  obtain ⟨cf,hv⟩:=hv
  obtain ⟨yx,jA,rx⟩:=C.bW hx
  obtain ⟨yy,oM,ry⟩:=C.bW hy
  obtain ⟨zs,h1,h2,h3,h4⟩:=qI hl ry
  obtain ⟨lM,F',Hp,R',dd,zy⟩:=tg C.rm.x hp hv (ys:=zs) h2 h3
  rw [List.nil_append] at R'
  cases rx with
  | @ep _ _ _ _ b0 c0 hb=>
   have aO:u<M'.length:=fK hM
   have hB:=R'.blk u _ hM
   have hH:=R'.jl hM
   have R1:=R'.fS hM
   have dl:=dd.len
   obtain ⟨Gx,zz,sa⟩:=dd.to
   generalize j3:F' u=Fu at hB hH R1
   cases hB with
   | rw aQ X G de hs hr=>
    rw [hb] at aQ;cases aQ
    obtain ⟨hi,-⟩:=List.getElem?_eq_some_iff.1 cf
    obtain ⟨b',cap,cs,he,rfl,cS,eR,ht⟩:=hs.block (by omega)
    cases he
    have hw:=(Holds.app.1 hH).1.one
    have hX:∀ a,a<rows.length→(X a).length=k:=fun a ha=>(de a _ (List.getElem?_eq_getElem ha)).2
    have zx:i*k+k≤rows.length*k:=by have:=Nat.mul_le_mul_right k (show i+1≤rows.length from hi);rw [Nat.succ_mul] at this;exact this
    have bJ:rows.length*k≤cs.size:=by rw [cS];exact Nat.mul_le_mul_right _ eR
    refine vZ n (iz hT hn) jA oM hw (by rw [h1];simp;omega) (by omega) (by rw [h1];simpa using h4) ?_
    rw [h1]
    have ra:dU (fun w=>K0 w∧Holds w I) k rows X G:=⟨de,hr⟩
    have iI:=ra.put (o:=o) (zs:=zs) (xs:=xs) (Gx:=Gx) cf (by omega) dl sa
    have bC:=R1.st
    have mb:St D w0 w ((b0,.cells cs e (0,0))::(bL rows.length k G++(Hp++((List.range (M'.set u .dead).length).flatMap (aM F' u [])++I)))):=bC.perm (by classical rw [List.perm_iff_count];intro z;simp only [List.count_append,List.count_cons,List.cons_append,List.nil_append];omega)
    have mc:=mb.set (.cells (cA cs (i*k+o) zs) e (0,0))
    have me:=vN (n:=rows.length) (k:=k) (i:=i) (o:=o) (m:=zs.length) hi (by omega) G Gx
    rw [zz,← dl] at mc
    have R2:bN D w0 K0 (M'.set u .dead) β (aM F' u []) I (([(b0,.cells (cA cs (i*k+o) zs) e (0,0))]++bL rows.length k (eA G i o zs.length Gx))++(List.range' o zs.length).flatMap (G i)) _:=R1.move (mc.perm (by
     classical
     have hc:=List.perm_iff_count.1 me
     rw [List.perm_iff_count];intro z
     have:=hc z
     simp only [List.count_append,List.count_cons,List.cons_append,List.nil_append] at this ⊢
     omega))
    have gP:bB (fun w=>K0 w∧Holds w I) β u (.rw e k (rows.set i (row.take o++(xs++row.drop (o+xs.length))))) ([(b0,.cells (cA cs (i*k+o) zs) e (0,0))]++bL rows.length k (eA G i o zs.length Gx)):=by
     have:=bB.rw (K:=fun w=>K0 w∧Holds w I) (u:=u) (T:=e) (k:=k) (rows:=rows.set i (row.take o++(xs++row.drop (o+xs.length)))) (H0:=[(b0,.cells (cA cs (i*k+o) zs) e (0,0))]) hb (js X i o zs) (eA G i o zs.length Gx) iI.hl (by
      rw [List.length_set]
      exact ⟨fi fun a ha=>qT (by omega) (hX a ha),Or.inr ⟨_,_,_,rfl,rfl,by rw [lS];exact cS,eR,BO hX hi (by omega) ht bJ⟩⟩) iI.hr
     rw [List.length_set] at this;exact this
    have R3:=((R2.drop.perm (Y:=([(b0,.cells (cA cs (i*k+o) zs) e (0,0))]++bL rows.length k (eA G i o zs.length Gx))++[]) (by rw [List.append_nil])).back (by rw [List.length_set];exact aO) (by simp [aM]) gP).nil rfl
    rw [List.set_set] at R3
    refine ⟨β,_,I,R3,(Ext.refl β).b _,bU.refl _,fun q hq cN=>?_,.d (.jk _)⟩
    simp only [List.mem_cons,not_or] at cN
    simp only [aM];rw [if_neg cN.1,if_neg cN.1]
    exact zy q cN.2
def xT (T:aN) (E:List (Nat×AV)) (M:List aj) (oc:Option a7) (t:TypeId) (x:Operand):Option Out:=
 match aJ E x,oc,qg T t with
 | some (.ep u k i o),some (.ix _ row),some .one=>(match M[u]?,row[o]? with
  | some (.rw e k' rows),some (.em T2 k2 b7)=>bif k.beq k' then some ⟨[rows[i]?=some row],.sl M.length b7.length,M.set u (.rw e k (rows.set i (row.take o++([.jk]++row.drop (o+1)))))++[.rw T2 k2 b7],[u],[],none⟩ else none
  | _,_=>none)
 | _,_,_=>none
theorem HS (hT:bc P T=true) {t:TypeId} {x:Operand} (h:xT T E M oc t x=some out):aK P ⟨d,.load t x,ty,pos,aft,gd⟩ E M out:=by
 unfold xT at h
 split at h
 rotate_left
 ·simp at h
 rename_i u k i o i0 row hx jZ
 split at h
 rotate_left
 ·simp at h
 rename_i e k' rows T2 k2 b7 hM kG
 cases hk:k.beq k' with
 | false=>simp [hk] at h
 | true=>
  simp only [hk,cond_true,Option.some.injEq] at h;subst h
  obtain rfl:=Nat.eq_of_beq_eq_true hk
  intro D w0 K0 β F I ρ w C hv
  obtain ⟨cf,-⟩:=hv
  obtain ⟨yx,jA,rx⟩:=C.bW hx
  have R:=C.rm.x
  have hB:=R.blk u _ hM
  have hH:=R.jl hM
  have R1:=R.fS hM
  have aO:=fK hM
  cases rx with
  | @ep _ _ _ _ b0 c0 hb=>
   generalize j3:F u=Fu at hB hH R1
   cases hB with
   | rw aQ X G de hs hr=>
    rw [hb] at aQ;cases aQ
    obtain ⟨hi,-⟩:=List.getElem?_eq_some_iff.1 cf
    obtain ⟨ho,-⟩:=List.getElem?_eq_some_iff.1 kG
    obtain ⟨zf,zg⟩:=de i row cf
    obtain ⟨b',cap,cs,he,rfl,cS,eR,ht⟩:=hs.block (by omega)
    cases he
    have hw:=(Holds.app.1 hH).1.one
    have hX:∀ a,a<rows.length→(X a).length=k:=fun a ha=>(de a _ (List.getElem?_eq_getElem ha)).2
    have zx:i*k+k≤rows.length*k:=by have:=Nat.mul_le_mul_right k (show i+1≤rows.length from hi);rw [Nat.succ_mul] at this;exact this
    have bJ:rows.length*k≤cs.size:=by rw [cS];exact Nat.mul_le_mul_right _ eR
    obtain ⟨y,hy⟩:∃ y,(X i)[o]?=some y:=⟨_,List.getElem?_eq_getElem (by omega)⟩
    have hd:=hr i row o _ y cf kG hy
    have KW:w.cell? ⟨b0,i*k+o,none⟩=some y:=by
     rw [cell_of hw,← hy,← kA hX hi (by omega),← ht,List.getElem?_take,if_pos (by omega),Array.getElem?_toList]
    refine a8.pure (Cn (wa hT jZ) jA KW) ?_
    have ra:dU (fun w=>K0 w∧Holds w I) k rows X G:=⟨de,hr⟩
    have iI:=ra.put (o:=o) (zs:=[y]) (xs:=[.jk]) (Gx:=fun _=>[]) cf (by simp;omega) rfl (fun j c z h1 h2=>by
     cases j with
     | zero=>simp at h1;subst h1;exact .jk _
     | succ j=>simp at h1)
    have me:=vN (n:=rows.length) (k:=k) (i:=i) (o:=o) (m:=1) hi (by omega) G (fun _=>[])
    have ez:(List.range 1).flatMap (fun _=>([]:aq))=[]:=by simp
    have Mc:(List.range' o 1).flatMap (G i)=G i o:=by simp
    rw [ez,Mc,List.append_nil] at me
    have R2:=R1.perm (Y:=([(b0,.cells cs e (0,0))]++bL rows.length k (eA G i o 1 fun _=>[]))++G i o) (by
     classical
     have hc:=List.perm_iff_count.1 me
     rw [List.perm_iff_count];intro z
     have:=hc z
     simp only [List.count_append,List.count_nil] at this ⊢
     omega)
    have KX:lay rows.length (js X i o [y])=lay rows.length X:=by
     refine wc fun a ha=>?_
     unfold js;split
     ·rename_i e;subst e
      apply List.ext_getElem?;intro j
      rw [n4 (by simp;omega)]
      split
      ·rename_i h1;simp at h1
       obtain rfl:j=o:=by omega
       rw [hy];simp
      ·rfl
     ·rfl
    have gP:bB (fun w=>K0 w∧Holds w I) β u (.rw e k (rows.set i (row.take o++([.jk]++row.drop (o+1))))) ([(b0,.cells cs e (0,0))]++bL rows.length k (eA G i o 1 fun _=>[])):=by
     have:=bB.rw (K:=fun w=>K0 w∧Holds w I) (u:=u) (T:=e) (k:=k) (rows:=rows.set i (row.take o++([.jk]++row.drop (o+1)))) (H0:=[(b0,.cells cs e (0,0))]) hb (js X i o [y]) (eA G i o 1 fun _=>[]) iI.hl (by
      rw [List.length_set,KX]
      exact ⟨fi hX,Or.inr ⟨_,_,_,rfl,rfl,cS,eR,ht⟩⟩) iI.hr
     rw [List.length_set] at this;exact this
    have R3:=R2.back (by rw [List.length_set];exact aO) (by simp [aM]) gP
    rw [List.set_set] at R3
    have En:(M.set u (aj.rw e k (rows.set i (row.take o++([.jk]++row.drop (o+1)))))).length=M.length:=by rw [List.length_set]
    generalize G i o=P8 at hd R3
    cases hd with
    | em X2 F2 nL kQ kq=>
     obtain ⟨a2,c2,rfl⟩:=kQ.len
     have hq:(β++[(a2,c2)])[M.length]?=some (a2,c2):=by rw [← R.len];simp
     have je:=bB.rw (K:=fun w=>K0 w∧Holds w I) (T:=T2) (k:=k2) (rows:=b7) hq X2 F2 nL kQ kq
     rw [← En] at je
     have R4:=((R3.perm (Y:=_++[]) (by rw [List.append_nil])).take je).nil rfl
     rw [En] at R4
     refine ⟨_,_,I,R4,(Ext.app _ _).b _,bU.refl _,fun q qk cN=>?_,.sl hq⟩
     have kS:q≠u:=by simpa using cN
     simp only [aM]
     rw [if_neg (by omega),if_neg kS,if_neg kS]
def xU (T:aN) (E:List (Nat×AV)) (M:List aj) (oc:Option a7) (st:TypeId) (x y:Operand):Option Out:=
 match jB T st,aJ E x,aJ E y,oc with
 | some (_,k,_,_),some (.sl u n),some vy,some (.n c)=>(match M[u]?,p5 M k vy with
  | some (.rw e' k' rows),some (none,_,b7)=>bif k.beq k' then some ⟨[n=rows.length,min b7.length n=c,aW b7],.d (.v (.int .i64 (c:Int))),M.set u (.rw e' k (b7.take c++rows.drop c)),[u],[],none⟩ else none
  | _,_=>none)
 | _,_,_,_=>none
theorem dU.take {K:World→Prop} {k c:Nat} {rows:List (List DV)} {X:Nat→List Value} {G:Nat→Nat→aq} (h:dU K k rows X G):dU K k (rows.take c) X G:=by
 constructor
 ·intro i r hi
  rw [List.getElem?_take] at hi
  split at hi
  ·exact h.hl i r hi
  ·simp at hi
 ·intro i r j c' x hi
  rw [List.getElem?_take] at hi
  split at hi
  ·exact h.hr i r j c' x hi
  ·simp at hi
theorem dU.drop {K:World→Prop} {k c:Nat} {rows:List (List DV)} {X:Nat→List Value} {G:Nat→Nat→aq} (h:dU K k rows X G):dU K k (rows.drop c) (fun i=>X (c+i)) (fun i=>G (c+i)):=by
 constructor
 ·intro i r hi;rw [List.getElem?_drop] at hi;exact h.hl _ r hi
 ·intro i r j c' x hi;rw [List.getElem?_drop] at hi;exact h.hr _ r j c' x hi
theorem pd {n c k:Nat} {X:Nat→List Value} (hX:∀ a,a<n→(X a).length=k) (hc:c≤n):lay c X=(lay n X).take (c*k):=by
 have h1:=po c (n-c) X (fun i=>X (c+i))
 rw [show c+(n-c)=n by omega] at h1
 have h2:lay n (fun i=>if i<c then X i else X (c+(i-c)))=lay n X:=wc fun i hi=>by
  split
  ·rfl
  ·congr 1;omega
 rw [h2] at h1
 rw [h1,List.take_append_of_le_length (by rw [fi fun a ha=>hX a (by omega)];exact Nat.le_refl _),List.take_of_length_le (by rw [fi fun a ha=>hX a (by omega)];exact Nat.le_refl _)]
theorem vO {n c k:Nat} {X:Nat→List Value} (hX:∀ a,a<n→(X a).length=k) (hc:c≤n):lay (n-c) (fun i=>X (c+i))=(lay n X).drop (c*k):=by
 have h1:=po c (n-c) X (fun i=>X (c+i))
 rw [show c+(n-c)=n by omega] at h1
 have h2:lay n (fun i=>if i<c then X i else X (c+(i-c)))=lay n X:=wc fun i hi=>by
  split
  ·rfl
  ·congr 1;omega
 rw [h2] at h1
 have hl:=fi (n:=c) (k:=k) (X:=X) (fun a ha=>hX a (by omega))
 rw [h1,List.drop_append_of_le_length (by omega),List.drop_of_length_le (by omega),List.nil_append]
theorem sJ {n c k:Nat} (G:Nat→Nat→aq) (hc:c≤n):bL n k G=bL c k G++bL (n-c) k (fun i=>G (c+i)):=by
 have h1:=qS c (n-c) k G (fun i=>G (c+i))
 rw [show c+(n-c)=n by omega] at h1
 rw [← h1]
 simp only [bL]
 refine fN fun i hi=>fN fun j _=>?_
 show G i j=(if i<c then G i else G (c+(i-c))) j
 split
 ·rfl
 ·congr 2;omega
theorem FD (cs:Array Value) (zs:List Value) (h:zs.length≤cs.size):(cA cs 0 zs).toList=zs++cs.toList.drop zs.length:=by
 apply List.ext_getElem?
 intro p
 rw [Array.getElem?_toList,o8 _ _ _ _ (by omega)]
 by_cases hp:p<zs.length
 ·rw [if_pos (by omega),List.getElem?_append_left hp,Nat.sub_zero]
 ·rw [if_neg (by omega),List.getElem?_append_right (by omega),List.getElem?_drop,Array.getElem?_toList]
  congr 1;omega
theorem Src.pre {size:Nat} {x:Value} {m c:Nat} {X:List Value} (h:Src w size x m X) (hc:c≤m):(Builtin.lenOf x).run P w=.ok m w∧(Builtin.firstCells size c x).run P w=.ok (X.take (c*size)).toArray w:=by
 obtain ⟨hl,hh⟩:=h
 refine ⟨(Src.first (P:=P) ⟨hl,hh⟩).1,?_⟩
 rcases hh with ⟨rfl,a,c',rfl⟩ | ⟨a,c',rfl,h⟩
 ·obtain rfl:c=0:=by omega
  have:X=[]:=List.eq_nil_of_length_eq_zero (by simpa using hl)
  subst this
  cases a with
  | none=>simp [Builtin.firstCells]
  | some a=>simp [Builtin.firstCells,loadCells,loadCellsFrom]
 ·have hlen:(X.take (c*size)).length=c*size:=by rw [List.length_take,hl];exact Nat.min_eq_left (Nat.mul_le_mul_right _ hc)
  simp only [Builtin.firstCells]
  have:=run_loadCells (P:=P) (w:=w) (a:=a) (X:=X.take (c*size)) (fun j hj=>by
   rw [h j (by simp at hj;omega),List.getElem_take])
  rw [hlen] at this;exact this
theorem HT (hT:bc P T=true) {st xt:TypeId} {x y:Operand} (h:xU T E M oc st x y=some out):aK P ⟨d,.call ⟨.builtin .copy,#[x,y],#[st,xt]⟩,ty,pos,aft,gd⟩ E M out:=by
 unfold xU at h
 split at h
 rotate_left
 ·simp at h
 rename_i e k b z u n vy c he hx hy
 obtain ⟨zv,ok,-,-⟩:=lg hT he
 split at h
 rotate_left
 ·simp at h
 rename_i e' k' rows m b7 hM hs
 cases hk:k.beq k' with
 | false=>simp [hk] at h
 | true=>
  simp only [hk,cond_true,Option.some.injEq] at h;subst h
  obtain rfl:=Nat.eq_of_beq_eq_true hk
  obtain ⟨r7,hm⟩:=vt hs
  intro D w0 K0 β F I ρ w C hv
  obtain ⟨hn,p7,ez,-⟩:=hv
  subst hn
  obtain ⟨X2,a2,ie⟩:=vL C.now r7 (C.ev hy)
  have oO:c≤b7.length:=by omega
  have sd:c≤rows.length:=by omega
  have bJ:∀ w:World,(sizeOf e).run P w=.ok k w:=fun w=>by obtain ⟨i,hi,h1,-⟩:=ok.info;simp [sizeOf,typeInfo,Sem.run_bind,hi,h1]
  obtain ⟨hlen,pD⟩:=ie.pre (P:=P) oO
  have zA:∀ a,a<b7.length→(X2 a).length=k:=fun a ha=>(a2.hl a _ (List.getElem?_eq_getElem ha)).2
  rw [← pd zA oO] at pD
  have Eo:(lay c X2).length=c*k:=fi fun a ha=>zA a (by omega)
  have xV:∀ q ∈ lay c X2,bQ q=true:=fun q hq=>a2.one ez q (by rw [pd zA oO] at hq;exact List.mem_of_mem_take hq)
  obtain ⟨yx,jA,rx⟩:=C.bW hx
  cases rx with
  | @sl _ _ c0 q0 hb=>
   have R:=C.rm.x
   have hB:=R.blk u _ hM
   have hH:=R.jl hM
   have R1:=R.fS hM
   have aO:=fK hM
   generalize j3:F u=Fu at hB hH R1
   cases hB with
   | rw aQ X G de hs hr=>
    rw [hb] at aQ;cases aQ
    have hX:∀ a,a<rows.length→(X a).length=k:=fun a ha=>(de a _ (List.getElem?_eq_getElem ha)).2
    have lK:(b7.take c++rows.drop c).length=rows.length:=by simp;omega
    have ra:dU (fun w=>K0 w∧Holds w I) k rows X G:=⟨de,hr⟩
    have Ow:min c b7.length=c:=by omega
    have iI:=(a2.take (c:=c)).app (ra.drop (c:=c))
    rw [List.length_take,Ow] at iI
    have oh:∀ (a0:Option Addr) (c0:Nat) w',ρ x=.slice a0 rows.length c0→(∀ a:Addr,a0=some a→(storeCells a (lay c X2)).run P w=.ok () w')→(a0=none→w'=w)→(execOp ρ ⟨d,.call ⟨.builtin .copy,#[x,y],#[st,xt]⟩,ty,pos,aft,gd⟩).run P w=.ok (.value (.int .i64 (c:Int))) w':=by
     intro a0 c0 w' jA bC j4
     have xW:Nat.min b7.length rows.length=c:=p7
     simp only [execOp,resolve,List.map_toArray,List.map,jA,Sem.run_bind,Sem.run_pure,Result.andThen_ok,invoke,builtin,Builtin.copy_,List.getElem?_toArray,List.getElem?_cons_zero,List.getElem?_cons_succ,run_underlying ok.bC,hlen,xW,bJ,pD]
     cases a0 with
     | some a=>simp only [Sem.run_bind,bC _ rfl,Result.andThen_ok,Sem.run_pure];rfl
     | none=>rw [j4 rfl];simp only [Sem.run_pure,Result.andThen_ok];rfl
    have fD:∀ {w':World} {H0':aq},St D w0 w' (H0'++(bL rows.length k G++((List.range (M.set u .dead).length).flatMap (aM F u [])++I)))→(∀ a0 c0,β[u]?=some (a0,c0)→eQ e' k (.slice a0 rows.length c0) rows.length (lay c X2++(lay rows.length X).drop (c*k)) H0')→∃ aE F' I',RM D w0 K0 (M.set u (.rw e' k (b7.take c++rows.drop c))) aE F' I' w'∧ib [] β aE∧bU I I'∧(∀ v,v<M.length→v ∉ [u]→F' v=F v)∧az (fun w=>K0 w∧Holds w I') aE (.d (.v (.int .i64 (c:Int)))) (.int .i64 (c:Int)):=by
     intro w' H0' bC eU
     rw [sJ G sd] at bC
     have R2:bN D w0 K0 (M.set u .dead) β (aM F u []) I ((H0'++bL (rows.length-c) k (fun i=>G (c+i)))++bL c k G) w':=R1.move (bC.perm (by classical rw [List.perm_iff_count];intro z;simp only [List.count_append];omega))
     have gP:bB (fun w=>K0 w∧Holds w I) β u (.rw e' k (b7.take c++rows.drop c)) (H0'++bL (rows.length-c) k (fun i=>G (c+i))):=by
      have nu:lay rows.length (fun i=>if i<c then X2 i else X (c+(i-c)))=lay c X2++(lay rows.length X).drop (c*k):=by
       have:=po c (rows.length-c) X2 (fun i=>X (c+i))
       rw [show c+(rows.length-c)=rows.length by omega,vO hX sd] at this
       exact this
      have Md:bL rows.length k (fun i=>if i<c then (fun _=>[]) else G (c+(i-c)))=bL (rows.length-c) k (fun i=>G (c+i)):=by
       have:=qS c (rows.length-c) k (fun _ _=>[]) (fun i=>G (c+i))
       rw [show c+(rows.length-c)=rows.length by omega,lU,List.nil_append] at this
       exact this
      have:=bB.rw (K:=fun w=>K0 w∧Holds w I) (u:=u) (T:=e') (k:=k) (rows:=b7.take c++rows.drop c) (H0:=H0') hb _ _ iI.hl (by
       rw [lK,nu];exact eU _ _ hb) iI.hr
      rw [lK,Md] at this;exact this
     have R3:=((R2.drop.perm (Y:=(H0'++bL (rows.length-c) k (fun i=>G (c+i)))++[]) (by rw [List.append_nil])).back (by rw [List.length_set];exact aO) (by simp [aM]) gP).nil rfl
     rw [List.set_set] at R3
     refine ⟨β,_,I,R3,(Ext.refl β).b _,bU.refl _,fun q hq cN=>?_,.d (.v _)⟩
     have kS:q≠u:=by simpa using cN
     simp only [aM];rw [if_neg kS,if_neg kS]
    have DC:=R1.st
    rcases hs.2 with ⟨h0,rfl,a,Ep⟩ | ⟨b',cap,cs,Er,rfl,cS,eR,ht⟩
    ·have zm:c=0:=by omega
     simp only [Value.slice.injEq] at Ep
     obtain ⟨-,-,rfl⟩:=Ep
     have r4:lay c X2=[]:=by subst zm;simp [lay]
     refine a8.pure (oh _ _ w jA (fun a _=>by rw [r4];simp [storeCells]) (fun _=>rfl)) (fD (H0':=[]) (DC.perm (by classical rw [List.perm_iff_count];intro z;simp only [List.count_append,List.count_nil];omega)) fun a0 c0 ff=>?_)
     rw [hb] at ff;cases ff
     have:lay rows.length X=[]:=by rw [h0];simp [lay]
     rw [r4,this,List.drop_nil,List.append_nil]
     rw [h0];exact eQ.nil _ _ _
    ·simp only [Value.slice.injEq] at Er
     obtain ⟨rfl,-,rfl⟩:=Er
     have hw:=(Holds.app.1 hH).1.one
     have Ox:c*k≤rows.length*k:=Nat.mul_le_mul_right _ sd
     have ub:rows.length*k≤cs.size:=by rw [cS];exact Nat.mul_le_mul_right _ eR
     have Cp:=o3 (P:=P) (lay c X2) w cs 0 0 hw (by omega) xV
     rw [Nat.add_zero] at Cp
     refine a8.pure (oh _ _ _ jA (fun a ha=>by simp only [Option.some.injEq] at ha;subst ha;exact Cp) (fun j4=>by simp at j4)) (fD (H0':=[(b',.cells (cA cs 0 (lay c X2)) e' (0,0))]) ?_ fun a0 c0 ff=>?_)
     ·have mb:St D w0 w ((b',.cells cs e' (0,0))::(bL rows.length k G++((List.range (M.set u .dead).length).flatMap (aM F u [])++I))):=DC.perm (by classical rw [List.perm_iff_count];intro z;simp only [List.count_append,List.count_cons,List.cons_append,List.nil_append];omega)
      exact mb.set _
     ·rw [hb] at ff;cases ff
      refine ⟨by rw [List.length_append,List.length_drop,Eo,fi hX];omega,Or.inr ⟨b',_,_,rfl,rfl,by rw [lS];exact cS,eR,?_⟩⟩
      rw [FD cs _ (by omega),List.take_append,Eo,List.take_of_length_le (by omega),← ht,List.drop_take]
def xa (T:aN) (E:List (Nat×AV)) (M:List aj) (oc:Option a7) (t:TypeId) (x y:Operand):Option Out:=
 match jB T t,cU (aJ E x),cU (aJ E y),oc with
 | some (e,k,b,z),some (.i64,n),some (.i64,n'),some (.n2 m c)=>some ⟨[n=(m:Int),n'=(c:Int),m≤c,b*c≤281474976710656,c<4611686018427387904],.sl M.length m,M++[.rw e k (List.replicate m (z.map .v))],[],[],none⟩
 | _,_,_,_=>none
set_option maxRecDepth 20000 in
theorem Fk {t e k b:Nat} {z:List Value} {zv:Value} (ok:pO P t e k b zv) (hz:zv.cells=z.toArray) (fx:z.length=k) {m c:Nat} (nM:m≤c) (hb:b*c≤281474976710656) (hm:c<4611686018427387904):
  (Instr.makeSlice t (.int .i64 m) (.int .i64 c)).run P w=.ok (.slice (some ⟨w.heap.size,0,none⟩) m c) (w.alloc (.cells (lay c fun _=>z).toArray e)):=by
 obtain ⟨i,hi,h1,h2,h3⟩:=ok.info
 have hw:∀ m:Nat,m<4611686018427387904→IntKind.i64.wrap (m:Int)=m:=by
  intro m hm;simp [IntKind.wrap,IntKind.signed,IntKind.bits];omega
 have bJ:∀ w:World,(sizeOf e).run P w=.ok k w:=fun w=>by simp [sizeOf,typeInfo,Sem.run_bind,hi,h1]
 have ln:∀ w:World,(typeInfo e).run P w=.ok i w:=fun w=>by simp [typeInfo,Sem.run_bind,hi]
 have hzero:∀ w:World,(zeroValue e).run P w=.ok zv w:=fun w=>by simp [zeroValue,Sem.run_bind,ln,h3]
 have rJ:∀ (k:Nat) (w:World),(askRoom k).run P w=.ok () w:=by
  intro k w;unfold askRoom;split<;>simp [mark,Sem.run]
 have zl:∀ n:Int,asInt (.int .i64 n)=pure n:=fun n=>rfl
 have cf:∀ (cs:Array Value) (w:World),(newRow e cs).run P w=.ok ⟨w.heap.size,0,none⟩ (w.alloc (.cells cs e)):=by
  intro cs w;simp [newRow,newObj,Sem.run]
 have Ei:∀ m:Nat,b*m≤281474976710656→¬ ((i.bytes:Int)*(m:Int)>2 ^ 48):=by
  intro m hb
  rw [h2]
  have e:((b*m:Nat):Int)=(b:Int)*(m:Int):=Int.natCast_mul b m
  rw [← e]
  generalize b*m=q at hb
  omega
 have w6:∀ n,n=c*k→(if n=0 then ((Array.range n).map fun i=>(#[]:Array Value)[i%(#[]:Array Value).size]!) else ((Array.range n).map fun i=>z.toArray[i%z.toArray.size]!))=(lay c fun _=>z).toArray:=by
  intro n hn
  subst hn
  rw [← sX z c k fx]
  by_cases h0:c*k=0
  ·rw [if_pos h0,h0];simp
  ·rw [if_neg h0]
 unfold Instr.makeSlice
 simp only [Sem.run_bind,run_underlying ok.bC,Result.andThen_ok,zl,Sem.run_pure,ln,hw c hm,hw m (by omega)]
 have n2:=Ei c hb
 have xO:¬ ((((m:Int)<0:Bool)||decide ((i.bytes:Int)*(c:Int)>2 ^ 48))=true∨(m:Int)<0∨(m:Int)>c):=by
  simp only [Bool.or_eq_true,decide_eq_true_eq]
  omega
 rw [if_neg (by simpa using xO)]
 simp only [Sem.run_bind,Result.andThen_ok,rJ,bJ,Int.toNat_natCast]
 have:=w6 (c*k) rfl
 by_cases h0:c*k=0
 ·rw [if_pos h0] at this ⊢
  simp only [Sem.run_pure,Result.andThen_ok,Sem.run_bind,cf,this]
 ·rw [if_neg h0] at this ⊢
  simp only [Sem.run_pure,Result.andThen_ok,Sem.run_bind,hzero,hz,cf,this]
theorem GK (hT:bc P T=true) {t:TypeId} {x y:Operand} (h:xa T E M oc t x y=some out):aK P ⟨d,.makeSlice t x y,ty,pos,aft,gd⟩ E M out:=by
 unfold xa at h
 split at h
 ·rename_i e k b z n n' m c he hx hy
  simp only [Option.some.injEq] at h;subst h
  obtain ⟨zv,ok,hz,fx⟩:=lg hT he
  intro D w0 K0 β F I ρ w C hv
  obtain ⟨rfl,rfl,nM,hb,hm,-⟩:=hv
  refine a8.pure (v:=.slice (some ⟨w.heap.size,0,none⟩) m c) (w':=w.alloc (.cells (lay c fun _=>z).toArray e)) (by simp only [execOp,C.int hx,C.int hy,Sem.run_bind,Fk ok hz fx nM hb hm,Result.andThen_ok,Sem.run_pure]) ?_
  have iG:=fi (n:=c) (k:=k) (X:=fun _=>z) (fun _ _=>fx)
  have Oy:=fi (n:=m) (k:=k) (X:=fun _=>z) (fun _ _=>fx)
  refine ⟨_,_,I,C.rm.new (q:=(some ⟨w.heap.size,0,none⟩,c)) (Gr.alloc w _) (dW.alloc w _) ?_,(Ext.app _ _).b _,bU.refl _,mX _ _,.sl (jm C.rm _)⟩
  have:=bB.rw (K:=fun w=>K0 w∧Holds w I) (β:=β++[(some ⟨w.heap.size,0,none⟩,c)]) (u:=M.length) (T:=e) (k:=k) (rows:=List.replicate m (z.map .v)) (H0:=[(w.heap.size,.cells (lay c fun _=>z).toArray e (0,0))]) (jm C.rm _) (fun _=>z) (fun _ _=>[]) (fun i r hi=>by
   rw [List.getElem?_replicate] at hi
   split at hi
   ·simp only [Option.some.injEq] at hi;subst hi;rw [List.length_map];exact ⟨fx,fx⟩
   ·simp at hi) (by
    rw [List.length_replicate]
    exact ⟨Oy,Or.inr ⟨w.heap.size,c,_,rfl,rfl,by simpa using iG,nM,(pd (n:=c) (k:=k) (X:=fun _=>z) (fun _ _=>fx) nM).symm⟩⟩) (fun i r j c x hi h1 h2=>by
    rw [List.getElem?_replicate] at hi
    split at hi
    ·simp only [Option.some.injEq] at hi;subst hi;exact vj h1 h2
    ·simp at hi)
  rw [lU,List.append_nil] at this
  exact this
 ·simp at h
end Go.Proofs.YtcnpikbbmbombaaGreatDoor
namespace Go.Proofs.YtcnpikbbmbombaaGreatDoor
open Go.RowKit
variable {P:Program} {T:aN} {D:List Nat} {w0:World} {K0:World→Prop} {E:List (Nat×AV)} {M:List aj} {β:Beta} {F:Nat→aq} {I X:aq} {ρ:Operand→Value} {w:World}
variable {d:Option Tmp} {ty:TypeId} {pos:String} {aft:Array Edge} {gd:Option (Nat×Bool)} {oc:Option a7} {out:Out}
theorem n5 {t e size n c l h m:Nat} {a:Option Addr} (ht:P.underlying t=some (.slice e)) (hs:(P.info? e).map (·.size)=some size) {vl vh vm:Option Value} (hb:(Instr.sliceBounds true n c vl vh vm).run P w=.ok (l,h,m) w):
  (Instr.sliceAt t (.slice a n c) vl vh vm).run P w=.ok (.slice (if m=l then a else a.map (·.add (l*size))) (h-l) (m-l)) w:=by
 cases hi:P.info? e with
 | none=>simp [hi] at hs
 | some inf=>
  simp only [hi,Option.map_some,Option.some.injEq] at hs
  have bJ:(sizeOf e).run P w=.ok size w:=by simp [sizeOf,typeInfo,Sem.run_bind,hi,hs]
  simp only [Instr.sliceAt,Instr.slice,Sem.run_bind,run_underlying ht,Result.andThen_ok,hb,bJ,Sem.run_pure]
def zB (T:aN) (E:List (Nat×AV)) (M:List aj) (oc:Option a7) (t:TypeId) (x:Operand) (lo hi mx:Option Operand):Option Out:=
 match dv T t,aJ E x,oc with
 | some (.sl e),some (.sl u n),some o=>(match gi T e,M[u]? with
  | some k,some (.rw Te k' rows)=>(match lo,hi,mx,o with
   | some l,none,none,.n c=>(match cU (aJ E l) with
    | some (.i64,z)=>bif k.beq k' then some ⟨[z=(c:Int),c<n,n=rows.length],.sb u k c (n-c),M,[],[],some [u]⟩ else none
    | _=>none)
   | none,some h,none,.n c=>(match cU (aJ E h) with
    | some (.i64,z)=>some ⟨[z=(c:Int),c≤n,n=rows.length],.sl u c,M.set u (.rw Te k' (rows.take c)),[u],[],none⟩
    | _=>none)
   | none,some h,some m,.res (.ro k2 b7)=>(match cU (aJ E h),cU (aJ E m) with
    | some (.i64,z),some (.i64,z')=>some ⟨[z=(n:Int),z'=(n:Int),n=rows.length,k'=k2,b5 rows=b7],.d (.ro k2 b7),M.set u .dead,[u],[],none⟩
    | _,_=>none)
   | _,_,_,_=>none)
  | _,_=>none)
 | _,_,_=>none
theorem Src.cap {size n c c':Nat} {a:Option Addr} {xs:List Value} (h:Src w size (.slice a n c) n xs):Src w size (.slice a n c') n xs:=by
 refine ⟨h.1,?_⟩
 rcases h.2 with ⟨rfl,_,_,_⟩ | ⟨a',_,e,h2⟩
 ·exact Or.inl ⟨rfl,_,_,rfl⟩
 ·simp only [Value.slice.injEq] at e;obtain ⟨rfl,-,rfl⟩:=e
  exact Or.inr ⟨a',c',rfl,h2⟩
theorem bV.cap {K:World→Prop} {k n c c':Nat} {a:Option Addr} {rows:List (List DV)} {H:aq} (h:bV K (.ro k rows) (.slice a n c) H) (hc:n≤c'):bV K (.ro k rows) (.slice a n c') H:=by
 cases h with
 | ro X hl hy hs hr=>
  obtain ⟨a',Oz,e,-⟩:=hy
  simp only [Value.slice.injEq] at e;obtain ⟨rfl,rfl,rfl⟩:=e
  exact .ro X hl ⟨_,_,rfl,hc⟩ (fun w hw=>(hs w hw).cap) hr
theorem KY (hT:bc P T=true) {t:TypeId} {x:Operand} {lo hi mx:Option Operand} (h:zB T E M oc t x lo hi mx=some out):aK P ⟨d,.slice t x lo hi mx,ty,pos,aft,gd⟩ E M out:=by
 unfold zB at h
 split at h
 rotate_left
 ·simp at h
 rename_i e u n o ht hx
 split at h
 rotate_left
 ·simp at h
 rename_i k Te k' rows hk hM
 replace ht:=c8 hT ht
 replace hk:=iz hT hk
 split at h
 ·rename_i l c
  split at h
  rotate_left
  ·simp at h
  rename_i z hz
  cases cy:k.beq k' with
  | false=>simp [cy] at h
  | true=>
   simp only [cy,cond_true,Option.some.injEq] at h;subst h
   obtain rfl:=Nat.eq_of_beq_eq_true cy
   refine aK.look ?_ (by simpa using fK hM)
   intro D w0 K0 β F I ρ w C hv
   obtain ⟨rfl,hc,hn,-⟩:=hv
   obtain ⟨y,hy,r⟩:=C.bW hx
   cases r with
   | @sl _ _ cc a hb=>
    obtain ⟨H,hF,hB,hH⟩:=C.rm.at hM
    cases hB with
    | rw aQ X G hl hs hr=>
     rw [hb] at aQ;cases aQ
     obtain ⟨b',cap,cs,he,rfl,cS,eR,mB⟩:=hs.block (by omega)
     simp only [Value.slice.injEq] at he;obtain ⟨rfl,-,rfl⟩:=he
     refine ⟨_,az.sb (k:=k) (o:=c) (n:=n-c) (c':=cc-c) hb,fun w' _=>?_⟩
     have:=n5 (P:=P) (w:=w') (a:=some ⟨b',0,none⟩) ht hk (n:=n) (c:=cc) (l:=c) (h:=n) (m:=cc) (vl:=some (.int .i64 c)) (vh:=none) (vm:=none) (by simp [Instr.sliceBounds,ji (show c≤n by omega)])
     rw [if_neg (by omega)] at this
     simp only [execOp,hy,C.int hz,Option.map_some,Option.map_none,Sem.run_bind,this,Result.andThen_ok,Sem.run_pure,add_eq,Nat.zero_add]
 ·rename_i hh c
  split at h
  rotate_left
  ·simp at h
  rename_i z hz
  simp only [Option.some.injEq] at h;subst h
  intro D w0 K0 β F I ρ w C hv
  obtain ⟨rfl,hc,hn,-⟩:=hv
  obtain ⟨y,hy,r⟩:=C.bW hx
  cases r with
  | @sl _ _ cc a hb=>
   have R:=C.rm.x
   have hB:=R.blk u _ hM
   have R1:=R.fS hM
   have aO:=fK hM
   generalize j3:F u=Fu at hB R1
   cases hB with
   | @rw _ _ _ _ _ H0 aQ X G hl hs hr=>
    rw [hb] at aQ;cases aQ
    have km:n≤cc:=by
     rcases hs.2 with ⟨h0,-,a,hq⟩ | ⟨b',cap,cs,hq,-,-,eR,-⟩
     ·omega
     ·simp only [Value.slice.injEq] at hq;omega
    have gQ:=n5 (P:=P) (w:=w) (a:=a) ht hk (n:=n) (c:=cc) (l:=0) (h:=c) (m:=cc) (vl:=none) (vh:=some (.int .i64 c)) (vm:=none) (by simp [Instr.sliceBounds,ji (show c≤cc by omega)])
    have j1:(if cc=0 then a else a.map (·.add (0*k)))=a:=by
     split
     ·rfl
     ·cases a with
      | none=>rfl
      | some a=>simp [add_zero']
    rw [j1] at gQ
    refine a8.pure (v:=.slice a c cc) (w':=w) (by simp only [execOp,hy,C.int hz,Option.map_some,Option.map_none,Sem.run_bind,gQ,Result.andThen_ok,Sem.run_pure,Nat.sub_zero]) ?_
    have hX:∀ a,a<rows.length→(X a).length=k':=fun a ha=>(hl a _ (List.getElem?_eq_getElem ha)).2
    have ir:c≤rows.length:=by omega
    have hlen:(rows.take c).length=c:=by simp;omega
    have ra:dU (fun w=>K0 w∧Holds w I) k' rows X G:=⟨hl,hr⟩
    have eU:eQ Te k' (.slice a c cc) c (lay c X) H0:=by
     refine ⟨fi fun i hi=>hX i (by omega),?_⟩
     rcases hs.2 with ⟨h0,e0,a',hq⟩ | ⟨b',cap,cs,hq,e0,h1,eR,mB⟩
     ·simp only [Value.slice.injEq] at hq
      obtain ⟨rfl,-,rfl⟩:=hq
      obtain rfl:c=0:=by omega
      exact Or.inl ⟨rfl,e0,_,rfl⟩
     ·simp only [Value.slice.injEq] at hq
      obtain ⟨rfl,-,rfl⟩:=hq
      refine Or.inr ⟨b',cc,cs,rfl,e0,h1,by omega,?_⟩
      rw [pd hX ir,← mB,List.take_take,Nat.min_eq_left (Nat.mul_le_mul_right _ ir)]
    have gP:bB (fun w=>K0 w∧Holds w I) β u (.rw Te k' (rows.take c)) (H0++bL c k' G):=by
     have:=bB.rw (K:=fun w=>K0 w∧Holds w I) (u:=u) (T:=Te) (k:=k') (rows:=rows.take c) hb X G (ra.take (c:=c)).hl (by rw [hlen];exact eU) (ra.take (c:=c)).hr
     rw [hlen] at this;exact this
    rw [List.nil_append,sJ G ir,← List.append_assoc] at R1
    have R3:=((R1.drop.perm (Y:=(H0++bL c k' G)++[]) (by rw [List.append_nil])).back (by rw [List.length_set];exact aO) (by simp [aM]) gP).nil rfl
    rw [List.set_set] at R3
    refine ⟨β,_,I,R3,(Ext.refl β).b _,bU.refl _,fun q hq cN=>?_,.sl hb⟩
    have kS:q≠u:=by simpa using cN
    simp only [aM];rw [if_neg kS,if_neg kS]
 ·rename_i hh m k2 b7
  split at h
  rotate_left
  ·simp at h
  rename_i z z' hz j1
  simp only [Option.some.injEq] at h;subst h
  intro D w0 K0 β F I ρ w C hv
  obtain ⟨rfl,rfl,hn,rfl,rfl,-⟩:=hv
  obtain ⟨y,hy,r⟩:=C.bW hx
  cases r with
  | @sl _ _ cc a hb=>
   have R:=C.rm.x
   have hB:=R.blk u _ hM
   have R1:=R.fS hM
   generalize j3:F u=Fu at hB R1
   have hd:bV (fun w=>K0 w∧Holds w I) (.em Te k' rows) (.slice a n cc) Fu∧n≤cc:=by
    cases hB with
    | rw aQ X G hl hs hr=>
     rw [hb] at aQ;cases aQ
     refine ⟨by rw [hn];exact .em X G hl hs hr,?_⟩
     rcases hs.2 with ⟨h0,-,a,hq⟩ | ⟨b',cap,cs,hq,-,-,eR,-⟩
     ·omega
     ·simp only [Value.slice.injEq] at hq;omega
   obtain ⟨hd,km⟩:=hd
   have gQ:=n5 (P:=P) (w:=w) (a:=a) ht hk (n:=n) (c:=cc) (l:=0) (h:=n) (m:=n) (vl:=none) (vh:=some (.int .i64 n)) (vm:=some (.int .i64 n)) (by simp [Instr.sliceBounds,ji km,ji (Nat.le_refl n)])
   have OA:(if n=0 then a else a.map (·.add (0*k)))=a:=by
    split
    ·rfl
    ·cases a with
     | none=>rfl
     | some a=>simp [add_zero']
   rw [OA] at gQ
   refine a8.pure (v:=.slice a n n) (w':=w) (by simp only [execOp,hy,C.int hz,C.int j1,Option.map_some,Option.map_none,Sem.run_bind,gQ,Result.andThen_ok,Sem.run_pure,Nat.sub_zero]) ?_
   rw [List.nil_append] at R1
   have R2:RM D w0 K0 (M.set u .dead) β (aM F u []) (Fu++I) w:=by
    refine ⟨R1.len,fun v bl hv=>(R1.blk v bl hv).mono (fun w hw=>⟨hw.1,(Holds.app.1 hw.2).2⟩) (Ext.refl _),?_⟩
    exact R1.st.perm (List.Perm.append_left _ List.perm_append_comm)
   refine ⟨β,_,_,R2,(Ext.refl β).b _,⟨_,rfl⟩,fun q _ hq=>by simp only [aM];rw [if_neg (by simpa using hq)],?_⟩
   have:=tf (K':=fun w=>K0 w∧Holds w (Fu++I)) hd fun w hw=>⟨⟨hw.1,(Holds.app.1 hw.2).2⟩,(Holds.app.1 hw.2).1⟩
   rw [fa] at this
   exact .d (this.cap (Nat.le_refl _))
 ·simp at h
def wk (T:aN) (E:List (Nat×AV)) (M:List aj) (oc:Option a7) (t:TypeId) (x ix:Operand):Option Out:=
 match cU (aJ E ix),dv T t,aJ E x,oc with
 | some (_,z),some (.sl e),some (.sb u k o n),some (.n i)=>(match gi T e,M[u]? with
  | some k',some (.rw _ _ rows)=>bif k.beq k' then some ⟨[z=(i:Int),i<n,o+n≤rows.length],.ep u k (o+i) 0,M,[],[],some []⟩ else none
  | _,_=>none)
 | _,_,_,_=>none
theorem FX (hT:bc P T=true) {t:TypeId} {x ix:Operand} (h:wk T E M oc t x ix=some out):aK P ⟨d,.indexAddr t x ix,ty,pos,aft,gd⟩ E M out:=by
 unfold wk at h
 split at h
 rotate_left
 ·simp at h
 rename_i kk z e u k o n i hz ht hx
 split at h
 rotate_left
 ·simp at h
 rename_i k' Tt k2 rows hk hM
 cases cy:k.beq k' with
 | false=>simp [cy] at h
 | true=>
  simp only [cy,cond_true,Option.some.injEq] at h;subst h
  obtain rfl:=Nat.eq_of_beq_eq_true cy
  replace ht:=c8 hT ht
  replace hk:=iz hT hk
  refine aK.look ?_ (by simp)
  intro D w0 K0 β F I ρ w C dE
  obtain ⟨rfl,hi,Ed,-⟩:=dE
  obtain ⟨y,hy,r⟩:=C.bW hx
  cases r with
  | sb hb=>
   refine ⟨_,?_,fun _ _=>sS ht hk hy (C.int hz) (by omega) (by omega)⟩
   rw [add_eq]
   have:=az.ep (K:=fun w=>K0 w∧Holds w I) (k:=k) (i:=o+i) (o:=0) hb
   rw [Nat.add_mul,Nat.add_zero] at this
   simpa using this
def xb (T:aN) (E:List (Nat×AV)) (M:List aj) (t:TypeId) (x:Operand):Option Out:=
 match jB T t,aJ E x with
 | some (_,k,_,z),some (.sb u k' o n)=>(match M[u]? with
  | some (.rw Te k2 rows)=>bif k.beq k'&&k.beq k2&&z.all bQ then some ⟨[0<n,o+n≤rows.length],.d (.v (.tuple #[])),M.set u (.rw Te k2 (rows.take o++(List.replicate n (z.map .v)++rows.drop (o+n)))),[u],[],none⟩ else none
  | _=>none)
 | _,_=>none
theorem GL (cs:Array Value) (i:Nat) (zs:List Value) (h:i+zs.length≤cs.size):(cA cs i zs).toList=cs.toList.take i++(zs++cs.toList.drop (i+zs.length)):=by
 apply List.ext_getElem?;intro p
 rw [Array.getElem?_toList,o8 _ _ _ _ h,n4 (by simpa using h)]
 split
 ·rfl
 ·simp
theorem HU {l z:List Value} {i n N:Nat} (hz:z.length=n) (h1:i+n≤N) (h2:N≤l.length):(l.take i++(z++l.drop (i+n))).take N=(l.take N).take i++(z++(l.take N).drop (i+n)):=by
 subst hz
 apply List.ext_getElem?;intro p
 rw [List.getElem?_take,n4 (by omega),n4 (by simp;omega),List.getElem?_take]
 by_cases hp:p<N
 ·rw [if_pos hp,if_pos hp]
 ·rw [if_neg hp,if_neg hp,if_neg (by omega)]
theorem HV {z:List Value} {zv:Value} (hz:zv.cells=z.toArray) (n:Nat):(Builtin.zeroCells zv.cells n).toList=lay n fun _=>z:=by
 rw [hz];unfold Builtin.zeroCells
 have:=sX z n z.length rfl
 simpa using this
theorem GM (hT:bc P T=true) {t:TypeId} {x:Operand} (h:xb T E M t x=some out):aK P ⟨d,.call ⟨.builtin .clear,#[x],#[t]⟩,ty,pos,aft,gd⟩ E M out:=by
 unfold xb at h
 split at h
 rotate_left
 ·simp at h
 rename_i e k b z u k' o n he hx
 split at h
 rotate_left
 ·simp at h
 rename_i Te k2 rows hM
 cases hc:(k.beq k'&&k.beq k2&&z.all bQ) with
 | false=>simp [hc] at h
 | true=>
  simp only [hc,cond_true,Option.some.injEq] at h;subst h
  simp only [Bool.and_eq_true] at hc
  obtain rfl:=Nat.eq_of_beq_eq_true hc.1.1
  obtain rfl:=Nat.eq_of_beq_eq_true hc.1.2
  obtain ⟨zv,ok,hz,fx⟩:=lg hT he
  intro D w0 K0 β F I ρ w C hv
  obtain ⟨oz,uP,-⟩:=hv
  obtain ⟨y,hy,r⟩:=C.bW hx
  have hzero:∀ w:World,(zeroValue e).run P w=.ok zv w:=fun w=>by obtain ⟨i,hi,-,-,h3⟩:=ok.info;simp [zeroValue,typeInfo,Sem.run_bind,hi,h3]
  cases r with
  | @sb _ _ _ _ b0 c0 c1 hb=>
   have R:=C.rm.x
   have hB:=R.blk u _ hM
   have hH:=R.jl hM
   have R1:=R.fS hM
   have aO:=fK hM
   generalize j3:F u=Fu at hB hH R1
   cases hB with
   | rw aQ X G hl hs hr=>
    rw [hb] at aQ;cases aQ
    obtain ⟨b',cap,cs,hq,rfl,cS,eR,mB⟩:=hs.block (by omega)
    simp only [Value.slice.injEq,Option.some.injEq,Addr.mk.injEq] at hq
    obtain ⟨⟨rfl,-⟩,-,rfl⟩:=hq
    have hw:=(Holds.app.1 hH).1.one
    have hX:∀ a,a<rows.length→(X a).length=k:=fun a ha=>(hl a _ (List.getElem?_eq_getElem ha)).2
    have zC:(lay n fun _=>z).length=n*k:=fi fun _ _=>fx
    have hmul:o*k+n*k≤rows.length*k:=by rw [← Nat.add_mul];exact Nat.mul_le_mul_right _ uP
    have bJ:rows.length*k≤cs.size:=by rw [cS];exact Nat.mul_le_mul_right _ eR
    obtain ⟨n',rfl⟩:∃ n',n=n'+1:=⟨n-1,by omega⟩
    refine HA (Z:=lay (n'+1) fun _=>z) ok.bC (hzero w) hy hw (HV hz _) (by omega) (fun q hq=>?_) ?_
    ·simp only [lay,List.mem_flatMap] at hq
     obtain ⟨_,-,hq⟩:=hq
     exact List.all_eq_true.1 hc.2 q hq
    have ra:dU (fun w=>K0 w∧Holds w I) k rows X G:=⟨hl,hr⟩
    have rz:dU (fun w=>K0 w∧Holds w I) k (List.replicate (n'+1) (z.map DV.v)) (fun _=>z) (fun _ _=>[]):=⟨fun i r hi=>by
     rw [List.getElem?_replicate] at hi
     split at hi
     ·simp only [Option.some.injEq] at hi;subst hi;rw [List.length_map];exact ⟨fx,fx⟩
     ·simp at hi,fun i r j c x hi h1 h2=>by
     rw [List.getElem?_replicate] at hi
     split at hi
     ·simp only [Option.some.injEq] at hi;subst hi;exact vj h1 h2
     ·simp at hi⟩
    have iI:=(ra.take (c:=o)).app (rz.app (ra.drop (c:=o+(n'+1))))
    have ho:(rows.take o).length=o:=by simp;omega
    have lK:(rows.take o++(List.replicate (n'+1) (z.map DV.v)++rows.drop (o+(n'+1)))).length=rows.length:=by simp;omega
    rw [ho,List.length_replicate] at iI
    have e1:=po o ((n'+1)+(rows.length-(o+(n'+1)))) X (fun i=>if i<n'+1 then z else X (o+(n'+1)+(i-(n'+1))))
    rw [po (n'+1) (rows.length-(o+(n'+1))) (fun _=>z) (fun i=>X (o+(n'+1)+i)),vO hX uP,show o+((n'+1)+(rows.length-(o+(n'+1))))=rows.length by omega] at e1
    have e2:=qS o ((n'+1)+(rows.length-(o+(n'+1)))) k G (fun i=>if i<n'+1 then (fun _=>[]) else G (o+(n'+1)+(i-(n'+1))))
    rw [qS (n'+1) (rows.length-(o+(n'+1))) k (fun _ _=>[]) (fun i=>G (o+(n'+1)+i)),lU,List.nil_append,show o+((n'+1)+(rows.length-(o+(n'+1))))=rows.length by omega] at e2
    have e3:=sJ (k:=k) G (show o+(n'+1)≤rows.length by omega)
    have e4:=sJ (n:=o+(n'+1)) (k:=k) G (show o≤o+(n'+1) by omega)
    have bC:=R1.st
    rw [e3,e4] at bC
    have mb:St D w0 w ((b0,.cells cs Te (0,0))::((bL o k G++bL (rows.length-(o+(n'+1))) k fun i=>G (o+(n'+1)+i))++(((bL (o+(n'+1)-o) k fun i=>G (o+i)))++((List.range (M.set u .dead).length).flatMap (aM F u [])++I)))):=bC.perm (by classical rw [List.perm_iff_count];intro z;simp only [List.count_append,List.count_cons,List.cons_append,List.nil_append];omega)
    have mc:=mb.set (.cells (cA cs (o*k) (lay (n'+1) fun _=>z)) Te (0,0))
    have R2:bN D w0 K0 (M.set u .dead) β (aM F u []) I (([(b0,.cells (cA cs (o*k) (lay (n'+1) fun _=>z)) Te (0,0))]++(bL o k G++bL (rows.length-(o+(n'+1))) k fun i=>G (o+(n'+1)+i)))++(bL (o+(n'+1)-o) k fun i=>G (o+i))) _:=R1.move (mc.perm (by classical rw [List.perm_iff_count];intro z;simp only [List.count_append,List.count_cons,List.cons_append,List.nil_append];omega))
    have gP:bB (fun w=>K0 w∧Holds w I) β u (.rw Te k (rows.take o++(List.replicate (n'+1) (z.map DV.v)++rows.drop (o+(n'+1))))) ([(b0,.cells (cA cs (o*k) (lay (n'+1) fun _=>z)) Te (0,0))]++(bL o k G++bL (rows.length-(o+(n'+1))) k fun i=>G (o+(n'+1)+i))):=by
     have:=bB.rw (K:=fun w=>K0 w∧Holds w I) (u:=u) (T:=Te) (k:=k) (rows:=rows.take o++(List.replicate (n'+1) (z.map DV.v)++rows.drop (o+(n'+1)))) (H0:=[(b0,.cells (cA cs (o*k) (lay (n'+1) fun _=>z)) Te (0,0))]) hb _ _ iI.hl (by
      rw [lK,e1]
      refine ⟨by rw [List.length_append,List.length_append,zC,List.length_drop,fi hX,fi (n:=o) fun a ha=>hX a (by omega),Nat.add_mul o];omega,Or.inr ⟨_,_,_,rfl,rfl,by rw [lS];exact cS,eR,?_⟩⟩
      rw [GL _ _ _ (by omega),zC,HU zC (by omega) (by simpa using bJ),mB,pd (c:=o) hX (by omega),Nat.add_mul o]) iI.hr
     rw [lK,e2] at this;exact this
    have R3:=((R2.drop.perm (Y:=([(b0,.cells (cA cs (o*k) (lay (n'+1) fun _=>z)) Te (0,0))]++(bL o k G++bL (rows.length-(o+(n'+1))) k fun i=>G (o+(n'+1)+i)))++[]) (by rw [List.append_nil])).back (by rw [List.length_set];exact aO) (by simp [aM]) gP).nil rfl
    rw [List.set_set] at R3
    refine ⟨β,_,I,R3,(Ext.refl β).b _,bU.refl _,fun q hq cN=>?_,.d (.v _)⟩
    have kS:q≠u:=by simpa using cN
    simp only [aM];rw [if_neg kS,if_neg kS]
def xX (T:aN) (E:List (Nat×AV)) (M:List aj) (oc:Option a7) (t:TypeId) (x ix:Operand):Option Out:=
 match dv T t,kg (aJ E x),cU (aJ E ix),oc with
 | some .st,some l,some (_,z),some (.n i)=>(match l[i]? with | some b=>some (lk [z=(i:Int)] (.d (.v (.int .u8 (b.toNat:Int)))) M) | none=>none)
 | _,_,_,_=>none
theorem HW (hT:bc P T=true) {t:TypeId} {x ix:Operand} (h:xX T E M oc t x ix=some out):aK P ⟨d,.index t x ix,ty,pos,aft,gd⟩ E M out:=by
 unfold xX at h
 split at h
 ·rename_i l k z i hu hx hz
  split at h
  ·rename_i b hb
   simp only [Option.some.injEq] at h;subst h
   refine aK.same ?_
   intro D w0 K0 β F I ρ w C hv
   obtain ⟨rfl,-⟩:=hv
   refine ⟨_,fun w' _=>?_,.d (.v _)⟩
   have h1:=C.str hx
   have h2:=C.int hz
   have h3:=c8 hT hu
   have h4:(⟨l.toArray⟩:ByteArray)[i]?=some b:=by
    obtain ⟨hi,rfl⟩:=List.getElem?_eq_some_iff.1 hb
    exact getElem?_pos (⟨l.toArray⟩:ByteArray) i (by show i<l.toArray.size;simpa using hi)
   simp [execOp,h1,h2,Instr.index,asIntOf,Sem.run_bind,run_underlying h3,h4]
  ·simp at h
 ·simp at h
def wm (T:aN) (E:List (Nat×AV)) (M:List aj) (oc:Option a7) (t:TypeId) (x ix:Operand):Option Out:=
 match cU (aJ E ix),dv T t,aJ E x,oc with
 | some (_,z),some (.ar n e),some (.ep u k j o),some (.n2 i _)=>(match gi T e with
  | some sz=>bif Nat.beq k 1&&Nat.beq o 0 then some (lk [z=(i:Int),i<n] (.ep u 1 (j+i*sz) 0) M) else none
  | none=>none)
 | _,_,_,_=>none
theorem FY (hT:bc P T=true) {t:TypeId} {x ix:Operand} (h:wm T E M oc t x ix=some out):aK P ⟨d,.indexAddr t x ix,ty,pos,aft,gd⟩ E M out:=by
 unfold wm at h
 split at h
 rotate_left
 ·simp at h
 rename_i kk z n e u k j o i _ hz ht hx
 split at h
 rotate_left
 ·simp at h
 rename_i sz hk
 cases cy:(Nat.beq k 1&&Nat.beq o 0) with
 | false=>simp [cy] at h
 | true=>
  simp only [cy,cond_true,Option.some.injEq] at h;subst h
  simp only [Bool.and_eq_true] at cy
  obtain rfl:=Nat.eq_of_beq_eq_true cy.1
  obtain rfl:=Nat.eq_of_beq_eq_true cy.2
  replace ht:=c8 hT ht
  replace hk:=iz hT hk
  refine aK.same fun C dE=>?_
  obtain ⟨rfl,hi,-⟩:=dE
  obtain ⟨y,hy,r⟩:=C.bW hx
  cases r with
  | ep hb=>
   refine ⟨_,fun _ _=>o7 ht hk hy (C.int hz) (by omega) (by omega),?_⟩
   rw [add_eq,Int.toNat_natCast,show j*1+0+i*sz=(j+i*sz)*1+0 by omega]
   exact .ep hb
def oA:List aj→List Nat→List aj
 | M,[]=>M
 | M,u::r=>oA (M.set u .dead) r
theorem Be:∀ (b:List Nat) (M:List aj),(oA M b).length=M.length
 | [],_=>rfl
 | u::r,M=>by rw [oA,Be r,List.length_set]
theorem RM.die:∀ {b:List Nat} {M:List aj} {F:Nat→aq} {I:aq},RM D w0 K0 M β F I w→(∀ u ∈ b,u<M.length)→∃ F' I',RM D w0 K0 (oA M b) β F' I' w∧bU I I'∧(∀ w,Holds w I'→∀ u ∈ b,Holds w (F u))∧∀ u,u ∉ b→F' u=F u
 | [],M,F,I,R,_=>⟨F,I,R,bU.refl I,fun _ _ u hu=>by simp at hu,fun _ _=>rfl⟩
 | u::r,M,F,I,R,hb=>by
  have hu:=hb u (by simp)
  have R1:=R.x.fS (List.getElem?_eq_getElem hu)
  rw [List.nil_append] at R1
  have R2:RM D w0 K0 (M.set u .dead) β (aM F u []) (F u++I) w:=
   ⟨R1.len,fun v bl hv=>(R1.blk v bl hv).mono (fun w hw=>⟨hw.1,(Holds.app.1 hw.2).2⟩) (Ext.refl _),R1.st.perm (List.Perm.append_left _ List.perm_append_comm)⟩
  obtain ⟨F',I',R3,g,h1,h2⟩:=R2.die (b:=r) (fun v hv=>by rw [List.length_set];exact hb v (by simp [hv]))
  refine ⟨F',I',R3,(show bU I (F u++I) from ⟨F u,rfl⟩).trans g,fun w hw v hv=>?_,fun v hv=>?_⟩
  ·by_cases e:v=u
   ·subst e;exact (Holds.app.1 (g.holds w hw)).1
   ·have:=h1 w hw v ((List.mem_cons.1 hv).resolve_left e)
    simpa [aM,e] using this
  ·simp only [List.mem_cons,not_or] at hv
   rw [h2 v hv.2];simp only [aM];rw [if_neg hv.1]
def xc (P:Program) (E:List (Nat×AV)) (M:List aj) (oc:Option a7) (g:Operand) (args:Array Operand):Option Out:=
 match aJ E g,lD E args.toList,oc with
 | some (.fn f cD),some l,some (.stay told x)=>(match ob M (l++cD) told with
  | some (vc,b)=>bif l8 x&&om M b then some ⟨ay P f told x::vc,(nJ (oA M b) x).1,(nJ (oA M b) x).2,b,[],none⟩ else none
  | none=>none)
 | _,_,_=>none
theorem GN {g:Operand} {args:Array Operand} {fG:Array TypeId} (h:xc P E M oc g args=some out):aK P ⟨d,.call ⟨.value g,args,fG⟩,ty,pos,aft,gd⟩ E M out:=by
 unfold xc at h
 split at h
 ·rename_i f cD l told x hg hl
  split at h
  ·rename_i vc b xM
   cases eX:(l8 x&&om M b) with
   | false=>simp [eX] at h
   | true=>
    simp only [eX,cond_true,Option.some.injEq] at h;subst h
    simp only [Bool.and_eq_true] at eX
    have hb:=vK eX.2
    intro D w0 K0 β F I ρ w C hv
    obtain ⟨ic,hv⟩:=hv
    obtain ⟨y,hy,r⟩:=C.bW hg
    cases r with
    | fn cs cX ir=>
     obtain ⟨eC,kR⟩:=C.nI hl
     have iD:(args.toList.map ρ++cs).length=(l++cD).length:=by rw [List.length_append,List.length_append,eC,cX]
     have oy:∀ (j:Nat) c y,(l++cD)[j]?=some c→(args.toList.map ρ++cs)[j]?=some y→az (fun w=>K0 w∧Holds w I) β c y:=by
      intro j c y h1 h2
      rcases Nat.lt_or_ge j l.length with hj | hj
      ·rw [List.getElem?_append_left hj] at h1
       rw [List.getElem?_append_left (by omega)] at h2
       exact kR j c y h1 h2
      ·rw [List.getElem?_append_right hj] at h1
       rw [List.getElem?_append_right (by omega),eC] at h2
       exact ir _ c y h1 h2
     obtain ⟨F1,I1,R1,g1,bC,se⟩:=C.rm.die hb
     obtain ⟨e1,e2⟩:=vp C.rm (K':=jr K0 I1 F1 []) xM hv (fun w hw=>⟨⟨hw.1.1,g1.holds w hw.1.2⟩,bC w hw.1.2⟩) iD oy
     have hm:args.map ρ=(args.toList.map ρ).toArray:=by rw [← Array.toList_map]
     refine qH hy ic.1 hm ?_
     have ma:((args.toList.map ρ).toArray++cs.toArray:Array Value)=(args.toList.map ρ++cs).toArray:=by simp
     rw [ma]
     refine (ic.now R1 C.k (b:=[]) (by simp) e1 e2 (fun h=>absurd rfl h)).mono ?_
     rintro e w' ⟨v,rfl,I',X,R,hI,hd⟩
     refine ⟨v,rfl,?_⟩
     have R':bN D w0 K0 (oA M b) β F1 I' (X++[]) w':=by rw [List.append_nil];exact R
     obtain ⟨aE,F',R2,e,f2,-,a2⟩:=wY eX.1 R' hd
     exact ⟨aE,F',I',R2.nil rfl,e.b _,g1.trans hI,fun u hu zD=>(f2 u (by rw [Be];exact hu)).trans (se u zD),a2⟩
  ·simp at h
 ·simp at h
end Go.Proofs.YtcnpikbbmbombaaGreatDoor
namespace Go.Proofs.YtcnpikbbmbombaaGreatDoor
open Go.RowKit
variable {mk:Bool} {P:Program} {T:aN} {f:FuncId} {w:World} {D:List Nat} {w0:World} {K0:World→Prop} {E:List (Nat×AV)} {M:List aj} {β:Beta} {F:Nat→aq} {I X:aq} {ρ:Operand→Value}
variable {d:Option Tmp} {ty:TypeId} {pos:String} {aft:Array Edge} {gd:Option (Nat×Bool)} {oc:Option a7} {out:Out}
def jN:List Nat→Nat→Option Nat
 | [],_=>none
 | k::r,u=>bif k.beq u then some 0 else (match jN r u with | some i=>some (i+1) | none=>none)
theorem ld:∀ {l:List Nat} {u i:Nat},jN l u=some i→l[i]?=some u
 | [],u,i,h=>by simp [jN] at h
 | k::r,u,i,h=>by
  unfold jN at h
  cases hk:k.beq u with
  | true=>simp only [hk,cond_true,Option.some.injEq] at h;subst h;simp [Nat.eq_of_beq_eq_true hk]
  | false=>
   simp only [hk,cond_false] at h
   split at h
   ·rename_i j hj;simp only [Option.some.injEq] at h;subst h;simpa using ld hj
   ·simp at h
def ug (l:List Nat):AV→Option AV
 | .d x=>some (.d x)
 | .sl u n=>(match jN l u with | some v=>some (.sl v n) | none=>none)
 | .pt u o=>(match jN l u with | some v=>some (.pt v o) | none=>none)
 | .mv u=>(match jN l u with | some v=>some (.mv v) | none=>none)
 | .yl u=>(match jN l u with | some v=>some (.yl v) | none=>none)
 | .sb u k o n=>(match jN l u with | some v=>some (.sb v k o n) | none=>none)
 | .ep u k i o=>(match jN l u with | some v=>some (.ep v k i o) | none=>none)
 | .sf u k o n q=>(match jN l u with | some v=>some (.sf v k o n q) | none=>none)
 | .rp r o=>some (.rp r o)
 | .bt bs=>some (.bt bs)
 | .uk=>some .uk
 | _=>none
def oq (l:List Nat):List AV→Option (List AV)
 | []=>some []
 | c::r=>(match ug l c,oq l r with | some c',some r'=>some (c'::r') | _,_=>none)
def rL (l:List Nat):AV→Option AV
 | .fn f cs=>(match oq l cs with | some b8=>some (.fn f b8) | none=>none)
 | .ag cs=>(match oq l cs with | some b8=>some (.ag b8) | none=>none)
 | .tu cs=>(match oq l cs with | some b8=>some (.tu b8) | none=>none)
 | c=>ug l c
def kJ (l:List Nat):List AV→Option (List AV)
 | []=>some []
 | c::r=>(match rL l c,kJ l r with | some c',some r'=>some (c'::r') | _,_=>none)
def rM (l:List Nat):List (Nat×AV)→Option (List (Nat×AV))
 | []=>some []
 | (t,c)::r=>(match rL l c,rM l r with | some c',some r'=>some ((t,c')::r') | _,_=>none)
def uh (l:List Nat):aj→Option aj
 | .bx T cs=>(match kJ l cs with | some b8=>some (.bx T b8) | none=>none)
 | .rw T k rows=>some (.rw T k rows)
 | .tw a c T k rows=>some (.tw a c T k rows)
 | .nm v b=>(match jN l v with | some i=>some (.nm i b) | none=>none)
 | .gw g row=>some (.gw g row)
 | .fl T k m cs=>(match kJ l cs with | some b8=>some (.fl T k m b8) | none=>none)
 | .mf _ _ _=>none
 | .il _ _ _ _=>none
 | .mp T c es=>some (.mp T c es)
 | .mu T c es=>some (.mu T c es)
 | .it (some v) a s c=>(match jN l v with | some i=>some (.it (some i) a s c) | none=>none)
 | .it none a s c=>some (.it none a s c)
 | .lp b f sz E rf=>(match rM l E with | some E'=>some (.lp b f sz E' rf) | none=>none)
 | .dead=>some .dead
def gR (l:List Nat) (M:List aj):List Nat→Option (List aj)
 | []=>some []
 | u::r=>(match M[u]? with
  | some b=>(match uh l b,gR l M r with | some b',some r'=>some (b'::r') | _,_=>none)
  | none=>none)
def ui (l:List Nat):AV→Option AV
 | .ag cs=>(match kJ l cs with | some b8=>some (.ag b8) | none=>none)
 | .tu cs=>(match kJ l cs with | some b8=>some (.tu b8) | none=>none)
 | c=>rL l c
def jO (l:List Nat) (E:List (Nat×AV)):List Nat→Option (List (Nat×AV))
 | []=>some []
 | t::r=>(match b9 E t with
  | some v=>(match ui l v,jO l E r with | some v',some r'=>some ((t,v')::r') | _,_=>none)
  | none=>none)
def fB (β:Beta):List Nat→Beta
 | []=>[]
 | u::r=>(match β[u]? with | some x=>x | none=>(none,0))::fB β r
theorem fL:∀ {l:List Nat} {i u:Nat} {x:Option Addr×Nat},l[i]?=some u→β[u]?=some x→(fB β l)[i]?=some x
 | [],i,u,x,h,_=>by simp at h
 | v::r,i,u,x,h,hx=>by
  cases i with
  | zero=>simp at h;subst h;simp [fB,hx]
  | succ i=>simp at h;simpa [fB] using fL h hx
theorem va (β:Beta) (l:List Nat):(fB β l).length=l.length:=by induction l with | nil=>rfl | cons u r ih=>simp [fB,ih]
theorem BP {K:World→Prop} {l:List Nat} {c c':AV} (h:ug l c=some c') {y:Value} (r:az K β c y):az K (fB β l) c' y:=by
 unfold ug at h
 split at h
 ·simp only [Option.some.injEq] at h;subst h;cases r with | d r=>exact .d r
 ·split at h
  ·rename_i hv;simp only [Option.some.injEq] at h;subst h;cases r with | sl hb=>exact .sl (fL (ld hv) hb)
  ·simp at h
 ·split at h
  ·rename_i hv;simp only [Option.some.injEq] at h;subst h;cases r with | pt hb=>exact .pt (fL (ld hv) hb)
  ·simp at h
 ·split at h
  ·rename_i hv;simp only [Option.some.injEq] at h;subst h;cases r with | mv hb=>exact .mv (fL (ld hv) hb)
  ·simp at h
 ·split at h
  ·rename_i hv;simp only [Option.some.injEq] at h;subst h;cases r with | yl hb=>exact .yl (fL (ld hv) hb)
  ·simp at h
 ·split at h
  ·rename_i hv;simp only [Option.some.injEq] at h;subst h;cases r with | sb hb=>exact .sb (fL (ld hv) hb)
  ·simp at h
 ·split at h
  ·rename_i hv;simp only [Option.some.injEq] at h;subst h;cases r with | ep hb=>exact .ep (fL (ld hv) hb)
  ·simp at h
 ·split at h
  ·rename_i hv;simp only [Option.some.injEq] at h;subst h;cases r with | sf hb h1 h2 h3=>exact .sf (fL (ld hv) hb) h1 h2 h3
  ·simp at h
 ·simp only [Option.some.injEq] at h;subst h;cases r with | rp a X hl hc hr=>exact .rp a X hl hc hr
 ·simp only [Option.some.injEq] at h;subst h;cases r with | bt hd hn=>exact .bt hd hn
 ·simp only [Option.some.injEq] at h;subst h;cases r with | uk hu=>exact .uk hu
 ·simp at h
theorem sY {K:World→Prop} {l:List Nat}:∀ {cs b8:List AV},oq l cs=some b8→b8.length=cs.length∧∀ {ys:List Value},(∀ (j:Nat) c y,cs[j]?=some c→ys[j]?=some y→az K β c y)→∀ (j:Nat) c y,b8[j]?=some c→ys[j]?=some y→az K (fB β l) c y
 | [],b8,h=>by simp only [oq,Option.some.injEq] at h;subst h;simp
 | c::r,b8,h=>by
  unfold oq at h
  split at h
  ·rename_i c1 r1 h1 h2
   simp only [Option.some.injEq] at h;subst h
   obtain ⟨e1,e2⟩:=sY (K:=K) h2
   refine ⟨by simp [e1],fun {ys} hr j d y h3 h4=>?_⟩
   cases ys with
   | nil=>simp at h4
   | cons z zs=>
    cases j with
    | zero=>simp at h3 h4;subst h3 h4;exact BP h1 (hr 0 _ _ rfl rfl)
    | succ j=>simp at h3 h4;exact e2 (ys:=zs) (fun j c y h5 h6=>hr (j+1) c y (by simpa using h5) (by simpa using h6)) j d y h3 h4
  ·simp at h
theorem wo {K:World→Prop} {l:List Nat} {c c':AV} (h:rL l c=some c') {y:Value} (r:az K β c y):az K (fB β l) c' y:=by
 unfold rL at h
 split at h
 ·split at h
  ·rename_i hl;simp only [Option.some.injEq] at h;subst h
   cases r with | fn ys de hr=>obtain ⟨e1,e2⟩:=sY (β:=β) (K:=K) hl;exact .fn ys (by omega) (e2 hr)
  ·simp at h
 ·split at h
  ·rename_i hl;simp only [Option.some.injEq] at h;subst h
   cases r with | ag ys de hr=>obtain ⟨e1,e2⟩:=sY (β:=β) (K:=K) hl;exact .ag ys (by omega) (e2 hr)
  ·simp at h
 ·split at h
  ·rename_i hl;simp only [Option.some.injEq] at h;subst h
   cases r with | tu ys de hr=>obtain ⟨e1,e2⟩:=sY (β:=β) (K:=K) hl;exact .tu ys (by omega) (e2 hr)
  ·simp at h
 ·exact BP h r
theorem pe {K:World→Prop} {l:List Nat}:∀ {cs b8:List AV},kJ l cs=some b8→b8.length=cs.length∧∀ {ys:List Value},(∀ (j:Nat) c y,cs[j]?=some c→ys[j]?=some y→az K β c y)→∀ (j:Nat) c y,b8[j]?=some c→ys[j]?=some y→az K (fB β l) c y
 | [],b8,h=>by simp only [kJ,Option.some.injEq] at h;subst h;simp
 | c::r,b8,h=>by
  unfold kJ at h
  split at h
  ·rename_i c1 r1 h1 h2
   simp only [Option.some.injEq] at h;subst h
   obtain ⟨e1,e2⟩:=pe (K:=K) h2
   refine ⟨by simp [e1],fun {ys} hr j d y h3 h4=>?_⟩
   cases ys with
   | nil=>simp at h4
   | cons z zs=>
    cases j with
    | zero=>simp at h3 h4;subst h3 h4;exact wo h1 (hr 0 _ _ rfl rfl)
    | succ j=>simp at h3 h4;exact e2 (ys:=zs) (fun j c y h5 h6=>hr (j+1) c y (by simpa using h5) (by simpa using h6)) j d y h3 h4
  ·simp at h
theorem BQ {K:World→Prop} {l:List Nat} {c c':AV} (h:ui l c=some c') {y:Value} (r:az K β c y):az K (fB β l) c' y:=by
 unfold ui at h
 split at h
 ·split at h
  ·rename_i hl;simp only [Option.some.injEq] at h;subst h
   cases r with | ag ys de hr=>obtain ⟨e1,e2⟩:=pe (β:=β) (K:=K) hl;exact .ag ys (by omega) (e2 hr)
  ·simp at h
 ·split at h
  ·rename_i hl;simp only [Option.some.injEq] at h;subst h
   cases r with | tu ys de hr=>obtain ⟨e1,e2⟩:=pe (β:=β) (K:=K) hl;exact .tu ys (by omega) (e2 hr)
  ·simp at h
 ·exact wo h r
theorem BR {K:World→Prop} {l:List Nat} {g:Nat→Value}:∀ {E E':List (Nat×AV)},rM l E=some E'→(∀ x ∈ E,az K β x.2 (g x.1))→∀ x ∈ E',az K (fB β l) x.2 (g x.1)
 | [],E',h,_,x,hx=>by simp only [rM,Option.some.injEq] at h;subst h;cases hx
 | (t,c)::r,E',h,hr,x,hx=>by
  unfold rM at h
  split at h
  ·rename_i c1 r1 h1 h2
   simp only [Option.some.injEq] at h;subst h
   rcases List.mem_cons.1 hx with rfl | hx
   ·exact wo h1 (hr (t,c) List.mem_cons_self)
   ·exact BR h2 (fun y hy=>hr y (List.mem_cons_of_mem _ hy)) x hx
  ·simp at h
theorem wq {K:World→Prop} {l:List Nat} {u i:Nat} {b b':aj} {H:aq} (hi:l[i]?=some u) (h:uh l b=some b') (r:bB K β u b H):bB K (fB β l) i b' H:=by
 unfold uh at h
 split at h
 ·split at h
  ·rename_i hl;simp only [Option.some.injEq] at h;subst h
   cases r with
   | bx hb ys de hr=>obtain ⟨e1,e2⟩:=pe (β:=β) (K:=K) hl;exact .bx (fL hi hb) ys (by omega) (e2 hr)
  ·simp at h
 ·simp only [Option.some.injEq] at h;subst h
  cases r with | rw hb X G hl hs hr=>exact .rw (fL hi hb) X G hl hs hr
 ·simp only [Option.some.injEq] at h;subst h
  cases r with | tw hb X G hl hs hr=>exact .tw (fL hi hb) X G hl hs hr
 ·split at h
  ·rename_i hv;simp only [Option.some.injEq] at h;subst h
   cases r with | nm hb=>exact .nm (fL (ld hv) hb)
  ·simp at h
 ·simp only [Option.some.injEq] at h;subst h
  cases r with | gw X hl hc hr=>exact .gw X hl hc hr
 ·split at h
  ·rename_i hl;simp only [Option.some.injEq] at h;subst h
   cases r with
   | fl hb ys de hm hc hr=>obtain ⟨e1,e2⟩:=pe (β:=β) (K:=K) hl;exact .fl (fL hi hb) ys de (by omega) hc (e2 hr)
  ·simp at h
 ·simp at h
 ·simp at h
 ·simp only [Option.some.injEq] at h;subst h
  cases r with | mp hb vs G hl hr=>exact .mp (fL hi hb) vs G hl hr
 ·simp only [Option.some.injEq] at h;subst h
  cases r with | mu jd hp hn aO hb vs G hl hr=>exact .mu jd hp hn aO (fL hi hb) vs G hl hr
 ·split at h
  ·rename_i hv;simp only [Option.some.injEq] at h;subst h
   cases r with
   | @it b bm c since ck um seen hb hm=>
    obtain ⟨c',h'⟩:=hm _ rfl
    exact .it (bm:=bm) (fL hi hb) (fun v' iH=>by cases iH;exact ⟨c',fL (ld hv) h'⟩)
  ·simp at h
 ·simp only [Option.some.injEq] at h;subst h
  cases r with
  | @it b bm c since ck um seen hb hm=>exact .it (bm:=bm) (fL hi hb) (fun v' iH=>by cases iH)
 ·split at h
  ·rename_i hp;simp only [Option.some.injEq] at h;subst h
   cases r with | @lp b c f sz oG bz E rf tmps hb bJ hr=>exact .lp (fL hi hb) bJ (BR (g:=fun t=>tmps.getD t undef) hp hr)
  ·simp at h
 ·simp only [Option.some.injEq] at h;subst h
  cases r with | dead=>exact .dead i
theorem qZ {l:List Nat}:∀ {k:List Nat} {M':List aj},gR l M k=some M'→M'.length=k.length∧∀ (i:Nat) b,M'[i]?=some b→∃ u b0,k[i]?=some u∧M[u]?=some b0∧uh l b0=some b
 | [],M',h=>by simp only [gR,Option.some.injEq] at h;subst h;simp
 | u::r,M',h=>by
  unfold gR at h
  split at h
  ·rename_i b hb
   split at h
   ·rename_i b' r' h1 h2
    simp only [Option.some.injEq] at h;subst h
    obtain ⟨e1,e2⟩:=qZ h2
    refine ⟨by simp [e1],fun i c hc=>?_⟩
    cases i with
    | zero=>simp at hc;subst hc;exact ⟨u,b,rfl,hb,h1⟩
    | succ i=>simp at hc;simpa using e2 i c hc
   ·simp at h
  ·simp at h
theorem wv {K:World→Prop} {l:List Nat} {ρ:Operand→Value} (hs:∀ t v,b9 E t=some v→az K β v (ρ (.tmp t))):∀ {ts:List Nat} {E':List (Nat×AV)},jO l E ts=some E'→∀ t v,b9 E' t=some v→az K (fB β l) v (ρ (.tmp t))
 | [],E',h,t,v,hv=>by simp only [jO,Option.some.injEq] at h;subst h;simp [b9] at hv
 | s::r,E',h,t,v,hv=>by
  unfold jO at h
  split at h
  ·rename_i u hu
   split at h
   ·rename_i u' r' h1 h2
    simp only [Option.some.injEq] at h;subst h
    unfold b9 at hv
    cases hk:s.beq t with
    | true=>
     simp only [hk,cond_true,Option.some.injEq] at hv;subst hv
     rw [← Nat.eq_of_beq_eq_true hk];exact BQ h1 (hs s u hu)
    | false=>simp only [hk,cond_false] at hv;exact wv hs h2 t v hv
   ·simp at h
  ·simp at h
theorem vP:∀ {l:List Nat} {M:List aj} {F:Nat→aq} {X:aq},l.Nodup→(∀ u ∈ l,u<M.length)→bN D w0 K0 M β F I X w→∃ rest,St D w0 w (rest++(I++(X++l.flatMap F)))
 | [],M,F,X,_,_,R=>⟨_,by simpa using R.st⟩
 | u::r,M,F,X,hn,hl,R=>by
  have hu:=hl u (by simp)
  have R':=R.fS (List.getElem?_eq_getElem hu)
  simp only [List.nodup_cons] at hn
  obtain ⟨rest,h⟩:=vP hn.2 (fun v hv=>by rw [List.length_set];exact hl v (by simp [hv])) R'
  refine ⟨rest,?_⟩
  have:r.flatMap (aM F u [])=r.flatMap F:=fN fun v hv=>by
   simp only [aM];rw [if_neg (fun e=>hn.1 (by rw [← e];exact hv))]
  rw [this] at h
  rw [List.flatMap_cons]
  simpa [List.append_assoc] using h
def nn (F:Nat→aq) (l:List Nat) (i:Nat):aq:=match l[i]? with | some u=>F u | none=>[]
theorem vQ {F:Nat→aq} {l:List Nat} {i u:Nat} (h:l[i]?=some u):nn F l i=F u:=by simp [nn,h]
theorem sZ (F:Nat→aq):∀ (l:List Nat),(List.range l.length).flatMap (nn F l)=l.flatMap F
 | []=>by simp
 | u::r=>by
  rw [List.length_cons,sI,List.flatMap_cons]
  congr 1
  have:=sZ F r
  exact this
def nodupB:List Nat→Bool
 | []=>true
 | u::r=>!(r.elem u)&&nodupB r
theorem o9:∀ {l:List Nat},nodupB l=true→l.Nodup
 | [],_=>by simp
 | u::r,h=>by
  simp only [nodupB,Bool.and_eq_true,Bool.not_eq_true'] at h
  rw [List.nodup_cons]
  refine ⟨?_,o9 h.2⟩
  intro hu;have:=h.1;simp [hu] at this
mutual
def mapA (σ:Nat→Nat):AV→AV
 | .d x=>.d x
 | .sl u n=>.sl (σ u) n
 | .pt u o=>.pt (σ u) o
 | .mv u=>.mv (σ u)
 | .yl u=>.yl (σ u)
 | .sb u k o n=>.sb (σ u) k o n
 | .sf u k o n q=>.sf (σ u) k o n q
 | .ep u k i o=>.ep (σ u) k i o
 | .rp r o=>.rp r o
 | .bt bs=>.bt bs
 | .uk=>.uk
 | .fn f l=>.fn f (lE σ l)
 | .fm f l=>.fm f (lE σ l)
 | .ag l=>.ag (lE σ l)
 | .tu l=>.tu (lE σ l)
def lE (σ:Nat→Nat):List AV→List AV
 | []=>[]
 | c::r=>mapA σ c::lE σ r
end
theorem lV (σ:Nat→Nat) (l:List AV):lE σ l=l.map (mapA σ):=by induction l with | nil=>rfl | cons c r ih=>rw [lE,ih];rfl
theorem n6 {K:World→Prop} {β aE:Beta} {σ:Nat→Nat} (h:∀ (u:Nat) x,β[u]?=some x→aE[σ u]?=some x) {v:AV} {y:Value} (r:az K β v y):az K aE (mapA σ v) y:=by
 have key:∀ {l:List AV} {ys:List Value},(∀ (j:Nat) c y,l[j]?=some c→ys[j]?=some y→az K aE (mapA σ c) y)→∀ (j:Nat) c y,(lE σ l)[j]?=some c→ys[j]?=some y→az K aE c y:=by
  intro l ys hh j c y h1 h2
  rw [lV,List.getElem?_map,Option.map_eq_some_iff] at h1
  obtain ⟨c',h1,rfl⟩:=h1
  exact hh j c' y h1 h2
 induction r with
 | d h=>exact .d h
 | sl hb=>exact .sl (h _ _ hb)
 | pt hb=>exact .pt (h _ _ hb)
 | mv hb=>exact .mv (h _ _ hb)
 | yl hb=>exact .yl (h _ _ hb)
 | sb hb=>exact .sb (h _ _ hb)
 | sf hb h1 h2 h3=>exact .sf (h _ _ hb) h1 h2 h3
 | ep hb=>exact .ep (h _ _ hb)
 | rp a X hl hc hr=>exact .rp a X hl hc hr
 | bt hd hn=>exact .bt hd hn
 | uk hu=>exact .uk hu
 | fn ys hl hr ih=>exact .fn ys (by rw [lV,List.length_map];exact hl) (key ih)
 | fm ys hl hr ih=>exact .fm ys (by rw [lV,List.length_map];exact hl) (key ih)
 | ag ys hl hr ih=>exact .ag ys (by rw [lV,List.length_map];exact hl) (key ih)
 | tu ys hl hr ih=>exact .tu ys (by rw [lV,List.length_map];exact hl) (key ih)
def fb (σ:Nat→Nat):aj→aj
 | .bx T cs=>.bx T (lE σ cs)
 | .rw T k rows=>.rw T k rows
 | .tw a c T k rows=>.tw a c T k rows
 | .nm v b=>.nm (σ v) b
 | .gw g row=>.gw g row
 | .fl T k m cs=>.fl T k m (lE σ cs)
 | .mf T c es=>.mf T c (es.map fun e=>(e.1,e.2.1,mapA σ e.2.2))
 | .il um s l c=>.il (um.map σ) s l c
 | .mp T c es=>.mp T c es
 | .mu T c es=>.mu T c es
 | .it um a s c=>.it (um.map σ) a s c
 | .lp b f sz E rf=>.lp b f sz (E.map fun x=>(x.1,mapA σ x.2)) rf
 | .dead=>.dead
theorem th {K:World→Prop} {β aE:Beta} {σ:Nat→Nat} (h:∀ (u:Nat) x,β[u]?=some x→aE[σ u]?=some x) {u:Nat} {b:aj} {H:aq} (r:bB K β u b H):bB K aE (σ u) (fb σ b) H:=by
 cases r with
 | dead=>exact .dead _
 | bx hb ys hl hr=>
  refine .bx (h _ _ hb) ys (by rw [lV,List.length_map];exact hl) fun j c y h1 h2=>?_
  rw [lV,List.getElem?_map,Option.map_eq_some_iff] at h1
  obtain ⟨c',h1,rfl⟩:=h1
  exact n6 h (hr j c' y h1 h2)
 | rw hb X G hl hs hr=>exact .rw (h _ _ hb) X G hl hs hr
 | tw hb X G hl hs hr=>exact .tw (h _ _ hb) X G hl hs hr
 | nm hb=>exact .nm (h _ _ hb)
 | gw X hl hc hr=>exact .gw X hl hc hr
 | fl hb ys hl hm hc hr=>
  refine .fl (h _ _ hb) ys hl (by rw [lV,List.length_map];exact hm) hc fun j c y h1 h2=>?_
  rw [lV,List.getElem?_map,Option.map_eq_some_iff] at h1
  obtain ⟨c',h1,rfl⟩:=h1
  exact n6 h (hr j c' y h1 h2)
 | @mf _ _ Tm zn zo hb vs hl hr=>
  have hh:=bB.mf (K:=K) (T:=Tm) (ck:=zn) (u:=σ u) (h _ _ hb) vs (by rw [List.length_map];exact hl) (es:=List.map (fun (e:Nat×MK×AV)=>(e.1,e.2.1,mapA σ e.2.2)) zo) (fun j c y h1 h2=>by
   rw [List.getElem?_map,Option.map_eq_some_iff] at h1
   obtain ⟨c',h1,rfl⟩:=h1
   exact n6 h (hr j c' y h1 h2))
  rw [vH (fun (e:Nat×MK×AV)=>(e.1,e.2.1,mapA σ e.2.2)) (fun _=>⟨rfl,rfl⟩)] at hh
  exact hh
 | mp hb vs G hl hr=>exact .mp (h _ _ hb) vs G hl hr
 | mu jd hp hn aO hb vs G hl hr=>exact .mu jd hp hn aO (h _ _ hb) vs G hl hr
 | lp hb bJ hr=>
  refine .lp (h _ _ hb) bJ fun x hx=>?_
  obtain ⟨x0,iu,rfl⟩:=List.mem_map.1 hx
  exact n6 h (hr x0 iu)
 | @il b bm c since last ck um seen hb hm=>
  refine .il (bm:=bm) (seen:=seen) (h _ _ hb) (fun v hv=>?_)
  cases um with
  | none=>cases hv
  | some v0=>cases hv;obtain ⟨c',h'⟩:=hm v0 rfl;exact ⟨c',h _ _ h'⟩
 | @it b bm c since ck um seen hb hm=>
  refine .it (bm:=bm) (h _ _ hb) (fun v hv=>?_)
  cases um with
  | none=>cases hv
  | some v0=>cases hv;obtain ⟨c',h'⟩:=hm v0 rfl;exact ⟨c',h _ _ h'⟩
def jH (M:List aj):List Nat→List aj
 | []=>M
 | u::r=>jH (M.set u .dead) r
theorem AR:∀ (l:List Nat) (M:List aj),(jH M l).length=M.length
 | [],_=>rfl
 | u::r,M=>by rw [jH,AR r,List.length_set]
theorem AT:∀ {l:List Nat} {M:List aj} {F:Nat→aq} {X:aq},l.Nodup→(∀ u ∈ l,u<M.length)→bN D w0 K0 M β F I X w→
  ∃ F0,bN D w0 K0 (jH M l) β F0 I (X++l.flatMap F) w∧(∀ u ∈ l,F0 u=[])∧∀ u,u ∉ l→F0 u=F u
 | [],M,F,X,_,_,R=>⟨F,by simpa [jH] using R,by simp,fun _ _=>rfl⟩
 | u::r,M,F,X,hn,hl,R=>by
  have hu:=hl u (by simp)
  have R':=R.fS (List.getElem?_eq_getElem hu)
  simp only [List.nodup_cons] at hn
  obtain ⟨F0,h1,h2,h3⟩:=AT hn.2 (fun v hv=>by rw [List.length_set];exact hl v (by simp [hv])) R'
  have:r.flatMap (aM F u [])=r.flatMap F:=fN fun v hv=>by
   simp only [aM];rw [if_neg (fun e=>hn.1 (by rw [← e];exact hv))]
  rw [this] at h1
  refine ⟨F0,by rw [List.flatMap_cons,← List.append_assoc];exact h1,fun v hv=>?_,fun v hv=>?_⟩
  ·rcases List.mem_cons.1 hv with e | e
   ·subst e;rw [h3 v hn.1];simp [aM]
   ·exact h2 v e
  ·simp only [List.mem_cons,not_or] at hv
   rw [h3 v hv.2];simp only [aM];rw [if_neg hv.1]
theorem bN.put {X Y:aq} (R:bN D w0 K0 M β F I (X++Y) w) {u:Nat} (hu:u<M.length) (hF:F u=[]) {blk:aj} (hb:bB (fun w=>K0 w∧Holds w I) β u blk X):
  bN D w0 K0 (M.set u blk) β (aM F u X) I Y w where
 len:=by rw [List.length_set];exact R.len
 blk:=by
  intro v bl hv
  rw [List.getElem?_set] at hv
  by_cases e:u=v
  ·subst e
   simp only [hu,if_pos,Option.some.injEq] at hv;subst hv
   simpa [aM] using hb
  ·rw [if_neg e] at hv
   have:aM F u X v=F v:=by simp only [aM];rw [if_neg (fun h=>e h.symm)]
   rw [this];exact R.blk v bl hv
 st:=by
  have hs:=R.st
  rw [List.length_set,range_split hu]
  rw [range_split hu,hF] at hs
  have c1:(List.range u).flatMap (aM F u X)=(List.range u).flatMap F:=fN fun a ha=>by have:=List.mem_range.1 ha;simp [aM];omega
  have c2:(List.range' (u+1) (M.length-(u+1))).flatMap (aM F u X)=(List.range' (u+1) (M.length-(u+1))).flatMap F:=fN fun a ha=>by have:=(List.mem_range'_1.1 ha).1;simp [aM];omega
  have iq:aM F u X u=X:=by simp [aM]
  rw [c1,c2,iq]
  exact hs.perm (by classical rw [List.perm_iff_count];intro z;simp only [List.count_append,List.count_nil];omega)
def mg (M:List aj):List Nat→List aj→List aj
 | u::r,b::bs=>mg (M.set u b) r bs
 | _,_=>M
theorem Bf:∀ {l:List Nat} {bs:List aj} {M:List aj} {F:Nat→aq} {G:Nat→aq} {Y:aq},l.Nodup→bs.length=l.length→(∀ u ∈ l,u<M.length)→(∀ u ∈ l,F u=[])→
  bN D w0 K0 M β F I ((List.range l.length).flatMap G++Y) w→(∀ (i u:Nat) b,l[i]?=some u→bs[i]?=some b→bB (fun w=>K0 w∧Holds w I) β u b (G i))→
  ∃ F',bN D w0 K0 (mg M l bs) β F' I Y w∧∀ u,u ∉ l→F' u=F u
 | [],[],M,F,G,Y,_,_,_,_,R,_=>⟨F,by simpa [mg] using R,fun _ _=>rfl⟩
 | [],_::_,_,_,_,_,_,h,_,_,_,_=>by simp at h
 | _::_,[],_,_,_,_,_,h,_,_,_,_=>by simp at h
 | u::r,b::bs,M,F,G,Y,hn,hl,aO,hF,R,hb=>by
  simp only [List.nodup_cons] at hn
  rw [List.length_cons,sI,List.append_assoc] at R
  have R1:=R.put (aO u (by simp)) (hF u (by simp)) (hb 0 u b rfl rfl)
  obtain ⟨F',h1,h2⟩:=Bf (l:=r) (bs:=bs) (G:=fun i=>G (i+1)) hn.2 (by simpa using hl) (fun v hv=>by rw [List.length_set];exact aO v (by simp [hv])) (fun v hv=>by
   simp only [aM];rw [if_neg (fun e=>hn.1 (by rw [← e];exact hv))];exact hF v (by simp [hv])) R1 (fun i v c h3 h4=>hb (i+1) v c (by simpa using h3) (by simpa using h4))
  refine ⟨F',h1,fun v hv=>?_⟩
  simp only [List.mem_cons,not_or] at hv
  rw [h2 v hv.2];simp only [aM];rw [if_neg hv.1]
theorem HX {bs:List aj} {γ:Beta} {G:Nat→aq} {Y:aq} (hl:γ.length=bs.length) (R:bN D w0 K0 M β F I ((List.range bs.length).flatMap G++Y) w) (hb:∀ (i:Nat) b,bs[i]?=some b→bB (fun w=>K0 w∧Holds w I) (β++γ) (M.length+i) b (G i)):
  ∃ F',bN D w0 K0 (M++bs) (β++γ) F' I Y w∧∀ u,u<M.length→F' u=F u:=by
 refine ⟨fun u=>if u<M.length then F u else G (u-M.length),⟨by simp [R.len,hl],fun u b hu=>?_,?_⟩,fun u hu=>by simp [hu]⟩
 ·rcases Nat.lt_or_ge u M.length with h | h
  ·rw [List.getElem?_append_left h] at hu
   simp only [h,if_true]
   exact (R.blk u b hu).mono (fun _ h=>h) (Ext.app _ _)
  ·rw [List.getElem?_append_right h] at hu
   have hn:¬ u<M.length:=by omega
   simp only [hn,if_false]
   have:=hb (u-M.length) b hu
   rwa [show M.length+(u-M.length)=u by omega] at this
 ·rw [List.length_append,List.range_add,List.flatMap_append,List.flatMap_map]
  have e1:(List.range M.length).flatMap (fun u=>if u<M.length then F u else G (u-M.length))=(List.range M.length).flatMap F:=fN fun u hu=>by have:=List.mem_range.1 hu;simp [this]
  have e2:(List.range bs.length).flatMap (fun i=>if M.length+i<M.length then F (M.length+i) else G (M.length+i-M.length))=(List.range bs.length).flatMap G:=fN fun i hi=>by
   rw [if_neg (by omega),Nat.add_sub_cancel_left]
  rw [e1,e2]
  exact R.st.perm (by classical rw [List.perm_iff_count];intro z;simp only [List.count_append];omega)
def aC (P:Program) (f:FuncId) (args:List AV) (M:List aj) (x:AV) (M':List aj):Prop:=
 iT P f=true∧∀ {D:List Nat} {w0:World} {K0:World→Prop} {β:Beta} {F:Nat→aq} {I:aq} {w:World} (ys:List Value),RM D w0 K0 M β F I w→(∀ w,Kp D w0 w→K0 w)→ys.length=args.length→(∀ (j:Nat) c y,args[j]?=some c→ys[j]?=some y→az (fun w=>K0 w∧Holds w I) β c y)→
  Calls P f ys.toArray w fun e w'=>∃ v,e=.returned v∧∃ aE F' I',RM D w0 K0 M' aE F' I' w'∧Ext β aE∧bU I I'∧az (fun w=>K0 w∧Holds w I') aE x v
def outer (l:List Nat) (n:Nat) (i:Nat):Nat:=match l[i]? with | some u=>u | none=>n+(i-l.length)
def xY (P:Program) (E:List (Nat×AV)) (M:List aj) (oc:Option a7) (g:Operand) (args:Array Operand):Option Out:=
 match aJ E g,lD E args.toList,oc with
 | some (.fn f cD),some vs,some (.mem l x M')=>(match kJ l (vs++cD),gR l M l with
  | some told,some Ms=>bif nodupB l&&Nat.ble l.length M'.length then some ⟨[aC P f told Ms x M'],mapA (outer l M.length) x,mg (jH M l++(M'.drop l.length).map (fb (outer l M.length))) l ((M'.take l.length).map (fb (outer l M.length))),l,[],none⟩ else none
  | _,_=>none)
 | _,_,_=>none
theorem FE (R:RM D w0 K0 M β F I w) (hK:∀ w,Kp D w0 w→K0 w) {f:FuncId} {vs:List AV} {ys:List Value} {l:List Nat} {told:List AV} {Ms M':List aj} {x:AV} (iD:ys.length=vs.length)
  (e1:told.length=vs.length) (e2:∀ (j:Nat) c y,told[j]?=some c→ys[j]?=some y→az (fun w=>K0 w∧Holds w I) (fB β l) c y) (m1:Ms.length=l.length) (m2:∀ (i:Nat) b,Ms[i]?=some b→∃ u b0,l[i]?=some u∧M[u]?=some b0∧bB (fun w=>K0 w∧Holds w I) (fB β l) i b (F u)) (iw:l.Nodup) (hle:l.length≤M'.length) (ic:aC P f told Ms x M'):
  Calls P f ys.toArray w fun e w'=>∃ v,e=.returned v∧∃ aE F' I',RM D w0 K0 (mg (jH M l++(M'.drop l.length).map (fb (outer l M.length))) l ((M'.take l.length).map (fb (outer l M.length)))) aE F' I' w'∧ib [] β aE∧bU I I'∧(∀ u,u<M.length→u ∉ l→F' u=F u)∧az (fun w=>K0 w∧Holds w I') aE (mapA (outer l M.length) x) v:=by
 have aO:∀ u ∈ l,u<M.length:=by
  intro u hu
  obtain ⟨i,hi,rfl⟩:=List.getElem_of_mem hu
  obtain ⟨u',b0,g1,g2,-⟩:=m2 i Ms[i] (List.getElem?_eq_getElem (by omega))
  rw [List.getElem?_eq_getElem hi,Option.some.injEq] at g1
  rw [g1];exact fK g2
 obtain ⟨F0,R0,ql,se⟩:=AT iw aO R.x
 rw [List.nil_append] at R0
 have zE:=AR l M
 have Es:=sZ F l
 have uQ:St D w0 w (l.flatMap F++((List.range (jH M l).length).flatMap F0++I)):=R0.st.perm (by classical rw [List.perm_iff_count];intro z;simp only [List.count_append];omega)
 have sg:∀ w',Kp (keys (l.flatMap F)) w w'→K0 w'∧Holds w' I:=fun w' k=>by
  have t:St (keys (l.flatMap F)) w w' []:=⟨k,by simp [keys],by simp [keys],Holds.nil _⟩
  have s':=St.call uQ rfl t
  rw [List.nil_append] at s'
  exact ⟨hK _ s'.kp,(Holds.app.1 s'.holds).2⟩
 have OB:RM (keys (l.flatMap F)) w (fun w=>K0 w∧Holds w I) Ms (fB β l) (nn F l) [] w:=by
  refine ⟨by rw [va,m1],fun i b hb=>?_,?_⟩
  ·obtain ⟨u,b0,g1,g2,g3⟩:=m2 i b hb
   rw [vQ g1]
   exact g3.mono (fun w hw=>hw.1) (Ext.refl _)
  ·rw [m1,Es,List.append_nil]
   exact St.start uQ.vE.nd uQ.vE.holds
 refine (ic.2 _ OB sg (by omega) (fun j c y h1 h2=>(e2 j c y h1 h2).mono (fun w hw=>hw.1) (Ext.refl _))).mono ?_
 rintro e w' ⟨v,rfl,aE,F',I',R',hE,-,hr⟩
 refine ⟨v,rfl,?_⟩
 have s2:=St.call uQ rfl R'.st
 have P9:l.length≤aE.length:=by rw [R'.len];exact hle
 have mN:∀ (i:Nat) q,aE[i]?=some q→(β++aE.drop l.length)[outer l M.length i]?=some q:=by
  intro i q hq
  unfold outer
  rcases Nat.lt_or_ge i l.length with hi | hi
  ·have Et:l[i]?=some l[i]:=List.getElem?_eq_getElem hi
   rw [Et]
   have hu:=aO l[i] (List.getElem_mem hi)
   have zD:l[i]<β.length:=by rw [R.len];exact hu
   obtain ⟨q',Eu⟩:∃ q',β[l[i]]?=some q':=⟨_,List.getElem?_eq_getElem zD⟩
   have:=hE i _ (fL Et Eu)
   rw [hq,Option.some.injEq] at this
   rw [List.getElem?_append_left (by rw [R.len];exact hu),Eu,this]
  ·rw [List.getElem?_eq_none hi]
   dsimp only
   rw [List.getElem?_append_right (by rw [R.len];omega),R.len,Nat.add_sub_cancel_left,List.getElem?_drop,show l.length+(i-l.length)=i by omega];exact hq
 have cy:∀ w,K0 w∧Holds w (I'++I)→(K0 w∧Holds w I)∧Holds w I':=fun w hw=>⟨⟨hw.1,(Holds.app.1 hw.2).2⟩,(Holds.app.1 hw.2).1⟩
 have KZ:(List.range M'.length).flatMap F'=(List.range l.length).flatMap F'++(List.range ((M'.drop l.length).map (fb (outer l M.length))).length).flatMap fun i=>F' (l.length+i):=by
  rw [List.length_map,List.length_drop]
  conv=>lhs;rw [show M'.length=l.length+(M'.length-l.length) by omega,List.range_add,List.flatMap_append,List.flatMap_map]
 have R2:bN D w0 K0 (jH M l) β F0 (I'++I) ((List.range ((M'.drop l.length).map (fb (outer l M.length))).length).flatMap (fun i=>F' (l.length+i))++(List.range l.length).flatMap F') w':=by
  refine ⟨R0.len,fun u b hb=>(R0.blk u b hb).mono (fun w hw=>(cy w hw).1) (Ext.refl _),?_⟩
  rw [KZ] at s2
  exact s2.perm (by classical rw [List.perm_iff_count];intro z;simp only [List.count_append];omega)
 obtain ⟨F2,R3,lJ⟩:=HX (γ:=aE.drop l.length) (by rw [List.length_drop,R'.len,List.length_map,List.length_drop]) R2 (fun i b hb=>by
  rw [List.getElem?_map,Option.map_eq_some_iff] at hb
  obtain ⟨b0,hb,rfl⟩:=hb
  rw [List.getElem?_drop] at hb
  have:=(th mN (R'.blk _ b0 hb)).mono cy (Ext.refl _)
  have ho:outer l M.length (l.length+i)=M.length+i:=by unfold outer;rw [List.getElem?_eq_none (by omega)];dsimp only;omega
  rw [ho] at this
  rw [zE];exact this)
 have OC:=R3.perm (Y:=(List.range l.length).flatMap F'++[]) (by rw [List.append_nil])
 obtain ⟨F3,R4,OD⟩:=Bf (bs:=(M'.take l.length).map (fb (outer l M.length))) iw (by simp;omega) (fun u hu=>by have:=aO u hu;rw [List.length_append];omega) (fun u hu=>by rw [lJ u (by rw [zE];exact aO u hu)];exact ql u hu) OC (fun i u b h1 h2=>by
  rw [List.getElem?_map,Option.map_eq_some_iff] at h2
  obtain ⟨b0,h2,rfl⟩:=h2
  rw [List.getElem?_take] at h2
  split at h2
  ·have:=(th mN (R'.blk i b0 h2)).mono cy (Ext.refl _)
   have ho:outer l M.length i=u:=by unfold outer;rw [h1]
   rw [ho] at this;exact this
  ·simp at h2)
 refine ⟨_,F3,I'++I,R4.nil rfl,(Ext.app _ _).b _,⟨I',rfl⟩,fun u hu Ev=>?_,(n6 mN hr).mono cy (Ext.refl _)⟩
 rw [OD u Ev,lJ u (by rw [zE];exact hu),se u Ev]
theorem Ap (R:RM D w0 K0 M β F I w) (hK:∀ w,Kp D w0 w→K0 w) {f:FuncId} {vs:List AV} {ys:List Value} {l:List Nat} {told:List AV} {Ms M':List aj} {x:AV} (iD:ys.length=vs.length) (mh:∀ (j:Nat) c y,vs[j]?=some c→ys[j]?=some y→az (fun w=>K0 w∧Holds w I) β c y)
  (pU:kJ l vs=some told) (oP:gR l M l=some Ms) (iw:l.Nodup) (hle:l.length≤M'.length) (ic:aC P f told Ms x M'):
  Calls P f ys.toArray w fun e w'=>∃ v,e=.returned v∧∃ aE F' I',RM D w0 K0 (mg (jH M l++(M'.drop l.length).map (fb (outer l M.length))) l ((M'.take l.length).map (fb (outer l M.length)))) aE F' I' w'∧ib [] β aE∧bU I I'∧(∀ u,u<M.length→u ∉ l→F' u=F u)∧az (fun w=>K0 w∧Holds w I') aE (mapA (outer l M.length) x) v:=by
 obtain ⟨e1,e2⟩:=pe (β:=β) (K:=fun w=>K0 w∧Holds w I) pU
 obtain ⟨m1,m2⟩:=qZ oP
 refine FE R hK iD e1 (e2 mh) m1 (fun i b hb=>?_) iw hle ic
 obtain ⟨u,b0,g1,g2,g3⟩:=m2 i b hb
 exact ⟨u,b0,g1,g2,wq g1 g3 (R.blk u b0 g2)⟩
theorem HY {g:Operand} {args:Array Operand} {fG:Array TypeId} (h:xY P E M oc g args=some out):aK P ⟨d,.call ⟨.value g,args,fG⟩,ty,pos,aft,gd⟩ E M out:=by
 unfold xY at h
 split at h
 ·rename_i f cD vs l x M' hg sh
  split at h
  ·rename_i told Ms pU oP
   cases hc:(nodupB l&&Nat.ble l.length M'.length) with
   | false=>simp only [hc,cond_false,reduceCtorEq] at h
   | true=>
    simp only [hc,cond_true,Option.some.injEq] at h;subst h
    simp only [Bool.and_eq_true] at hc
    have iw:=o9 hc.1
    have hle:=Nat.le_of_ble_eq_true hc.2
    intro D w0 K0 β F I ρ w C hv
    obtain ⟨ic,-⟩:=hv
    obtain ⟨y,hy,r⟩:=C.bW hg
    cases r with
    | fn cs cX ir=>
     obtain ⟨eC,kR⟩:=C.nI sh
     have iD:(args.toList.map ρ++cs).length=(vs++cD).length:=by rw [List.length_append,List.length_append,eC,cX]
     have oy:∀ (j:Nat) c y,(vs++cD)[j]?=some c→(args.toList.map ρ++cs)[j]?=some y→az (fun w=>K0 w∧Holds w I) β c y:=by
      intro j c y h1 h2
      rcases Nat.lt_or_ge j vs.length with hj | hj
      ·rw [List.getElem?_append_left hj] at h1
       rw [List.getElem?_append_left (by omega)] at h2
       exact kR j c y h1 h2
      ·rw [List.getElem?_append_right hj] at h1
       rw [List.getElem?_append_right (by omega),eC] at h2
       exact ir _ c y h1 h2
     have hm:args.map ρ=(args.toList.map ρ).toArray:=by rw [← Array.toList_map]
     refine qH hy ic.1 hm ?_
     have ma:((args.toList.map ρ).toArray++cs.toArray:Array Value)=(args.toList.map ρ++cs).toArray:=by simp
     rw [ma]
     exact Ap C.rm C.k iD oy pU oP iw hle ic
  ·simp at h
 ·simp at h
end Go.Proofs.YtcnpikbbmbombaaGreatDoor
namespace Go.Proofs.YtcnpikbbmbombaaGreatDoor
open Go.RowKit
section
variable {P:Program} {ρ:Operand→Value} {w:World} {Φ:Value→World→Prop} {d:Option Tmp} {ty t k e:TypeId} {pos:String} {aft:Array Edge} {gd:Option (Nat×Bool)} {x:Operand}
def s4:Obj→Bool
 | .cells _ _ _=>false
 | _=>true
theorem qU {r:Nat} {o:Obj} (h:w.heap[r]?=some o) (ho:s4 o=true):(getObj r).run P w=.ok o w:=by
 cases o<;>simp [s4] at ho<;>simp [getObj,Sem.run,h]
theorem s5 {r:Nat} {o:Obj} (h:w.heap[r]?=some o) (ho:s4 o=true) (o':Obj):(setObj r o').run P w=.ok () (cC w r o'):=by
 cases o<;>simp [s4] at ho<;>simp [setObj,Sem.run,h,cC]
end
end Go.Proofs.YtcnpikbbmbombaaGreatDoor
namespace Go.Proofs.YtcnpikbbmbombaaGreatDoor
open Go.RowKit
variable {P:Program} {T:aN} {E:List (Nat×AV)} {M:List aj}
variable {d:Option Tmp} {ty:TypeId} {pos:String} {aft:Array Edge} {gd:Option (Nat×Bool)} {oc:Option a7} {out:Out}
def PO (T:aN) (E:List (Nat×AV)) (M:List aj) (oc:Option a7) (t:TypeId) (x:Operand) (lo hi mx:Option Operand):Option Out:=
 match dv T t,aJ E x,oc with
 | some (.sl e),some (.sl u n),some o=>(match gi T e,M[u]? with
  | some k,some (.rw _ k' rows)=>(match lo,hi,mx,o with
   | none,some h,none,.n2 c _=>(match cU (aJ E h) with
    | some (.i64,z)=>bif k.beq k' then some ⟨[z=(c:Int),0<c,c≤n,n=rows.length],.sb u k 0 c,M,[],[],some []⟩ else none
    | _=>none)
   | none,some h,none,.res (.ro k2 [])=>(match cU (aJ E h) with
    | some (.i64,z)=>some ⟨[z=0,n=rows.length],.d (.ro k2 []),M,[],[],some []⟩
    | _=>none)
   | some l,none,none,.res (.ro k2 [])=>(match cU (aJ E l) with
    | some (.i64,z)=>some ⟨[z=(n:Int),n=rows.length],.d (.ro k2 []),M,[],[],some []⟩
    | _=>none)
   | _,_,_,_=>none)
  | _,_=>none)
 | _,_,_=>none
theorem ti {K:World→Prop} {k n c o c':Nat} {a:Option Addr} {rows:List (List DV)} (h:bV K (.ro k rows) (.slice a n c) []) (ho:o≤c') (hc:c'≤rows.length):bV K (.ro k ((rows.take c').drop o)) (.slice (if c=o then a else a.map (·.add (o*k))) (c'-o) (c-o)) []:=by
 cases h with
 | ro X hl hy hs hr=>
  obtain ⟨a',Oz,e,eR⟩:=hy
  simp only [Value.slice.injEq] at e;obtain ⟨rfl,rfl,rfl⟩:=e
  have hX:∀ i,i<rows.length→(X i).length=k:=fun i hi=>(hl i _ (List.getElem?_eq_getElem hi)).2
  have hlen:((rows.take c').drop o).length=c'-o:=by simp;omega
  have Ew:∀ (i:Nat) r,((rows.take c').drop o)[i]?=some r→rows[o+i]?=some r:=fun i r hi=>by
   rw [List.getElem?_drop,List.getElem?_take] at hi
   split at hi
   ·exact hi
   ·cases hi
  refine .ro (fun i=>X (o+i)) (fun i r hi=>hl (o+i) r (Ew i r hi)) ⟨_,_,by rw [hlen],by rw [hlen];omega⟩ (fun w hw=>?_) fun i r j x y h1 h2 h3=>hr (o+i) r j x y (Ew i r h1) h2 h3
  rw [hlen]
  refine ⟨fi fun i hi=>hX (o+i) (by omega),?_⟩
  rcases Nat.eq_zero_or_pos (c'-o) with h0 | hm
  ·exact Or.inl ⟨h0,_,_,by rw [h0]⟩
  rcases (hs w hw).2 with ⟨h0,-⟩ | ⟨a0,c0,e,kG⟩
  ·omega
  simp only [Value.slice.injEq] at e;obtain ⟨rfl,-,rfl⟩:=e
  refine Or.inr ⟨a0.add (o*k),_,by rw [if_neg (by omega)];rfl,fun j hj=>?_⟩
  have iG:(lay (c'-o) fun i=>X (o+i)).length=(c'-o)*k:=fi fun i hi=>hX (o+i) (by omega)
  have e1:lay (c'-o) (fun i=>X (o+i))=((lay rows.length X).drop (o*k)).take ((c'-o)*k):=by
   rw [← vO (n:=rows.length) (c:=o) hX (by omega)]
   exact pd (n:=rows.length-o) (c:=c'-o) (X:=fun i=>X (o+i)) (fun i hi=>hX (o+i) (by omega)) (by omega)
  have mC:(o+(c'-o))*k≤rows.length*k:=Nat.mul_le_mul_right k (by omega)
  rw [Nat.add_mul] at mC
  have hN:(lay rows.length X).length=rows.length*k:=fi hX
  have nN:o*k+j<(lay rows.length X).length:=by omega
  rw [Addr.pc,kG (o*k+j) nN,← List.getElem?_eq_getElem nN,← List.getElem?_eq_getElem hj,e1,List.getElem?_take,if_pos (by omega),List.getElem?_drop]
def yQ (T:aN) (E:List (Nat×AV)) (M:List aj) (oc:Option a7) (t:TypeId) (x:Operand) (lo hi mx:Option Operand):Option Out:=
 match dv T t,aJ E x,oc with
 | some (.sl e),some (.d (.ro k' rows)),some (.n2 c o)=>(match gi T e with
  | some k=>(match lo,hi,mx with
   | none,some h,none=>(match cU (aJ E h) with
    | some (.i64,z)=>bif k.beq k' then some ⟨[z=(c:Int),c≤rows.length],.d (.ro k (rows.take c)),M,[],[],some []⟩ else none
    | _=>none)
   | none,some h,some m=>(match cU (aJ E h),cU (aJ E m) with
    | some (.i64,z),some (.i64,z')=>bif k.beq k' then some ⟨[z=(c:Int),z'=(c:Int),c≤rows.length],.d (.ro k (rows.take c)),M,[],[],some []⟩ else none
    | _,_=>none)
   | some l,none,none=>(match cU (aJ E l) with
    | some (.i64,z)=>bif k.beq k' then some ⟨[z=(o:Int),o≤rows.length],.d (.ro k (rows.drop o)),M,[],[],some []⟩ else none
    | _=>none)
   | some l,some h,none=>(match cU (aJ E l),cU (aJ E h) with
    | some (.i64,z),some (.i64,z')=>bif k.beq k' then some ⟨[z=(o:Int),z'=(c:Int),o≤c,c≤rows.length],.d (.ro k ((rows.take c).drop o)),M,[],[],some []⟩ else none
    | _,_=>none)
   | _,_,_=>none)
  | _=>none)
 | _,_,_=>none
theorem Ju (hT:bc P T=true) {t:TypeId} {x:Operand} {lo hi mx:Option Operand} (h:yQ T E M oc t x lo hi mx=some out):aK P ⟨d,.slice t x lo hi mx,ty,pos,aft,gd⟩ E M out:=by
 unfold yQ at h
 split at h
 rotate_left
 ·simp at h
 rename_i e k' rows c o ht hx
 split at h
 rotate_left
 ·simp at h
 rename_i k hk
 replace ht:=c8 hT ht
 replace hk:=iz hT hk
 split at h
 ·rename_i hh
  split at h
  rotate_left
  ·simp at h
  rename_i z hz
  cases cy:k.beq k' with
  | false=>simp [cy] at h
  | true=>
   simp only [cy,cond_true,Option.some.injEq] at h;subst h
   obtain rfl:=Nat.eq_of_beq_eq_true cy
   refine aK.look ?_ (by simp)
   intro D w0 K0 β F I ρ w C hv
   obtain ⟨rfl,hc,-⟩:=hv
   obtain ⟨y,hy,r⟩:=C.bW hx
   cases r with | d r=>
   obtain ⟨a,n,cc,rfl,hle,eR⟩:∃ a n cc,y=.slice a n cc∧n=rows.length∧rows.length≤cc:=by
    cases r with | ro X hl oQ hs hr=>obtain ⟨a,cc,rfl,h2⟩:=oQ;exact ⟨_,_,_,rfl,rfl,h2⟩
   subst hle
   have p:=ti r (o:=0) (c':=c) (Nat.zero_le _) hc
   rw [List.drop_zero] at p
   refine ⟨_,.d p,fun w' _=>?_⟩
   have:=n5 (P:=P) (w:=w') (a:=a) ht hk (n:=rows.length) (c:=cc) (l:=0) (h:=c) (m:=cc) (vl:=none) (vh:=some (.int .i64 c)) (vm:=none) (by simp [Instr.sliceBounds,ji (show c≤cc by omega)])
   simp only [execOp,hy,C.int hz,Option.map_some,Option.map_none,Sem.run_bind,this,Result.andThen_ok,Sem.run_pure]
 ·rename_i hh mm
  split at h
  rotate_left
  ·simp at h
  rename_i z z' hz j1
  cases cy:k.beq k' with
  | false=>simp [cy] at h
  | true=>
   simp only [cy,cond_true,Option.some.injEq] at h;subst h
   obtain rfl:=Nat.eq_of_beq_eq_true cy
   refine aK.look ?_ (by simp)
   intro D w0 K0 β F I ρ w C hv
   obtain ⟨rfl,rfl,hc,-⟩:=hv
   obtain ⟨y,hy,r⟩:=C.bW hx
   cases r with | d r=>
   obtain ⟨a,n,cc,rfl,hle,eR⟩:∃ a n cc,y=.slice a n cc∧n=rows.length∧rows.length≤cc:=by
    cases r with | ro X hl oQ hs hr=>obtain ⟨a,cc,rfl,h2⟩:=oQ;exact ⟨_,_,_,rfl,rfl,h2⟩
   subst hle
   have p:=ti r (o:=0) (c':=c) (Nat.zero_le _) hc
   rw [List.drop_zero] at p
   have hb:∀ q:Nat,(if q=0 then a else a.map (·.add (0*k)))=a:=by
    intro q
    rw [Nat.zero_mul]
    split
    ·rfl
    ·cases a with
     | none=>rfl
     | some a=>simp [add_zero']
   rw [hb cc] at p
   refine ⟨_,.d (p.cap (c':=c-0) (Nat.le_refl _)),fun w' _=>?_⟩
   have:=n5 (P:=P) (w:=w') (a:=a) ht hk (n:=rows.length) (c:=cc) (l:=0) (h:=c) (m:=c) (vl:=none) (vh:=some (.int .i64 c)) (vm:=some (.int .i64 c)) (by simp [Instr.sliceBounds,ji (show c≤cc by omega),ji (Nat.le_refl c)])
   rw [hb c] at this
   simp only [execOp,hy,C.int hz,C.int j1,Option.map_some,Option.map_none,Sem.run_bind,this,Result.andThen_ok,Sem.run_pure]
 ·rename_i l
  split at h
  rotate_left
  ·simp at h
  rename_i z hz
  cases cy:k.beq k' with
  | false=>simp [cy] at h
  | true=>
   simp only [cy,cond_true,Option.some.injEq] at h;subst h
   obtain rfl:=Nat.eq_of_beq_eq_true cy
   refine aK.look ?_ (by simp)
   intro D w0 K0 β F I ρ w C hv
   obtain ⟨rfl,hc,-⟩:=hv
   obtain ⟨y,hy,r⟩:=C.bW hx
   cases r with | d r=>
   obtain ⟨a,n,cc,rfl,hle,eR⟩:∃ a n cc,y=.slice a n cc∧n=rows.length∧rows.length≤cc:=by
    cases r with | ro X hl oQ hs hr=>obtain ⟨a,cc,rfl,h2⟩:=oQ;exact ⟨_,_,_,rfl,rfl,h2⟩
   subst hle
   have p:=ti r (o:=o) (c':=rows.length) hc (Nat.le_refl _)
   rw [List.take_length] at p
   refine ⟨_,.d p,fun w' _=>?_⟩
   have:=n5 (P:=P) (w:=w') (a:=a) ht hk (n:=rows.length) (c:=cc) (l:=o) (h:=rows.length) (m:=cc) (vl:=some (.int .i64 o)) (vh:=none) (vm:=none) (by simp [Instr.sliceBounds,ji hc])
   simp only [execOp,hy,C.int hz,Option.map_some,Option.map_none,Sem.run_bind,this,Result.andThen_ok,Sem.run_pure]
 ·rename_i l hh
  split at h
  rotate_left
  ·simp at h
  rename_i z z' hz j1
  cases cy:k.beq k' with
  | false=>simp [cy] at h
  | true=>
   simp only [cy,cond_true,Option.some.injEq] at h;subst h
   obtain rfl:=Nat.eq_of_beq_eq_true cy
   refine aK.look ?_ (by simp)
   intro D w0 K0 β F I ρ w C hv
   obtain ⟨rfl,rfl,ho,hc,-⟩:=hv
   obtain ⟨y,hy,r⟩:=C.bW hx
   cases r with | d r=>
   obtain ⟨a,n,cc,rfl,hle,eR⟩:∃ a n cc,y=.slice a n cc∧n=rows.length∧rows.length≤cc:=by
    cases r with | ro X hl oQ hs hr=>obtain ⟨a,cc,rfl,h2⟩:=oQ;exact ⟨_,_,_,rfl,rfl,h2⟩
   subst hle
   have p:=ti r (o:=o) (c':=c) ho hc
   refine ⟨_,.d p,fun w' _=>?_⟩
   have:=n5 (P:=P) (w:=w') (a:=a) ht hk (n:=rows.length) (c:=cc) (l:=o) (h:=c) (m:=cc) (vl:=some (.int .i64 o)) (vh:=some (.int .i64 c)) (vm:=none) (by simp [Instr.sliceBounds,ji (show c≤cc by omega),ji ho])
   simp only [execOp,hy,C.int hz,C.int j1,Option.map_some,Option.map_none,Sem.run_bind,this,Result.andThen_ok,Sem.run_pure]
 ·simp at h
end Go.Proofs.YtcnpikbbmbombaaGreatDoor
namespace Go.Proofs.YtcnpikbbmbombaaGreatDoor
open Go.RowKit
variable {P:Program} {T:aN} {D:List Nat} {w0:World} {K0:World→Prop} {E:List (Nat×AV)} {M:List aj} {β:Beta} {F:Nat→aq} {I X:aq} {ρ:Operand→Value} {w:World}
variable {d:Option Tmp} {ty:TypeId} {pos:String} {aft:Array Edge} {gd:Option (Nat×Bool)} {oc:Option a7} {out:Out}
def wx (T:aN) (E:List (Nat×AV)) (M:List aj) (oc:Option a7) (t:TypeId) (x ix:Operand):Option Out:=
 match dv T t,aJ E x,cU (aJ E ix),oc with
 | some (.sl e),some (.d (.v (.slice a n _))),some (_,z),some (.n2 i v)=>(match gi T e,M[v]? with
  | some k,some (.tw a' _ _ k' rows)=>bif k.beq k' then some ⟨[z=(i:Int),a=a',i<n,n=rows.length],.ep v k i 0,M,[],[],some []⟩ else none
  | _,_=>none)
 | _,_,_,_=>none
theorem FZ (hT:bc P T=true) {t:TypeId} {x ix:Operand} (h:wx T E M oc t x ix=some out):aK P ⟨d,.indexAddr t x ix,ty,pos,aft,gd⟩ E M out:=by
 unfold wx at h
 split at h
 rotate_left
 ·simp at h
 rename_i e a n ca kk z i v ht hv hz
 replace ht:=c8 hT ht
 split at h
 rotate_left
 ·simp at h
 rename_i k a' c' T' k' rows hk hM
 replace hk:=iz hT hk
 cases cy:k.beq k' with
 | false=>simp [cy] at h
 | true=>
  simp only [cy,cond_true,Option.some.injEq] at h;subst h
  obtain rfl:=Nat.eq_of_beq_eq_true cy
  refine aK.look (fun C dE=>?_) (by simp)
  obtain ⟨rfl,rfl,hi,Ed,-⟩:=dE
  obtain ⟨y,hy,r⟩:=C.bW hv
  cases r with | d r=>
  cases r with | v=>
  obtain ⟨H,-,hB,-⟩:=C.rm.at hM
  cases hB with
  | tw hb X G hl hs hr=>
   obtain ⟨b',cap,cs,he,-⟩:=hs.block (by omega)
   cases he
   exact ⟨_,by rw [add_eq];simpa using az.ep (k:=k) (i:=i) (o:=0) hb,fun _ _=>sS ht hk hy (C.int hz) (by omega) (by omega)⟩
def wy (T:aN) (E:List (Nat×AV)) (M:List aj) (oc:Option a7) (t:TypeId) (x y:Operand):Option Out:=
 match aJ E x,aJ E y,gi T t,oc with
 | some (.ep u k i o),some v,some n,some (.ix _ row)=>(match oa v with
  | some l=>(match kH M l with
   | some (vc,xs,M')=>(match M'[u]? with
    | some (.tw a c e k' rows)=>bif k.beq k'&&l.length.beq n&&(o+n).ble k then some ⟨(rows[i]?=some row)::vc,.d .jk,M'.set u (.tw a c e k (rows.set i (row.take o++(xs++row.drop (o+xs.length))))),u::p6 l,[],none⟩ else none
    | _=>none)
   | none=>none)
  | none=>none)
 | _,_,_,_=>none
theorem F5 (hT:bc P T=true) {t:TypeId} {x y:Operand} (h:wy T E M oc t x y=some out):aK P ⟨d,.store t x y,ty,pos,aft,gd⟩ E M out:=by
 unfold wy at h
 split at h
 rotate_left
 ·simp at h
 rename_i u k i o v n i0 row hx hy hn
 split at h
 rotate_left
 ·simp at h
 rename_i l hl
 split at h
 rotate_left
 ·simp at h
 rename_i vc xs M' hp
 split at h
 rotate_left
 ·simp at h
 rename_i aa ca e k' rows hM
 cases hc:(k.beq k'&&l.length.beq n&&(o+n).ble k) with
 | false=>simp [hc] at h
 | true=>
  simp only [hc,cond_true,Option.some.injEq] at h;subst h
  simp only [Bool.and_eq_true] at hc
  obtain rfl:=Nat.eq_of_beq_eq_true hc.1.1
  have r4:=Nat.eq_of_beq_eq_true hc.1.2
  have hle:=Nat.le_of_ble_eq_true hc.2
  intro D w0 K0 β F I ρ w C hv
  obtain ⟨cf,hv⟩:=hv
  obtain ⟨yx,jA,rx⟩:=C.bW hx
  obtain ⟨yy,oM,ry⟩:=C.bW hy
  obtain ⟨zs,h1,h2,h3,h4⟩:=qI hl ry
  obtain ⟨lM,F',Hp,R',dd,zy⟩:=tg C.rm.x hp hv (ys:=zs) h2 h3
  rw [List.nil_append] at R'
  cases rx with
  | @ep _ _ _ _ b0 c0 hb=>
   have aO:u<M'.length:=fK hM
   have hB:=R'.blk u _ hM
   have hH:=R'.jl hM
   have R1:=R'.fS hM
   have dl:=dd.len
   obtain ⟨Gx,zz,sa⟩:=dd.to
   generalize j3:F' u=Fu at hB hH R1
   cases hB with
   | tw aQ X G de hs hr=>
    rw [hb] at aQ;cases aQ
    obtain ⟨hi,-⟩:=List.getElem?_eq_some_iff.1 cf
    obtain ⟨b',cap,cs,he,rfl,cS,eR,ht⟩:=hs.block (by omega)
    cases he
    have hw:=(Holds.app.1 hH).1.one
    have hX:∀ a,a<rows.length→(X a).length=k:=fun a ha=>(de a _ (List.getElem?_eq_getElem ha)).2
    have zx:i*k+k≤rows.length*k:=by have:=Nat.mul_le_mul_right k (show i+1≤rows.length from hi);rw [Nat.succ_mul] at this;exact this
    have bJ:rows.length*k≤cs.size:=by rw [cS];exact Nat.mul_le_mul_right _ eR
    refine vZ n (iz hT hn) jA oM hw (by rw [h1];simp;omega) (by omega) (by rw [h1];simpa using h4) ?_
    rw [h1]
    have ra:dU (fun w=>K0 w∧Holds w I) k rows X G:=⟨de,hr⟩
    have iI:=ra.put (o:=o) (zs:=zs) (xs:=xs) (Gx:=Gx) cf (by omega) dl sa
    have bC:=R1.st
    have mb:St D w0 w ((b0,.cells cs e (0,0))::(bL rows.length k G++(Hp++((List.range (M'.set u .dead).length).flatMap (aM F' u [])++I)))):=bC.perm (by classical rw [List.perm_iff_count];intro z;simp only [List.count_append,List.count_cons,List.cons_append,List.nil_append];omega)
    have mc:=mb.set (.cells (cA cs (i*k+o) zs) e (0,0))
    have me:=vN (n:=rows.length) (k:=k) (i:=i) (o:=o) (m:=zs.length) hi (by omega) G Gx
    rw [zz,← dl] at mc
    have R2:bN D w0 K0 (M'.set u .dead) β (aM F' u []) I (([(b0,.cells (cA cs (i*k+o) zs) e (0,0))]++bL rows.length k (eA G i o zs.length Gx))++(List.range' o zs.length).flatMap (G i)) _:=R1.move (mc.perm (by
     classical
     have hc:=List.perm_iff_count.1 me
     rw [List.perm_iff_count];intro z
     have:=hc z
     simp only [List.count_append,List.count_cons,List.cons_append,List.nil_append] at this ⊢
     omega))
    have gP:bB (fun w=>K0 w∧Holds w I) β u (.tw (some ⟨b0,0,none⟩) ca e k (rows.set i (row.take o++(xs++row.drop (o+xs.length))))) ([(b0,.cells (cA cs (i*k+o) zs) e (0,0))]++bL rows.length k (eA G i o zs.length Gx)):=by
     have:=bB.tw (K:=fun w=>K0 w∧Holds w I) (u:=u) (T:=e) (k:=k) (rows:=rows.set i (row.take o++(xs++row.drop (o+xs.length)))) (H0:=[(b0,.cells (cA cs (i*k+o) zs) e (0,0))]) hb (js X i o zs) (eA G i o zs.length Gx) iI.hl (by
      rw [List.length_set]
      exact ⟨fi fun a ha=>qT (by omega) (hX a ha),Or.inr ⟨_,_,_,rfl,rfl,by rw [lS];exact cS,eR,BO hX hi (by omega) ht bJ⟩⟩) iI.hr
     rw [List.length_set] at this;exact this
    have R3:=((R2.drop.perm (Y:=([(b0,.cells (cA cs (i*k+o) zs) e (0,0))]++bL rows.length k (eA G i o zs.length Gx))++[]) (by rw [List.append_nil])).back (by rw [List.length_set];exact aO) (by simp [aM]) gP).nil rfl
    rw [List.set_set] at R3
    refine ⟨β,_,I,R3,(Ext.refl β).b _,bU.refl _,fun q hq cN=>?_,.d (.jk _)⟩
    simp only [List.mem_cons,not_or] at cN
    simp only [aM];rw [if_neg cN.1,if_neg cN.1]
    exact zy q cN.2
def xd (T:aN) (E:List (Nat×AV)) (M:List aj) (oc:Option a7) (t:TypeId) (x:Operand):Option Out:=
 match aJ E x with
 | some (.ep u k i o)=>(match oc with
  | some (.ix _ row)=>(match M[u]? with | some (.tw _ _ _ k' rows)=>bif k.beq k'&&row.all DV.cp then (match lI T t (row.map .d) o with | some v=>some ⟨[rows[i]?=some row],v,M,[],[],some [u]⟩ | none=>none) else none | _=>none)
  | _=>none)
 | _=>none
theorem GO (hT:bc P T=true) {t:TypeId} {x:Operand} (h:xd T E M oc t x=some out):aK P ⟨d,.load t x,ty,pos,aft,gd⟩ E M out:=by
 unfold xd at h
 split at h
 ·rename_i u k i o hv
  split at h
  ·rename_i i0 row
   split at h
   rotate_left
   ·simp at h
   rename_i aw cw Tt k' rows hM
   cases hk:(k.beq k'&&row.all DV.cp) with
   | false=>simp [hk] at h
   | true=>
    simp only [hk,cond_true] at h
    simp only [Bool.and_eq_true] at hk
    obtain ⟨hk,r3⟩:=hk
    obtain rfl:=Nat.eq_of_beq_eq_true hk
    split at h
    ·rename_i v jZ
     simp only [Option.some.injEq] at h;subst h
     refine aK.look ?_ (by simpa using fK hM)
     intro D w0 K0 β F I ρ w C dE
     obtain ⟨cf,-⟩:=dE
     obtain ⟨y,hy,r⟩:=C.bW hv
     cases r with
     | ep hb=>
      obtain ⟨H,hF,hB,hH⟩:=C.rm.at hM
      cases hB with
      | tw aQ X G hl hs hr=>
       rw [hb] at aQ;cases aQ
       obtain ⟨zf,zg⟩:=hl i row cf
       obtain ⟨hi,-⟩:=List.getElem?_eq_some_iff.1 cf
       obtain ⟨b',cap,cs,he,rfl,cS,hn,ht⟩:=hs.block (by omega)
       cases he
       have de:(X i).length=(row.map AV.d).length:=by rw [List.length_map];omega
       obtain ⟨y',h1,h2⟩:=pG hT (a:=⟨_,i*k,none⟩) (R:=az (fun w=>K0 w∧Holds w I) β) (fun l ys=>az.ag ys) jZ (hy.trans (by rw [add_eq])) de (fun j c z h1 h2=>by
        simp only [List.getElem?_map,Option.map_eq_some_iff] at h1
        obtain ⟨c',h1,rfl⟩:=h1
        exact .d ((hr i row j c' z cf h1 h2).cp (List.all_eq_true.1 r3 c' (List.mem_of_getElem? h1))))
       refine ⟨y',h1,fun w' zh=>h2 w' fun j z hj=>?_⟩
       have eT:Holds w' _:=zh.2 u (by simp)
       rw [hF] at eT
       have hw:=(Holds.app.1 eT).1.one
       obtain ⟨jy,-⟩:=List.getElem?_eq_some_iff.1 hj
       rw [add_eq,cell_of hw,← hj,← kA (fun i hi=>(hl i _ (List.getElem?_eq_getElem hi)).2) hi (by omega),← ht,List.getElem?_take,if_pos,Array.getElem?_toList]
       have:=Nat.mul_le_mul_right k (show i+1≤rows.length from hi);rw [Nat.succ_mul] at this;omega
    ·simp at h
  ·simp at h
 ·simp at h
end Go.Proofs.YtcnpikbbmbombaaGreatDoor
namespace Go.Proofs.YtcnpikbbmbombaaGreatDoor
open Go.RowKit
variable {P:Program} {T:aN} {E:List (Nat×AV)} {M:List aj} {d:Option Tmp} {ty:TypeId} {pos:String} {aft:Array Edge} {gd:Option (Nat×Bool)} {oc:Option a7} {out:Out}
def dB (P:Program) (t:TypeId):Prop:=P.underlying t=some (.pointer (P.pointee t))
theorem F6 {ρ:Operand→Value} {w:World} {Φ:Value→World→Prop} {x:Operand} {t t':TypeId} {o:Option Addr} {c:Bool} (ht:dB P t) (h:ρ x=.pointer o) (hn:ρ (.const (.pointer none))=.pointer none) (hc:(!o.isNone)=c) (aH:Φ (.bool c) w):a8 P ⟨d,.binOp .neq t x (.const (.pointer none)) t',ty,pos,aft,gd⟩ ρ w Φ:=by
 subst hc
 exact .pure (v:=.bool !o.isNone) (by simp [execOp,h,hn,eqGuard,binOp,Op.equal,Op.maxDepth,run_equalIn_pointer_nil w 9999 t o ht]) aH
def rN:Option AV→Option Bool
 | some (.pt _ _)=>some false
 | some (.ep _ _ _ _)=>some false
 | some (.rp _ _)=>some false
 | some (.d (.v (.pointer none)))=>some true
 | _=>none
def xZ (P:Program) (E:List (Nat×AV)) (M:List aj) (op:BinOp) (t:TypeId) (x y:Operand):Option Out:=
 match op,y,rN (aJ E x) with
 | .eql,.const (.pointer none),some c=>some (lk [dB P t] (.b c) M)
 | .neq,.const (.pointer none),some c=>some (lk [dB P t] (.b (!c)) M)
 | _,_,_=>none
theorem BS {K:World→Prop} {β:Beta} {v:Option AV} {a:AV} {c:Bool} {y:Value} (h:rN v=some c) (hv:v=some a) (r:az K β a y):∃ o,y=.pointer o∧o.isNone=c:=by
 subst hv
 unfold rN at h
 split at h
 ·rename_i hx;cases hx;simp only [Option.some.injEq] at h;subst h
  cases r with | pt hb=>exact ⟨_,rfl,rfl⟩
 ·rename_i hx;cases hx;simp only [Option.some.injEq] at h;subst h
  cases r with | ep hb=>exact ⟨_,rfl,rfl⟩
 ·rename_i hx;cases hx;simp only [Option.some.injEq] at h;subst h
  cases r with | rp a X hl hc hr=>exact ⟨_,rfl,rfl⟩
 ·rename_i hx;cases hx;simp only [Option.some.injEq] at h;subst h
  cases r with | d r=>cases r;exact ⟨_,rfl,rfl⟩
 ·simp at h
theorem HZ {op:BinOp} {t t':TypeId} {x y:Operand} (h:xZ P E M op t x y=some out):aK P ⟨d,.binOp op t x y t',ty,pos,aft,gd⟩ E M out:=by
 unfold xZ at h
 split at h
 ·rename_i c hx
  simp only [Option.some.injEq] at h;subst h
  refine kD (.of fun _=>⟨_,rfl⟩) ?_
  intro D w0 K0 β F I ρ w' C hv
  obtain ⟨hp,-⟩:=hv
  cases oR:aJ E x with
  | none=>rw [oR] at hx;simp [rN] at hx
  | some a=>
   obtain ⟨o,ho,hc⟩:=BS hx oR (C.ev oR)
   exact ⟨_,.d (.v _),fun w Φ aH=>Hz hp ho (C.const _) hc aH⟩
 ·rename_i c hx
  simp only [Option.some.injEq] at h;subst h
  refine kD (.of fun _=>⟨_,rfl⟩) ?_
  intro D w0 K0 β F I ρ w' C hv
  obtain ⟨hp,-⟩:=hv
  cases oR:aJ E x with
  | none=>rw [oR] at hx;simp [rN] at hx
  | some a=>
   obtain ⟨o,ho,hc⟩:=BS hx oR (C.ev oR)
   exact ⟨_,.d (.v _),fun w Φ aH=>F6 hp ho (C.const _) (by rw [hc]) aH⟩
 ·simp at h
def mi (g:Nat):List aj→Option (List DV)
 | []=>none
 | .gw g' row::r=>bif g'.beq g then some row else mi g r
 | _::r=>mi g r
theorem wz {g:Nat} {row:List DV}:∀ {M:List aj},mi g M=some row→∃ u:Nat,M[u]?=some (aj.gw g row)
 | [],h=>by simp [mi] at h
 | b::r,h=>by
  have next:mi g r=some row→∃ u:Nat,(b::r)[u]?=some (aj.gw g row):=fun h=>by
   obtain ⟨u,hu⟩:=wz h
   exact ⟨u+1,by simpa using hu⟩
  cases b with
  | gw g' PQ=>
   simp only [mi] at h
   cases hc:g'.beq g with
   | true=>
    simp only [hc,cond_true,Option.some.injEq] at h;subst h
    obtain rfl:=Nat.eq_of_beq_eq_true hc
    exact ⟨0,rfl⟩
   | false=>
    simp only [hc,cond_false] at h
    exact next h
  | _=>simp only [mi] at h;exact next h
def wA (T:aN) (E:List (Nat×AV)) (M:List aj) (oc:Option a7) (t:TypeId) (x ix:Operand):Option Out:=
 match x,cU (aJ E ix),dv T t,oc with
 | .global g,some (_,z),some (.ar n e),some (.ix i [c])=>(match gi T e,mi g M with
  | some k,some row=>bif k.beq 1 then some (lk [z=(i:Int),i<n,row[i]?=some c] (.rp [c] 0) M) else none
  | _,_=>none)
 | _,_,_,_=>none
theorem F7 (hT:bc P T=true) {t:TypeId} {x ix:Operand} (h:wA T E M oc t x ix=some out):aK P ⟨d,.indexAddr t x ix,ty,pos,aft,gd⟩ E M out:=by
 unfold wA at h
 split at h
 rotate_left
 ·simp at h
 rename_i g kk z n e i c hz ht
 split at h
 rotate_left
 ·simp at h
 rename_i k row hk hg
 cases hc:k.beq 1 with
 | false=>simp [hc] at h
 | true=>
  simp only [hc,cond_true,Option.some.injEq] at h;subst h
  obtain rfl:=Nat.eq_of_beq_eq_true hc
  refine aK.same fun C dE=>?_
  obtain ⟨rfl,hi,cf,-⟩:=dE
  obtain ⟨u,hu⟩:=wz hg
  obtain ⟨H,-,hB,-⟩:=C.rm.at hu
  cases hB with
  | gw X hl km hr=>
   have aO:i<X.length:=by have:=(List.getElem?_eq_some_iff.1 cf).1;omega
   have hx:X[i]?=some X[i]:=List.getElem?_eq_getElem aO
   have e0:(⟨g,0,none⟩:Addr).add (((i:Nat):Int).toNat*1)=((⟨g,0,none⟩:Addr).add i).add 0:=by rw [add_zero'];simp
   refine ⟨_,fun _ _=>o7 (c8 hT ht) (iz hT hk) (C.DA g) (C.int hz) (by simp) (by simp;omega),?_⟩
   rw [e0]
   refine .rp _ [X[i]] rfl (fun w' eT j y hj=>?_) (fun j c' y h1 h2=>?_)
   ·cases j with
    | zero=>simp at hj;subst hj;rw [add_zero'];exact km w' eT i _ hx
    | succ j=>simp at hj
   ·cases j with
    | zero=>simp at h1 h2;subst h1;subst h2;exact hr i _ _ cf hx
    | succ j=>simp at h1
section
variable {ρ:Operand→Value} {w:World}
theorem GP {w:World} {b:Nat} {c:Array Value} {e:TypeId} (hb:w.heap[b]?=some (.cells c e (0,0))):w.freeze ⟨b,c.size,none⟩ 1=cC w b (.cells c e (c.size,c.size+1)):=by
 unfold World.freeze cC
 rw [if_neg (by decide)]
 congr 1
 apply Array.ext_getElem?
 intro j
 have aO:=lb hb
 rw [Array.getElem?_modify,Array.getElem?_setIfInBounds]
 by_cases e':b=j
 ·subst e'
  have hg:w.heap[b]=.cells c e (0,0):=by rw [Array.getElem?_eq_getElem aO] at hb;exact Option.some.inj hb
  simp [aO,hg]
 ·simp [e']
theorem K1 {t t' e:TypeId} {x:Operand} {bs:List UInt8} (ht:P.underlying t=some .string) (oS:P.underlying t'=some (.slice e)) (he:P.underlying e=some (.int .u8)) (hx:ρ x=.string ⟨bs.toArray⟩):
  ∃ (k:Nat) (c:Array Value),bs.length≤k∧c=(bs.map fun b:UInt8=>Value.int .u8 b.toNat).toArray++Array.replicate (k-bs.length) (Value.int .u8 0)∧
   (execOp ρ ⟨d,.convert t t' x,ty,pos,aft,gd⟩).run P w=.ok (.value (.slice (some ⟨w.heap.size,0,none⟩) bs.length k)) (cC (w.drew.alloc (.cells c e (0,0))) w.heap.size (.cells c e (c.size,c.size+1))):=by
 refine ⟨(Question.appendCap bs.length 0 e).cut (w.tape w.drawn (.appendCap bs.length 0 e)),_,by simp [Question.cut],rfl,?_⟩
 generalize hk:(Question.appendCap bs.length 0 e).cut (w.tape w.drawn (.appendCap bs.length 0 e))=k
 generalize km:(bs.map fun b:UInt8=>Value.int .u8 b.toNat).toArray++Array.replicate (k-bs.length) (Value.int .u8 0)=c
 have zb:(choose (.appendCap bs.length 0 e)).run P w=.ok k w.drew:=by
  rw [← hk];simp [choose,Sem.run,Question.forced]
 have cf:∀ (cs:Array Value) (w:World),(newRow e cs).run P w=.ok ⟨w.heap.size,0,none⟩ (w.alloc (.cells cs e)):=by
  intro cs w;simp [newRow,newObj,Sem.run]
 have mC:(markStringish ⟨w.heap.size,0,none⟩).run P (w.drew.alloc (.cells c e (0,0)))=.ok () (cC (w.drew.alloc (.cells c e (0,0))) w.heap.size (.cells c e (c.size,c.size+1))):=by
  have hb:(w.drew.alloc (.cells c e (0,0))).heap[w.heap.size]?=some (.cells c e (0,0)):=A4 w.drew _
  have oH:(w.drew.alloc (.cells c e (0,0))).shape? w.heap.size=some (e,c.size):=by unfold World.shape?;rw [hb]
  have:=GP hb
  unfold markStringish
  simp only [Sem.run_bind]
  have h1:(shape w.heap.size).run P (w.drew.alloc (.cells c e (0,0)))=.ok (some (e,c.size)) (w.drew.alloc (.cells c e (0,0))):=by
   simp [shape,Sem.run,oH]
  rw [h1]
  simp only [Result.andThen_ok]
  simp [freeze,Sem.run,this]
 have Me:(Conv.stringToBytes e ⟨bs.toArray⟩).run P w=.ok (.slice (some ⟨w.heap.size,0,none⟩) bs.length k) (cC (w.drew.alloc (.cells c e (0,0))) w.heap.size (.cells c e (c.size,c.size+1))):=by
  have bJ:(⟨bs.toArray⟩:ByteArray).size=bs.length:=by simp [ByteArray.size]
  unfold Conv.stringToBytes
  simp only [bJ,Sem.run_bind,zb,Result.andThen_ok,cf,Sem.run_pure]
  have cS:((Array.map (fun b:UInt8=>Value.int .u8 (b.toNat:Int)) bs.toArray)++Array.replicate (k-bs.length) (Value.int .u8 0))=c:=by rw [← km];simp
  rw [cS]
  have hd:w.drew.heap.size=w.heap.size:=rfl
  rw [hd,mC]
  rfl
 simp only [execOp,hx,convert,Sem.run_bind,run_underlying ht,run_underlying oS,run_underlying he,Result.andThen_ok,Me,Sem.run_pure]
theorem Cq {n:Nat} (f:Nat→Value):lay n (fun i=>[f i])=(List.range n).map f:=by
 unfold lay
 induction n with
 | zero=>rfl
 | succ n ih=>rw [List.range_succ,List.flatMap_append,List.map_append,ih];rfl
end
theorem Cr (w:World) (o:Obj):Gr w (w.drew.alloc o)∧dW w (w.drew.alloc o) [(w.heap.size,o)]:=⟨(Gr.drew w).trans (Gr.alloc w.drew o),(dW.alloc w.drew o).ahead (Gr.drew w)⟩
def x4 (T:aN) (E:List (Nat×AV)) (M:List aj) (t t':TypeId) (x:Operand):Option Out:=
 match dv T t,dv T t',kg (aJ E x) with
 | some .st,some (.sl e),some bs=>(match dv T e with
  | some (.it .u8)=>some ⟨[],.d (.ro 1 (af bs)),M,[],[],none⟩
  | _=>none)
 | _,_,_=>none
theorem H3 (hT:bc P T=true) {t t':TypeId} {x:Operand} (h:x4 T E M t t' x=some out):aK P ⟨d,.convert t t' x,ty,pos,aft,gd⟩ E M out:=by
 unfold x4 at h
 split at h
 rotate_left
 ·cases h
 rename_i e bs ht oS hs
 split at h
 rotate_left
 ·cases h
 rename_i he
 simp only [Option.some.injEq] at h;subst h
 intro D w0 K0 β F I ρ w C _
 have NA:=C.str (x:=x) (l:=bs) hs
 obtain ⟨k,c,hk,hc,gQ⟩:=K1 (d:=d) (ty:=ty) (pos:=pos) (aft:=aft) (gd:=gd) (w:=w) (c8 hT ht) (c8 hT oS) (c8 hT he) NA
 refine a8.pure gQ ?_
 have s1:St D w0 (w.drew.alloc (.cells c e (0,0))) ((w.heap.size,.cells c e (0,0))::((List.range M.length).flatMap F++I)):=C.rm.st.new (Cr w (.cells c e (0,0))).1 (Cr w (.cells c e (0,0))).2
 have s2:=s1.set (.cells c e (c.size,c.size+1))
 have R2:RM D w0 K0 M β F ([(w.heap.size,.cells c e (c.size,c.size+1))]++I) (cC (w.drew.alloc (.cells c e (0,0))) w.heap.size (.cells c e (c.size,c.size+1))):=by
  refine ⟨C.rm.len,fun v bl hv=>(C.rm.blk v bl hv).mono (fun w hw=>⟨hw.1,(Holds.app.1 hw.2).2⟩) (Ext.refl _),?_⟩
  exact s2.perm (by classical rw [List.perm_iff_count];intro z;simp only [List.count_append,List.count_cons,List.count_nil];omega)
 refine ⟨β,F,_,R2,(Ext.refl β).b _,⟨_,rfl⟩,fun _ _ _=>rfl,?_⟩
 have hlen:(af bs).length=bs.length:=by simp [af]
 refine .d (.ro (fun i=>[Value.int .u8 (bs.getD i 0).toNat]) (fun i r hi=>?_) ⟨_,_,by rw [hlen],by rw [hlen];exact hk⟩ (fun w' eT=>?_) fun i r j cc z h1 h2 h3=>?_)
 ·simp only [af,List.getElem?_map,Option.map_eq_some_iff] at hi
  obtain ⟨b,-,rfl⟩:=hi;exact ⟨rfl,rfl⟩
 ·have aQ:w'.heap[w.heap.size]?=some (.cells c e (c.size,c.size+1)):=(Holds.app.1 eT.2).1.one
  rw [hlen,Cq]
  refine ⟨by simp,Or.inr ⟨_,k,rfl,fun j hj=>?_⟩⟩
  rw [add_eq,Nat.zero_add,cell_of aQ,hc]
  have jy:j<bs.length:=by simpa using hj
  rw [Array.getElem?_append_left (by simpa using jy)]
  simp [jy,List.getD_eq_getElem?_getD]
 ·simp only [af,List.getElem?_map,Option.map_eq_some_iff] at h1
  obtain ⟨b,hb,rfl⟩:=h1
  cases j with
  | succ j=>simp at h2
  | zero=>
   simp at h2 h3;subst h2;subst h3
   simp only [List.getD_eq_getElem?_getD,hb,Option.getD_some]
   exact .v _
end Go.Proofs.YtcnpikbbmbombaaGreatDoor
namespace Go.Proofs.YtcnpikbbmbombaaGreatDoor
open Go.RowKit
variable {P:Program} {T:aN} {D:List Nat} {w0:World} {K0:World→Prop} {E:List (Nat×AV)} {M:List aj} {β:Beta} {F:Nat→aq} {I X:aq} {ρ:Operand→Value} {w:World}
variable {d:Option Tmp} {ty:TypeId} {pos:String} {aft:Array Edge} {gd:Option (Nat×Bool)} {oc:Option a7} {out:Out}
def uj (l:List UInt8):AV:=.d (.v (.string ⟨l.toArray⟩))
theorem BT (l:List UInt8):(⟨l.toArray⟩:ByteArray).size=l.length:=by simp [ByteArray.size]
theorem Jv {op:BinOp} {t t':TypeId} {x y:Operand} {a b:List UInt8} (OE:op=.add) (hx:ρ x=.string ⟨a.toArray⟩) (hy:ρ y=.string ⟨b.toArray⟩) (hle:a.length+b.length≤9223372036854775807):
  (execOp ρ ⟨d,.binOp op t x y t',ty,pos,aft,gd⟩).run P w=.ok (.value (.string ⟨(a++b).toArray⟩)) w:=by
 subst OE
 have hn:¬ (((a.length+b.length:Nat):Int)>IntKind.i64.max):=by simp [IntKind.max,IntKind.signed,IntKind.bits];omega
 have mw:(⟨a.toArray⟩:ByteArray)++⟨b.toArray⟩=⟨(a++b).toArray⟩:=by
  apply ByteArray.ext;simp
 simp only [execOp,hx,hy,eqGuard,binOp,Op.stringOp,Sem.run_bind,Sem.run_pure,Result.andThen_ok,BT]
 rw [if_neg hn,mw]
 simp
def yR (E:List (Nat×AV)) (M:List aj) (op:BinOp) (x y:Operand):Option Out:=
 match op,kg (aJ E x),kg (aJ E y) with
 | .add,some a,some b=>some (lk [a.length+b.length≤9223372036854775807] (uj (a++b)) M)
 | _,_,_=>none
theorem Jw {op:BinOp} {t t':TypeId} {x y:Operand} (h:yR E M op x y=some out):aK P ⟨d,.binOp op t x y t',ty,pos,aft,gd⟩ E M out:=by
 unfold yR at h
 split at h
 ·rename_i a b ha hb
  simp only [Option.some.injEq] at h;subst h
  exact aK.same fun C hv=>⟨_,fun w' _=>Jv rfl (C.str ha) (C.str hb) hv.1,.d (.v _)⟩
 ·cases h
theorem F8 {t:TypeId} {x ix:Operand} {l:List UInt8} {k:IntKind} {i:Nat} {u:UInt8} (ht:P.underlying t=some .string) (hx:ρ x=.string ⟨l.toArray⟩) (hi:ρ ix=.int k (i:Int)) (hu:l[i]?=some u):
  (execOp ρ ⟨d,.index t x ix,ty,pos,aft,gd⟩).run P w=.ok (.value (.int .u8 (u.toNat:Int))) w:=by
 have h4:(⟨l.toArray⟩:ByteArray)[i]?=some u:=by
  obtain ⟨hi,rfl⟩:=List.getElem?_eq_some_iff.1 hu
  exact getElem?_pos (⟨l.toArray⟩:ByteArray) i (by show i<l.toArray.size;simpa using hi)
 simp [execOp,hx,hi,Instr.index,asIntOf,Sem.run_bind,run_underlying ht,h4]
def x5 (T:aN) (E:List (Nat×AV)) (M:List aj) (oc:Option a7) (t:TypeId) (x ix:Operand):Option Out:=
 match dv T t,kg (aJ E x),cU (aJ E ix),oc with
 | some .st,some l,some (_,z),some (.ix i [c])=>some (lk [z=(i:Int),∃ u:UInt8,l[i]?=some u∧c=.v (.int .u8 (u.toNat:Int))] (.d c) M)
 | _,_,_,_=>none
theorem H4 (hT:bc P T=true) {t:TypeId} {x ix:Operand} (h:x5 T E M oc t x ix=some out):aK P ⟨d,.index t x ix,ty,pos,aft,gd⟩ E M out:=by
 unfold x5 at h
 split at h
 ·rename_i l k z i c hu hx hz
  simp only [Option.some.injEq] at h;subst h
  refine aK.same fun C hv=>?_
  obtain ⟨rfl,⟨u,h1,rfl⟩,-⟩:=hv
  exact ⟨_,fun w' _=>F8 (c8 hT hu) (C.str hx) (C.int hz) h1,.d (.v _)⟩
 ·cases h
theorem NB (l:List UInt8) (o c:Nat):(⟨l.toArray⟩:ByteArray).extract o c=⟨((l.take c).drop o).toArray⟩:=by
 apply ByteArray.ext
 rw [ByteArray.data_extract]
 apply Array.toList_inj.1
 simp [Array.toList_extract,List.extract_eq_take_drop,List.drop_take]
theorem vR {t:TypeId} {x:Operand} {lo hi:Option Operand} {l:List UInt8} {o c:Nat} (ht:P.underlying t=some .string) (hx:ρ x=.string ⟨l.toArray⟩)
  (hb:(Instr.sliceBounds false l.length l.length (lo.map ρ) (hi.map ρ) none).run P w=.ok (o,c,l.length) w):
  (execOp ρ ⟨d,.slice t x lo hi none,ty,pos,aft,gd⟩).run P w=.ok (.value (.string ⟨((l.take c).drop o).toArray⟩)) w:=by
 simp only [execOp,hx,Option.map_none,Instr.sliceAt,Instr.slice,Sem.run_bind,run_underlying ht,Result.andThen_ok,Option.isSome_none,Bool.false_eq_true,if_false,BT,hb,Sem.run_pure,NB]
def yS (T:aN) (E:List (Nat×AV)) (M:List aj) (oc:Option a7) (t:TypeId) (x:Operand) (lo hi mx:Option Operand):Option Out:=
 match dv T t,kg (aJ E x),oc,mx with
 | some .st,some l,some (.n2 c o),none=>(match lo,hi with
  | none,some h=>(match cU (aJ E h) with
   | some (.i64,z)=>some (lk [z=(c:Int),c≤l.length] (uj (l.take c)) M)
   | _=>none)
  | some lo,none=>(match cU (aJ E lo) with
   | some (.i64,z)=>some (lk [z=(o:Int),o≤l.length] (uj (l.drop o)) M)
   | _=>none)
  | some lo,some h=>(match cU (aJ E lo),cU (aJ E h) with
   | some (.i64,z),some (.i64,z')=>some (lk [z=(o:Int),z'=(c:Int),o≤c,c≤l.length] (uj ((l.take c).drop o)) M)
   | _,_=>none)
  | _,_=>none)
 | _,_,_,_=>none
theorem Jx (hT:bc P T=true) {t:TypeId} {x:Operand} {lo hi mx:Option Operand} (h:yS T E M oc t x lo hi mx=some out):aK P ⟨d,.slice t x lo hi mx,ty,pos,aft,gd⟩ E M out:=by
 unfold yS at h
 split at h
 rotate_left
 ·cases h
 rename_i l c o hu hx
 replace hu:=c8 hT hu
 split at h
 ·rename_i hh
  split at h
  rotate_left
  ·cases h
  rename_i z hz
  simp only [Option.some.injEq] at h;subst h
  refine aK.same ?_
  intro D w0 K0 β F I ρ w C hv
  obtain ⟨rfl,hc,-⟩:=hv
  refine ⟨.string ⟨(l.take c).toArray⟩,fun w' _=>?_,.d (.v _)⟩
  have:=vR (P:=P) (ρ:=ρ) (w:=w') (d:=d) (ty:=ty) (pos:=pos) (aft:=aft) (gd:=gd) (lo:=none) (hi:=some hh) (o:=0) (c:=c) hu (C.str hx) (by simp [Instr.sliceBounds,C.int hz,ji hc])
  simpa using this
 ·rename_i ll
  split at h
  rotate_left
  ·cases h
  rename_i z hz
  simp only [Option.some.injEq] at h;subst h
  refine aK.same ?_
  intro D w0 K0 β F I ρ w C hv
  obtain ⟨rfl,ho,-⟩:=hv
  refine ⟨.string ⟨(l.drop o).toArray⟩,fun w' _=>?_,.d (.v _)⟩
  have:=vR (P:=P) (ρ:=ρ) (w:=w') (d:=d) (ty:=ty) (pos:=pos) (aft:=aft) (gd:=gd) (lo:=some ll) (hi:=none) (o:=o) (c:=l.length) hu (C.str hx) (by simp [Instr.sliceBounds,C.int hz,ji ho])
  simpa using this
 ·rename_i ll hh
  split at h
  rotate_left
  ·cases h
  rename_i z z' hz j1
  simp only [Option.some.injEq] at h;subst h
  refine aK.same fun C hv=>?_
  obtain ⟨rfl,rfl,ho,hc,-⟩:=hv
  refine ⟨.string ⟨((l.take c).drop o).toArray⟩,fun w' _=>?_,.d (.v _)⟩
  exact vR hu (C.str hx) (by simp [Instr.sliceBounds,C.int hz,C.int j1,ji hc,ji ho])
 ·cases h
def x6 (T:aN) (E:List (Nat×AV)) (M:List aj) (oc:Option a7) (t:TypeId) (x ix:Operand):Option Out:=
 match x,cU (aJ E ix),dv T t,oc with
 | .global g,some (_,z),some (.ar n e),some (.ix i row)=>(match gi T e,mi g M with
  | some k,some DD=>some (lk [z=(i:Int),i<n,(DD.drop (i*k)).take k=row] (.rp row 0) M)
  | _,_=>none)
 | _,_,_,_=>none
theorem H5 (hT:bc P T=true) {t:TypeId} {x ix:Operand} (h:x6 T E M oc t x ix=some out):aK P ⟨d,.indexAddr t x ix,ty,pos,aft,gd⟩ E M out:=by
 unfold x6 at h
 split at h
 rotate_left
 ·cases h
 rename_i g kk z n e i row hz ht
 split at h
 rotate_left
 ·cases h
 rename_i k DD hk hg
 simp only [Option.some.injEq] at h;subst h
 refine aK.same fun C dE=>?_
 obtain ⟨rfl,hi,rfl,-⟩:=dE
 obtain ⟨u,hu⟩:=wz hg
 obtain ⟨H,-,hB,-⟩:=C.rm.at hu
 cases hB with
 | gw X hl km hr=>
  have e0:(⟨g,0,none⟩:Addr).add (((i:Nat):Int).toNat*k)=((⟨g,0,none⟩:Addr).add (i*k)).add 0:=by rw [add_zero'];simp
  refine ⟨_,fun _ _=>o7 (c8 hT ht) (iz hT hk) (C.DA g) (C.int hz) (by simp) (by simp;omega),?_⟩
  rw [e0]
  refine .rp _ ((X.drop (i*k)).take k) (by simp [hl]) (fun w' eT j y hj=>?_) (fun j c' y h1 h2=>?_)
  ·rw [List.getElem?_take] at hj
   split at hj
   ·rw [List.getElem?_drop] at hj
    rw [Addr.pc];exact km w' eT _ y hj
   ·cases hj
  ·rw [List.getElem?_take] at h1 h2
   split at h1
   ·rename_i hj
    rw [if_pos hj] at h2
    rw [List.getElem?_drop] at h1 h2
    exact hr _ _ _ h1 h2
   ·cases h1
theorem BU (K:World→Prop) (bs:List UInt8):dU K 1 (af bs) (fun i=>[Value.int .u8 (bs.getD i 0).toNat]) (fun _ _=>[]):=by
 refine ⟨fun i r hi=>?_,fun i r j cc z h1 h2 h3=>?_⟩
 ·simp only [af,List.getElem?_map,Option.map_eq_some_iff] at hi
  obtain ⟨b,-,rfl⟩:=hi;exact ⟨rfl,rfl⟩
 ·simp only [af,List.getElem?_map,Option.map_eq_some_iff] at h1
  obtain ⟨b,hb,rfl⟩:=h1
  cases j with
  | succ j=>simp at h2
  | zero=>
   simp at h2 h3;subst h2;subst h3
   simp only [List.getD_eq_getElem?_getD,hb,Option.getD_some]
   exact .v _
theorem Bg (bs:List UInt8):lay bs.length (fun i=>[Value.int .u8 (bs.getD i 0).toNat])=bs.map fun b:UInt8=>Value.int .u8 (b.toNat:Int):=by
 rw [Cq]
 apply List.ext_getElem
 ·simp
 ·intro i h1 h2
  simp only [List.length_map,List.length_range] at h1
  simp [List.getD_eq_getElem?_getD,List.getElem?_eq_getElem h1]
theorem Bh (bs:List UInt8):aW (af bs):=by simp [aW,AV.one,bQ,af]
def x7 (T:aN) (E:List (Nat×AV)) (M:List aj) (st xt:TypeId) (x y:Operand):Option Out:=
 match jB T st,dv T xt,kg (aJ E y),aJ E x with
 | some (e,k,b,_),some .st,some bs,some vx=>bif k.beq 1 then (match p4 M e k vx with
  | some (some u,n,rows)=>some ⟨[n=rows.length,(2*(n+bs.length)+192)*b≤281474976710656,n+bs.length<4611686018427387904],.sl u (n+bs.length),(M.map (iC [u])).set u (.rw e k (rows++af bs)),[u],[u],none⟩
  | some (none,_,_)=>some ⟨[(2*(0+bs.length)+192)*b≤281474976710656,0+bs.length<4611686018427387904],.sl M.length bs.length,M++[.rw e k (af bs)],[],[],none⟩
  | none=>none) else none
 | _,_,_,_=>none
theorem H6 (hT:bc P T=true) {st xt:TypeId} {x y:Operand} (h:x7 T E M st xt x y=some out):aK P ⟨d,.call ⟨.builtin .append,#[x,y],#[st,xt]⟩,ty,pos,aft,gd⟩ E M out:=by
 unfold x7 at h
 split at h
 rotate_left
 ·cases h
 rename_i e k b z bs vx he hu hs hx
 cases kT:k.beq 1 with
 | false=>simp [kT] at h
 | true=>
  simp only [kT,cond_true] at h
  obtain rfl:=Nat.eq_of_beq_eq_true kT
  have Ex:(af bs).length=bs.length:=by simp [af]
  split at h
  ·rename_i u n rows hd
   simp only [Option.some.injEq] at h;subst h
   obtain ⟨rfl,hM⟩:=vq hd
   intro D w0 K0 β F I ρ w C hv
   obtain ⟨hn,h1,h2,-⟩:=hv
   obtain ⟨X1,G1,H0,hF,eU,a1,-⟩:=mU C.rm hM hn (C.ev hx)
   have R1:=C.rm.x.fS hM
   rw [hF,List.nil_append] at R1
   have aO:u<(M.set u .dead).length:=by rw [List.length_set];exact fK hM
   have ie:lf P xt w 1 (ρ y) bs.length (lay bs.length fun i=>[Value.int .u8 (bs.getD i 0).toNat]):=by
    rw [Bg,C.str hs];exact lf.str (c8 hT hu)
   refine (we hT he rfl rfl (R1.perm (Y:=(H0++bL n 1 G1)++[]) (by rw [List.append_nil])) aO (by simp [aM]) eU hn Ex.symm a1 rfl (BU _ bs) (by rw [lU]) ie h1 h2 (Bh bs)).mono ?_
   rintro v' w' ⟨aE,F',R',hE,kn,hr⟩
   rw [u9] at R'
   exact ⟨aE,F',I,R',hE,bU.refl _,fun q _ hq=>by have qk:q≠u:=(by simpa using hq);rw [kn q qk];simp only [aM];rw [if_neg qk],hr⟩
  ·rename_i n0 r0 hd
   simp only [Option.some.injEq] at h;subst h
   obtain rfl:=vr hd
   intro D w0 K0 β F I ρ w C hv
   obtain ⟨h1,h2,-⟩:=hv
   have mz:ρ x=.slice none 0 0:=by have:=C.ev hx;generalize ρ x=q at this;cases this with | d r=>cases r;rfl
   have ie:lf P xt w 1 (ρ y) bs.length (lay bs.length fun i=>[Value.int .u8 (bs.getD i 0).toNat]):=by
    rw [Bg,C.str hs];exact lf.str (c8 hT hu)
   refine (wg hT he mz rfl C.rm.x Ex.symm (BU _ bs) (by rw [lU]) ie h1 h2 (Bh bs)).mono ?_
   rintro v' w' ⟨aE,F',R',hE,kn,hr⟩
   exact ⟨aE,F',I,R',hE.b _,bU.refl _,fun q hq _=>kn q hq,hr⟩
  ·cases h
def xe (E:List (Nat×AV)) (M:List aj) (r:Value) (c x y:Operand):Option Out:=
 match aJ E c,aJ E x,aJ E y with
 | some (.d (.v vc)),some (.d (.v vx)),some (.d (.v vy))=>some (lk [∃ b:Bool,vc=.bool b∧(bif b then vx else vy)=r] (.d (.v r)) M)
 | _,_,_=>none
theorem Ctx.val (C:Ctx D w0 K0 E M β F I ρ w) {x:Operand} {v:Value} (h:aJ E x=some (.d (.v v))):ρ x=v:=by
 obtain ⟨y,hy,r⟩:=C.bW h
 cases r with | d r=>cases r;exact hy
theorem GQ {r:Value} {c x y:Operand} (h:xe E M r c x y=some out):aK P ⟨d,.pick c x y,ty,pos,aft,gd⟩ E M out:=by
 unfold xe at h
 split at h
 ·rename_i vc vx vy hc hx hy
  simp only [Option.some.injEq] at h;subst h
  refine kD sU fun C dE=>?_
  obtain ⟨⟨b,rfl,rfl⟩,-⟩:=dE
  refine ⟨_,.d (.v _),fun w Φ aH=>KN (C.val hc) (C.val hx) (C.val hy) ?_⟩
  cases b<;>exact aH
 ·cases h
def nv (P:Program) (t t':TypeId):Bool:=match P.underlying t,P.underlying t' with
 | some (.pointer s),some .unsafePointer=>(match P.info? s with | some j=>!(j.size==0) | none=>false)
 | _,_=>false
def nw (P:Program) (t t' T n:Nat):Bool:=match P.underlying t,P.underlying t' with
 | some .unsafePointer,some (.pointer u)=>(P.info? u).isSome&&liesAt P P.depth T (n / P.cellsOf T) 0 u 1
 | _,_=>false
def xf (P:Program) (E:List (Nat×AV)) (M:List aj) (oc:Option a7) (t t':TypeId) (x:Operand):Option Out:=
 match aJ E x,oc with
 | some (.pt u 0),some (.b c)=>(match M[u]? with
  | some (.bx Tb cells)=>some ⟨[(bif c then nv P t t' else nw P t t' Tb cells.length)=true,0<cells.length],.pt u 0,M,[],[],some [u]⟩
  | _=>none)
 | _,_=>none
theorem Bi {w:World} {b:Nat} {c:Array Value} {t:TypeId} {fr:Nat×Nat} (h:w.heap[b]?=some (.cells c t fr)):w.shape? b=some (t,c.size):=by
 unfold World.shape?;rw [h]
theorem GR {t t':TypeId} {x:Operand} (h:xf P E M oc t t' x=some out):aK P ⟨d,.convert t t' x,ty,pos,aft,gd⟩ E M out:=by
 unfold xf at h
 split at h
 rotate_left
 ·cases h
 rename_i u c hx
 split at h
 rotate_left
 ·cases h
 rename_i Tb cells hM
 simp only [Option.some.injEq] at h;subst h
 refine aK.look ?_ (by simpa using fK hM)
 intro D w0 K0 β F I ρ w C hv
 obtain ⟨hc,h0,-⟩:=hv
 obtain ⟨y,hy,r⟩:=C.bW hx
 cases r with
 | @pt _ _ b cc hb=>
  refine ⟨_,.pt hb,fun w' hs=>?_⟩
  obtain ⟨H,hF,hB,-⟩:=C.rm.at hM
  have hH:Holds w' (F u):=hs.2 u (by simp)
  rw [hF] at hH
  cases hB with
  | bx aQ ys hl hr=>
   rw [hb] at aQ;cases aQ
   have oH:=Bi hH.one
   have bJ:ys.toArray.size=cells.length:=by simp [hl]
   rw [bJ] at oH
   have key:(convert t t' (.pointer (some ⟨b,0,none⟩))).run P w'=.ok (.pointer (some ⟨b,0,none⟩)) w':=by
    cases c with
    | true=>
     simp only [cond_true] at hc
     unfold nv at hc
     split at hc
     ·rename_i s h1 h2
      split at hc
      ·rename_i j hj
       exact Go.Lib.run_to_unsafe w' ⟨b,0,none⟩ h1 h2 hj (by simpa using hc) oH h0
      ·cases hc
     ·cases hc
    | false=>
     simp only [cond_false] at hc
     unfold nw at hc
     split at hc
     ·rename_i s h1 h2
      rw [Bool.and_eq_true] at hc
      obtain ⟨j,hj⟩:=Option.isSome_iff_exists.1 hc.1
      exact Go.Lib.run_from_unsafe w' ⟨b,0,none⟩ h1 h2 hj oH hc.2
     ·cases hc
   simp only [execOp,hy,Sem.run_bind,key,Result.andThen_ok,Sem.run_pure]
def jP (P:Program) (t:TypeId):Bool:=match P.underlying t with | some (.pointer te)=>(P.info? te).isSome | _=>false
def yT (P:Program) (E:List (Nat×AV)) (M:List aj) (op:BinOp) (t:TypeId) (x y:Operand):Option Out:=
 match op,aJ E x,aJ E y with
 | .eql,some (.pt u o),some (.pt v q)=>bif Nat.beq u v&&Nat.beq o q then some (lk [jP P t=true] (.b true) M) else none
 | .neq,some (.pt u o),some (.pt v q)=>bif Nat.beq u v&&Nat.beq o q then some (lk [jP P t=true] (.b false) M) else none
 | _,_,_=>none
theorem BV {t:TypeId} (h:jP P t=true):∃ te j,P.underlying t=some (.pointer te)∧P.info? te=some j:=by
 unfold jP at h
 split at h
 ·rename_i te h1
  obtain ⟨j,hj⟩:=Option.isSome_iff_exists.1 h
  exact ⟨te,j,h1,hj⟩
 ·cases h
theorem Jy {op:BinOp} {t t':TypeId} {x y:Operand} (h:yT P E M op t x y=some out):aK P ⟨d,.binOp op t x y t',ty,pos,aft,gd⟩ E M out:=by
 unfold yT at h
 split at h
 ·rename_i u o v q hx hy
  cases hc:(Nat.beq u v&&Nat.beq o q) with
  | false=>simp [hc] at h
  | true=>
   simp only [hc,cond_true,Option.some.injEq] at h;subst h
   rw [Bool.and_eq_true] at hc
   obtain rfl:=Nat.eq_of_beq_eq_true hc.1
   obtain rfl:=Nat.eq_of_beq_eq_true hc.2
   refine aK.same fun C hv=>?_
   obtain ⟨te,j,h1,h2⟩:=BV hv.1
   obtain ⟨y1,e1,r1⟩:=C.bW hx
   obtain ⟨y2,e2,r2⟩:=C.bW hy
   cases r1 with
   | pt hb=>
    cases r2 with
    | pt je=>
     rw [hb] at je;cases je
     refine ⟨_,fun w' _=>?_,.d (.v _)⟩
     simp only [execOp,e1,e2,eqGuard,Sem.run_bind,Sem.run_pure,Result.andThen_ok,run_eql_ptr_same w' _ h1 h2,Bool.not_true,Bool.false_eq_true,if_false]
 ·rename_i u o v q hx hy
  cases hc:(Nat.beq u v&&Nat.beq o q) with
  | false=>simp [hc] at h
  | true=>
   simp only [hc,cond_true,Option.some.injEq] at h;subst h
   rw [Bool.and_eq_true] at hc
   obtain rfl:=Nat.eq_of_beq_eq_true hc.1
   obtain rfl:=Nat.eq_of_beq_eq_true hc.2
   refine aK.same fun C hv=>?_
   obtain ⟨te,j,h1,h2⟩:=BV hv.1
   obtain ⟨y1,e1,r1⟩:=C.bW hx
   obtain ⟨y2,e2,r2⟩:=C.bW hy
   cases r1 with
   | pt hb=>
    cases r2 with
    | pt je=>
     rw [hb] at je;cases je
     refine ⟨_,fun w' _=>?_,.d (.v _)⟩
     simp only [execOp,e1,e2,eqGuard,Sem.run_bind,Sem.run_pure,Result.andThen_ok,Go.Lib.run_neq_ptr_same w' _ h1 h2,Bool.not_true,Bool.false_eq_true,if_false]
 ·cases h
def rB (P:Program) (f:FuncId):Prop:=∃ fn,P.funcs[f]?=some fn∧(fn.name == "runtime.NumGoroutine")=false∧fn.body.isNone=true∧Extern.findNext fn=none∧Extern.find fn=some Extern.AbiNoEscape.same
def xg (P:Program) (E:List (Nat×AV)) (M:List aj) (g:Operand) (args:Array Operand):Option Out:=
 match aJ E g,args with
 | some (.fn f []),⟨[x]⟩=>(match aJ E x with | some (.pt u o)=>some (lk [rB P f] (.pt u o) M) | _=>none)
 | _,_=>none
theorem GS {g:Operand} {args:Array Operand} {fG:Array TypeId} (h:xg P E M g args=some out):aK P ⟨d,.call ⟨.value g,args,fG⟩,ty,pos,aft,gd⟩ E M out:=by
 unfold xg at h
 split at h
 ·rename_i f x hg
  split at h
  ·rename_i u o hx
   simp only [Option.some.injEq] at h;subst h
   refine aK.same fun C hv=>?_
   obtain ⟨⟨fn,h1,h2,h3,h4,h5⟩,-⟩:=hv
   obtain ⟨yg,eg,rg⟩:=C.bW hg
   obtain ⟨yx,ex,rx⟩:=C.bW hx
   refine ⟨yx,fun w' _=>?_,rx⟩
   cases rg with
   | fn cs hl hr=>
    have cS:cs=[]:=List.eq_nil_of_length_eq_zero (by simpa using hl)
    subst cS
    have:=run_callFunc_extern h1 h2 h3 h4 h5 #[yx] w'
    simp only [Go.Lib.run_noEscape,Result.andThen_ok] at this
    simp [execOp,resolve,eg,ex,Deferred.ofValue,invoke,this]
  ·cases h
 ·cases h
def xh (E:List (Nat×AV)) (M:List aj) (x:Operand):Option Out:=
 match aJ E x with
 | some (.sl u n)=>(match M[u]? with | some (.rw _ k rows)=>bif k.beq 1 then some ⟨[n=rows.length,0<n],.ep u 1 0 0,M,[],[],some [u]⟩ else none | _=>none)
 | _=>none
theorem GU {t:TypeId} {x:Operand} (h:xh E M x=some out):aK P ⟨d,.call ⟨.builtin .unsafeSliceData,#[x],#[t]⟩,ty,pos,aft,gd⟩ E M out:=by
 unfold xh at h
 split at h
 rotate_left
 ·cases h
 rename_i u n hx
 split at h
 rotate_left
 ·cases h
 rename_i Tr k rows hM
 cases kT:k.beq 1 with
 | false=>simp [kT] at h
 | true=>
  simp only [kT,cond_true,Option.some.injEq] at h;subst h
  obtain rfl:=Nat.eq_of_beq_eq_true kT
  refine aK.look ?_ (by simpa using fK hM)
  intro D w0 K0 β F I ρ w C hv
  obtain ⟨hn,h0,-⟩:=hv
  obtain ⟨y,hy,r⟩:=C.bW hx
  cases r with
  | @sl _ _ cc a hb=>
   obtain ⟨H,hF,hB,-⟩:=C.rm.at hM
   cases hB with
   | rw aQ X G hl hs hr=>
    rw [hb] at aQ;cases aQ
    obtain ⟨b',cap,cs,he,rfl,cS,eR,mB⟩:=hs.block (by omega)
    simp only [Value.slice.injEq] at he;obtain ⟨rfl,-,rfl⟩:=he
    refine ⟨.pointer (some ⟨b',0,none⟩),by simpa using az.ep (k:=1) (i:=0) (o:=0) hb,fun w' _=>?_⟩
    have:=Go.Lib.run_unsafeSliceData_row (P:=P) w' #[t] ty ⟨b',0,none⟩ n cc (by omega)
    simp only [execOp,resolve,List.map_toArray,List.map,hy,Sem.run_bind,Sem.run_pure,Result.andThen_ok,invoke,builtin,this]
theorem Jz {w:World} {b n:Nat} {c:Array Value} {e:TypeId} (hb:w.heap[b]?=some (.cells c e (0,0))) (hn:n≠0):w.freeze ⟨b,0,none⟩ n=cC w b (.cells c e (0,n)):=by
 unfold World.freeze cC
 rw [if_neg hn]
 congr 1
 apply Array.ext_getElem?
 intro j
 have aO:=lb hb
 rw [Array.getElem?_modify,Array.getElem?_setIfInBounds]
 by_cases e':b=j
 ·subst e'
  have hg:w.heap[b]=.cells c e (0,0):=by rw [Array.getElem?_eq_getElem aO] at hb;exact Option.some.inj hb
  simp [aO,hg]
 ·simp [e']
def rO (P:Program) (t T:TypeId):Bool:=match P.underlying t with | some (.pointer e)=>Nat.beq e T&&Nat.beq (P.cellsOf e) 1 | _=>false
def x8 (P:Program) (E:List (Nat×AV)) (M:List aj) (oc:Option a7) (t:TypeId) (x y:Operand):Option Out:=
 match aJ E x,cU (aJ E y),oc with
 | some (.ep u 1 0 0),some (.i64,z),some (.res (.v (.string s)))=>(match M[u]? with
  | some (.rw Tr k rows)=>bif k.beq 1 then some ⟨[z=(rows.length:Int),0<rows.length,rows=af s.data.toList,rO P t Tr=true,rows.length≤9223372036854775807],.d (.v (.string s)),M.set u .dead,[u],[],none⟩ else none
  | _=>none)
 | _,_,_=>none
theorem H7 {t t2:TypeId} {x y:Operand} (h:x8 P E M oc t x y=some out):aK P ⟨d,.call ⟨.builtin .unsafeString,#[x,y],#[t,t2]⟩,ty,pos,aft,gd⟩ E M out:=by
 unfold x8 at h
 split at h
 rotate_left
 ·cases h
 rename_i u z s hx hz
 split at h
 rotate_left
 ·cases h
 rename_i Tr k rows hM
 cases kT:k.beq 1 with
 | false=>simp [kT] at h
 | true=>
  simp only [kT,cond_true,Option.some.injEq] at h;subst h
  obtain rfl:=Nat.eq_of_beq_eq_true kT
  intro D w0 K0 β F I ρ w C hv
  obtain ⟨rfl,h0,zF,mD,Qa,-⟩:=hv
  generalize hl:s.data.toList=bs at zF
  have hs:s=⟨bs.toArray⟩:=by rw [← hl]
  subst hs
  have hlen:rows.length=bs.length:=by rw [zF];simp [af]
  obtain ⟨yx,ex,rx⟩:=C.bW hx
  have Ey:=C.int hz
  cases rx with
  | @ep _ _ _ _ b cc hb=>
   have R1:=C.rm.x.fS hM
   have hB:=C.rm.blk u _ hM
   have hH:=C.rm.jl hM
   generalize j3:F u=Fu at hB R1 hH
   cases hB with
   | @rw _ _ _ _ _ H0 aQ X G de OF hr=>
    rw [hb] at aQ;cases aQ
    obtain ⟨b',cap,cs,he,rfl,cS,eR,mB⟩:=OF.block (by omega)
    simp only [Value.slice.injEq,Option.some.injEq,Addr.mk.injEq] at he;obtain ⟨⟨rfl,-⟩,-,rfl⟩:=he
    have hw:w.heap[b]?=some (.cells cs Tr (0,0)):=(Holds.app.1 hH).1.one
    have gQ:(Builtin.unsafeString_ #[t,t2] ty #[.pointer (some ⟨b,0,none⟩),.int .i64 bs.length]).run P w=.ok (.string ⟨bs.toArray⟩) (w.freeze ⟨b,0,none⟩ bs.length):=by
     unfold rO at mD
     split at mD
     ·rename_i e he
      rw [Bool.and_eq_true] at mD
      obtain rfl:=Nat.eq_of_beq_eq_true mD.1
      refine Go.Lib.run_unsafeString_row w t t2 ty e he (Nat.eq_of_beq_eq_true mD.2) b cs.size (Bi hw) bs (by intro hn;rw [hn,List.length_nil] at hlen;omega) (by rw [cS,← hlen];omega) (by omega) fun j q hj=>?_
      rw [add_eq,Nat.zero_add,cell_of hw]
      have uR:=(List.getElem?_eq_some_iff.1 hj).1
      have e1:(cs.toList.take (rows.length*1))[j]?=cs[j]?:=by rw [List.getElem?_take,if_pos (by omega),Array.getElem?_toList]
      rw [← e1,mB]
      have cf:(af bs)[j]?=some [.v (.int .u8 (q.toNat:Int))]:=by simp [af,hj]
      rw [← zF] at cf
      obtain ⟨zf,zg⟩:=de j _ cf
      have hg:=kA (n:=rows.length) (k:=1) (X:=X) (fun i hi=>(de i _ (List.getElem?_eq_getElem hi)).2) (i:=j) (j:=0) (by omega) (by omega)
      rw [Nat.mul_one,Nat.add_zero] at hg
      obtain ⟨v0,ao⟩:∃ v0,(X j)[0]?=some v0:=⟨(X j)[0]'(by omega),List.getElem?_eq_getElem _⟩
      have hd:=hr j _ 0 _ _ cf rfl ao
      generalize G j 0=GG at hd
      cases hd
      rw [hg,ao]
     ·cases mD
    rw [Jz hw (by omega)] at gQ
    have hex:(execOp ρ ⟨d,.call ⟨.builtin .unsafeString,#[x,y],#[t,t2]⟩,ty,pos,aft,gd⟩).run P w=.ok (.value (.string ⟨bs.toArray⟩)) (cC w b (.cells cs Tr (0,bs.length))):=by
     rw [hlen] at Ey
     simp only [execOp,resolve,List.map_toArray,List.map,ex,Ey,Nat.zero_mul,Nat.zero_add,Sem.run_bind,Sem.run_pure,Result.andThen_ok,invoke,builtin,gQ]
    refine a8.pure hex ?_
    have R2:=(R1.perm (Y:=[(b,.cells cs Tr (0,0))]++bL rows.length 1 G) (by rw [List.nil_append])).drop
    have bC:=(R2.st.perm (K:=(b,.cells cs Tr (0,0))::((List.range (M.set u .dead).length).flatMap (aM F u [])++I)) (by classical rw [List.perm_iff_count];intro z;simp only [List.count_append,List.count_cons,List.count_nil];omega)).set (.cells cs Tr (0,bs.length))
    refine ⟨β,aM F u [],[(b,.cells cs Tr (0,bs.length))]++I,⟨R2.len,fun v bl hv=>(R2.blk v bl hv).mono (fun w hw=>⟨hw.1,(Holds.app.1 hw.2).2⟩) (Ext.refl _),?_⟩,(Ext.refl β).b _,⟨_,rfl⟩,fun v hv hn=>by simp only [aM];rw [if_neg (by simpa using hn)],.d (.v _)⟩
    exact bC.perm (by classical rw [List.perm_iff_count];intro z;simp only [List.count_append,List.count_cons,List.count_nil];omega)
end Go.Proofs.YtcnpikbbmbombaaGreatDoor
namespace Go.Proofs.YtcnpikbbmbombaaGreatDoor
open Go.RowKit
variable {P:Program} {T:aN} {D:List Nat} {w0:World} {K0:World→Prop} {E:List (Nat×AV)} {M:List aj} {β:Beta} {F:Nat→aq} {I X:aq} {ρ:Operand→Value} {w:World}
variable {d:Option Tmp} {ty:TypeId} {pos:String} {aft:Array Edge} {gd:Option (Nat×Bool)} {oc:Option a7} {out:Out}
def x9 (T:aN) (E:List (Nat×AV)) (M:List aj) (t:TypeId) (x:Operand):Option Out:=
 match dv T t,aJ E x with
 | some (.sl _),some (.d (.v (.slice none 0 0)))=>some (lk [] (.n 0) M)
 | _,_=>none
theorem H8 {x:Operand} {t e n c:Nat} {a:Option Addr} (ht:P.underlying t=some (.slice e)) (hx:ρ x=.slice a n c) (w:World):(execOp ρ ⟨d,.call ⟨.builtin .cap,#[x],#[t]⟩,ty,pos,aft,gd⟩).run P w=.ok (.value (.int .i64 (c:Int))) w:=by
 have:(Builtin.cap_ #[t] ty #[.slice a n c]).run P w=.ok (.int .i64 (c:Int)) w:=by
  unfold Builtin.cap_
  simp only [List.getElem?_toArray,List.getElem?_cons_zero,Sem.run_bind,run_underlying ht,Result.andThen_ok,Sem.run_pure];rfl
 simp only [execOp,resolve,List.map_toArray,List.map,hx,Sem.run_bind,Sem.run_pure,Result.andThen_ok,invoke,builtin,this]
theorem H9 (hT:bc P T=true) {t:TypeId} {x:Operand} (h:x9 T E M t x=some out):aK P ⟨d,.call ⟨.builtin .cap,#[x],#[t]⟩,ty,pos,aft,gd⟩ E M out:=by
 unfold x9 at h
 split at h
 ·rename_i e ht hx
  simp only [Option.some.injEq] at h;subst h
  have oS:=c8 hT ht
  refine aK.same fun C dE=>?_
  obtain ⟨y,hy,r⟩:=C.bW hx
  cases r with
  | d hd=>cases hd;exact ⟨_,fun w' _=>H8 oS hy w',.d (.v _)⟩
 ·cases h
def uo (P:Program) (f e:Nat):Prop:=∃ fn t,P.funcs[f]?=some fn∧(fn.name == "runtime.NumGoroutine")=false∧fn.body.isNone=true∧Extern.findNext fn=none∧Extern.find fn=some (Extern.BytealgMakeNoZero.makeNoZero fn.params fn.resultTypes)∧fn.resultTypes=#[t]∧P.underlying t=some (.slice e)
def ya (P:Program) (E:List (Nat×AV)) (M:List aj) (oc:Option a7) (g:Operand) (args:Array Operand):Option Out:=
 match aJ E g,args,oc with
 | some (.fn f []),⟨[x]⟩,some (.n2 m e)=>(match cU (aJ E x) with
  | some (.i64,z)=>some ⟨[uo P f e,z=(m:Int),m≤281474976710656],.sl M.length m,M++[.rw e 1 (List.replicate m [.jk])],[],[],none⟩
  | _=>none)
 | _,_,_=>none
theorem Ia {f e m:Nat} (h:uo P f e) (hm:m≤281474976710656) (w:World):∃ (c:Nat) (cs:Array Value),m≤c∧cs.size=c∧(callFunc f #[.int .i64 (m:Int)]).run P w=.ok (.value (.slice (some ⟨w.heap.size,0,none⟩) m c)) (w.drew.drew.alloc (.cells cs e (0,0))):=by
 obtain ⟨fn,t,h1,h2,h3,h4,h5,h6,h7⟩:=h
 obtain ⟨cs,hr,hc,-⟩:=Go.Lib.run_makeNoZero (P:=P) (w:=w) fn.params t e h7 m hm
 refine ⟨cs.size,cs,hc,rfl,?_⟩
 rw [run_callFunc_extern h1 h2 h3 h4 h5,h6,hr];rfl
theorem Ib {g:Operand} {args:Array Operand} {fG:Array TypeId} (h:ya P E M oc g args=some out):aK P ⟨d,.call ⟨.value g,args,fG⟩,ty,pos,aft,gd⟩ E M out:=by
 unfold ya at h
 split at h
 ·rename_i f x m e hg
  split at h
  ·rename_i z hx
   simp only [Option.some.injEq] at h;subst h
   intro D w0 K0 β F I ρ w C hv
   obtain ⟨hN,rfl,hm,-⟩:=hv
   obtain ⟨yg,eg,rg⟩:=C.bW hg
   have ex:=C.int hx
   cases rg with
   | fn cs hl hr=>
    have cS:cs=[]:=List.eq_nil_of_length_eq_zero (by simpa using hl)
    subst cS
    obtain ⟨c,cs,h1,h2,h3⟩:=Ia hN hm w
    refine a8.pure (v:=.slice (some ⟨w.heap.size,0,none⟩) m c) (w':=w.drew.drew.alloc (.cells cs e (0,0))) (by simp [execOp,resolve,eg,ex,Deferred.ofValue,invoke,h3]) ?_
    have gr:Gr w (w.drew.drew.alloc (.cells cs e (0,0))):=((Gr.drew w).trans (Gr.drew w.drew)).trans (Gr.alloc w.drew.drew _)
    have nf:dW w (w.drew.drew.alloc (.cells cs e (0,0))) [(w.heap.size,.cells cs e (0,0))]:=(dW.alloc w.drew.drew (.cells cs e (0,0))).ahead ((Gr.drew w).trans (Gr.drew w.drew))
    refine ⟨_,_,I,C.rm.new (q:=(some ⟨w.heap.size,0,none⟩,c)) gr nf ?_,(Ext.app _ _).b _,bU.refl _,mX _ _,.sl (jm C.rm _)⟩
    have hX:∀ i,i<m→([cs[i]!]:List Value).length=1:=fun _ _=>rfl
    have nu:lay m (fun i=>[cs[i]!])=cs.toList.take m:=by
     have key:∀ k,k≤cs.size→lay k (fun i=>[cs[i]!])=cs.toList.take k:=by
      intro k
      induction k with
      | zero=>intro _;simp [lay]
      | succ k ih=>
       intro hk
       have:=ih (by omega)
       simp only [lay] at this ⊢
       rw [List.range_succ,List.flatMap_append,this,List.take_add_one,Array.getElem?_toList,Array.getElem?_eq_getElem (by omega)]
       simp [getElem!_pos cs k (by omega)]
     exact key m (by omega)
    have:=bB.rw (K:=fun w=>K0 w∧Holds w I) (β:=β++[(some ⟨w.heap.size,0,none⟩,c)]) (u:=M.length) (T:=e) (k:=1) (rows:=List.replicate m [.jk]) (H0:=[(w.heap.size,.cells cs e (0,0))]) (jm C.rm _) (fun i=>[cs[i]!]) (fun _ _=>[]) (fun i r hi=>by
     rw [List.getElem?_replicate] at hi
     split at hi
     ·simp only [Option.some.injEq] at hi;subst hi;exact ⟨rfl,rfl⟩
     ·simp at hi) (by
     rw [List.length_replicate]
     exact ⟨by rw [nu];simp;omega,Or.inr ⟨w.heap.size,c,_,rfl,rfl,by rw [h2];omega,h1,by rw [nu];simp⟩⟩) (fun i r j q x hi h1 h2=>by
     rw [List.getElem?_replicate] at hi
     split at hi
     ·simp only [Option.some.injEq] at hi;subst hi
      cases j with
      | succ j=>simp at h1
      | zero=>simp at h1;subst h1;exact .jk _
     ·simp at hi)
    rw [lU,List.append_nil] at this
    exact this
  ·cases h
 ·cases h
end Go.Proofs.YtcnpikbbmbombaaGreatDoor
namespace Go.Proofs.YtcnpikbbmbombaaGreatDoor
open Go.RowKit
variable {P:Program} {T:aN} {D:List Nat} {w0:World} {K0:World→Prop} {E:List (Nat×AV)} {M:List aj} {β:Beta} {F:Nat→aq} {I:aq} {ρ:Operand→Value} {w:World}
variable {d:Option Tmp} {ty:TypeId} {pos:String} {aft:Array Edge} {gd:Option (Nat×Bool)} {oc:Option a7} {out:Out}
theorem K3 {K:World→Prop} {u b c e k m m2 o:Nat} {cells l:List AV} {ys zs:List Value} (hb:β[u]?=some (some ⟨b,0,none⟩,c)) (hl:ys.length=c*k) (hm:cells.length=m*k) (hr:∀ (j:Nat) c y,cells[j]?=some c→ys[j]?=some y→az K β c y)
  (fx:zs.length=l.length) (hz:∀ (j:Nat) c y,l[j]?=some c→zs[j]?=some y→az K β c y) (ho:o≤cells.length) (Ez:m2≤c) (hlen:(cells.take o++(l++cells.drop (o+l.length))).length=m2*k):
  bB K β u (.fl e k m2 (cells.take o++(l++cells.drop (o+l.length)))) [(b,.cells (cA ys.toArray o zs) e (0,0))]:=by
 have Ox:m2*k≤c*k:=Nat.mul_le_mul_right _ Ez
 have xQ:=hlen
 simp only [List.length_append,List.length_take,List.length_drop] at xQ
 have hle:o+zs.length≤ys.toArray.size:=by simp;omega
 have he:(cA ys.toArray o zs)=(cA ys.toArray o zs).toList.toArray:=by simp
 rw [he]
 refine .fl hb _ (by rw [Array.length_toList,lS];simpa using hl) hlen Ez ?_
 intro j c z e1 e2
 rw [Array.getElem?_toList,o8 _ _ _ _ hle] at e2
 by_cases hj:o≤j∧j<o+zs.length
 ·rw [if_pos hj] at e2
  rw [List.getElem?_append_right (by simp;omega),List.getElem?_append_left (by simp;omega)] at e1
  refine hz (j-o) c z ?_ e2
  rw [← e1];congr 1;simp;omega
 ·rw [if_neg hj] at e2
  rw [List.getElem?_toArray] at e2
  refine hr j c z ?_ e2
  rcases Nat.lt_or_ge j o with nH | nH
  ·rw [List.getElem?_append_left (by simp;omega),List.getElem?_take,if_pos nH] at e1;exact e1
  ·rw [List.getElem?_append_right (by simp;omega),List.getElem?_append_right (by simp;omega),List.getElem?_drop] at e1
   rw [← e1];congr 1;simp;omega
theorem BW {α:Type} {k:Nat}:∀ {rows:List (List α)},(∀ r ∈ rows,r.length=k)→rows.flatten.length=rows.length*k∧∀ (i j:Nat) r,rows[i]?=some r→j<k→rows.flatten[i*k+j]?=r[j]?
 | [],_=>⟨by simp,by simp⟩
 | r::rs,h=>by
  have hr:=h r (by simp)
  obtain ⟨h1,h2⟩:=BW (rows:=rs) (fun x hx=>h x (by simp [hx]))
  refine ⟨by simp [h1,hr,Nat.succ_mul,Nat.add_comm],fun i j q hq hj=>?_⟩
  cases i with
  | zero=>simp at hq;subst hq;rw [Nat.zero_mul,Nat.zero_add,List.flatten_cons,List.getElem?_append_left (by omega)]
  | succ i=>
   simp at hq
   rw [List.flatten_cons,List.getElem?_append_right (by rw [Nat.succ_mul];omega),← h2 i j q hq hj]
   congr 1;rw [Nat.succ_mul];omega
theorem JA {K:World→Prop} {l:List AV} {X:List Value} (h:l.all AV.one=true) (hl:X.length=l.length) (hr:∀ (j:Nat) c z,l[j]?=some c→X[j]?=some z→az K β c z):∀ q ∈ X,bQ q=true:=by
 intro q hq
 obtain ⟨j,hj,rfl⟩:=List.getElem_of_mem hq
 have jy:j<l.length:=by omega
 exact AV.wU (hr j _ _ (List.getElem?_eq_getElem jy) (List.getElem?_eq_getElem hj)) (List.all_eq_true.1 h _ (List.getElem_mem jy))
def xi (T:aN) (E:List (Nat×AV)) (M:List aj) (oc:Option a7) (st:TypeId) (x y:Operand):Option Out:=
 match jB T st,aJ E x,aJ E y,oc with
 | some (_,k,_,_),some (.sf u k' 0 n _),some (.d (.ro k3 rows)),some (.res (.ag ds))=>(match M[u]? with
  | some (.fl e2 k2 m cells)=>bif k.beq k'&&(k.beq k2&&(k.beq k3&&n.ble m)) then some ⟨[aW rows,(rows.flatten.map AV.d).take (min rows.length n*k)++cells.drop ((rows.flatten.map AV.d).take (min rows.length n*k)).length=ds.map AV.d],.d (.v (.int .i64 ((min rows.length n:Nat):Int))),M.set u (.fl e2 k2 m (ds.map .d)),[u],[],none⟩ else none
  | _=>none)
 | _,_,_,_=>none
theorem GV (hT:bc P T=true) {st xt:TypeId} {x y:Operand} (h:xi T E M oc st x y=some out):aK P ⟨d,.call ⟨.builtin .copy,#[x,y],#[st,xt]⟩,ty,pos,aft,gd⟩ E M out:=by
 unfold xi at h
 split at h
 rotate_left
 ·simp at h
 rename_i e k b z u k' n q k3 rows ds he hx hy
 obtain ⟨zv,ok,-,-⟩:=lg hT he
 split at h
 rotate_left
 ·simp at h
 rename_i e2 k2 m cells hM
 cases hc:(k.beq k'&&(k.beq k2&&(k.beq k3&&n.ble m))) with
 | false=>simp [hc] at h
 | true=>
 simp only [hc,cond_true,Option.some.injEq] at h;subst h
 simp only [Bool.and_eq_true] at hc
 obtain ⟨c1,c2,c4,c3⟩:=hc
 obtain rfl:=Nat.eq_of_beq_eq_true c1
 obtain rfl:=Nat.eq_of_beq_eq_true c2
 obtain rfl:=Nat.eq_of_beq_eq_true c4
 have uP:=Nat.le_of_ble_eq_true c3
 intro D w0 K0 β F I ρ w C hv
 obtain ⟨ez,OG,-⟩:=hv
 obtain ⟨yx,jA,rx⟩:=C.bW hx
 obtain ⟨yy,oM,ry⟩:=C.bW hy
 obtain ⟨X,ra,hs⟩:=BN C.now ry
 have hX:∀ i,i<rows.length→(X i).length=k:=fun i hi=>(ra.hl i _ (List.getElem?_eq_getElem hi)).2
 have iD:∀ r ∈ rows,r.length=k:=fun r hr=>by
  obtain ⟨i,hi,rfl⟩:=List.getElem_of_mem hr
  exact (ra.hl i _ (List.getElem?_eq_getElem hi)).1
 obtain ⟨f1,f2⟩:=BW iD
 have iG:=fi hX
 have s2:(lay rows.length X).length=(rows.flatten.map AV.d).length:=by rw [iG,List.length_map,f1]
 have s3:∀ (j:Nat) c z,(rows.flatten.map AV.d)[j]?=some c→(lay rows.length X)[j]?=some z→az (fun w=>K0 w∧Holds w I) β c z:=fun j c z e1 e2=>by
  have uR:j<rows.length*k:=by rw [← iG];exact (List.getElem?_eq_some_iff.1 e2).1
  have hk:0<k:=by
   rcases Nat.eq_zero_or_pos k with h0 | h0
   ·subst h0;simp at uR
   ·exact h0
  have hd:j / k<rows.length:=Nat.div_lt_of_lt_mul (by rw [Nat.mul_comm];exact uR)
  have hm:j%k<k:=Nat.mod_lt _ hk
  have e:j / k*k+j%k=j:=by rw [Nat.mul_comm,Nat.div_add_mod]
  have cf:rows[j / k]?=some rows[j / k]:=List.getElem?_eq_getElem hd
  have g1:=kA hX hd hm
  have g2:=f2 _ _ _ cf hm
  rw [e] at g1 g2
  rw [g1] at e2
  rw [List.getElem?_map,g2,Option.map_eq_some_iff] at e1
  obtain ⟨c',e1,rfl⟩:=e1
  exact .d (ra.hr _ _ _ c' z cf e1 e2)
 have Mf:(rows.flatten.map AV.d).all AV.one=true:=by
  unfold aW at ez
  rw [List.all_eq_true] at ez ⊢
  intro c hc
  obtain ⟨c',h1,rfl⟩:=List.mem_map.1 hc
  obtain ⟨r,h2,h3⟩:=List.mem_flatten.1 h1
  exact List.all_eq_true.1 (ez r h2) c' h3
 have xV:=JA Mf s2 s3
 have p7:min rows.length n≤rows.length:=Nat.min_le_left _ _
 obtain ⟨hlen,pD⟩:=hs.pre (P:=P) p7
 have bJ:∀ w:World,(sizeOf e).run P w=.ok k w:=fun w=>by obtain ⟨i,hi,h1,-⟩:=ok.info;simp [sizeOf,typeInfo,Sem.run_bind,hi,h1]
 cases rx with
 | @sf _ _ _ _ bb cc cap _ hb eR hn hq=>
 obtain ⟨H,hF,hB,hH⟩:=C.rm.at hM
 cases hB with
 | fl aQ ys hl hm nM hr=>
 rw [hb] at aQ;cases aQ
 have hw:=hH.one
 have a1:n*k≤m*k:=Nat.mul_le_mul_right _ uP
 have a2:m*k≤ys.length:=by rw [hl];exact Nat.mul_le_mul_right _ nM
 have a4:min rows.length n*k≤n*k:=Nat.mul_le_mul_right _ (Nat.min_le_right _ _)
 have a5:min rows.length n*k≤rows.length*k:=Nat.mul_le_mul_right _ p7
 have me:=o3 (P:=P) ((lay rows.length X).take (min rows.length n*k)) w ys.toArray (0*k) 0 hw (by simp;omega) (fun q hq=>xV q (List.mem_of_mem_take hq))
 simp only [Nat.add_zero] at me
 refine a8.pure (v:=.int .i64 ((min rows.length n:Nat):Int)) (w':=cC w bb (.cells (cA ys.toArray (0*k) ((lay rows.length X).take (min rows.length n*k))) e2 (0,0))) ?_ ?_
 ·have xW:Nat.min rows.length n=min rows.length n:=rfl
  simp only [execOp,resolve,List.map_toArray,List.map,jA,oM,Sem.run_bind,Sem.run_pure,Result.andThen_ok,invoke,builtin,Builtin.copy_,List.getElem?_toArray,List.getElem?_cons_zero,List.getElem?_cons_succ,run_underlying ok.bC,hlen,xW,bJ,pD,me]
  rfl
 ·have zG:=K3 (K:=fun w=>K0 w∧Holds w I) (e:=e2) (m2:=m) (o:=0*k) (l:=(rows.flatten.map AV.d).take (min rows.length n*k)) (zs:=(lay rows.length X).take (min rows.length n*k)) hb hl hm hr (by rw [List.length_take,List.length_take,s2]) (fun j c z e1 e2=>by
    rw [List.getElem?_take] at e1 e2
    split at e1
    ·rename_i hj;rw [if_pos hj] at e2;exact s3 j c z e1 e2
    ·simp at e1) (by omega) nM (by
    simp only [List.length_append,List.length_take,List.length_drop]
    omega)
  rw [Nat.zero_mul,List.take_zero,List.nil_append,Nat.zero_add,OG] at zG
  rw [Nat.zero_mul]
  exact ⟨β,_,I,C.rm.set hM hF zG,(Ext.refl β).b _,bU.refl _,fun v hv hn=>by simp only [aM];rw [if_neg (by simpa using hn)],.d (.v _)⟩
def yb (T:aN) (E:List (Nat×AV)) (M:List aj) (oc:Option a7) (t:TypeId) (x ix:Operand):Option Out:=
 match dv T t,aJ E x,cU (aJ E ix),oc with
 | some (.ar n e),some (.ag l),some (_,z),some (.ix i [c])=>(match gi T e with
  | some k=>some (lk [z=(i:Int),i<n,oN T e l (i*k)=some (.d c)] (.d c) M)
  | none=>none)
 | _,_,_,_=>none
theorem Ic (hT:bc P T=true) {t:TypeId} {x ix:Operand} (h:yb T E M oc t x ix=some out):aK P ⟨d,.index t x ix,ty,pos,aft,gd⟩ E M out:=by
 unfold yb at h
 split at h
 ·rename_i n e l _ z i c hu hx hz
  split at h
  ·rename_i k hk
   simp only [Option.some.injEq] at h;subst h
   have bJ:∀ w:World,(sizeOf e).run P w=.ok k w:=fun w=>by
    have:=iz hT hk
    cases hi:P.info? e with
    | none=>simp [hi] at this
    | some inf=>simp only [hi,Option.map_some,Option.some.injEq] at this;simp [sizeOf,typeInfo,Sem.run_bind,hi,this]
   refine aK.same ?_
   intro D w0 K0 β F I ρ w C hv
   obtain ⟨rfl,aO,hp,-⟩:=hv
   have r:=C.ev hx
   have hi:=C.int hz
   generalize hy:ρ x=y at r
   cases r with
   | ag ys hl hr=>
    obtain ⟨y,h1,h2⟩:=w9 hT hp hl hr
    refine ⟨y,fun w' _=>?_,h1⟩
    have iq:=c8 hT hu
    have hc:(0:Int)≤(i:Int)∧(i:Int)<(n:Int):=by omega
    simp only [execOp,hy,hi,Instr.index,asIntOf,Sem.run_bind,Sem.run_pure,run_underlying iq,Result.andThen_ok]
    rw [if_pos hc]
    simp only [Sem.run_bind,bJ,Result.andThen_ok,Int.toNat_natCast,h2,Sem.run_pure]
  ·simp at h
 ·simp at h
def xj (T:aN) (E:List (Nat×AV)) (M:List aj) (t:TypeId) (x:Operand):Option Out:=
 match aJ E x with
 | some (.pt u o)=>(match M[u]? with
  | some (.fl _ _ _ cells)=>(match lI T t cells o with | some v=>some ⟨[],v,M,[],[],some [u]⟩ | none=>none)
  | _=>none)
 | _=>none
theorem GW (hT:bc P T=true) {t:TypeId} {x:Operand} (h:xj T E M t x=some out):aK P ⟨d,.load t x,ty,pos,aft,gd⟩ E M out:=by
 unfold xj at h
 split at h
 ·rename_i u o hv
  split at h
  ·rename_i Tt k m cells hM
   split at h
   ·rename_i v jZ
    simp only [Option.some.injEq] at h;subst h
    refine aK.look (fun C _=>?_) (by simpa using fK hM)
    obtain ⟨y,hy,r⟩:=C.bW hv
    cases r with
    | pt hb=>
     obtain ⟨H,hF,hB,hH⟩:=C.rm.at hM
     cases hB with
     | fl aQ ys hl hm hc hr=>
      rw [hb] at aQ;cases aQ
      have hlen:cells.length≤ys.length:=by rw [hl,hm];exact Nat.mul_le_mul_right _ hc
      obtain ⟨y',h1,h2⟩:=pG hT (a:=⟨_,0,none⟩) (ys:=ys.take cells.length) (fun l ys=>az.ag ys) jZ (hy.trans (by rw [add_eq,Nat.zero_add])) (by simp;omega) (fun j c z e1 e2=>hr j c z e1 (by
       rw [List.getElem?_take] at e2
       split at e2
       ·exact e2
       ·simp at e2))
      refine ⟨y',h1,fun w' hs=>h2 w' fun j z hj=>?_⟩
      have hw:Holds w' _:=hs.2 u (by simp)
      rw [hF] at hw
      rw [List.getElem?_take] at hj
      split at hj
      ·rw [add_eq,cell_of hw.one,Nat.zero_add];simpa using hj
      ·simp at hj
   ·simp at h
  ·simp at h
 ·simp at h
def DE:List Value→Bool
 | .nilFunc::_=>true
 | _=>false
def wB (T:aN) (M:List aj) (t:TypeId):Option Out:=
 match dv T t,pP T t with
 | some (.ar n e),some l=>(match gi T e with
  | some k=>bif l.length.beq (n*k)&&!DE l then some ⟨[],.pt M.length 0,M++[.fl t k n (lZ l)],[],[],none⟩ else none
  | none=>none)
 | _,_=>none
theorem F9 (hT:bc P T=true) {t:TypeId} (h:wB T M t=some out):aK P ⟨d,.alloc t,ty,pos,aft,gd⟩ E M out:=by
 unfold wB at h
 split at h
 rotate_left
 ·simp at h
 rename_i n e l ht hz
 split at h
 rotate_left
 ·simp at h
 rename_i k hk
 cases hc:(l.length.beq (n*k)&&!DE l) with
 | false=>simp [hc] at h
 | true=>
  simp only [hc,cond_true,Option.some.injEq] at h;subst h
  have iG:=Nat.eq_of_beq_eq_true (Bool.and_eq_true_iff.1 hc).1
  obtain ⟨z,oK,oL⟩:=sR hT hz
  intro D w0 K0 β F I ρ w C _
  refine A5 (oL w) fun b w' g n'=>?_
  rw [oK] at n'
  obtain ⟨h1,h2⟩:=qJ (K:=fun w=>K0 w∧Holds w I) (β:=β++[(some ⟨b,0,none⟩,n)]) l
  exact ⟨_,_,I,C.rm.new (q:=(some ⟨b,0,none⟩,n)) g n' (.fl (jm C.rm _) l iG (by rw [← h1,iG]) (Nat.le_refl _) h2),(Ext.app _ _).b _,bU.refl _,mX _ _,.pt (jm C.rm _)⟩
def yU (T:aN) (E:List (Nat×AV)) (M:List aj) (t:TypeId) (x:Operand) (lo hi mx:Option Operand):Option Out:=
 match dv T t,aJ E x,lo,hi,mx with
 | some (.ar n e),some (.pt u 0),none,none,none=>(match gi T e,M[u]? with
  | some k,some (.fl _ k2 m _)=>bif k.beq k2&&(n.ble m&&Nat.blt 0 n) then some (lk [] (.sf u k 0 n (some n)) M) else none
  | _,_=>none)
 | _,_,_,_,_=>none
theorem JB (hT:bc P T=true) {t:TypeId} {x:Operand} {lo hi mx:Option Operand} (h:yU T E M t x lo hi mx=some out):aK P ⟨d,.slice t x lo hi mx,ty,pos,aft,gd⟩ E M out:=by
 unfold yU at h
 split at h
 rotate_left
 ·simp at h
 rename_i n e u ht hx
 split at h
 rotate_left
 ·simp at h
 rename_i k T2 k2 m cells hk hM
 cases hc:(k.beq k2&&(n.ble m&&Nat.blt 0 n)) with
 | false=>simp [hc] at h
 | true=>
  simp only [hc,cond_true,Option.some.injEq] at h;subst h
  simp only [Bool.and_eq_true] at hc
  obtain ⟨c1,c2,c3⟩:=hc
  obtain rfl:=Nat.eq_of_beq_eq_true c1
  have zH:=Nat.le_of_ble_eq_true c2
  have oz:0<n:=by simpa [Nat.blt_eq] using c3
  have oS:=c8 hT ht
  refine aK.same fun {D w0 K0 β F I ρ w} C _=>?_
  obtain ⟨y,hy,r⟩:=C.bW hx
  cases r with
  | @pt _ _ b c hb=>
   obtain ⟨H,hF,hB,hH⟩:=C.rm.at hM
   cases hB with
   | fl aQ ys hl hm nM hr=>
    rw [hb] at aQ;cases aQ
    have hs:=az.sf (K:=fun w=>K0 w∧Holds w I) (u:=u) (k:=k) (o:=0) (n:=n) (cap:=n) (q:=some n) hb (by omega) (Nat.le_refl _) rfl
    rw [Nat.zero_mul] at hs
    refine ⟨_,fun w' _=>?_,hs⟩
    have bJ:(sizeOf e).run P w'=.ok k w':=by
     have:=iz hT hk
     cases fV:P.info? e with
     | none=>simp [fV] at this
     | some inf=>simp only [fV,Option.map_some,Option.some.injEq] at this;simp [sizeOf,typeInfo,Sem.run_bind,fV,this]
    have uS:¬ n=0:=by omega
    simp [execOp,hy,Instr.sliceAt,Instr.sureAddr,Instr.sliceBounds,Sem.run_bind,run_underlying oS,bJ,uS,add_eq]
end Go.Proofs.YtcnpikbbmbombaaGreatDoor
namespace Go.Proofs.YtcnpikbbmbombaaGreatDoor
open Go.RowKit
variable {P:Program} {T:aN} {E:List (Nat×AV)} {M:List aj}
variable {d:Option Tmp} {ty:TypeId} {pos:String} {aft:Array Edge} {gd:Option (Nat×Bool)} {oc:Option a7} {out:Out}
inductive OH where
 | fn (f:FuncId)
 | yl (u:Nat)
abbrev gm:=OH→List AV→List aj→a7→Option Out
def Cs (P:Program) (f:FuncId) (args:List AV) (M:List aj) (out:Out):Prop:=
 iT P f=true∧∀ {D:List Nat} {w0:World} {K0:World→Prop} {β:Beta} {F:Nat→aq} {I:aq} {w:World} (ys:List Value),RM D w0 K0 M β F I w→(∀ w,Kp D w0 w→K0 w)→bn out.vc→ys.length=args.length→(∀ (j:Nat) c y,args[j]?=some c→ys[j]?=some y→az (fun w=>K0 w∧Holds w I) β c y)→
  Calls P f ys.toArray w fun e w'=>∃ v,e=.returned v∧∃ aE F' I',RM D w0 K0 out.M aE F' I' w'∧ib out.mv β aE∧bU I I'∧(∀ u,u<M.length→u ∉ out.tc→F' u=F u)∧az (fun w=>K0 w∧Holds w I') aE out.av v
def BX (P:Program) (u:Nat) (args:List AV) (M:List aj) (out:Out):Prop:=
 ∀ {D:List Nat} {w0:World} {K0:World→Prop} {β:Beta} {F:Nat→aq} {I:aq} {w:World} (ys:List Value) (l c:Nat),RM D w0 K0 M β F I w→(∀ w,Kp D w0 w→K0 w)→bn out.vc→ys.length=args.length→(∀ (j:Nat) c y,args[j]?=some c→ys[j]?=some y→az (fun w=>K0 w∧Holds w I) β c y)→β[u]?=some (some ⟨l,0,none⟩,c)→
  ∃ fn tmps dm body,(Instr.yield l ys.toArray).run P w=.ok (.round l fn tmps dm body) w∧RoundIn Fence.wide 0 P l fn tmps dm body w fun e w'=>∃ v,e=.returned v∧∃ aE F' I',RM D w0 K0 out.M aE F' I' w'∧ib out.mv β aE∧bU I I'∧(∀ u,u<M.length→u ∉ out.tc→F' u=F u)∧az (fun w=>K0 w∧Holds w I') aE out.av v
def jQ (P:Program) (cl:gm):Prop:=∀ c args M o out,cl c args M o=some out→out.rd=none∧match c with | .fn f=>Cs P f args M out | .yl u=>BX P u args M out
def yc (cl:gm) (E:List (Nat×AV)) (M:List aj) (o:a7) (g:Operand) (args:Array Operand):Option Out:=
 match aJ E g,lD E args.toList with
 | some (.fn f cD),some l=>cl (.fn f) (l++cD) M o
 | some (.yl u),some l=>cl (.yl u) l M o
 | _,_=>none
theorem Ie {cl:gm} (cX:jQ P cl) {o:a7} {g:Operand} {args:Array Operand} {fG:Array TypeId} (h:yc cl E M o g args=some out):aK P ⟨d,.call ⟨.value g,args,fG⟩,ty,pos,aft,gd⟩ E M out:=by
 unfold yc at h
 split at h
 ·rename_i f cD l hg hl
  obtain ⟨eY,kK,hc⟩:=cX _ _ _ _ _ h
  unfold aK
  rw [eY]
  intro D w0 K0 β F I ρ w C hv
  obtain ⟨y,hy,r⟩:=C.bW hg
  cases r with
  | fn cs NC ir=>
   obtain ⟨eC,kR⟩:=C.nI hl
   have hm:args.map ρ=(args.toList.map ρ).toArray:=by rw [← Array.toList_map]
   refine qH hy kK hm ?_
   have ma:((args.toList.map ρ).toArray++cs.toArray:Array Value)=(args.toList.map ρ++cs).toArray:=by simp
   rw [ma]
   refine hc _ C.rm C.k hv (by rw [List.length_append,List.length_append,eC,NC]) ?_
   intro j c y h1 h2
   rcases Nat.lt_or_ge j l.length with hj | hj
   ·rw [List.getElem?_append_left hj] at h1
    rw [List.getElem?_append_left (by omega)] at h2
    exact kR j c y h1 h2
   ·rw [List.getElem?_append_right hj] at h1
    rw [List.getElem?_append_right (by omega),eC] at h2
    exact ir _ c y h1 h2
 ·rename_i u l hg hl
  obtain ⟨eY,hc⟩:=cX _ _ _ _ _ h
  unfold aK
  rw [eY]
  intro D w0 K0 β F I ρ w C hv
  obtain ⟨y,hy,r⟩:=C.bW hg
  cases r with
  | @yl _ bb cc hb=>
   obtain ⟨eC,kR⟩:=C.nI hl
   obtain ⟨fn,tmps,dm,body,h1,h2⟩:=hc _ _ _ C.rm C.k hv eC kR hb
   have hm:args.map ρ=(args.toList.map ρ).toArray:=by rw [← Array.toList_map]
   unfold a8
   have hr:(execOp ρ ⟨d,.call ⟨.value g,args,fG⟩,ty,pos,aft,gd⟩).run P w=.ok (.round bb fn tmps dm body) w:=by
    simp [execOp,resolve,hy,hm,Deferred.ofValue,invoke,h1]
   rw [hr]
   exact h2
 ·simp at h
def yV (P:Program) (T:aN) (E:List (Nat×AV)) (M:List aj) (oc:Option a7) (op:BinOp) (t:TypeId) (x y:Operand):Option Out:=
 match xG E M oc op x y with
 | some o=>some o
 | none=>(match xI E M oc op x y with
  | some o=>some o
  | none=>(match yI P E M oc op t x y with
   | some o=>some o
   | none=>(match xR P E M oc op t x y with
    | some o=>some o
    | none=>xS T E M oc op t x y)))
theorem JC (hT:bc P T=true) {op:BinOp} {t t':TypeId} {x y:Operand} (h:yV P T E M oc op t x y=some out):aK P ⟨d,.binOp op t x y t',ty,pos,aft,gd⟩ E M out:=by
 unfold yV at h
 split at h
 ·rename_i hh;simp only [Option.some.injEq] at h;subst h;exact HH hh
 ·split at h
  ·rename_i hh;simp only [Option.some.injEq] at h;subst h;exact HJ hh
  ·split at h
   ·rename_i hh;simp only [Option.some.injEq] at h;subst h;exact Jn hh
   ·split at h
    ·rename_i hh;simp only [Option.some.injEq] at h;subst h;exact HQ hh
    ·exact HR hT h
def yd (T:aN) (E:List (Nat×AV)) (M:List aj) (oc:Option a7) (t t':TypeId) (x:Operand):Option Out:=
 match wW T E M oc t t' x with
 | some o=>some o
 | none=>(match yN T E M oc t t' x with
  | some o=>some o
  | none=>w7 T E M t t' x)
theorem Ig (hT:bc P T=true) {t t':TypeId} {x:Operand} (h:yd T E M oc t t' x=some out):aK P ⟨d,.convert t t' x,ty,pos,aft,gd⟩ E M out:=by
 unfold yd at h
 split at h
 ·rename_i hh;simp only [Option.some.injEq] at h;subst h;exact GA hT hh
 ·split at h
  ·rename_i hh;simp only [Option.some.injEq] at h;subst h;exact Jr hT hh
  ·exact GH hT h
def step (P:Program) (T:aN) (cl:gm) (E:List (Nat×AV)) (M:List aj) (oc:Option a7):Op→Option Out
 | .move x=>tN E M x
 | .assign x=>tN E M x
 | .nilCheck x=>yz E M x
 | .extract x i=>vI E M x i
 | .fieldAddr s x f=>wS T E M s x f
 | .indexAddr t x i=>(match wT T E M oc t x i with | some o=>some o | none=>(match wk T E M oc t x i with | some o=>some o | none=>(match wx T E M oc t x i with | some o=>some o | none=>(match wm T E M oc t x i with | some o=>some o | none=>(match wA T E M oc t x i with | some o=>some o | none=>x6 T E M oc t x i)))))
 | .load t x=>(match xF T E M oc t x with | some o=>some o | none=>(match xT T E M oc t x with | some o=>some o | none=>(match xd T E M oc t x with | some o=>some o | none=>xj T E M t x)))
 | .store t x y=>(match wb T E M t x y with | some o=>some o | none=>(match wj T E M oc t x y with | some o=>some o | none=>wy T E M oc t x y))
 | .box t x=>yD E M t x
 | .alloc t=>(match oc with | some (.b _)=>wB T M t | _=>wV T M t)
 | .pick c x y=>(match oc with | some (.res (.v r))=>xe E M r c x y | _=>xH E M oc c x y)
 | .unOp .not _ x=>yE E M oc x
 | .unOp .xor _ x=>yF E M oc x
 | .binOp op t x y _=>(match yV P T E M oc op t x y with | some o=>some o | none=>(match xZ P E M op t x y with | some o=>some o | none=>(match yR E M op x y with | some o=>some o | none=>yT P E M op t x y)))
 | .convert t t' x=>(match yd T E M oc t t' x with | some o=>some o | none=>(match x4 T E M t t' x with | some o=>some o | none=>xf P E M oc t t' x))
 | .build t parts=>(match w5 T E M t parts with | some o=>some o | none=>wh T E M t parts)
 | .field t x f=>yO T E M t x f
 | .index t x i=>(match yP T E M oc t x i with | some o=>some o | none=>(match xX T E M oc t x i with | some o=>some o | none=>(match x5 T E M oc t x i with | some o=>some o | none=>yb T E M oc t x i)))
 | .slice t x lo hi mx=>(match zB T E M oc t x lo hi mx with | some o=>some o | none=>(match yQ T E M oc t x lo hi mx with | some o=>some o | none=>(match yS T E M oc t x lo hi mx with | some o=>some o | none=>yU T E M t x lo hi mx)))
 | .buildSlice t len parts=>yM T E M t len parts
 | .makeSlice t x y=>(match xP T E M oc t x y with | some o=>some o | none=>xa T E M oc t x y)
 | .makeFunc fn first cD=>xJ E M fn first cD
 | .call ⟨.builtin bi,⟨[x]⟩,⟨[t]⟩⟩=>(match bi with | .len=>yH T E M oc t x | .clear=>xb T E M t x | .unsafeSliceData=>xh E M x | .cap=>x9 T E M t x | _=>none)
 | .call ⟨.builtin bi,⟨[x,y]⟩,⟨[st,xt]⟩⟩=>(match bi with | .append=>(match yJ T E M st xt x y with | some o=>some o | none=>x7 T E M st xt x y) | .copy=>(match xU T E M oc st x y with | some o=>some o | none=>xi T E M oc st x y) | .unsafeString=>x8 P E M oc st x y | _=>zi E M oc bi x y)
 | .call ⟨.value g,args,_⟩=>(match oc with | some (.bw n tb)=>yc cl E M (.bw n tb) g args | some (.aG x)=>p3 P E M (some (.aG x)) g args | some (.mem l x M')=>xY P E M (some (.mem l x M')) g args | some (.stay l x)=>xc P E M (some (.stay l x)) g args | some (.b _)=>xg P E M g args | some (.n2 m e)=>ya P E M (some (.n2 m e)) g args | _=>xL P E M oc g args)
 | _=>none
theorem pq (hT:bc P T=true) {cl:gm} (cX:jQ P cl) {op:Op} (h:step P T cl E M oc op=some out):aK P ⟨d,op,ty,pos,aft,gd⟩ E M out:=by
 unfold step at h
 split at h
 ·exact (A8 h).1
 ·exact (A8 h).2
 ·exact Jh h
 ·exact FC h
 ·exact Gv hT h
 ·split at h
  ·rename_i hh;simp only [Option.some.injEq] at h;subst h;exact Gw hT hh
  ·split at h
   ·rename_i hh;simp only [Option.some.injEq] at h;subst h;exact FX hT hh
   ·split at h
    ·rename_i hh;simp only [Option.some.injEq] at h;subst h;exact FZ hT hh
    ·split at h
     ·rename_i hh;simp only [Option.some.injEq] at h;subst h;exact FY hT hh
     ·split at h
      ·rename_i hh;simp only [Option.some.injEq] at h;subst h;exact F7 hT hh
      ·exact H5 hT h
 ·split at h
  ·rename_i hh;simp only [Option.some.injEq] at h;subst h;exact HG hT hh
  ·split at h
   ·rename_i hh;simp only [Option.some.injEq] at h;subst h;exact HS hT hh
   ·split at h
    ·rename_i hh;simp only [Option.some.injEq] at h;subst h;exact GO hT hh
    ·exact GW hT h
 ·split at h
  ·rename_i hh;simp only [Option.some.injEq] at h;subst h;exact FU hT hh
  ·split at h
   ·rename_i hh;simp only [Option.some.injEq] at h;subst h;exact FW hT hh
   ·exact F5 hT h
 ·exact Ji h
 ·split at h
  ·exact F9 hT h
  ·exact Gz hT h
 ·split at h
  ·exact GQ h
  ·exact HI h
 ·exact Jj h
 ·exact Jk h
 ·split at h
  ·rename_i hh;simp only [Option.some.injEq] at h;subst h;exact JC hT hh
  ·split at h
   ·rename_i hh;simp only [Option.some.injEq] at h;subst h;exact HZ hh
   ·split at h
    ·rename_i hh;simp only [Option.some.injEq] at h;subst h;exact Jw hh
    ·exact Jy h
 ·split at h
  ·rename_i hh;simp only [Option.some.injEq] at h;subst h;exact Ig hT hh
  ·split at h
   ·rename_i hh;simp only [Option.some.injEq] at h;subst h;exact H3 hT hh
   ·exact GR h
 ·split at h
  ·rename_i hh;simp only [Option.some.injEq] at h;subst h;exact GC hT hh
  ·exact FV hT h
 ·exact Js hT h
 ·split at h
  ·rename_i hh;simp only [Option.some.injEq] at h;subst h;exact Jt hT hh
  ·split at h
   ·rename_i hh;simp only [Option.some.injEq] at h;subst h;exact HW hT hh
   ·split at h
    ·rename_i hh;simp only [Option.some.injEq] at h;subst h;exact H4 hT hh
    ·exact Ic hT h
 ·split at h
  ·rename_i hh;simp only [Option.some.injEq] at h;subst h;exact KY hT hh
  ·split at h
   ·rename_i hh;simp only [Option.some.injEq] at h;subst h;exact Ju hT hh
   ·split at h
    ·rename_i hh;simp only [Option.some.injEq] at h;subst h;exact Jx hT hh
    ·exact JB hT h
 ·exact Jq hT h
 ·split at h
  ·rename_i hh;simp only [Option.some.injEq] at h;subst h;exact HP hT hh
  ·exact GK hT h
 ·exact HK h
 ·split at h
  ·exact Jl hT h
  ·exact GM hT h
  ·exact GU h
  ·exact H9 hT h
  ·simp at h
 ·split at h
  ·split at h
   ·rename_i hh;simp only [Option.some.injEq] at h;subst h;exact Jo hT hh
   ·exact H6 hT h
  ·split at h
   ·rename_i hh;simp only [Option.some.injEq] at h;subst h;exact HT hT hh
   ·exact GV hT h
  ·exact H7 h
  ·exact KT h
 ·split at h
  ·exact Ie cX h
  ·exact BM h
  ·exact HY h
  ·exact GN h
  ·exact GS h
  ·exact Ib h
  ·exact HN h
 ·simp at h
end Go.Proofs.YtcnpikbbmbombaaGreatDoor
namespace Go.Proofs.YtcnpikbbmbombaaGreatDoor
open Go.RowKit
def nx:List (Nat×a7)→Nat→Option a7
 | [],_=>none
 | (k,v)::r,s=>bif k.beq s then some v else nx r s
def jb (E:List (Nat×AV)) (dst:Option Nat) (v:AV):List (Nat×AV):=match dst with | some d=>(d,v)::E | none=>E
def pV (mv:List Nat):List (Nat×AV)→List (Nat×AV)
 | []=>[]
 | (k,v)::r=>(k,bif jn mv v then v else .d .jk)::pV mv r
def pW (mv:List Nat) (E:List (Nat×AV)):List (Nat×AV):=match mv with | []=>E | _=>pV mv E
theorem Aq {mv:List Nat}:∀ {E:List (Nat×AV)} {t:Nat} {v:AV},b9 (pV mv E) t=some v→∃ u,b9 E t=some u∧v=bif jn mv u then u else .d .jk
 | [],t,v,h=>by simp [pV,b9] at h
 | (k,u)::r,t,v,h=>by
  unfold pV b9 at h
  unfold b9
  cases hk:k.beq t with
  | true=>simp only [hk,cond_true,Option.some.injEq] at h ⊢;exact ⟨u,rfl,h.symm⟩
  | false=>simp only [hk,cond_false] at h ⊢;exact Aq h
theorem Ih {K:World→Prop} {β aE:Beta} {mv:List Nat} (e:ib mv β aE) {ρ:Operand→Value} {E:List (Nat×AV)} (h:∀ t v,b9 E t=some v→az K β v (ρ (.tmp t))):∀ t v,b9 (pV mv E) t=some v→az K aE v (ρ (.tmp t)):=by
 intro t v hv
 obtain ⟨u,h1,h2⟩:=Aq hv
 cases hc:jn mv u with
 | true=>simp only [hc,cond_true] at h2;subst h2;exact qK e hc (h t _ h1)
 | false=>simp only [hc,cond_false] at h2;subst h2;exact .d (.jk _)
theorem vS {K:World→Prop} {β aE:Beta} {mv:List Nat} (e:ib mv β aE) {E:List (Nat×AV)} {ρ:Operand→Value} (h:∀ t v,b9 E t=some v→az K β v (ρ (.tmp t))):∀ t v,b9 (pW mv E) t=some v→az K aE v (ρ (.tmp t)):=by
 intro t v hx
 unfold pW at hx
 split at hx
 ·exact (h t v hx).mono (fun _ h=>h) fun u z hz=>e u z (by simp) hz
 ·exact Ih e h t v hx
def q7:Option AV→Option (Option Bool)
 | some (.d (.v (.bool c)))=>some (some c)
 | some (.d (.v (.tuple _)))=>some none
 | _=>none
def np (sz:Nat) (ops:Array Oper) (E:List (Nat×AV)):Option (Nat×Bool)→Option Bool
 | none=>some true
 | some (j,want)=>(match rr ops j with
  | some s=>(bif s.blt sz then (match q7 (b9 E s) with
   | some (some true)=>some want
   | some (some false)=>some (!want)
   | some none=>some false
   | none=>none) else none)
  | none=>none)
def ig (sz:Nat):Option Nat→Bool
 | some d=>d.blt sz
 | none=>true
structure RS where
 vc:List Prop
 E:List (Nat×AV)
 M:List aj
 tc:List Nat
 mv:List Nat
def yW (P:Program) (T:aN) (cl:gm) (E:List (Nat×AV)) (M:List aj) (op:Op) (oc:a7):Option (List Prop×List Nat×Value):=
 match oc,op with
 | .aG (.v x),.call ⟨.value g,args,_⟩=>(match p3 P E M (some (.aG (.v x))) g args with | some out=>some (out.vc,out.tc,x) | none=>none)
 | oc,op=>(match step P T cl E M (some oc) op with | some ⟨vc,.d (.v x),_,tc,_,some _⟩=>some (vc,tc,x) | _=>none)
def Ct (sz:Nat) (ops:Array Oper) (E:List (Nat×AV)):Option (Nat×Bool)→Option (Value×Bool)
 | some (j,want)=>(match rr ops j with
  | some s=>bif s.blt sz then (match b9 E s with | some (.d (.v y))=>some (y,want) | _=>none) else none
  | none=>none)
 | none=>none
def fO (y:Value):Option Bool:=match y with | .bool b=>some b | _=>none
def jF (P:Program) (T:aN) (cl:gm) (sz:Nat) (ops:Array Oper):List Oper→Nat→List (Nat×a7)→RS→Option RS
 | [],_,_,s=>some s
 | o::r,i,oc,⟨vc,E,M,tc,mv⟩=>
  bif ig sz o.dst then (match nx oc i with
  | some (.may c oo)=>(match yW P T cl E M o.op oo,Ct sz ops E o.guard with
   | some (nO,si,x),some (y,want)=>jF P T cl sz ops r (i+1) oc ⟨vc++[(fO y==some want)=c,c=true→bn nO],jb E o.dst (.d (.v (bif c then x else undef))),M,si++tc,mv⟩
   | _,_=>none)
  | _=>(match np sz ops E o.guard with
   | some true=>(match step P T cl E M (nx oc i) o.op with
    | some out=>(bif Nat.ble M.length out.M.length then jF P T cl sz ops r (i+1) oc ⟨vc++out.vc,jb (pW out.mv E) o.dst out.av,out.M,out.tc++tc,out.mv++mv⟩ else none)
    | none=>none)
   | some false=>jF P T cl sz ops r (i+1) oc ⟨vc,jb E o.dst (.d (.v undef)),M,tc,mv⟩
   | none=>none))
  else none
structure fc where
 β:Beta
 F:Nat→aq
 I:aq
 m:Nat
def Since (b:fc) (mv tc:List Nat) (β:Beta) (F:Nat→aq) (I:aq):Prop:=ib mv b.β β∧bU b.I I∧∀ u,u<b.m→u ∉ tc→F u=b.F u
theorem Since.step {b:fc} {mv tc mv' si:List Nat} {β aE:Beta} {F F':Nat→aq} {I I':aq} {n:Nat} (h:Since b mv tc β F I) (hn:b.m≤n) (e:ib mv' β aE) (hI:bU I I') (hF:∀ u,u<n→u ∉ si→F' u=F u):Since b (mv'++mv) (si++tc) aE F' I':=
 ⟨fun u x hu hx=>e u x (fun h'=>hu (List.mem_append_left _ h')) (h.1 u x (fun h'=>hu (List.mem_append_right _ h')) hx),h.2.1.trans hI,fun u hu ht=>(hF u (by omega) fun h'=>ht (List.mem_append_left _ h')).trans (h.2.2 u hu fun h'=>ht (List.mem_append_right _ h'))⟩
variable {mk:Bool} {ro:Option Nat} {P:Program} {T:aN} {cl:gm} {D:List Nat} {w0:World} {K0:World→Prop} {E:List (Nat×AV)} {M:List aj} {β:Beta} {F:Nat→aq} {I:aq} {ρ:Operand→Value} {w:World} {a:Act} {sz:Nat} {ops:Array Oper} {Q:Exit→Act→World→Prop}
def Mk (mk:Bool) (ds:List Deferred) (I:aq):Prop:=match mk with
 | false=>ds=[]
 | true=>ds.Nodup∧∀ d ∈ ds,∃ b,d={ target:=.collected b,args:=#[] }∧(b,Obj.deferred (some [])) ∈ I
theorem Mk.grow {ds:List Deferred} {I I':aq} (h:Mk mk ds I) (g:bU I I'):Mk mk ds I':=by
 cases mk with
 | false=>exact h
 | true=>obtain ⟨J,rfl⟩:=g;exact ⟨h.1,fun d hd=>let ⟨b,h1,h2⟩:=h.2 d hd;⟨b,h1,List.mem_append_right _ h2⟩⟩
theorem Mk.nil (I:aq):Mk mk [] I:=by cases mk with | false=>rfl | true=>exact ⟨List.nodup_nil,fun d hd=>by cases hd⟩
theorem RE.put (size:a.tmps.size=sz) {aE:Beta} {I':aq} (defers:Mk mk a.defers I') (hs:∀ t v,b9 E t=some v→az (fun w=>K0 w∧Holds w I') aE v (a.eval (.tmp t))) {dst:Option Nat} (hd:ig sz dst=true) {v:Value} {av:AV} (hv:az (fun w=>K0 w∧Holds w I') aE av v):
  (a.put dst v).tmps.size=sz∧Mk mk (a.put dst v).defers I'∧∀ t u,b9 (jb E dst av) t=some u→az (fun w=>K0 w∧Holds w I') aE u ((a.put dst v).eval (.tmp t)):=by
 refine ⟨by rw [Hx,size],by rw [put_defers];exact defers,?_⟩
 cases dst with
 | none=>exact hs
 | some d=>
  have aO:d<sz:=by simpa [ig,Nat.blt_eq] using hd
  intro t u hx
  unfold jb b9 at hx
  cases hk:d.beq t with
  | true=>
   simp only [hk,cond_true,Option.some.injEq] at hx
   subst hx
   rw [← Nat.eq_of_beq_eq_true hk,Fm a d v (by omega)];exact hv
  | false=>
   simp only [hk,cond_false] at hx
   rw [Fh a d t v (fun e=>by subst e;simp at hk)];exact hs t u hx
theorem GX {K:World→Prop} {β:Beta} {av:Option AV} {y:Value} {g:Option Bool} (h:q7 av=some g) {v:AV} (hv:av=some v) (r:az K β v y):fO y=g:=by
 subst hv
 unfold q7 at h
 split at h
 ·rename_i hx;cases hx;simp only [Option.some.injEq] at h;subst h
  cases r with | d r=>cases r;rfl
 ·rename_i hx;cases hx;simp only [Option.some.injEq] at h;subst h
  cases r with | d r=>cases r;rfl
 ·simp at h
theorem k9 {o:Oper} {b:Bool} (size:a.tmps.size=sz) {K:World→Prop} (hs:∀ t v,b9 E t=some v→az K β v (a.eval (.tmp t))) (h:np sz ops E o.guard=some b):Region.wanted o (yielded ops a.tmps)=b:=by
 unfold Region.wanted
 cases hg:o.guard with
 | none=>rw [hg] at h;simp only [np,Option.some.injEq] at h;exact h
 | some g=>
  obtain ⟨j,want⟩:=g
  rw [hg] at h
  unfold np at h
  cases hj:rr ops j with
  | none=>simp [hj] at h
  | some s=>
   simp only [hj] at h
   cases bJ:s.blt sz with
   | false=>simp [bJ] at h
   | true=>
    simp only [bJ,cond_true] at h
    have aO:s<a.tmps.size:=by rw [size];simpa [Nat.blt_eq] using bJ
    have hy:∀ g,q7 (b9 E s)=some g→yielded ops a.tmps j=g:=by
     intro g kr
     rw [Al hj aO]
     show fO _=g
     cases hl:b9 E s with
     | none=>rw [hl] at kr;simp [q7] at kr
     | some v=>exact GX kr hl (hs _ _ hl)
    split at h
    ·rename_i kr;simp only [Option.some.injEq] at h;subst h;dsimp only;rw [hy _ kr];cases want<;>rfl
    ·rename_i kr;simp only [Option.some.injEq] at h;subst h;dsimp only;rw [hy _ kr];cases want<;>rfl
    ·rename_i kr;simp only [Option.some.injEq] at h;subst h;dsimp only;rw [hy _ kr];cases want<;>rfl
    ·simp at h
theorem xk (l:List Oper):∀ (i:Nat) (oc:List (Nat×a7)) (s:RS) {s':RS},jF P T cl sz ops l i oc s=some s'→bn s'.vc→bn s.vc:=by
 induction l with
 | nil=>
  intro i oc s s' h
  simp only [jF,Option.some.injEq] at h
  subst h;exact id
 | cons o r ih=>
  intro i oc s s' h hv
  obtain ⟨vc,E,M,tc,mv⟩:=s
  unfold jF at h
  cases hd:ig sz o.dst with
  | false=>simp [hd] at h
  | true=>
   simp only [hd,cond_true] at h
   split at h
   ·split at h
    ·exact (bn.app.1 (ih _ _ _ h hv)).1
    ·simp at h
   split at h
   ·split at h
    ·rename_i out _
     cases hb:Nat.ble M.length out.M.length with
     | false=>simp [hb] at h
     | true=>simp only [hb,cond_true] at h;exact (bn.app.1 (ih _ _ _ h hv)).1
    ·simp at h
   ·have:=ih _ _ _ h hv;exact this
   ·simp at h
def cJ (mk:Bool) (D:List Nat) (w0:World) (K0:World→Prop) (sz:Nat) (E:List (Nat×AV)) (M:List aj) (a:Act) (w:World):Prop:=
 a.tmps.size=sz∧∃ I,Mk mk a.defers I∧∃ β F,RM D w0 K0 M β F I w∧∀ t v,b9 E t=some v→az (fun w=>K0 w∧Holds w I) β v (a.eval (.tmp t))
abbrev dn (D:List Nat) (w0:World) (K0:World→Prop) (sz:Nat) (E:List (Nat×AV)) (M:List aj) (a:Act) (w:World):Prop:=cJ false D w0 K0 sz E M a w
def dG (mk:Bool) (D:List Nat) (w0:World) (K0:World→Prop) (sz:Nat) (b:fc) (s:RS) (a:Act) (w:World):Prop:=
 a.tmps.size=sz∧∃ I,Mk mk a.defers I∧b.m≤s.M.length∧∃ β F,RM D w0 K0 s.M β F I w∧Since b s.mv s.tc β F I∧∀ t v,b9 s.E t=some v→az (fun w=>K0 w∧Holds w I) β v (a.eval (.tmp t))
theorem cJ.ou (r:cJ false D w0 K0 sz E M a w):a.defers=[]:=let ⟨_,_,h,_⟩:=r;h
theorem dG.ou {b:fc} {s:RS} (r:dG false D w0 K0 sz b s a w):a.defers=[]:=let ⟨_,_,h,_⟩:=r;h
theorem dG.re {b:fc} {s:RS} (r:dG mk D w0 K0 sz b s a w):cJ mk D w0 K0 sz s.E s.M a w:=let ⟨h1,I,h2,_,β,F,h3,_,h4⟩:=r;⟨h1,I,h2,β,F,h3,h4⟩
theorem cJ.b (r:cJ mk D w0 K0 sz E M a w) (vc:List Prop):∃ b,dG mk D w0 K0 sz b ⟨vc,E,M,[],[]⟩ a w:=
 let ⟨h1,I,h2,β,F,h3,h4⟩:=r
 ⟨⟨β,F,I,M.length⟩,h1,I,h2,Nat.le_refl _,β,F,h3,⟨fun _ _ _ h=>h,bU.refl _,fun _ _ _=>rfl⟩,h4⟩
theorem K4 {g:Operand} {args:Array Operand} {x:Value} {out:Out} (h:p3 P E M (some (.aG (.v x))) g args=some out):out.av=.d (.v x)∧out.M=M∧out.mv=[]∧out.rd=none:=by
 unfold p3 at h
 split at h
 ·rename_i f cD l y _ _ zI
  simp only [Option.some.injEq,a7.aG.injEq] at zI;subst zI
  cases eX:(l8 (DV.v x)&&(l++cD).all r6) with
  | false=>rw [eX] at h;cases h
  | true=>
   rw [eX] at h
   simp only [cond_true,Option.some.injEq] at h;subst h
   exact ⟨rfl,rfl,rfl,rfl⟩
 ·cases h
theorem JD (hT:bc P T=true) (cX:jQ P cl) {d:Option Tmp} {op:Op} {ty:TypeId} {pos:String} {aft:Array Edge} {gd:Option (Nat×Bool)} {oc:a7} {vc:List Prop} {tc:List Nat} {x:Value} (h:yW P T cl E M op oc=some (vc,tc,x)):
  uM P ⟨d,op,ty,pos,aft,gd⟩ E M ⟨vc,.d (.v x),M,tc,[],none⟩:=by
 unfold yW at h
 split at h
 ·split at h
  ·rename_i out hs
   simp only [Option.some.injEq,Prod.mk.injEq] at h
   obtain ⟨rfl,rfl,rfl⟩:=h
   obtain ⟨h1,h2,h3,h4⟩:=K4 hs
   obtain ⟨vc,av,M2,tc,mv,rd⟩:=out
   dsimp only at h1 h2 h3 h4
   subst h1 h2 h3 h4
   intro D w0 K0 β F I ρ w C hv
   exact BM hs C hv
  ·cases h
 ·split at h
  ·rename_i hs
   simp only [Option.some.injEq,Prod.mk.injEq] at h
   obtain ⟨rfl,rfl,rfl⟩:=h
   have hd:=pq (P:=P) hT cX (d:=d) (ty:=ty) (pos:=pos) (aft:=aft) (gd:=gd) hs
   have uT:=hd
   obtain ⟨-,h2,h3,-⟩:=uT
   dsimp only at h2 h3
   subst h2 h3
   intro D w0 K0 β F I ρ w C hv
   exact hd.qh C hv
  ·cases h
theorem K5 (hT:bc P T=true) (cX:jQ P cl) (hK:∀ w,Kp D w0 w→K0 w) {b:fc}:∀ (l:List Oper) (i:Nat) (oc:List (Nat×a7)) (s:RS) {s':RS} (a:Act) (w:World),jF P T cl sz ops l i oc s=some s'→dG mk D w0 K0 sz b s a w→bn s'.vc→(∀ a' w',dG mk D w0 K0 sz b s' a' w'→Q .normal a' w')→jx P ops Q (l.map (·,false)) a w:=by
 intro l
 induction l with
 | nil=>
  intro i oc s s' a w h R _ k
  simp only [jF,Option.some.injEq] at h
  subst h
  exact k a w R
 | cons o r ih=>
  intro i oc s s' a w h R hv k
  obtain ⟨vc,E,M,tc,mv⟩:=s
  unfold jF at h
  cases hd:ig sz o.dst with
  | false=>simp [hd] at h
  | true=>
   simp only [hd,cond_true] at h
   obtain ⟨size,I,defers,hm,β,F,Rm,cq,hs⟩:=R
   dsimp only at Rm hs hm cq
   simp only [List.map_cons]
   unfold jx
   simp only [cond_false]
   have Mg:jF P T cl sz ops r (i+1) oc ⟨vc,jb E o.dst (.d (.v undef)),M,tc,mv⟩=some s'→jx P ops Q (r.map (·,false)) (a.put o.dst undef) w:=by
    intro hr
    obtain ⟨e1,e2,e3⟩:=RE.put (E:=E) size defers hs hd (.d (.v undef))
    exact ih _ _ _ _ _ hr ⟨e1,I,e2,hm,β,F,Rm,cq,e3⟩ hv k
   have gQ:∀ out:Out,step P T cl E M (nx oc i) o.op=some out→(bif Nat.ble M.length out.M.length then jF P T cl sz ops r (i+1) oc ⟨vc++out.vc,jb (pW out.mv E) o.dst out.av,out.M,out.tc++tc,out.mv++mv⟩ else none)=some s'→a8 P o a.eval w fun v w'=>jx P ops Q (r.map (·,false)) (a.put o.dst v) w':=by
    intro out bC hr
    cases hb:Nat.ble M.length out.M.length with
    | false=>simp [hb] at hr
    | true=>
    simp only [hb,cond_true] at hr
    have hlen:=Nat.le_of_ble_eq_true hb
    have C:Ctx D w0 K0 E M β F I a.eval w:=⟨Rm,hs,fun _=>rfl,fun _=>rfl,fun _=>rfl,hK⟩
    have mj:=(bn.app.1 (xk _ _ _ _ hr hv)).2
    have:=(pq (P:=P) hT cX (d:=o.dst) (ty:=o.type) (pos:=o.pos) (aft:=o.after) (gd:=o.guard) bC).qh C mj
    refine a8.mono this fun v w' ⟨aE,F',I',R',e,hI,hF,nP⟩=>?_
    have hk:=vS (ρ:=a.eval) e hs
    obtain ⟨e1,e2,e3⟩:=RE.put size (defers.grow hI) (fun t v hx=>(hk t v hx).mono (fun w hw=>⟨hw.1,hI.holds w hw.2⟩) (Ext.refl _)) hd nP
    exact ih _ _ _ _ _ hr ⟨e1,I',e2,Nat.le_trans hm hlen,aE,F',R',cq.step hm e hI hF,e3⟩ hv k
   split at h
   ·rename_i c oo zI
    split at h
    rotate_left
    ·simp at h
    rename_i nO si x y want ND kU
    have dK:=(bn.app.1 (xk _ _ _ _ h hv)).2
    obtain ⟨hc,dE,-⟩:=dK
    have C:Ctx D w0 K0 E M β F I a.eval w:=⟨Rm,hs,fun _=>rfl,fun _=>rfl,fun _=>rfl,hK⟩
    unfold Ct at kU
    split at kU
    rotate_left
    ·cases kU
    rename_i j PK hg
    split at kU
    rotate_left
    ·cases kU
    rename_i s0 hj
    cases bJ:s0.blt sz with
    | false=>simp [bJ] at kU
    | true=>
    simp only [bJ,cond_true] at kU
    split at kU
    rotate_left
    ·cases kU
    rename_i y' Mh
    simp only [Option.some.injEq,Prod.mk.injEq] at kU
    obtain ⟨rfl,rfl⟩:=kU
    have aO:s0<a.tmps.size:=by rw [size];simpa [Nat.blt_eq] using bJ
    have r5:yielded ops a.tmps j=fO y':=by
     rw [Al hj aO]
     have hr:=hs _ _ Mh
     generalize a.eval (.tmp s0)=z at hr
     cases hr with | d hr=>cases hr;rfl
    split
    ·rename_i sj;rw [hg] at sj;cases sj
    ·rename_i j2 PL sj
     rw [hg] at sj;cases sj
     refine ⟨fun hn=>?_,fun hn=>?_⟩
     ·have zJ:c=true:=by rw [← hc,beq_iff_eq,← r5];exact hn
      subst zJ
      have:=JD hT cX (d:=o.dst) (ty:=o.type) (pos:=o.pos) (aft:=o.after) (gd:=o.guard) ND C (dE rfl)
      refine a8.mono this fun v w' ⟨aE,F',I',R',e,hI,hF,nP⟩=>?_
      obtain ⟨e1,e2,e3⟩:=RE.put (E:=E) size (defers.grow hI) (fun t v hx=>(hs t v hx).mono (fun w hw=>⟨hw.1,hI.holds w hw.2⟩) (fun u x hx=>e u x (by simp) hx)) hd nP
      exact ih _ _ _ _ _ h ⟨e1,I',e2,hm,aE,F',R',cq.step (mv':=[]) hm e hI hF,e3⟩ hv k
     ·have OI:c=false:=by rw [← hc,beq_eq_false_iff_ne,← r5];exact hn
      subst OI
      obtain ⟨e1,e2,e3⟩:=RE.put (E:=E) size defers hs hd (.d (.v undef))
      exact ih _ _ _ _ _ h ⟨e1,I,e2,hm,β,F,Rm,⟨cq.1,cq.2.1,fun u hu ht=>cq.2.2 u hu fun h'=>ht (List.mem_append_right _ h')⟩,e3⟩ hv k
   split at h
   ·rename_i hw
    have fC:=k9 (ops:=ops) size hs hw
    split at h
    ·rename_i out bC
     have EA:=gQ out bC h
     split
     ·exact EA
     ·rename_i j want hg
      refine ⟨fun _=>EA,fun hn=>?_⟩
      simp only [Region.wanted,hg,beq_iff_eq] at fC
      exact absurd fC hn
    ·simp at h
   ·rename_i hw
    have fC:=k9 (ops:=ops) size hs hw
    split
    ·rename_i hg;simp [Region.wanted,hg] at fC
    ·rename_i j want hg
     refine ⟨fun hn=>?_,fun _=>Mg h⟩
     simp only [Region.wanted,hg,beq_eq_false_iff_ne] at fC
     exact absurd hn fC
   ·simp at h
theorem NF (hT:bc P T=true) (cX:jQ P cl) (hK:∀ w,Kp D w0 w→K0 w) {b:fc} {s:RS} (R:dG mk D w0 K0 sz b s a w) (oc:List (Nat×a7)) {id:Nat} {s':RS} (h:jF P T cl sz ops ops.toList 0 oc s=some s') (hv:bn s'.vc) (k:∀ a' w',dG mk D w0 K0 sz b s' a' w'→Q .normal a' w'):(Code.region id ops false).wpIn (Fl ro) 0 P Q a w:=
 Fz (K5 hT cX hK _ _ _ _ a w h R hv k)
def mY (P:Program) (ops:Array Oper) (Rk:World→Prop) (o:Oper) (v:Value) (a:Act):Prop:=
 (Region.wanted o (yielded ops a.tmps)=true∧∀ w,Rk w→(execOp a.eval o).run P w=.ok (.value v) w)∨(Region.wanted o (yielded ops a.tmps)=false∧v=undef)
theorem mY.wpOp {Rk:World→Prop} {i:Nat} {o:Oper} {v:Value} (hi:ops[i]?=some o) (hy:mY P ops Rk o v a) {K:Act→World→Prop} (hR:Rk w) (h:K (a.put o.dst v) w):Go.wpOpIn (Fl ro) 0 P ops Q i K a w:=by
 unfold Go.wpOpIn
 simp only [hi]
 rcases hy with hy | ⟨hy,rfl⟩
 ·simp only [hy.1,if_true]
  refine ⟨fun _ _=>trivial,?_⟩
  rw [show (Fl ro).round=ro from rfl,Jc (hy.2 w hR)];exact h
 ·simp only [hy,Bool.false_eq_true,if_false];exact ⟨fun _ _=>trivial,h⟩
theorem z6 {Rk:World→Prop} {i:Nat} {oi:Oper} {v:Value} (hi:ops[i]?=some oi) (jc:∀ (j:Nat) (o:Oper) cs b,ops[j]?=some o→o.op≠.select cs b)
  (hQ:∀ c a w,Q (.panic c) (a.put oi.dst v) w→Q (.panic c) a w):
  ∀ (fuel:Nat) (L:Array Bool) (a:Act) (w:World),
   (∀ j oj,ops[j]?=some oj→j≠i→L.getD j true=false→(∀ e ∈ oj.after,Region.binds .any e=true→e.on≠i)→oi.apart ops oj=true)→
   i ∈ Region.ready .any ops L→mY P ops Rk oi v a→
   kC ro P ops Q Rk fuel (L.setIfInBounds i true) (a.put oi.dst v) w→kC ro P ops Q Rk (fuel+1) L a w:=by
 intro fuel
 induction fuel with
 | zero=>
  intro L a w _ hr hy H
  refine ⟨H.rk,fun h=>(by rw [h] at hr;cases hr),fun j hj=>?_⟩
  by_cases iy:j=i
  ·subst iy;exact hy.wpOp hi H.rk H
  ·have:=ready_mono hj iy
   rw [H.2.1] at this
   cases this
 | succ fuel ih=>
  intro L a w l9 hr hy H
  refine ⟨H.rk,fun h=>(by rw [h] at hr;cases hr),fun j hj=>?_⟩
  by_cases iy:j=i
  ·subst iy;exact hy.wpOp hi H.rk H
  ·have h1:=H.2.2 j (ready_mono hj iy)
   obtain ⟨rP,oj,nQ,iD⟩:=mem_ready.1 hj
   have uq:∀ e ∈ oj.after,Region.binds .any e=true→e.on≠i:=fun e he hb heq=>by
    have h1:=iD e he hb
    have h0:=(mem_ready.1 hr).1
    rw [heq] at h1
    rcases Nat.lt_or_ge i L.size with h' | h'
    ·simp [h'] at h0 h1;rw [h0] at h1;cases h1
    ·simp [Array.getElem?_eq_none h'] at h1
   have mw:=l9 j oj nQ iy rP uq
   obtain ⟨_,_,h3⟩:=Oper.apart_spec mw
   have h2:=z8 (Y:=mY P ops Rk oi v) nQ mw (fun cs b=>jc j oj cs b nQ)
    (fun a hy u=>by unfold mY at *;rw [execOp_put oi (fun cs b=>jc i oi cs b hi) a oj.dst u h3,wanted_put oi a oj.dst u h3];exact hy) (fun a d hy=>hy) hQ hy h1
   have xl:∀ k ok,ops[k]?=some ok→k≠i→(L.setIfInBounds j true).getD k true=false→
     (∀ e ∈ ok.after,Region.binds .any e=true→e.on≠i)→oi.apart ops ok=true:=fun k ok hk zK mE j4=>by
    refine l9 k ok hk zK ?_ j4
    by_cases nN:j=k
    ·subst nN;exact rP
    ·rw [getD_set_ne true nN] at mE;exact mE
   refine wpOpIn_mono (fun a' w' h3=>ih (L.setIfInBounds j true) a' w' xl (ready_mono hr (Ne.symm iy)) h3.1 ?_) h2
   rw [Array.setIfInBounds_comm _ _ iy]
   exact h3.2
def l3:Op→Bool
 | .move _=>true
 | .assign _=>true
 | .pick _ _ _=>true
 | .load _ _=>true
 | .nilCheck _=>true
 | .binOp _ _ _ _ _=>true
 | .unOp _ _ _=>true
 | .fieldAddr _ _ _=>true
 | .indexAddr _ _ _=>true
 | .extract _ _=>true
 | .makeFunc _ _ _=>true
 | .build _ _=>true
 | .slice _ _ _ _ _=>true
 | .index _ _ _=>true
 | .field _ _ _=>true
 | .convert _ _ _=>true
 | .call ⟨.builtin .len,_,_⟩=>true
 | _=>false
def mR (ops:Array Oper) (L:Array Bool):List Nat→Option Nat
 | []=>none
 | i::r=>(match ops[i]? with | some o=>bif l3 o.op&&Region.free .any ops L i then some i else mR ops L r | none=>mR ops L r)
inductive sk where
 | fin
 | look (i:Nat)
 | one (i:Nat)
 | bad
def rQ (ops:Array Oper) (L:Array Bool):List Nat→sk
 | []=>.fin
 | [i]=>.one i
 | i::k::r=>(match mR ops L (i::k::r) with
  | some j=>.look j
  | none=>.bad)
def sn (ops:Array Oper) (L:Array Bool):sk:=rQ ops L (Region.ready .any ops L)
def yX (rd tc:List Nat):Bool:=rd.all fun u=>!(tc.elem u)
def ny (ops:Array Oper) (k i:Nat):Bool:=match ops[k]? with
 | some o=>!(l3 o.op)&&o.after.any fun e=>Region.binds .any e&&Nat.beq e.on i
 | none=>false
def jo (ops:Array Oper) (i:Nat) (L:Array Bool):Bool:=(List.range ops.size).all fun k=>!(ny ops k i&&L.getD k true)
theorem Ar {i:Nat} {L:Array Bool}:jo ops i L=true↔∀ k,k<ops.size→ny ops k i=true→L.getD k true=false:=by
 unfold jo
 rw [List.all_eq_true]
 constructor
 ·intro h k hk hd
  have:=h k (List.mem_range.2 hk)
  rw [hd] at this;simpa using this
 ·intro h k hk
  cases hd:ny ops k i with
  | false=>rfl
  | true=>rw [h k (List.mem_range.1 hk) hd];rfl
theorem qL {i j:Nat} {L:Array Bool} (hd:ny ops j i=false) (h:jo ops i L=true):jo ops i (L.setIfInBounds j true)=true:=by
 rw [Ar] at *
 intro k hk fH
 rw [getD_set_ne true (fun e=>by subst e;rw [hd] at fH;cases fH)]
 exact h k hk fH
theorem s6 {i j:Nat} {o:Oper} (ho:ops[j]?=some o) (hp:l3 o.op=true):ny ops j i=false:=by unfold ny;rw [ho];simp [hp]
theorem K6 {i j:Nat} {o:Oper} (ho:ops[j]?=some o) (j4:∀ e ∈ o.after,Region.binds .any e=true→e.on≠i):ny ops j i=false:=by
 unfold ny;rw [ho]
 simp only [Bool.and_eq_false_iff]
 refine .inr ?_
 rw [Array.any_eq_false]
 intro q hq h
 simp only [Bool.and_eq_true] at h
 exact j4 _ (Array.getElem_mem hq) h.1 (Nat.eq_of_beq_eq_true h.2)
def Sub (L L':Array Bool):Prop:=∀ k,L.getD k true=true→L'.getD k true=true
theorem Sub.refl (L:Array Bool):Sub L L:=fun _ h=>h
theorem Sub.tx {L L':Array Bool} {j:Nat} (h:Sub (L.setIfInBounds j true) L'):Sub L L':=fun k hk=>h k (by
 by_cases e:j=k
 ·subst e
  rcases Nat.lt_or_ge j L.size with h' | h'
  ·simp [h']
  ·simp [h']
 ·rw [getD_set_ne true e];exact hk)
theorem Ga {i:Nat} {L L':Array Bool} (h:Sub L L') (ha:jo ops i L'=true):jo ops i L=true:=by
 rw [Ar] at *
 intro k hk hd
 cases e:L.getD k true with
 | false=>rfl
 | true=>have h1:=ha k hk hd;rw [h k e] at h1;cases h1
def ye (ops:Array Oper) (L:Array Bool) (rd:List (Nat×Nat)) (tc:List Nat):Bool:=rd.all fun q=>!(tc.elem q.2)||!(jo ops q.1 L)
def kE (ro:Option Nat) (P:Program) (ops:Array Oper) (Q:Exit→Act→World→Prop) (Rk:Array Bool→World→Prop):Nat→Array Bool→Act→World→Prop
 | 0,L,a,w=>Rk L w∧Region.ready .any ops L=[]∧Q .normal a w
 | fuel+1,L,a,w=>Rk L w∧(Region.ready .any ops L=[]→Q .normal a w)∧∀ i ∈ Region.ready .any ops L,wpOpIn (Fl ro) 0 P ops Q i (kE ro P ops Q Rk fuel (L.setIfInBounds i true)) a w
theorem kE.rk {Rk:Array Bool→World→Prop} {fuel:Nat} {L:Array Bool} {a:Act} {w:World} (h:kE ro P ops Q Rk fuel L a w):Rk L w:=by cases fuel<;>exact h.1
theorem kE.to {Rk:Array Bool→World→Prop}:∀ {fuel:Nat} {L:Array Bool} {a:Act} {w:World},kE ro P ops Q Rk fuel L a w→wpAnyIn (Fl ro) 0 P .any ops Q fuel L a w
 | 0,_,_,_,h=>h.2
 | _+1,_,_,_,h=>⟨h.2.1,fun i hi=>wpOpIn_mono (fun _ _ h=>kE.to h) (h.2.2 i hi)⟩
theorem Ac {Rk rY:Array Bool→World→Prop} (h:∀ L w,rY L w→Rk L w):∀ {fuel:Nat} {L:Array Bool} {a:Act} {w:World},kE ro P ops Q rY fuel L a w→kE ro P ops Q Rk fuel L a w
 | 0,_,_,_,k=>⟨h _ _ k.1,k.2⟩
 | _+1,_,_,_,k=>⟨h _ _ k.1,k.2.1,fun i hi=>wpOpIn_mono (fun _ _ k=>Ac h k) (k.2.2 i hi)⟩
theorem z7 {Rk:Array Bool→World→Prop} {S:World→Prop} {i:Nat} {oi:Oper} {v:Value} (hi:ops[i]?=some oi) (hp:l3 oi.op=true) (jc:∀ (j:Nat) (o:Oper) cs b,ops[j]?=some o→o.op≠.select cs b)
  (hQ:∀ c a w,Q (.panic c) (a.put oi.dst v) w→Q (.panic c) a w) (EB:∀ L w,jo ops i L=true→Rk L w→S w) (C6:∀ L w,Rk (L.setIfInBounds i true) w→Rk L w):
  ∀ (fuel:Nat) (L:Array Bool) (a:Act) (w:World),
   (∀ j oj,ops[j]?=some oj→j≠i→L.getD j true=false→(∀ e ∈ oj.after,Region.binds .any e=true→e.on≠i)→oi.apart ops oj=true)→
   i ∈ Region.ready .any ops L→jo ops i L=true→mY P ops S oi v a→
   kE ro P ops Q Rk fuel (L.setIfInBounds i true) (a.put oi.dst v) w→kE ro P ops Q Rk (fuel+1) L a w:=by
 intro fuel
 induction fuel with
 | zero=>
  intro L a w _ hr eC hy H
  refine ⟨C6 _ _ H.rk,fun h=>(by rw [h] at hr;cases hr),fun j hj=>?_⟩
  by_cases iy:j=i
  ·subst iy;exact hy.wpOp hi (EB _ _ (qL (s6 hi hp) eC) H.rk) H
  ·have:=ready_mono hj iy
   rw [H.2.1] at this
   cases this
 | succ fuel ih=>
  intro L a w l9 hr eC hy H
  refine ⟨C6 _ _ H.rk,fun h=>(by rw [h] at hr;cases hr),fun j hj=>?_⟩
  by_cases iy:j=i
  ·subst iy;exact hy.wpOp hi (EB _ _ (qL (s6 hi hp) eC) H.rk) H
  ·have h1:=H.2.2 j (ready_mono hj iy)
   obtain ⟨rP,oj,nQ,iD⟩:=mem_ready.1 hj
   have uq:∀ e ∈ oj.after,Region.binds .any e=true→e.on≠i:=fun e he hb heq=>by
    have h1:=iD e he hb
    have h0:=(mem_ready.1 hr).1
    rw [heq] at h1
    rcases Nat.lt_or_ge i L.size with h' | h'
    ·simp [h'] at h0 h1;rw [h0] at h1;cases h1
    ·simp [Array.getElem?_eq_none h'] at h1
   have mw:=l9 j oj nQ iy rP uq
   obtain ⟨_,_,h3⟩:=Oper.apart_spec mw
   have h2:=z8 (Y:=mY P ops S oi v) nQ mw (fun cs b=>jc j oj cs b nQ)
    (fun a hy u=>by unfold mY at *;rw [execOp_put oi (fun cs b=>jc i oi cs b hi) a oj.dst u h3,wanted_put oi a oj.dst u h3];exact hy) (fun a d hy=>hy) hQ hy h1
   have xl:∀ k ok,ops[k]?=some ok→k≠i→(L.setIfInBounds j true).getD k true=false→
     (∀ e ∈ ok.after,Region.binds .any e=true→e.on≠i)→oi.apart ops ok=true:=fun k ok hk zK mE j4=>by
    refine l9 k ok hk zK ?_ j4
    by_cases nN:j=k
    ·subst nN;exact rP
    ·rw [getD_set_ne true nN] at mE;exact mE
   refine wpOpIn_mono (fun a' w' h3=>ih (L.setIfInBounds j true) a' w' xl (ready_mono hr (Ne.symm iy)) (qL (K6 nQ uq) eC) h3.1 ?_) h2
   rw [Array.setIfInBounds_comm _ _ iy]
   exact h3.2
def Mi (ops:Array Oper) (K0:World→Prop) (I:aq) (F:Nat→aq) (rd:List (Nat×Nat)) (L:Array Bool) (w:World):Prop:=(K0 w∧Holds w I)∧∀ q ∈ rd,jo ops q.1 L=true→Holds w (F q.2)
def kh (P:Program) (T:aN) (cl:gm) (sz:Nat) (ops:Array Oper) (oc:List (Nat×a7)):Nat→Array Bool→List (Nat×Nat)→RS→Option RS
 | 0,L,_,s=>(match sn ops L with | .fin=>some s | _=>none)
 | fuel+1,L,rd,⟨vc,E,M,tc,mv⟩=>
  match sn ops L with
  | .fin=>some ⟨vc,E,M,tc,mv⟩
  | .bad=>none
  | .look i=>(match ops[i]? with
   | some o=>(bif ig sz o.dst&&(l3 o.op&&jo ops i L) then (match np sz ops E o.guard with
    | some true=>(match step P T cl E M (nx oc i) o.op with
     | some ⟨nO,av,_,_,_,some kV⟩=>kh P T cl sz ops oc fuel (L.setIfInBounds i true) (kV.map (fun u=>(i,u))++rd) ⟨vc++nO,jb E o.dst av,M,tc,mv⟩
     | _=>none)
    | some false=>kh P T cl sz ops oc fuel (L.setIfInBounds i true) rd ⟨vc,jb E o.dst (.d (.v undef)),M,tc,mv⟩
    | none=>none) else none)
   | none=>none)
  | .one i=>(match ops[i]? with
   | some o=>(bif ig sz o.dst then (match np sz ops E o.guard with
    | some true=>(match step P T cl E M (nx oc i) o.op with
     | some out=>(bif ye ops (L.setIfInBounds i true) rd out.tc&&Nat.ble M.length out.M.length then kh P T cl sz ops oc fuel (L.setIfInBounds i true) rd ⟨vc++out.vc,jb (pW out.mv E) o.dst out.av,out.M,out.tc++tc,out.mv++mv⟩ else none)
     | none=>none)
    | some false=>kh P T cl sz ops oc fuel (L.setIfInBounds i true) rd ⟨vc,jb E o.dst (.d (.v undef)),M,tc,mv⟩
    | none=>none) else none)
   | none=>none)
theorem o4 {L:Array Bool}:∀ {r:List Nat} {i:Nat},mR ops L r=some i→i ∈ r∧∃ o,ops[i]?=some o∧Region.free .any ops L i=true
 | [],_,h=>by simp [mR] at h
 | j::r,i,h=>by
  unfold mR at h
  split at h
  ·rename_i o ho
   cases hc:(l3 o.op&&Region.free .any ops L j) with
   | true=>simp only [hc,cond_true,Option.some.injEq] at h;subst h;simp only [Bool.and_eq_true] at hc;exact ⟨List.mem_cons_self,o,ho,hc.2⟩
   | false=>simp only [hc,cond_false] at h;exact ⟨List.mem_cons_of_mem _ (o4 h).1,(o4 h).2⟩
  ·exact ⟨List.mem_cons_of_mem _ (o4 h).1,(o4 h).2⟩
theorem wC {L:Array Bool} {r:List Nat} {n:sk}:rQ ops L r=n→match n with | .fin=>r=[] | .look i=>i ∈ r∧∃ o,ops[i]?=some o∧Region.free .any ops L i=true | .one i=>r=[i] | .bad=>True:=by
 intro h
 match r,h with
 | [],h=>simp only [rQ] at h;subst h;rfl
 | [i],h=>simp only [rQ] at h;subst h;rfl
 | i::k::r,h=>
  rw [rQ] at h
  cases hf:mR ops L (i::k::r) with
  | some j=>rw [hf] at h;subst h;exact o4 hf
  | none=>rw [hf] at h;subst h;trivial
theorem BY {L:Array Bool} (h:sn ops L=.fin):Region.ready .any ops L=[]:=wC h
theorem Ii {L:Array Bool} {i:Nat} (h:sn ops L=.look i):i ∈ Region.ready .any ops L∧∃ o,ops[i]?=some o∧Region.free .any ops L i=true:=wC h
theorem JE {L:Array Bool} {i:Nat} (h:sn ops L=.one i):Region.ready .any ops L=[i]:=wC h
theorem wD {oc:List (Nat×a7)}:∀ (fuel:Nat) (L:Array Bool) (rd:List (Nat×Nat)) (s:RS) {s':RS},kh P T cl sz ops oc fuel L rd s=some s'→bn s'.vc→bn s.vc:=by
 intro fuel
 induction fuel with
 | zero=>
  intro L rd s s' h hv
  unfold kh at h
  split at h
  ·simp only [Option.some.injEq] at h;subst h;exact hv
  ·simp at h
 | succ fuel ih=>
  intro L rd s s' h hv
  obtain ⟨vc,E,M,tc,mv⟩:=s
  unfold kh at h
  split at h
  ·simp only [Option.some.injEq] at h;subst h;exact hv
  ·simp at h
  ·rename_i i _
   split at h
   ·rename_i o ho
    cases hd:(ig sz o.dst&&(l3 o.op&&jo ops i L)) with
    | false=>simp [hd] at h
    | true=>
     simp only [hd,cond_true] at h
     split at h
     ·split at h
      ·exact (bn.app.1 (ih _ _ _ h hv)).1
      ·simp at h
     ·have:=ih _ _ _ h hv;exact this
     ·simp at h
   ·simp at h
  ·rename_i i _
   split at h
   ·rename_i o ho
    cases hd:ig sz o.dst with
    | false=>simp [hd] at h
    | true=>
     simp only [hd,cond_true] at h
     split at h
     ·split at h
      ·rename_i out _
       cases hc:(ye ops (L.setIfInBounds i true) rd out.tc&&Nat.ble M.length out.M.length) with
       | false=>simp [hc] at h
       | true=>simp only [hc,cond_true] at h;exact (bn.app.1 (ih _ _ _ h hv)).1
      ·simp at h
     ·have:=ih _ _ _ h hv;exact this
     ·simp at h
   ·simp at h
theorem JF (hT:bc P T=true) (cX:jQ P cl) {b:fc} (hK:∀ w,Kp D w0 w→K0 w) (jc:Region.noSelect ops=true) (hQ:∀ d v c a w,Q (.panic c) (Act.put a d v) w→Q (.panic c) a w) {oc:List (Nat×a7)}:
  ∀ (fuel:Nat) (L:Array Bool) (rd:List (Nat×Nat)) (s:RS) {s':RS} (Rk:Array Bool→World→Prop) (β:Beta) (F:Nat→aq) (I:aq) (a:Act) (w:World),kh P T cl sz ops oc fuel L rd s=some s'→a.tmps.size=sz→Mk mk a.defers I→b.m≤s.M.length→RM D w0 K0 s.M β F I w→Since b s.mv s.tc β F I→
   (∀ t v,b9 s.E t=some v→az (fun w=>K0 w∧Holds w I) β v (a.eval (.tmp t)))→(∀ q ∈ rd,q.2<s.M.length)→(∀ L' w,Sub L L'→Mi ops K0 I F rd L' w→Rk L' w)→(∀ (j:Nat) oj,ops[j]?=some oj→l3 oj.op=true→∀ L' w,Rk (L'.setIfInBounds j true) w→Rk L' w)→bn s'.vc→(∀ a' w',dG mk D w0 K0 sz b s' a' w'→Q .normal a' w')→kE ro P ops Q Rk fuel L a w:=by
 intro fuel
 induction fuel with
 | zero=>
  intro L rd s s' Rk β F I a w h size defers hm Rm cq hs eY gU oT hv k
  obtain ⟨vc,E,M,tc,mv⟩:=s
  have C:Ctx D w0 K0 E M β F I a.eval w:=⟨Rm,hs,fun _=>rfl,fun _=>rfl,fun _=>rfl,hK⟩
  have hR:=gU L w (Sub.refl L) ⟨C.now,fun q hq _=>C.rm.jl (List.getElem?_eq_getElem (eY q hq))⟩
  unfold kh at h
  split at h
  ·rename_i hn
   simp only [Option.some.injEq] at h;subst h
   exact ⟨hR,BY hn,k a w ⟨size,I,defers,hm,β,F,Rm,cq,hs⟩⟩
  ·simp at h
 | succ fuel ih=>
  intro L rd s s' Rk β F I a w h size defers hm Rm cq hs eY gU oT hv k
  obtain ⟨vc,E,M,tc,mv⟩:=s
  dsimp only at hm Rm cq hs eY gU
  have C:Ctx D w0 K0 E M β F I a.eval w:=⟨Rm,hs,fun _=>rfl,fun _=>rfl,fun _=>rfl,hK⟩
  have hR:=gU L w (Sub.refl L) ⟨C.now,fun q hq _=>C.rm.jl (List.getElem?_eq_getElem (eY q hq))⟩
  unfold kh at h
  split at h
  ·rename_i hn
   simp only [Option.some.injEq] at h;subst h
   have hn:=BY hn
   exact ⟨hR,fun _=>k a w ⟨size,I,defers,hm,β,F,Rm,cq,hs⟩,fun i hi=>by rw [hn] at hi;cases hi⟩
  ·simp at h
  ·rename_i i hn
   obtain ⟨so,o',OJ,l9⟩:=Ii hn
   split at h
   ·rename_i o ho
    cases uU:(ig sz o.dst&&(l3 o.op&&jo ops i L)) with
    | false=>simp [uU] at h
    | true=>
     simp only [uU,cond_true] at h
     simp only [Bool.and_eq_true] at uU
     obtain ⟨hd,sq,eC⟩:=uU
     have oI:=fun j oj hj kl mE j4=>Region.free_spec ho l9 j oj hj kl mE j4
     split at h
     ·rename_i hw
      have fC:=k9 (ops:=ops) size hs hw
      split at h
      ·rename_i nO av _ _ _ kV bC
       have oU:=pq (P:=P) hT cX (d:=o.dst) (ty:=o.type) (pos:=o.pos) (aft:=o.after) (gd:=o.guard) bC
       obtain ⟨yY,rfl,-,aO⟩:=oU
       have mj:=(bn.app.1 (wD _ _ _ _ h hv)).2
       obtain ⟨v,mh,nt⟩:=yY C mj
       obtain ⟨e1,e2,e3⟩:=RE.put (E:=E) size defers hs hd mh
       have lq:=ih (L.setIfInBounds i true) _ _ (fun L w=>Rk L w∧(jo ops i L=true→jr K0 I F kV w)) β F I (a.put o.dst v) w h e1 e2 hm Rm cq e3 (fun q hq=>by
         rcases List.mem_append.1 hq with e | e
         ·obtain ⟨u,hu,rfl⟩:=List.mem_map.1 e;exact aO u hu
         ·exact eY q e)
        (fun L' w hL hw=>⟨gU L' w hL.tx ⟨hw.1,fun q hq=>hw.2 q (List.mem_append_right _ hq)⟩,fun ha=>⟨hw.1,fun u hu=>hw.2 (i,u) (List.mem_append_left _ (List.mem_map.2 ⟨u,hu,rfl⟩)) ha⟩⟩)
        (fun j oj hj EC L' w hw=>⟨oT j oj hj EC L' w hw.1,fun ha=>hw.2 (qL (s6 hj EC) ha)⟩) hv k
       exact Ac (fun L w hw=>hw.1) (z7 ho sq (Region.noSelect_spec jc) (hQ o.dst v) (fun L w ha hw=>hw.2 ha) (fun L w hw=>⟨oT i o ho sq L w hw.1,fun ha=>hw.2 (qL (s6 ho sq) ha)⟩) _ L a w oI so eC (Or.inl ⟨fC,fun w' eT=>nt w' eT⟩) lq)
      ·simp at h
     ·rename_i hw
      have fC:=k9 (ops:=ops) size hs hw
      obtain ⟨e1,e2,e3⟩:=RE.put (E:=E) size defers hs hd (.d (.v undef))
      have lq:=ih (L.setIfInBounds i true) _ _ Rk β F I (a.put o.dst undef) w h e1 e2 hm Rm cq e3 eY (fun L' w hL=>gU L' w hL.tx) oT hv k
      exact z7 (S:=fun _=>True) ho sq (Region.noSelect_spec jc) (hQ o.dst undef) (fun _ _ _ _=>trivial) (oT i o ho sq) _ L a w oI so eC (Or.inr ⟨fC,rfl⟩) lq
     ·simp at h
   ·simp at h
  ·rename_i i hn
   have ez:=JE hn
   split at h
   ·rename_i o ho
    cases hd:ig sz o.dst with
    | false=>simp [hd] at h
    | true=>
     simp only [hd,cond_true] at h
     refine ⟨hR,fun h0=>(by rw [ez] at h0;simp at h0),fun j hj=>?_⟩
     rw [ez] at hj
     obtain rfl:=List.mem_singleton.1 hj
     unfold wpOpIn
     simp only [ho]
     split at h
     ·rename_i hw
      have fC:=k9 (ops:=ops) size hs hw
      simp only [fC,if_true]
      split at h
      ·rename_i out bC
       cases hc:(ye ops (L.setIfInBounds j true) rd out.tc&&Nat.ble M.length out.M.length) with
       | false=>simp [hc] at h
       | true=>
        simp only [hc,cond_true] at h
        simp only [Bool.and_eq_true] at hc
        have hlen:=Nat.le_of_ble_eq_true hc.2
        have mj:=(bn.app.1 (wD _ _ _ _ h hv)).2
        have oU:=(pq (P:=P) hT cX (d:=o.dst) (ty:=o.type) (pos:=o.pos) (aft:=o.after) (gd:=o.guard) bC).qh C mj
        refine a8.wp oU ?_
        rintro v w' ⟨aE,F',I',R',e,hI,hF,nP⟩
        have hk:=vS (ρ:=a.eval) e hs
        obtain ⟨e1,e2,e3⟩:=RE.put size (defers.grow hI) (fun t v hx=>(hk t v hx).mono (fun w hw=>⟨hw.1,hI.holds w hw.2⟩) (Ext.refl _)) hd nP
        refine ih (L.setIfInBounds j true) _ _ Rk aE F' I' (a.put o.dst v) w' h e1 e2 (Nat.le_trans hm hlen) R' (cq.step hm e hI hF) e3 (fun q hq=>Nat.lt_of_lt_of_le (eY q hq) hlen) (fun L' w hL hw=>gU L' w hL.tx ⟨⟨hw.1.1,hI.holds w hw.1.2⟩,fun q hq ha=>?_⟩) oT hv k
        have zL:q.2 ∉ out.tc:=by
         have h1:=List.all_eq_true.1 hc.1 q hq
         rw [Ga hL ha] at h1
         simpa using h1
        rw [← hF q.2 (eY q hq) zL];exact hw.2 q hq ha
      ·simp at h
     ·rename_i hw
      have fC:=k9 (ops:=ops) size hs hw
      simp only [fC,Bool.false_eq_true,if_false]
      obtain ⟨e1,e2,e3⟩:=RE.put (E:=E) size defers hs hd (.d (.v undef))
      exact ⟨fun _ _=>trivial,ih (L.setIfInBounds j true) _ _ Rk β F I (a.put o.dst undef) w h e1 e2 hm Rm cq e3 eY (fun L' w hL=>gU L' w hL.tx) oT hv k⟩
     ·simp at h
   ·simp at h
theorem NG (hT:bc P T=true) (cX:jQ P cl) (hm:P.follows .mixedOrders=true) (hK:∀ w,Kp D w0 w→K0 w) (hQ:∀ d v c a w,Q (.panic c) (Act.put a d v) w→Q (.panic c) a w) {b:fc} {s:RS} (R:dG mk D w0 K0 sz b s a w) (oc:List (Nat×a7)) {id:Nat} {s':RS} (jc:Region.noSelect ops=true)
  (h:kh P T cl sz ops oc ops.size (Array.replicate ops.size false) [] s=some s') (hv:bn s'.vc) (k:∀ a' w',dG mk D w0 K0 sz b s' a' w'→Q .normal a' w'):(Code.region id ops true).wpIn (Fl ro) 0 P Q a w:=by
 refine wpIn_region_any hm ?_
 obtain ⟨size,I,defers,hb,β,F,Rm,cq,hs⟩:=R
 have hg:=Gr.drew w
 exact (JF hT cX hK jc hQ ops.size _ [] s (fun _ _=>True) β F I a w.drew h size defers hb (Rm.gr hg) cq hs (by simp) (fun _ _ _ _=>trivial) (fun _ _ _ _ _ _ _=>trivial) hv k).to
end Go.Proofs.YtcnpikbbmbombaaGreatDoor
namespace Go.Proofs.YtcnpikbbmbombaaGreatDoor
open Go.RowKit
inductive fW where
 | ends (R:Ending→World→Prop)
 | arr (l:Nat) (k:List Item) (Q:Act→World→Prop)
def fW.ro:fW→Option Nat
 | .ends _=>none
 | .arr l _ _=>some l
def fW.met (P:Program) (f:FuncId) (b:Frame) (cs:List Frame):fW→Machine→Prop
 | .ends R,s=>∃ e w' fr,R e w'∧Comes P s (lone fr cs w') e∧fr.fn=f∧fr.leaving P w' e
 | .arr _ k Q,s=>∃ a' w',Q a' w'∧Steps P s (lone (b.atR a' k) cs w')
theorem fW.met.of {P:Program} {f:FuncId} {b:Frame} {cs:List Frame} {G:fW} {s s':Machine} (h:Steps P s s') (g:G.met P f b cs s'):G.met P f b cs s:=by
 cases G with
 | ends R=>obtain ⟨e,w',fr,h1,h2,h3⟩:=g;exact ⟨e,w',fr,h1,.of_steps h h2,h3⟩
 | arr l k Q=>obtain ⟨a',w',h1,h2⟩:=g;exact ⟨a',w',h1,h.trans h2⟩
def aF (P:Program) (f:FuncId) (todo:List Item) (R:fW) (a:Act) (w:World):Prop:=
 ∀ (b:Frame) (cs:List Frame),b.fn=f→b.kind=.normal→b.roundOf=R.ro→R.met P f b cs (lone (b.atR a todo) cs w)
section
variable {mk:Bool} {P:Program} {f:FuncId} {R:fW} {Re:Ending→World→Prop} {a a':Act} {w w':World} {todo todo':List Item}
theorem aF.step (h:∀ (b:Frame) cs,Go.step P (lone (b.atR a todo) cs w)=.next (lone (b.atR a' todo') cs w')) (g:aF P f todo' R a' w'):aF P f todo R a w:=
 fun b cs hb hk hr=>(g b cs hb hk hr).of (.one (h b cs))
theorem aF.code {c:Code} {k:List Item} (h:c.wpIn (Fl R.ro) 0 P (fun e a w=>e=.normal∧aF P f k R a w) a w):aF P f (.code c::k) R a w:=by
 intro b cs hb hk hr
 obtain ⟨e,a1,w1,⟨rfl,hg⟩,NH⟩:=h b k cs hr trivial (fun d hd=>by cases hd)
 exact (hg b cs hb hk hr).of (stepsIn_wide.1 NH)
theorem aF.ret {fn:Func} {k:List Item} (hf:P.funcs[f]?=some fn) (hd:a.defers=[]) {v:Value} (hr:(results fn a.tmps).run P w=.ok v w) (h:Re (.returned v) w):aF P f (.code .ret::k) (.ends Re) a w:=by
 intro b cs hb hk mF
 rw [Frame.atR_of_none mF]
 exact ⟨.returned v,w,{ b.at a (.code .ret::k) with mode:=.returning },h,.of_steps (.one step_ret) (Steps.refl P _),hb,rfl,hd,hk,fn,by rw [← hb] at hf;exact hf,hr⟩
theorem aF.fin {fn:Func} (hf:P.funcs[f]?=some fn) (hd:a.defers=[]) {v:Value} (hr:(results fn a.tmps).run P w=.ok v w) (h:Re (.returned v) w):aF P f [] (.ends Re) a w:=by
 intro b cs hb hk mF
 rw [Frame.atR_of_none mF]
 exact ⟨.returned v,w,{ b.at a [] with mode:=.returning },h,.of_steps (.one step_end) (Steps.refl P _),hb,rfl,hd,hk,fn,by rw [← hb] at hf;exact hf,hr⟩
theorem aF.Cu {l:Nat} {k:List Item} {Q:Act→World→Prop} (h:Q a w):aF P f k (.arr l k Q) a w:=fun _ _ _ _ _=>⟨a,w,h,Steps.refl P _⟩
theorem qF {fn:Func} {c:Code} {args:Array Value} (hf:P.funcs[f]?=some fn) (hb:fn.body=some c) (h:aF P f [.code c] (.ends Re) { tmps:=args++Array.replicate (fn.ntmps-args.size) undef,defers:=[] } w):Calls P f args w Re:=by
 intro cs
 let b:Frame:={ (default:Frame) with fn:=f,kind:=.normal,roundOf:=none }
 have K7:Frame.enter P f args .normal=b.atR { tmps:=args++Array.replicate (fn.ntmps-args.size) undef,defers:=[] } [.code c]:=by
  simp [Frame.enter,Frame.atR,hf,hb,b]
 rw [K7]
 exact h b cs rfl rfl rfl
theorem aF.loop {c:Code} {k:List Item} (h:aF P f (.code c::.inLoop c::k) R a w):aF P f (.code (.loop c)::k) R a w:=aF.step (fun _ _=>stepR_loop) h
theorem aF.again {c:Code} {k:List Item} (h:aF P f (.code c::.inLoop c::k) R a w):aF P f (.inLoop c::k) R a w:=aF.step (fun _ _=>stepR_inLoop) h
theorem aF.rounds {Φ:Nat→Act→World→Prop} (n:Nat) (h:∀ i,i≤n→(i<n→∀ a w,Φ (i+1) a w→aF P f todo R a w)→∀ a w,Φ i a w→aF P f todo R a w) {i:Nat} (hi:i≤n) (h0:Φ i a w):aF P f todo R a w:=by
 have key:∀ m i,i≤n→n-i=m→∀ a w,Φ i a w→aF P f todo R a w:=by
  intro m
  induction m with
  | zero=>intro i hi hm;exact h i hi fun aO=>by omega
  | succ m ih=>intro i hi hm;exact h i hi fun aO=>ih (i+1) aO (by omega)
 exact key _ i hi rfl a w h0
end
abbrev dX:=List (Nat×List (Nat×a7))
def yZ:dX→Nat→List (Nat×a7)
 | [],_=>[]
 | (k,v)::r,s=>bif k.beq s then v else yZ r s
def tz (P:Program) (T:aN) (cl:gm) (sz:Nat) (ops:Array Oper) (draw:Bool) (oc:List (Nat×a7)) (s:RS):Option RS:=
 bif draw then (bif Region.noSelect ops then kh P T cl sz ops oc ops.size (Array.replicate ops.size false) [] s else none)
 else jF P T cl sz ops ops.toList 0 oc s
def ea (P:Program) (T:aN) (cl:gm) (sz:Nat) (tb:dX):Nat→List Item→RS→Option (List Item×RS)
 | 0,todo,s=>some (todo,s)
 | n+1,todo,s=>
  match todo with
  | .code .skip::k=>ea P T cl sz tb n k s
  | .code (.label _)::k=>ea P T cl sz tb n k s
  | .inBlock _::k=>ea P T cl sz tb n k s
  | .code (.seq x y)::k=>ea P T cl sz tb n (.code x::.code y::k) s
  | .code (.cond c x y)::k=>(match l5 (aJ s.E c) with
   | some true=>ea P T cl sz tb n (.code x::k) s
   | some false=>ea P T cl sz tb n (.code y::k) s
   | none=>some (todo,s))
  | .code (.block id c)::k=>ea P T cl sz tb n (.code c::.inBlock id::k) s
  | .code (.exit id)::k=>(match exitTo id k with
   | some k'=>ea P T cl sz tb n k' s
   | none=>none)
  | .code (.region id ops draw)::k=>(match tz P T cl sz ops draw (yZ tb id) s with
   | some s'=>ea P T cl sz tb n k s'
   | none=>none)
  | _=>some (todo,s)
variable {mk:Bool} {P:Program} {T:aN} {cl:gm} {f:FuncId} {R:fW} {a:Act} {w:World} {D:List Nat} {w0:World} {K0:World→Prop} {E:List (Nat×AV)} {M:List aj} {sz:Nat} {tb:dX} {todo todo':List Item}
theorem GY {ops:Array Oper} {draw:Bool} {oc:List (Nat×a7)} {s s':RS} (h:tz P T cl sz ops draw oc s=some s') (hv:bn s'.vc):bn s.vc:=by
 unfold tz at h
 cases draw with
 | false=>simp only [cond_false] at h;exact xk _ _ _ _ h hv
 | true=>
  simp only [cond_true] at h
  cases hs:Region.noSelect ops with
  | false=>simp [hs] at h
  | true=>simp only [hs,cond_true] at h;exact wD _ _ _ _ h hv
theorem BZ:∀ (n:Nat) (todo:List Item) (s:RS) {todo':List Item} {s':RS},ea P T cl sz tb n todo s=some (todo',s')→bn s'.vc→bn s.vc:=by
 intro n
 induction n with
 | zero=>intro todo s todo' s' h hv;simp only [ea,Option.some.injEq,Prod.mk.injEq] at h;obtain ⟨-,rfl⟩:=h;exact hv
 | succ n ih=>
  intro todo s todo' s' h hv
  unfold ea at h
  split at h
  ·exact ih _ _ h hv
  ·exact ih _ _ h hv
  ·exact ih _ _ h hv
  ·exact ih _ _ h hv
  ·split at h
   ·exact ih _ _ h hv
   ·exact ih _ _ h hv
   ·simp only [Option.some.injEq,Prod.mk.injEq] at h;obtain ⟨-,rfl⟩:=h;exact hv
  ·exact ih _ _ h hv
  ·split at h
   ·exact ih _ _ h hv
   ·simp at h
  ·split at h
   ·rename_i hr;exact GY hr (ih _ _ h hv)
   ·simp at h
  ·simp only [Option.some.injEq,Prod.mk.injEq] at h;obtain ⟨-,rfl⟩:=h;exact hv
theorem cJ.bool (R:cJ mk D w0 K0 sz E M a w) {c:Operand} {b:Bool} (h:l5 (aJ E c)=some b):a.eval c=.bool b:=by
 obtain ⟨-,I,-,β,F,Rm,hs⟩:=R
 unfold l5 at h
 split at h
 ·rename_i c' hv
  simp only [Option.some.injEq] at h;subst h
  cases c with
  | tmp t=>
   have:=hs _ _ hv
   generalize a.eval (.tmp t)=y at *
   cases this with | d r=>cases r;rfl
  | const v=>simp only [aJ,Option.some.injEq,AV.d.injEq,DV.v.injEq] at hv;rw [← hv];rfl
  | global g=>simp [aJ] at hv
  | func f=>simp [aJ] at hv
 ·simp at h
theorem lF (hT:bc P T=true) (cX:jQ P cl) (hm:P.follows .mixedOrders=true) (hK:∀ w,Kp D w0 w→K0 w) {b:fc}:∀ (n:Nat) {todo:List Item} {s:RS} {a:Act} {w:World} {todo':List Item} {s':RS},ea P T cl sz tb n todo s=some (todo',s')→dG mk D w0 K0 sz b s a w→bn s'.vc→(∀ a' w',dG mk D w0 K0 sz b s' a' w'→aF P f todo' R a' w')→aF P f todo R a w:=by
 intro n
 induction n with
 | zero=>intro todo s a w todo' s' h r hv k;simp only [ea,Option.some.injEq,Prod.mk.injEq] at h;obtain ⟨rfl,rfl⟩:=h;exact k a w r
 | succ n ih=>
  intro todo s a w todo' s' h r hv k
  unfold ea at h
  split at h
  ·exact aF.step (fun _ _=>stepR_skip) (ih h r hv k)
  ·exact aF.step (fun _ _=>stepR_label) (ih h r hv k)
  ·exact aF.step (fun _ _=>stepR_inBlock) (ih h r hv k)
  ·exact aF.step (fun _ _=>stepR_seq) (ih h r hv k)
  ·split at h
   ·rename_i hb;exact aF.step (fun _ _=>stepR_cond (r.re.bool hb)) (ih h r hv k)
   ·rename_i hb;exact aF.step (fun _ _=>stepR_cond (r.re.bool hb)) (ih h r hv k)
   ·simp only [Option.some.injEq,Prod.mk.injEq] at h;obtain ⟨rfl,rfl⟩:=h;exact k a w r
  ·exact aF.step (fun _ _=>stepR_block) (ih h r hv k)
  ·split at h
   ·rename_i hx;exact aF.step (fun _ _=>stepR_exit hx) (ih h r hv k)
   ·simp at h
  ·split at h
   ·rename_i id ops draw k0 _ s1 hr
    refine aF.code ?_
    have bo:=BZ _ _ _ h hv
    unfold tz at hr
    cases draw with
    | false=>
     simp only [cond_false] at hr
     exact NF hT cX hK r _ hr bo fun a' w' r'=>⟨rfl,ih h r' hv k⟩
    | true=>
     simp only [cond_true] at hr
     cases hs:Region.noSelect ops with
     | false=>simp [hs] at hr
     | true=>
      simp only [hs,cond_true] at hr
      exact NG hT cX hm hK (by rintro d v c a w ⟨h,-⟩;cases h) r _ hs hr bo fun a' w' r'=>⟨rfl,ih h r' hv k⟩
   ·simp at h
  ·simp only [Option.some.injEq,Prod.mk.injEq] at h;obtain ⟨rfl,rfl⟩:=h;exact k a w r
theorem oV (hT:bc P T=true) (cX:jQ P cl) (hm:P.follows .mixedOrders=true) (hK:∀ w,Kp D w0 w→K0 w) (n:Nat) {vc:List Prop} {s':RS} (h:ea P T cl sz tb n todo ⟨vc,E,M,[],[]⟩=some (todo',s')) (r:cJ mk D w0 K0 sz E M a w) (hv:bn s'.vc) (k:∀ a' w',cJ mk D w0 K0 sz s'.E s'.M a' w'→aF P f todo' R a' w'):aF P f todo R a w:=
 let ⟨_,rb⟩:=r.b vc
 lF hT cX hm hK n h rb hv fun a' w' r'=>k a' w' r'.re
end Go.Proofs.YtcnpikbbmbombaaGreatDoor
